/- The world before the call: what is there is held by value. -/
import Derived.Test.YthjhonhhbddhkaaGreatDoorG3
import Derived.Laws.Tables
import Derived.ShapedOpen
import Derived.Deep.Slices
import Derived.Lib.LaidTab
import Derived.Test.YthjhonhhbddhkaaGreatDoorG4
import Derived.Test.YthjhonhhbddhkaaGreatDoorG5
import Derived.Test.YthjhonhhbddhkaaGreatDoorG6
import Derived.Test.YthjhonhhbddhkaaGreatDoorG7
namespace Go.Ev
noncomputable section
set_option linter.unusedVariables false
open Go.RowKit (Below)
variable {P : Program} {W : World} {φ : Phi}
def fzOf (W : World) (k : Nat) : Option (Array Value) := match W.heap[k]? with
  | some (.cells c _ _) => some c
  | _ => none
def phiW (W : World) : Phi := (List.range W.heap.size).map fun k => some ⟨k, 0, 0, fzOf W k⟩
theorem phiW_length (W : World) : (phiW W).length = W.heap.size := by simp [phiW]
theorem phiW_get {k : Nat} {e : Ent} (h : (phiW W)[k]? = some (some e)) : k < W.heap.size ∧ e = ⟨k, 0, 0, fzOf W k⟩ := by
  unfold phiW at h
  rw [List.getElem?_map] at h
  by_cases hk : k < W.heap.size
  · rw [List.getElem?_range hk] at h
    simp at h
    exact ⟨hk, h.symm⟩
  · rw [List.getElem?_eq_none (by simp; omega)] at h
    cases h
theorem phiW_at {k : Nat} (h : k < W.heap.size) : (phiW W)[k]? = some (some ⟨k, 0, 0, fzOf W k⟩) := by
  unfold phiW
  rw [List.getElem?_map, List.getElem?_range h]
  rfl
theorem hp_leaf (k : Nat) : hp (.leaf : T OB) k = none := by simp [hp]
theorem HR_W (hg : P.globals.size ≤ W.heap.size) : HR P W (phiW W) (hp .leaf) W where
  below := .refl _ _
  dom := fun k ob h => by rw [hp_leaf] at h; cases h
  rng := fun k e h => by obtain ⟨h1, rfl⟩ := phiW_get h; exact h1
  inj := fun k k' ob ob' e e' _ _ h => by rw [hp_leaf] at h; cases h
  obj := fun k ob e h => by rw [hp_leaf] at h; cases h
  gl := fun k hk => ⟨_, phiW_at (by omega), rfl⟩
  fzr := fun k e c h hf => by
    obtain ⟨h1, rfl⟩ := phiW_get h
    unfold fzOf at hf
    dsimp only at hf ⊢
    split at hf
    · rename_i c' el fz hc
      cases hf
      exact ⟨el, fz, hc⟩
    · cases hf
  fzl := fun k k' e e' c ob _ _ _ h => by rw [hp_leaf] at h; cases h
/-- As many blocks as package variables. -/
theorem globals_le (h : W.ShapedOpen P) (hw : P.globals.size < (begin P (fun _ _ => 0) default).world.heap.size) : P.globals.size ≤ W.heap.size := by
  obtain ⟨o, _, h1, _⟩ := h.2 P.globals.size (Nat.le_refl _) hw
  have := (Array.getElem?_eq_some_iff.1 h1).1
  omega
/-- The cell at an address, as the block holds it. -/
theorem fz_cell {a : Addr} {v : Value} (h : W.cell? a = some v) : a.block < W.heap.size ∧ a.spot = none ∧ ∃ c, fzOf W a.block = some c ∧ c[a.off]? = some v := by
  unfold World.cell? at h
  unfold fzOf
  split at h
  · rename_i c el fz hc
    split at h
    · cases h
    · rename_i hs
      refine ⟨(Array.getElem?_eq_some_iff.1 hc).1, by simpa using hs, c, by rw [hc], h⟩
  · cases h
theorem add_none0 (a : Addr) : a.add 0 = a := rfl
/-- A row that stands there, by value. -/
theorem VR_row {a : Addr} {len cap s : Nat} {es : List Value} (hlen : es.length = len) (hs : ∀ x, x ∈ es → x.cells.toList.length = s) (hpos : 0 < s) (hcap : len ≤ cap)
    (hx : ∀ (i : Nat) (x : Value), es[i]? = some x → ∃ cs, W.cells? 0 (a.add (i * s)) s = some cs ∧ LR (phiW W) x.cells.toList cs) : VR (phiW W) (rowV s es) (.slice (some a) len cap) := by
  cases es with
  | nil => subst hlen; exact .rowE s a cap
  | cons x0 es =>
    obtain ⟨cs0, h0, hl0⟩ := hx 0 x0 rfl
    obtain ⟨_, hn0, hc0⟩ := World.cells?_some h0
    have e0 := hc0 0 hpos
    rw [Nat.zero_mul, add_none0, add_none0, List.getElem?_eq_getElem (by omega)] at e0
    obtain ⟨hb, hsp, c, hc, _⟩ := fz_cell e0
    obtain ⟨b, o, sp⟩ := a
    dsimp only at hb hsp hc
    subst hsp
    have key : ∀ (i j : Nat) (x v : Value), (x0 :: es)[i]? = some x → x.cells.toList[j]? = some v → ∃ v', c[o + i * s + j]? = some v' ∧ VR (phiW W) v v' := by
      intro i j x v hi hj
      obtain ⟨cs, h1, h2⟩ := hx i x hi
      obtain ⟨_, hn, hc1⟩ := World.cells?_some h1
      have hjs : j < s := by
        have := (List.getElem?_eq_some_iff.1 hj).1
        rw [hs x (List.mem_of_getElem? hi)] at this
        exact this
      have e1 := hc1 j hjs
      rw [List.getElem?_eq_getElem (by omega)] at e1
      have e2 := e1
      rw [add_none, add_none] at e1
      obtain ⟨_, _, c', hc', e3⟩ := fz_cell e1
      dsimp only at hc' e3
      rw [hc] at hc'
      cases hc'
      exact ⟨_, e3, h2.at_ j v _ hj (List.getElem?_eq_getElem _)⟩
    have hrow := VR.row (φ := phiW W) (k := b) (o := o) (c' := cap) (c := c) (es := x0 :: es) (s := s) (phiW_at hb) hc hs (fun _ => ?_) (by omega) (fun i j x v v' hi hj hv => ?_)
    · subst hlen; exact hrow
    · have hx1 : (x0 :: es)[es.length]? = some ((x0 :: es)[es.length]'(by simp)) := List.getElem?_eq_getElem _
      have hl := hs _ (List.mem_of_getElem? hx1)
      obtain ⟨v', h1, _⟩ := key es.length (s - 1) _ _ hx1 (List.getElem?_eq_getElem (by omega))
      have := (Array.getElem?_eq_some_iff.1 h1).1
      have e5 : (x0 :: es).length * s = es.length * s + s := by rw [List.length_cons, Nat.succ_mul]
      omega
    · obtain ⟨v'', h1, h2⟩ := key i j x v hi hj
      rw [h1] at hv
      cases hv
      exact h2
end
end Go.Ev
/- Bytes: texts, rows of bytes, arrays, numbers of other kinds. -/
namespace Go.Ev
noncomputable section
set_option linter.unusedVariables false
set_option linter.unusedSimpArgs false
variable {P : Program} {pl : Pol} {X : Ext} {H H0 H1 : T OB} {nx nx0 nx1 : Nat} {v u : Value} {R : Value → T OB → Nat → Prop}
abbrev txt (l : List UInt8) : Value := Value.string ⟨⟨l⟩⟩
/-- Bytes as cells. -/
def bys (l : List UInt8) : List Value := l.map fun x => .int .u8 (.ofNat x.toNat)
@[simp] theorem bys_length (l : List UInt8) : (bys l).length = l.length := by simp [bys]
theorem bys_append (a b : List UInt8) : bys (a ++ b) = bys a ++ bys b := by simp [bys]
theorem bys_all (l : List UInt8) : (bys l).all oneCell = true := by
  induction l with
  | nil => rfl
  | cons a l ih => simp [bys, oneCell]
theorem strOf_bys (l : List UInt8) : strOf (bys l) = some l := by
  induction l with
  | nil => rfl
  | cons a l ih =>
    show (match strOf (bys l) with | some r => some (a.toNat.toUInt8 :: r) | none => none) = _
    rw [ih]
    simp
theorem txt_size (a : List UInt8) : (⟨⟨a⟩⟩ : ByteArray).size = a.length := rfl
theorem fV_run {s : Sem Value} {w : Value} (h : pureRun P s = some w) (hw : flat w = true) : fV P s = some w := by
  show nextV (pureRun P (vS s)) = _
  have e : pureRun P (vS s) = some (Next.value w) := by
    show pureRun P (s >>= fun v => pure (Next.value v)) = _
    rw [pureRun_bind, h]
    rfl
  rw [e]
  show (valF w fun v => bif flat v then some v else none) = _
  rw [valF_eq, hw]; rfl
/-- Bytes of a block as a text. -/
theorem rdConv_sl {s d : TypeId} {b off n c : Nat} {l : List Value} {r : List UInt8} {e : TypeId} (hq : isBytesT P s d = true) (h : IsB H b l e) (hn : off + n ≤ l.length) (hr : (l.drop off).take n = bys r) :
    rdConv P H s d (some (.slice (some ⟨b, off, none⟩) n c)) = some (txt r) := by
  obtain ⟨tr, h1, h2⟩ := h
  show (bif isBytesT P s d then rowK (H.get (bits b)) (fun m tr => bif Nat.ble (off + n) m then optK (toL tr n off) (fun l => optK (strOf l) (fun r => some (Value.string ⟨⟨r⟩⟩)) none) none else none) none else none) = _
  rw [hq, cond_true, h1]
  show (bif Nat.ble (off + n) l.length then optK (toL tr n off) (fun l => optK (strOf l) (fun r => some (Value.string ⟨⟨r⟩⟩)) none) none else none) = _
  rw [Nat.ble_eq_true_of_le hn, cond_true, toL_of h2 n off hn, optK_some, hr, strOf_bys]
  rfl
theorem rdConv_nil {s d e : TypeId} (hs : P.underlying s = some (.slice e)) (he : P.underlying e = some (.int .u8)) (hd : P.underlying d = some .string) : rdConv P H s d (some (.slice none 0 0)) = some (txt []) := by
  show convV P s d (.slice none 0 0) = _
  show (fV P (convert s d (.slice none 0 0))) = _
  have e1 : pureRun P (convert s d (.slice none 0 0)) = some (txt []) := by
    unfold convert
    simp only [pureRun_bind, pureRun_und hs, pureRun_und hd, Option.bind_some]
    simp only [pureRun_bind, pureRun_und he, Option.bind_some]
    simp [Conv.bytesToString]
    rfl
  exact fV_run e1 rfl
theorem rdConv_int {s d : TypeId} {k k' : IntKind} {n : Int} {ds : TypeDesc} (hs : P.underlying s = some ds) (hd : P.underlying d = some (.int k)) : rdConv P H s d (some (.int k' n)) = some (.int k (k.wrap n)) := by
  show convV P s d (.int k' n) = _
  show (fV P (convert s d (.int k' n))) = _
  have e1 : pureRun P (convert s d (.int k' n)) = some (.int k (k.wrap n)) := by
    unfold convert
    simp only [pureRun_bind, pureRun_und hs, pureRun_und hd, Option.bind_some]
    rfl
  exact fV_run e1 rfl
theorem unV_neg (k : IntKind) (n : Int) : unV P .neg (some (.int k n)) = some (.int k (k.wrap (0 - n))) := by
  show fV P (Op.unary .neg (.int k n)) = _
  have e : Op.unary .neg (.int k n) = pure (.int k (k.wrap (0 - n))) := rfl
  rw [e]; exact fV_pure rfl
end
end Go.Ev
/- Rows of bytes that grow. -/
namespace Go.Ev
noncomputable section
set_option linter.unusedVariables false
variable {P : Program} {pl : Pol} {X : Ext} {H H0 H1 : T OB} {nx nx0 nx1 : Nat} {v u : Value} {R : Value → T OB → Nat → Prop}
theorem rdIndex_txt {t : TypeId} (hu : P.underlying t = some .string) {l : List UInt8} {i : Nat} {c : UInt8} (h : l[i]? = some c) (k : IntKind) : rdIndex P t (some (txt l)) (some (.int k (i : Int))) = some (.int .u8 (c.toNat : Int)) := by
  show indexV P t (txt l) (.int k i) = _
  show fV P (Instr.index t (txt l) (.int k i)) = _
  have hi : i < l.length := (List.getElem?_eq_some_iff.1 h).1
  have e0 : (⟨⟨l⟩⟩ : ByteArray)[i]? = some c := by
    rw [ByteArray.getElem?_lt' _ _ hi]
    exact (List.getElem?_eq_getElem hi).symm.trans h
  have e1 : pureRun P (Instr.index t (txt l) (.int k i)) = some (.int .u8 (c.toNat : Int)) := by
    unfold Instr.index
    simp only [asIntOf, pureRun_bind, pureRun_und hu, Option.bind_some]
    have h0 : (0 : Int) ≤ (i : Int) := by omega
    have : pureRun P (pure (k, (i : Int)) : Sem (IntKind × Int)) = some (k, (i : Int)) := rfl
    simp only [this, Option.bind_some, h0, if_true, Int.toNat_natCast, e0]
    rfl
  exact fV_run e1 rfl
/-- A row of bytes: nil, or a block of its own. -/
def BS (e : TypeId) (nx0 : Nat) (H : T OB) (nx : Nat) (r : List UInt8) (sl : Value) : Prop :=
  (r = [] ∧ sl = .slice none 0 0) ∨ ∃ b c, nx0 ≤ b ∧ b < nx ∧ IsB H b (bys r) e ∧ (c = unk ∨ c = r.length) ∧ sl = .slice (some ⟨b, 0, none⟩) r.length c
theorem BS.nil (e : TypeId) (nx0 : Nat) (H : T OB) (nx : Nat) : BS e nx0 H nx [] (.slice none 0 0) := .inl ⟨rfl, rfl⟩
/-- Bytes behind such a row, made for it. -/
theorem Wq.addB {t e : TypeId} {n : Nat} {r x : List UInt8} {sl : Value} {vs : List (Nat × Value)} {z : List Value} {k : Value → T OB → Nat → Q} (hu : P.underlying t = some (.slice e)) (hs : szOf P e = some 1) (hz : zeroC P e = some z) (hsl : BS e nx0 H nx r sl) (hn : x.length = n)
    (hg : (Nat.ble (n * 1) 16777216 && Nat.blt 0 (n * 1) && Nat.blt 0 z.length) = true) (hf : Instr.fill (fun i => some (i * 1, 1)) (zeroRow z (n * 1)) vs = some ⟨bys x⟩) (hsm : ∀ m, m ≤ r.length + x.length → apSmall P e 1 m = true) (h : Ag nx0 H0 nx H)
    (hk : ∀ H' sl' nx', BS e nx0 H' nx' (r ++ x) sl' → Ag nx0 H0 nx' H' → nx ≤ nx' → WqR P pl X (k sl' H' nx') nx0 H0 R) :
    WqR P pl X (effQ (efBuildSlice P H nx t n (some vs)) fun v H nx => effQ (efAppS P H nx [t, t] (some [sl, v])) k) nx0 H0 R := by
  have hn0 : 0 < x.length := by
    rw [hn]
    simp only [Bool.and_eq_true] at hg
    have := Nat.lt_of_lt_of_le (Nat.zero_lt_one) (Nat.le_of_ble_eq_true hg.1.2)
    omega
  refine Wq.row hu hs hz hg hf h fun H1 hb1 keep hA1 => ?_
  have hx1 : xsOf H1 1 (.slice (some ⟨nx, 0, none⟩) n n) = some (n, bys x) := xsOf_b hb1 (by simp; exact hn)
  rcases hsl with ⟨rfl, rfl⟩ | ⟨b, c, hb0, hbx, hb, hc, rfl⟩
  · refine Wq.app0 hu hs rfl hx1 (hsm _ (by simp; omega)) hA1 (fun h0 => by omega) fun H2 _ hb2 _ hA2 => ?_
    refine hk _ _ _ ?_ hA2 (by omega)
    exact .inr ⟨nx + 1, unk, by have := h.1; omega, by omega, by simpa using hb2, .inl rfl, by rw [List.nil_append, hn]⟩
  · have hb' := keep _ _ _ hbx hb
    rcases hc with rfl | rfl
    · refine Wq.app hu hs hb' hs (by simp) rfl hx1 (bys_all x) (hsm _ (by omega)) hA1 hb0 (by omega) fun H2 hb2 _ hA2 => ?_
      refine hk _ _ _ ?_ hA2 (by omega)
      exact .inr ⟨nx + 1, unk, by have := h.1; omega, by omega, by rw [bys_append]; exact hb2, .inl rfl, by rw [List.length_append, hn]⟩
    · rw [efAppS_eq rfl]
      unfold sliceTK
      rw [hu]
      simp only [hs, optK_some, hx1, hsm (r.length + n) (by omega), cond_true]
      obtain ⟨tr, h1, h2⟩ := hb'
      by_cases hr : r.length = unk
      · have hh := hsm r.length (by omega)
        exact absurd hh (by
          unfold apSmall
          intro q
          split at q
          · simp only [Bool.and_eq_true] at q
            have := Nat.le_of_ble_eq_true q.1.2
            unfold unk at hr
            omega
          · cases q)
      · have e1 : apGo P H1 (nx + 1) e 1 (some ⟨b, 0, none⟩) r.length r.length n (bys x) = apNew H1 (nx + 1) e (r.length + n) (bys r ++ bys x) := by
          show apAt P H1 (nx + 1) e 1 b 0 r.length r.length n (bys x) = _
          unfold apAt
          rw [h1]
          have eu : Nat.beq r.length unk = false := by
            rw [Bool.eq_false_iff]; intro q; rw [Nat.beq_eq] at q; exact hr q
          have el : Nat.ble (r.length + n) r.length = false := by
            rw [Bool.eq_false_iff]; intro q; have := Nat.le_of_ble_eq_true q; omega
          simp only [cellsK, eu, cond_false, el]
          unfold apOut
          rw [show Nat.ble (0 + r.length * 1) (bys r).length = true from Nat.ble_eq_true_of_le (by simp), show Nat.blt 0 n = true from Nat.ble_eq_true_of_le (by omega)]
          have : toL tr (r.length * 1) 0 = some (bys r) := by rw [toL_of h2 _ _ (by simp)]; simp [List.take_of_length_le]
          simp only [Bool.and_self, cond_true, this, optK_some]
        rw [e1, newK_mk]
        refine Wq.new (q := fun H n' => k (.slice (some ⟨nx + 1, 0, none⟩) (r.length + n) unk) H n') hA1 fun H2 hb2 _ hA2 => ?_
        refine hk _ _ _ ?_ hA2 (by omega)
        exact .inr ⟨nx + 1, unk, by have := h.1; omega, by omega, by rw [bys_append]; exact hb2, .inl rfl, by rw [List.length_append, hn]⟩
/-- Such a row as a text. -/
theorem rdConv_BS {s d e : TypeId} {r : List UInt8} {sl : Value} (hs : P.underlying s = some (.slice e)) (he : P.underlying e = some (.int .u8)) (hd : P.underlying d = some .string) (hq : isBytesT P s d = true) {e' : TypeId} (h : BS e' nx0 H nx r sl) : rdConv P H s d (some sl) = some (txt r) := by
  rcases h with ⟨rfl, rfl⟩ | ⟨b, c, hb0, hbx, hb, hc, rfl⟩
  · exact rdConv_nil hs he hd
  · exact rdConv_sl hq hb (by simp) (by rw [List.drop_zero, List.take_of_length_le (by simp)])
end
end Go.Ev
/- Tables that the row lists. -/
namespace Go.Ev
noncomputable section
set_option linter.unusedVariables false
set_option linter.unusedSimpArgs false
open Go.RowKit (Below)
/-- Memory that holds some rows. -/
def memK {β : Type} (l : List (Nat × List Value)) : T OB → (T OB → β) → β :=
  @List.rec (Nat × List Value) (fun _ => T OB → (T OB → β) → β) (fun H k => k H)
    (fun x _ ih H k => fromLK x.2 0 .leaf fun t => natF x.2.length fun n => setK (bits x.1) H (some (.ro n t)) fun H => ih H k) l
def memOf : List (Nat × List Value) → T OB → T OB
  | [], H => H
  | x :: l, H => memOf l (set H (bits x.1) (some (.ro x.2.length (fromL x.2 0 .leaf))))
theorem memK_eq {β : Type} : ∀ (l : List (Nat × List Value)) (H : T OB) (k : T OB → β), memK l H k = k (memOf l H)
  | [], H, k => rfl
  | x :: l, H, k => by
    show (fromLK x.2 0 .leaf fun t => natF x.2.length fun n => setK (bits x.1) H (some (.ro n t)) fun H => memK l H k) = _
    rw [fromLK_fromL, natF_eq, setK_set]
    exact memK_eq l _ k
theorem hp_memOf : ∀ (l : List (Nat × List Value)) (H : T OB) (k : Nat) (ob : OB), hp (memOf l H) k = some ob → (∃ x ∈ l, x.1 = k ∧ ob = .ro x.2.length (fromL x.2 0 .leaf)) ∨ hp H k = some ob
  | [], H, k, ob, h => .inr h
  | x :: l, H, k, ob, h => by
    rcases hp_memOf l _ k ob h with ⟨y, hy, h1, h2⟩ | h
    · exact .inl ⟨y, by simp [hy], h1, h2⟩
    · rw [hp_set] at h
      by_cases hk : k = x.1
      · subst hk
        rw [upd_same] at h
        cases h
        exact .inl ⟨x, by simp, rfl, rfl⟩
      · rw [upd_other _ hk] at h
        exact .inr h
variable {P : Program} {W : World} {φ : Phi}
/-- A world whose tables are as they are listed. -/
def TabsAt (w : World) (n : Nat) (tabs : List (Nat × List Value)) : Prop := ∀ x ∈ tabs, x.1 < n ∧ (∀ y ∈ x.2, flat y = true) ∧ ∃ c el fz, w.heap[x.1]? = some (.cells c el fz) ∧ c.toList = x.2
/-- They stay. -/
theorem TabsAt.below {n : Nat} {w : World} {tabs : List (Nat × List Value)} (h : TabsAt W n tabs) (hn : n ≤ W.heap.size) (hb : Below W.heap.size W w) : TabsAt w n tabs := fun x hx => by
  obtain ⟨h0, h1, c, el, fz, h2, h3⟩ := h x hx
  exact ⟨h0, h1, c, el, fz, by rw [hb.block _ (by omega)]; exact h2, h3⟩
/-! what a row's list gives -/
def strData (l : List ByteArray) : DataW Unit := .agg (l.map fun z => .lit (.string z.data.toList))
theorem cells_of_strs {P : Program} {w : World} {base : Nat} {sp : Nat → Bool} {held : Bool} {fuel : Nat} {t e : TypeId} {n : Nat} {cs : List Value} {l : List ByteArray} {p : List MemPlace}
    (ht : P.underlying t = some (.array n e)) (he : P.underlying e = some .string) (hce : P.cellsOf e = 1) (hct : P.cellsOf t = n)
    (h : DataW.trod (fun _ => ()) P w base sp held fuel t cs = some (strData l, p)) : cs = l.map Value.string := by
  cases fuel with
  | zero => simp [DataW.trod] at h
  | succ fuel =>
    simp only [DataW.trod, ht, hce, hct, Nat.mul_one] at h
    split at h
    · rename_i hl
      obtain ⟨xs, hm, hx⟩ := Option.map_eq_some_iff.1 h
      have hxs : xs.map (·.1) = l.map fun z => (DataW.lit (.string z.data.toList) : DataW Unit) := by
        have := congrArg Prod.fst hx
        simpa [strData] using this
      have hxl : xs.length = n := by simpa using Lib.mapM_length hm
      have hzl : l.length = n := by
        have := congrArg List.length hxs
        simp at this
        omega
      apply List.ext_getElem?
      intro i
      by_cases hi : i < n
      · obtain ⟨b, hb, hf⟩ := Lib.mapM_at hm i i (by simp [hi])
        obtain ⟨z, hc, rfl, _⟩ := DataW.trod_string he hf
        have h1 : cs[i]? = some (.string z) := by
          have := congrArg (·[0]?) hc
          simpa [List.getElem?_take, List.getElem?_drop] using this
        have h2 : (xs.map (·.1))[i]? = some (DataW.lit (.string z.data.toList) : DataW Unit) := by simp [hb]
        rw [hxs] at h2
        simp only [List.getElem?_map, Option.map_eq_some_iff, DataW.lit.injEq, Lit.string.injEq] at h2
        obtain ⟨z', hz', hz2⟩ := h2
        have : z' = z := by
          cases z; cases z'
          simp at hz2
          simp [hz2]
        simp [h1, hz', this]
      · rw [List.getElem?_eq_none (by omega), List.getElem?_eq_none (by simp; omega)]
    · cases h
theorem tab_of_head {P : Program} {W : World} {name : String} {l : List ByteArray} {rest : List (String × DataW Unit)} {g : Nat} {t e : TypeId} {n : Nat}
    (hg : P.globalNamed name = some g) (hty : (P.globals[g]?).map (·.type) = some t) (ht : P.underlying t = some (.array n e)) (he : P.underlying e = some .string) (hce : P.cellsOf e = 1) (hct : P.cellsOf t = n)
    (h : laidMet P ((name, strData l) :: rest) W) : ∃ c el fz, W.heap[g]? = some (.cells c el fz) ∧ c.toList = l.map Value.string := by
  obtain ⟨ps, ⟨g', t', cs, fuel, p, q, hg', ht', hvar, hd, _, _⟩, _⟩ := h
  obtain rfl := Option.some.inj (hg.symm.trans hg')
  obtain rfl := Option.some.inj (hty.symm.trans ht')
  have hcs := cells_of_strs ht he hce hct hd
  unfold World.var? at hvar
  rw [hg] at hvar
  simp only [Option.bind_some] at hvar
  split at hvar
  · rename_i c el fz hb
    cases hvar
    exact ⟨_, _, _, hb, hcs⟩
  · cases hvar
end
end Go.Ev
/- Maps, and tables that are read. -/
namespace Go.Ev
noncomputable section
set_option linter.unusedVariables false
set_option linter.unusedSimpArgs false
variable {P : Program} {pl : Pol} {X : Ext} {H H0 H1 : T OB} {nx nx0 nx1 : Nat} {v u : Value} {R : Value → T OB → Nat → Prop}
/-- A map of so many entries. -/
def IsM (H : T OB) (b : Nat) (es : List MapEntry) (c : Nat) : Prop := H.get (bits b) = some (.map es c)
theorem IsM.other {b c : Nat} {es : List MapEntry} {n : Nat} (h : IsM H b es n) (hc : b ≠ c) (x : Option OB) : IsM (Ev.set H (bits c) x) b es n := by
  unfold IsM at h ⊢
  rw [get_at, if_neg hc]; exact h
theorem Wq.mkmap {k : Value → T OB → Nat → Q} (h : Ag nx0 H0 nx H)
    (hk : ∀ H', IsM H' nx [] 0 → (∀ b l e, b < nx → IsB H b l e → IsB H' b l e) → (∀ b es c, b < nx → IsM H b es c → IsM H' b es c) → Ag nx0 H0 (nx + 1) H' → WqR P pl X (k (.map (some nx)) H' (nx + 1)) nx0 H0 R) : WqR P pl X (effQ (efMakeMap H nx) k) nx0 H0 R := by
  have e1 : effQ (efMakeMap H nx) k = k (.map (some nx)) (Ev.set H (bits nx) (some (.map [] 0))) (nx + 1) := by
    unfold efMakeMap
    rw [setK_set, natF_eq]
    rfl
  rw [e1]
  exact hk _ (by unfold IsM; rw [get_at, if_pos rfl]) (fun b l e hb h => h.other (by omega) _) (fun b es c hb h => h.other (by omega) _) (h.succ.set h.1 _)
/-- An entry more. -/
theorem Wq.upd {t kt et : TypeId} {d : TypeDesc} {b : Nat} {es : List MapEntry} {c : Nat} {kv x : Value} {k : Value → T OB → Nat → Q} (hu : P.underlying t = some (.map kt et)) (hd : P.underlying kt = some d) (hkk : keyKind d = true) (hb : IsM H b es c) (hf : Instr.findNow d kv es 0 = some none) (h : Ag nx0 H0 nx H) (hbn : nx0 ≤ b)
    (hk : ∀ H', IsM H' b (es ++ [⟨kv, x, c⟩]) (c + 1) → (∀ c l e, c ≠ b → IsB H c l e → IsB H' c l e) → (∀ c es n, c ≠ b → IsM H c es n → IsM H' c es n) → Ag nx0 H0 nx H' → WqR P pl X (k undef H' nx) nx0 H0 R) :
    WqR P pl X (effQ (efMapUpdate P H nx t (some (.map (some b))) (some kv) (some x)) k) nx0 H0 R := by
  have e1 : efMapUpdate P H nx t (some (.map (some b))) (some kv) (some x) = .val undef (Ev.set H (bits b) (some (.map (es ++ [⟨kv, x, c⟩]) (c + 1)))) nx := by
    unfold efMapUpdate mapTK
    rw [hu]
    simp only
    rw [hd, optK_some, hkk, cond_true]
    show mapK (H.get (bits b)) (fun es c => updM H nx b es c kv x (Instr.findNow d kv es 0)) .bad = _
    unfold IsM at hb
    rw [hb]
    show updM H nx b es c kv x (Instr.findNow d kv es 0) = _
    rw [hf]
    show Ev.natF (Nat.succ c) (fun c' => setK (bits b) H (some (.map (es ++ [⟨kv, x, c⟩]) c')) fun H => Eff.val undef H nx) = _
    rw [natF_eq, setK_set]
  rw [e1]
  exact hk _ (by unfold IsM; rw [get_at, if_pos rfl]) (fun c l e hc h => h.other hc _) (fun c es n hc h => h.other hc _) (h.set hbn _)
theorem rdLookup_of {t kt et : TypeId} {d : TypeDesc} {b : Nat} {es : List MapEntry} {c : Nat} {kv : Value} {ok : Bool} (hu : P.underlying t = some (.map kt et)) (hd : P.underlying kt = some d) (hkk : keyKind d = true) (hb : IsM H b es c) :
    rdLookup P H t (some (.map (some b))) (some kv) ok = lookV P et ok (Instr.findNow d kv es 0) := by
  unfold rdLookup mapTK
  rw [hu]
  simp only
  rw [hd, optK_some, hkk, cond_true]
  unfold IsM at hb
  unfold esOf
  simp only [hb, optK_some]
/-! tables -/
/-- A table holds these cells. -/
def IsRo (H : T OB) (b : Nat) (l : List Value) : Prop := ∃ tr, H.get (bits b) = some (.ro l.length tr) ∧ ∀ i, i < l.length → tr.get (bits i) = l[i]?
theorem IsRo.ag {b : Nat} {l : List Value} (h : IsRo H b l) (hA : Ag nx H nx1 H1) (hb : b < nx) : IsRo H1 b l := by
  obtain ⟨tr, h1, h2⟩ := h
  exact ⟨tr, (show hp H1 b = _ from (hA.2 b hb).trans h1), h2⟩
theorem rdLoad_ro {b off : Nat} {l : List Value} {t : TypeId} {u : Value} (h : IsRo H b l) (ha : aggQ P t = some false) (hu : l[off]? = some u) : rdLoad P H t (some (.pointer (some ⟨b, off, none⟩))) = some u := by
  obtain ⟨tr, h1, h2⟩ := h
  have hlt := (List.getElem?_eq_some_iff.1 hu).1
  show loadO P H t b off = _
  unfold loadO
  rw [h1]
  show loadB P l.length tr t off = _
  unfold loadB
  rw [ha, optK_some]
  show load1 l.length tr off = _
  unfold load1
  have e1 : Nat.blt off l.length = true := Nat.ble_eq_true_of_le hlt
  rw [e1, h2 off hlt, hu]
  rfl
/-- All of an array. -/
theorem rdSlice_all {t e : TypeId} {s b off len : Nat} (hu : P.underlying t = some (.array len e)) (hs : szOf P e = some s) (h0 : 0 < len) (hl : len < 9223372036854775808) :
    rdSlice P H t (some (.pointer (some ⟨b, off, none⟩))) (some none) (some none) (some none) = some (.slice (some ⟨b, off, none⟩) len len) := by
  show arrTK P t (fun n s => optK (some 0) (fun l => optK (some n) (fun h => sliceN b off n s l h) none) none) none = _
  unfold arrTK
  rw [hu]
  simp only
  rw [hs, optK_some]
  show sliceN b off len s 0 len = _
  unfold sliceN
  rw [Nat.ble_eq_true_of_le (Nat.zero_le _), Nat.ble_eq_true_of_le (Nat.le_refl _), show Nat.blt len unk = true from Nat.ble_eq_true_of_le (by unfold unk; omega)]
  simp only [Bool.and_self, cond_true, natF_eq]
  rw [show Nat.beq len 0 = false from by rw [Bool.eq_false_iff]; intro h; rw [Nat.beq_eq] at h; omega]
  simp
end
end Go.Ev
/- What small functions answer. -/
namespace Go.Proofs.YthjhonhhbddhkaaGreatDoor
open Go.Ev Go.RowKit
noncomputable section
set_option linter.unusedVariables false
set_option linter.unusedSimpArgs false
variable {X : Ext}
abbrev i64 (n : Int) : Value := .int .i64 n
def ints (l : List Int) : Value := rowV 1 (l.map i64)
theorem wrap_succ {i : Nat} (h : i < 9223372036854775807) : IntKind.i64.wrap ((i : Int) + 1) = ((i + 1 : Nat) : Int) := by rw [wrap_id (by omega)]; omega
/-- A loop through a list, with something that it carries. -/
theorem Wq.each {nx0 : Nat} {H0 : T OB} {α σ : Type} (l : List α) (q : Nat → σ → T OB → Nat → Q) (R : List α → σ → Value) (hend : ∀ s H1 nx1, Ag nx0 H0 nx1 H1 → Wq P pl X (q l.length s H1 nx1) nx0 H0 (R [] s))
    (hstep : ∀ i a t s H1 nx1, l[i]? = some a → i < l.length → l.drop (i + 1) = t → Ag nx0 H0 nx1 H1 → (∀ s H2 nx2, Ag nx0 H0 nx2 H2 → Wq P pl X (q (i + 1) s H2 nx2) nx0 H0 (R t s)) → Wq P pl X (q i s H1 nx1) nx0 H0 (R (a :: t) s))
    (s : σ) (H1 : T OB) (nx1 : Nat) (hA : Ag nx0 H0 nx1 H1) : Wq P pl X (q 0 s H1 nx1) nx0 H0 (R l s) := by
  have h := Wq.up l.length q (fun i s => R (l.drop i) s) (fun s H1 nx1 h => by simpa using hend s H1 nx1 h)
    (fun i s H1 nx1 hi ih hA => by
      have := hstep i l[i] _ s H1 nx1 (List.getElem?_eq_getElem hi) hi rfl hA ih
      simp only [List.drop_eq_getElem_cons hi]
      exact this) 0 s H1 nx1 (Nat.zero_le _) hA
  simpa using h
theorem not_lt_len {α : Type} (l : List α) : decide ((l.length : Int) < (l.length : Int)) = false := by simp
theorem is_lt_len {α : Type} {l : List α} {i : Nat} (h : i < l.length) : decide ((i : Int) < (l.length : Int)) = true := by simp [h]
abbrev w (n : Int) : Int := IntKind.i64.wrap n
theorem Wq.retE {nx0 : Nat} {H0 : T OB} {nx : Nat} {H : T OB} {u v : Value} (e : u = v) (h : Ag nx0 H0 nx H) : Wq P pl X (.ret ⟨.ret u, false, H, nx⟩) nx0 H0 v := by subst e; exact Wq.ret h
theorem Wq.jmp {nx0 : Nat} {H0 : T OB} {R : Value → T OB → Nat → Prop} {q : Cfg} {t : Q} (e : evT P pl q = t) (hq : ∀ k, extQ X q k = k) (h : WqR P pl X t nx0 H0 R) : WqR P pl X (.jump q) nx0 H0 R := Wq.jump hq (by rw [e]; exact h)
/-- One cell of a block is written. -/
theorem Wq.put {nx0 : Nat} {H0 : T OB} {nx : Nat} {H : T OB} {R : Value → T OB → Nat → Prop} {b off : Nat} {l l' : List Value} {e t : TypeId} {u : Value} {k : Value → T OB → Nat → Q} (hb : IsB H b l e) (hs : szOf P t = some 1) (hc : u.cells.toList = [u]) (ho : oneCell u = true)
    (hn : off < l.length) (hl : l.set off u = l') (h : Ag nx0 H0 nx H) (hbn : nx0 ≤ b) (hk : ∀ H', IsB H' b l' e → (∀ c l e, c ≠ b → IsB H c l e → IsB H' c l e) → Ag nx0 H0 nx H' → WqR P pl X (k undef H' nx) nx0 H0 R) :
    WqR P pl X (effQ (efStore P H nx t (some (.pointer (some ⟨b, off, none⟩))) (some u)) k) nx0 H0 R := by
  refine Wq.store hb hs (by omega) (by rw [hc]; rfl) (by rw [hc]; simp [ho]) h hbn fun H' hb' hh hA' => hk H' ?_ hh hA'
  rw [hc] at hb'
  have e1 : overL l [u] off = l' := by
    rw [← hl, List.set_eq_take_append_cons_drop, if_pos hn]
    unfold overL
    simp
  rw [e1] at hb'
  exact hb'
/-- A call, and what stays behind it. -/
theorem Wq.callB {nx0 : Nat} {H0 : T OB} {nx : Nat} {H : T OB} {R : Value → T OB → Nat → Prop} {f : FuncId} {args : List Value} {u : Value} {k p : Value → T OB → Nat → Q} (hp : Pure P pl X f args u) (h : Ag nx0 H0 nx H)
    (hk : ∀ H' nx', Ag nx0 H0 nx' H' → nx ≤ nx' → (∀ b l e, b < nx → IsB H b l e → IsB H' b l e) → WqR P pl X (k u H' nx') nx0 H0 R) : WqR P pl X (callQ (.call f args false none H nx) k p) nx0 H0 R := by
  obtain ⟨H1, nx1, h1, h2⟩ := hp H nx
  obtain ⟨v, H2, nx2, h3, hR, h4⟩ := hk H1 nx1 (h.trans h1) h1.1 (fun b l e hb h => h.ag h1 hb)
  refine ⟨v, H2, nx2, h3, hR, ?_⟩
  show optK (F P pl X (.call f args false none H nx)) (fun r => (match r.o with | .ret v => k v r.H r.nx | .pan v => p v r.H r.nx : Q).run (F P pl X)) none = _
  rw [h2]
  exact h4
end
end Go.Proofs.YthjhonhhbddhkaaGreatDoor
/- Tokens that are right: the program's answer. -/
namespace Go.Proofs.YthjhonhhbddhkaaGreatDoor
open Go.Ev Go.RowKit
noncomputable section
set_option maxRecDepth 100000
set_option linter.unusedVariables false
set_option linter.unusedSimpArgs false
theorem und_9 : P.underlying 9 = some .string := by kernel_rfl
abbrev b8 (c : UInt8) : Value := .int .u8 (c.toNat : Int)
theorem drop_cons {α : Type} {l t : List α} {a : α} {i : Nat} (h : l.drop i = a :: t) : l[i]? = some a ∧ i < l.length ∧ l.drop (i + 1) = t := by
  have hi : i < l.length := by
    apply Classical.byContradiction; intro q
    rw [List.drop_of_length_le (by omega)] at h; cases h
  rw [List.drop_eq_getElem_cons hi] at h
  injection h with h1 h2
  exact ⟨by rw [List.getElem?_eq_getElem hi, h1], hi, h2⟩
theorem drop_nil {α : Type} {l : List α} {i : Nat} (h : l.drop i = []) (hi : i ≤ l.length) : i = l.length := by
  have := congrArg List.length h
  simp at this; omega
/-! words -/
def isLow (c : UInt8) : Bool := decide (97 ≤ c.toNat) && decide (c.toNat ≤ 122)
def isHigh (c : UInt8) : Bool := decide (65 ≤ c.toNat) && decide (c.toNat ≤ 90)
def isDig (c : UInt8) : Bool := decide (48 ≤ c.toNat) && decide (c.toNat ≤ 57)
def inW (c : UInt8) : Bool := isLow c || (isHigh c || (isDig c || (decide (c.toNat = 95) || decide (c.toNat = 39))))
def keysL : List (List UInt8) := [[97, 110, 100], [97, 110, 100, 97, 108, 115, 111], [99, 97, 115, 101], [100, 97, 116, 97, 116, 121, 112, 101], [100, 105, 118], [101, 108, 115, 101], [101, 110, 100], [101, 120, 99, 101, 112, 116, 105, 111, 110], [102, 110], [102, 117, 110], [104, 97, 110, 100, 108, 101], [105, 102], [105, 110], [105, 116, 111, 115], [108, 101, 116], [109, 111, 100], [110, 111, 116], [111, 102], [111, 114, 100], [111, 114, 101, 108, 115, 101], [114, 97, 105, 115, 101], [114, 101, 102], [115, 105, 122, 101], [115, 116, 114], [116, 104, 101, 110], [118, 97, 108]]
def signsL : List (List UInt8) := [[45, 62], [61, 62], [58, 58], [58, 61], [60, 61], [62, 61], [60, 62], [61], [60], [62], [43], [45], [42], [94], [33], [126], [40], [41], [44], [59], [124], [95]]
def wordsL : List (List UInt8) := [[126], [33], [110, 111, 116], [114, 101, 102], [115, 105, 122, 101], [115, 116, 114], [111, 114, 100], [105, 116, 111, 115]]
def firstHigh : List UInt8 → Bool
  | [] => false
  | c :: _ => isHigh c
/-- The kind of a word. -/
def kindW (s : List UInt8) : Int := if (firstHigh s || (decide (s = [116, 114, 117, 101]) || (decide (s = [102, 97, 108, 115, 101]) || decide (s = [110, 105, 108])))) = true then 4 else if keysL.contains s = true then 6 else 3
def isWord : List UInt8 → Bool
  | [] => false
  | c :: r => (isLow c || isHigh c) && r.all inW
def isVar : List UInt8 → Bool
  | a :: b :: r => decide (a.toNat = 39) && (isLow b && r.all fun c => !decide (c.toNat = 39) && inW c)
  | _ => false
/-- A token. -/
structure Tok where
  k : Int
  s : List UInt8
  n : Int
  at_ : Int
abbrev Tok.c (t : Tok) : List Value := [i64 t.k, txt t.s, i64 t.n, i64 t.at_]
abbrev Tok.v (t : Tok) : Value := .agg ⟨t.c⟩
/-- Which tokens are right. -/
def tokOk (t : Tok) : Bool :=
  if t.k = 0 then decide (t.s = []) && decide (t.n = 0)
  else if t.k = 1 then decide (t.s = []) && (decide (0 ≤ t.n) && decide (t.n ≤ 4611686018427387903))
  else if t.k = 2 then decide (t.n = 0)
  else if t.k = 7 then decide (t.n = 0) && signsL.contains t.s
  else if t.k = 5 then isVar t.s && decide (t.n = 0)
  else if t.k = 3 ∨ t.k = 4 ∨ t.k = 6 then isWord t.s && (decide (t.n = 0) && decide (kindW t.s = t.k))
  else false
/-! tables -/
def levelsL : List (List (List UInt8)) := [[[111, 114, 101, 108, 115, 101]], [[97, 110, 100, 97, 108, 115, 111]], [[58, 61]], [[61], [60, 62], [60], [60, 61], [62], [62, 61]], [[58, 58]], [[43], [45], [94]], [[42], [100, 105, 118], [109, 111, 100]]]
abbrev lvl (l : List (List UInt8)) : Value := rowV 1 (l.map txt)
def tabs : List (Nat × List Value) := [(0, signsL.map txt), (1, keysL.map txt), (2, levelsL.map lvl), (3, wordsL.map txt)]
def TabIn (nx0 : Nat) (H0 : T OB) : Prop := 4 ≤ nx0 ∧ ∀ x ∈ tabs, IsRo H0 x.1 x.2
theorem TabIn.ag {nx0 nx : Nat} {H0 H : T OB} (h : TabIn nx0 H0) (hA : Ag nx0 H0 nx H) : TabIn nx H := ⟨by have := h.1; have := hA.1; omega, fun x hx => (h.2 x hx).ag hA (by
  have h7 := h.1
  simp only [tabs, List.mem_cons, List.not_mem_nil, or_false] at hx
  rcases hx with rfl | rfl | rfl | rfl <;> (show _ < nx0; omega))⟩
theorem TabIn.signs {nx0 : Nat} {H0 : T OB} (h : TabIn nx0 H0) : IsRo H0 0 (signsL.map txt) := h.2 (0, signsL.map txt) (by simp [tabs])
theorem TabIn.keys {nx0 : Nat} {H0 : T OB} (h : TabIn nx0 H0) : IsRo H0 1 (keysL.map txt) := h.2 (1, keysL.map txt) (by simp [tabs])
theorem TabIn.levels {nx0 : Nat} {H0 : T OB} (h : TabIn nx0 H0) : IsRo H0 2 (levelsL.map lvl) := h.2 (2, levelsL.map lvl) (by simp [tabs])
theorem TabIn.words {nx0 : Nat} {H0 : T OB} (h : TabIn nx0 H0) : IsRo H0 3 (wordsL.map txt) := h.2 (3, wordsL.map txt) (by simp [tabs])
abbrev X0 : Ext := fun f args => bif Nat.beq f 11 then (match args with | [] => some (.bool true) | _ => none) else none
abbrev P0 (f : FuncId) (args : List Value) (v : Value) : Prop := Pure P pl X0 f args v
theorem pu_55 (c : UInt8) : P0 55 [b8 c] (.bool (isLow c)) := Pure.of rfl fun H nx => by
  rw [q55]
  simp only [stpF, cond_true, cond_false, eq_self, List.length_nil, Int.reduceEq, Int.reduceLT, Int.reduceLE]
  unfold isLow
  refine Wq.ite (fun h => ?_) (fun h => ?_)
  · refine Wq.retE ?_ (.refl _ _)
    rw [show decide (97 ≤ c.toNat) = true from by simp; omega, Bool.true_and]
    congr 1; rw [decide_eq_decide]; omega
  · refine Wq.retE ?_ (.refl _ _)
    rw [show decide (97 ≤ c.toNat) = false from by simp; omega]; rfl
theorem pu_57 (c : UInt8) : P0 57 [b8 c] (.bool (isHigh c)) := Pure.of rfl fun H nx => by
  rw [q57]
  simp only [stpF, cond_true, cond_false, eq_self, List.length_nil, Int.reduceEq, Int.reduceLT, Int.reduceLE]
  unfold isHigh
  refine Wq.ite (fun h => ?_) (fun h => ?_)
  · refine Wq.retE ?_ (.refl _ _)
    rw [show decide (65 ≤ c.toNat) = true from by simp; omega, Bool.true_and]
    congr 1; rw [decide_eq_decide]; omega
  · refine Wq.retE ?_ (.refl _ _)
    rw [show decide (65 ≤ c.toNat) = false from by simp; omega]; rfl
theorem pu_99 (c : UInt8) : P0 99 [b8 c] (.bool (isDig c)) := Pure.of rfl fun H nx => by
  rw [q99]
  simp only [stpF, cond_true, cond_false, eq_self, List.length_nil, Int.reduceEq, Int.reduceLT, Int.reduceLE]
  unfold isDig
  refine Wq.ite (fun h => ?_) (fun h => ?_)
  · refine Wq.retE ?_ (.refl _ _)
    rw [show decide (48 ≤ c.toNat) = true from by simp; omega, Bool.true_and]
    congr 1; rw [decide_eq_decide]; omega
  · refine Wq.retE ?_ (.refl _ _)
    rw [show decide (48 ≤ c.toNat) = false from by simp; omega]; rfl
theorem pu_56 (c : UInt8) : P0 56 [b8 c] (.bool (inW c)) := Pure.of rfl fun H nx => by
  rw [q56]
  unfold inW
  refine Wq.call (pu_55 c) (.refl _ _) fun H1 nx1 hA1 => ?_
  simp only [stpF, cond_true, cond_false, eq_self, List.length_nil, Int.reduceEq, Int.reduceLT, Int.reduceLE]
  cases isLow c with
  | true => exact Wq.ret hA1
  | false =>
    simp only [stpF, cond_true, cond_false, eq_self, List.length_nil, Int.reduceEq, Int.reduceLT, Int.reduceLE, Bool.false_or]
    refine Wq.call (pu_57 c) hA1 fun H2 nx2 hA2 => ?_
    simp only [stpF, cond_true, cond_false, eq_self, List.length_nil, Int.reduceEq, Int.reduceLT, Int.reduceLE]
    cases isHigh c with
    | true => exact Wq.ret hA2
    | false =>
      simp only [stpF, cond_true, cond_false, eq_self, List.length_nil, Int.reduceEq, Int.reduceLT, Int.reduceLE, Bool.false_or]
      refine Wq.call (pu_99 c) hA2 fun H3 nx3 hA3 => ?_
      simp only [stpF, cond_true, cond_false, eq_self, List.length_nil, Int.reduceEq, Int.reduceLT, Int.reduceLE]
      cases isDig c with
      | true => exact Wq.ret hA3
      | false =>
        simp only [stpF, cond_true, cond_false, eq_self, List.length_nil, Int.reduceEq, Int.reduceLT, Int.reduceLE, Bool.false_or]
        refine Wq.ite (fun h => ?_) (fun h => ?_)
        · refine Wq.retE ?_ hA3
          rw [show decide (c.toNat = 95) = true from by simp; omega]; rfl
        · refine Wq.retE ?_ hA3
          rw [show decide (c.toNat = 95) = false from by simp; omega, Bool.false_or]
          congr 1; rw [decide_eq_decide]; omega
/-- A text among those of a table. -/
theorem w_54_7 {nx0 : Nat} {H0 : T OB} (b : Nat) (l : List (List UInt8)) (s : List UInt8) (hb : IsRo H0 b (l.map txt)) (hbx : b < nx0) (hl : l.length < 1000000) (cp : Nat) : ∀ (r : List (List UInt8)) (i : Nat) (H : T OB) (nx : Nat), l.drop i = r → i ≤ l.length → Ag nx0 H0 nx H →
    Wq P pl X0 (.jump (l54_7 (txt s) (.slice (some ⟨b, 0, none⟩) l.length cp) (i64 (l.length : Int)) (i64 (i : Int)) H nx)) nx0 H0 (.bool (r.contains s)) := by
  intro r
  induction r with
  | nil =>
    intro i H nx hd hi hA
    have hil := drop_nil hd hi
    refine Wq.jmp (q54_7 ..) (fun _ => rfl) ?_
    simp only [stpF, cond_true, cond_false, eq_self, List.length_nil, Int.reduceEq, Int.reduceLT, Int.reduceLE, hil, not_lt_len]
    exact Wq.ret hA
  | cons x r ih =>
    intro i H nx hd hi hA
    obtain ⟨hg, hlt, hd'⟩ := drop_cons hd
    have hg' : (l.map txt)[0 + i * 1]? = some (txt x) := by simp [hg]
    refine Wq.jmp (q54_7 ..) (fun _ => rfl) ?_
    simp only [stpF, cond_true, cond_false, eq_self, List.length_nil, Int.reduceEq, Int.reduceLT, Int.reduceLE, is_lt_len hlt, ixs_49 hlt, rdLoad_ro (hb.ag hA hbx) agg_9 hg', wrap_succ (show i < 9223372036854775807 by omega)]
    refine Wq.ite (fun h => ?_) (fun h => ?_)
    · exact Wq.retE (by have : x = s := by simpa using h
                        subst this; simp) hA
    · have hne : x ≠ s := fun q => h (by rw [q])
      have : ((x :: r).contains s) = r.contains s := by rw [List.contains_cons, show (s == x) = false from by simp; exact fun q => hne q.symm, Bool.false_or]
      rw [this]
      exact ih (i + 1) H nx hd' (by omega) hA
end
end Go.Proofs.YthjhonhhbddhkaaGreatDoor
/- Tokens that are right: the program's answer. -/
namespace Go.Proofs.YthjhonhhbddhkaaGreatDoor
open Go.Ev Go.RowKit
noncomputable section
set_option maxRecDepth 100000
set_option linter.unusedVariables false
set_option linter.unusedSimpArgs false
/-- A function that answers, tables being there. -/
def PT (f : FuncId) (args : List Value) (v : Value) : Prop := ∀ H nx, TabIn nx H → ∃ H' nx', Ag nx H nx' H' ∧ F P pl X0 (.call f args false none H nx) = some ⟨.ret v, false, H', nx'⟩
theorem PT.of {f : FuncId} {args : List Value} {v : Value} (hx : X0 f args = none) (h : ∀ H nx, TabIn nx H → Wq P pl X0 (evT P pl (.call f args false none H nx)) nx H v) : PT f args v := fun H nx hT => by
  obtain ⟨_, H', nx', h1, rfl, h2⟩ := h H nx hT
  refine ⟨H', nx', h1, ?_⟩
  rw [F_eq]
  show @Option.rec Value (fun _ => Option Rt) _ (fun v => some ⟨.ret v, false, H, nx⟩) (X0 f args) = _
  rw [hx]
  exact h2
theorem Wq.callT {nx0 : Nat} {H0 : T OB} {nx : Nat} {H : T OB} {R : Value → T OB → Nat → Prop} {f : FuncId} {args : List Value} {u : Value} {k p : Value → T OB → Nat → Q} (hT : TabIn nx0 H0) (hp : PT f args u) (h : Ag nx0 H0 nx H)
    (hk : ∀ H' nx', Ag nx0 H0 nx' H' → WqR P pl X0 (k u H' nx') nx0 H0 R) : WqR P pl X0 (callQ (.call f args false none H nx) k p) nx0 H0 R := by
  obtain ⟨H1, nx1, h1, h2⟩ := hp H nx (hT.ag h)
  obtain ⟨v, H2, nx2, h3, hR, h4⟩ := hk H1 nx1 (h.trans h1)
  refine ⟨v, H2, nx2, h3, hR, ?_⟩
  show optK (F P pl X0 (.call f args false none H nx)) (fun r => (match r.o with | .ret v => k v r.H r.nx | .pan v => p v r.H r.nx : Q).run (F P pl X0)) none = _
  rw [h2]
  exact h4
theorem sl_99 (H : T OB) : rdSlice P H 99 (some (.pointer (some ⟨0, 0, none⟩))) (some none) (some none) (some none) = some (.slice (some ⟨0, 0, none⟩) 22 22) := rdSlice_all (len := 22) (e := 9) (by kernel_rfl) sz_9 (by omega) (by omega)
theorem sl_144 (H : T OB) : rdSlice P H 144 (some (.pointer (some ⟨1, 0, none⟩))) (some none) (some none) (some none) = some (.slice (some ⟨1, 0, none⟩) 26 26) := rdSlice_all (len := 26) (e := 9) (by kernel_rfl) sz_9 (by omega) (by omega)
theorem w_54_keys {nx0 : Nat} {H0 : T OB} {nx : Nat} {H : T OB} (hT : TabIn nx0 H0) (s : List UInt8) (hA : Ag nx0 H0 nx H) : Wq P pl X0 (evT P pl (.call 54 [.slice (some ⟨1, 0, none⟩) 26 26, txt s] false none H nx)) nx0 H0 (.bool (keysL.contains s)) := by
  rw [q54]
  simp only [stpF, cond_true, cond_false, eq_self, List.length_nil, Int.reduceEq, Int.reduceLT, Int.reduceLE]
  exact w_54_7 1 keysL s hT.keys (by have := hT.1; omega) (by decide) 26 keysL 0 H nx rfl (Nat.zero_le _) hA
theorem w_54_signs {nx0 : Nat} {H0 : T OB} {nx : Nat} {H : T OB} (hT : TabIn nx0 H0) (s : List UInt8) (hA : Ag nx0 H0 nx H) : Wq P pl X0 (evT P pl (.call 54 [.slice (some ⟨0, 0, none⟩) 22 22, txt s] false none H nx)) nx0 H0 (.bool (signsL.contains s)) := by
  rw [q54]
  simp only [stpF, cond_true, cond_false, eq_self, List.length_nil, Int.reduceEq, Int.reduceLT, Int.reduceLE]
  exact w_54_7 0 signsL s hT.signs (by have := hT.1; omega) (by decide) 22 signsL 0 H nx rfl (Nat.zero_le _) hA
theorem pt_58 (c : UInt8) (r : List UInt8) : PT 58 [txt (c :: r)] (i64 (kindW (c :: r))) := PT.of rfl fun H nx hT => by
  rw [q58]
  have hix := rdIndex_txt (P := P) und_9 (l := c :: r) (i := 0) (c := c) rfl .i64
  rw [show ((0 : Nat) : Int) = 0 from rfl] at hix
  have L6 : ∀ (b : Bool) H1 nx1, Ag nx H nx1 H1 → b = (firstHigh (c :: r) || (decide (c :: r = [116, 114, 117, 101]) || (decide (c :: r = [102, 97, 108, 115, 101]) || decide (c :: r = [110, 105, 108])))) → Wq P pl X0 (.jump (l58_6 (txt (c :: r)) b H1 nx1)) nx H (i64 (kindW (c :: r))) := by
    intro b H1 nx1 hA1 hb
    refine Wq.jmp (q58_6 ..) (fun _ => rfl) ?_
    unfold kindW
    rw [← hb]
    refine Wq.bK (fun h => ?_) (fun h => ?_)
    · rw [if_pos h]; exact Wq.ret hA1
    · rw [if_neg (by rw [h]; decide)]
      simp only [stpF, cond_true, cond_false, eq_self, List.length_nil, Int.reduceEq, Int.reduceLT, Int.reduceLE, sl_144]
      refine Wq.callAt rfl (w_54_keys hT _ hA1) fun H2 nx2 hA2 => ?_
      simp only [stpF, cond_true, cond_false, eq_self, List.length_nil, Int.reduceEq, Int.reduceLT, Int.reduceLE]
      refine Wq.bK (fun h2 => ?_) (fun h2 => ?_)
      · rw [if_pos h2]; exact Wq.ret hA2
      · rw [if_neg (by rw [h2]; decide)]; exact Wq.ret hA2
  have hb : ∀ l : List UInt8, decide ((⟨⟨c :: r⟩⟩ : ByteArray) = ⟨⟨l⟩⟩) = decide (c :: r = l) := fun l => by rw [decide_eq_decide]; simp
  simp only [stpF, cond_true, cond_false, eq_self, List.length_nil, Int.reduceEq, Int.reduceLT, Int.reduceLE, hix]
  refine Wq.call (pu_57 c) (.refl _ _) fun H1 nx1 hA1 => ?_
  simp only [stpF, cond_true, cond_false, eq_self, List.length_nil, Int.reduceEq, Int.reduceLT, Int.reduceLE, hb]
  refine Wq.bK (fun h => L6 _ _ _ hA1 (by show true = (isHigh c || _); rw [h]; rfl)) (fun h0 => ?_)
  refine Wq.bK (fun h => L6 _ _ _ hA1 (by show true = (isHigh c || _); rw [h0, h]; rfl)) (fun h1 => ?_)
  refine Wq.bK (fun h => L6 _ _ _ hA1 (by show true = (isHigh c || _); rw [h0, h1, h]; rfl)) (fun h2 => ?_)
  exact L6 _ _ _ hA1 (by show _ = (isHigh c || _); rw [h0, h1, h2]; rfl)
end
end Go.Proofs.YthjhonhhbddhkaaGreatDoor
/- Tokens that are right: the program's answer, whole. -/
namespace Go.Proofs.YthjhonhhbddhkaaGreatDoor
open Go.Ev Go.RowKit
noncomputable section
set_option maxRecDepth 100000
set_option linter.unusedVariables false
set_option linter.unusedSimpArgs false
variable {nx0 : Nat} {H0 : T OB}
theorem w_33_31 (t : Tok) (hl : t.s.length < 9223372036854775807) : ∀ (r : List UInt8) (i : Nat) (H : T OB) (nx : Nat), t.s.drop i = r → i ≤ t.s.length → Ag nx0 H0 nx H →
    Wq P pl X0 (.jump (l33_31 (eptrV t.v) (i64 (i : Int)) H nx)) nx0 H0 (.bool ((r.all fun c => !decide (c.toNat = 39) && inW c) && decide (t.n = 0))) := by
  intro r
  induction r with
  | nil =>
    intro i H nx hd hi hA
    have hil := drop_nil hd hi
    refine Wq.jmp (q33_31 ..) (fun _ => rfl) ?_
    simp only [stpF, cond_true, cond_false, eq_self, List.length_nil, Int.reduceEq, Int.reduceLT, Int.reduceLE, rdLen_str _ und_9, txt_size, hil, not_lt_len]
    exact Wq.ret hA
  | cons c r ih =>
    intro i H nx hd hi hA
    obtain ⟨hg, hlt, hd'⟩ := drop_cons hd
    have L36 : ∀ (b : Bool) H1 nx1, Ag nx0 H0 nx1 H1 → b = !(!decide (c.toNat = 39) && inW c) → Wq P pl X0 (.jump (l33_36 (eptrV t.v) (i64 (i : Int)) b H1 nx1)) nx0 H0 (.bool (((c :: r).all fun c => !decide (c.toNat = 39) && inW c) && decide (t.n = 0))) := by
      intro b H1 nx1 hA1 hb
      refine Wq.jmp (q33_36 ..) (fun _ => rfl) ?_
      rw [List.all_cons]
      refine Wq.bK (fun h => ?_) (fun h => ?_)
      · rw [h] at hb
        have : (!decide (c.toNat = 39) && inW c) = false := by rw [← Bool.not_inj_iff, ← hb]; rfl
        exact Wq.retE (by rw [this]; rfl) hA1
      · rw [h] at hb
        have : (!decide (c.toNat = 39) && inW c) = true := by rw [← Bool.not_inj_iff, ← hb]; rfl
        rw [this, Bool.true_and]
        simp only [stpF, cond_true, cond_false, eq_self, List.length_nil, Int.reduceEq, Int.reduceLT, Int.reduceLE, wrap_succ (show i < 9223372036854775807 by omega)]
        exact ih (i + 1) H1 nx1 hd' (by omega) hA1
    refine Wq.jmp (q33_31 ..) (fun _ => rfl) ?_
    simp only [stpF, cond_true, cond_false, eq_self, List.length_nil, Int.reduceEq, Int.reduceLT, Int.reduceLE, rdLen_str _ und_9, txt_size, is_lt_len hlt, rdIndex_txt und_9 hg]
    have e39 : decide ((c.toNat : Int) = 39) = decide (c.toNat = 39) := by rw [decide_eq_decide]; omega
    rw [e39]
    refine Wq.bK (fun h => L36 _ _ _ hA (by rw [h]; rfl)) (fun h => ?_)
    refine Wq.call (pu_56 c) hA fun H1 nx1 hA1 => ?_
    simp only [stpF, cond_true, cond_false, eq_self, List.length_nil, Int.reduceEq, Int.reduceLT, Int.reduceLE]
    exact L36 _ _ _ hA1 (by rw [h]; rfl)
theorem w_33_53 (hT : TabIn nx0 H0) (t : Tok) (a : UInt8) (s : List UInt8) (hs : t.s = a :: s) (hl : t.s.length < 9223372036854775807) : ∀ (r : List UInt8) (i : Nat) (H : T OB) (nx : Nat), t.s.drop i = r → i ≤ t.s.length → Ag nx0 H0 nx H →
    Wq P pl X0 (.jump (l33_53 (eptrV t.v) (i64 (i : Int)) H nx)) nx0 H0 (.bool (r.all inW && (decide (t.n = 0) && decide (kindW t.s = t.k)))) := by
  intro r
  induction r with
  | nil =>
    intro i H nx hd hi hA
    have hil := drop_nil hd hi
    refine Wq.jmp (q33_53 ..) (fun _ => rfl) ?_
    simp only [stpF, cond_true, cond_false, eq_self, List.length_nil, Int.reduceEq, Int.reduceLT, Int.reduceLE, rdLen_str _ und_9, txt_size, hil, not_lt_len]
    rw [List.all_nil, Bool.true_and]
    have p98 := pt_58 a s
    rw [← hs] at p98
    refine Wq.bK (fun h => ?_) (fun h => ?_)
    · rw [h, Bool.true_and]
      refine Wq.callT hT p98 hA fun H1 nx1 hA1 => ?_
      simp only [stpF, cond_true, cond_false, eq_self, List.length_nil, Int.reduceEq, Int.reduceLT, Int.reduceLE, Bool.and_true]
      exact Wq.ret hA1
    · rw [h, Bool.false_and]
      exact Wq.ret hA
  | cons c r ih =>
    intro i H nx hd hi hA
    obtain ⟨hg, hlt, hd'⟩ := drop_cons hd
    refine Wq.jmp (q33_53 ..) (fun _ => rfl) ?_
    simp only [stpF, cond_true, cond_false, eq_self, List.length_nil, Int.reduceEq, Int.reduceLT, Int.reduceLE, rdLen_str _ und_9, txt_size, is_lt_len hlt, rdIndex_txt und_9 hg]
    refine Wq.call (pu_56 c) hA fun H1 nx1 hA1 => ?_
    simp only [stpF, cond_true, cond_false, eq_self, List.length_nil, Int.reduceEq, Int.reduceLT, Int.reduceLE]
    rw [List.all_cons]
    cases inW c with
    | false => exact Wq.ret hA1
    | true =>
      simp only [stpF, cond_true, cond_false, eq_self, List.length_nil, Int.reduceEq, Int.reduceLT, Int.reduceLE, wrap_succ (show i < 9223372036854775807 by omega), Bool.true_and]
      exact ih (i + 1) H1 nx1 hd' (by omega) hA1
theorem pt_33 (t : Tok) (hl : t.s.length < 9223372036854775807) : PT 33 [t.v] (.bool (tokOk t)) := PT.of rfl fun H nx hT => by
  rw [q33]
  refine Wq.natF' (.refl _ _) fun hA => ?_
  have hE : decide ((⟨⟨t.s⟩⟩ : ByteArray) = ⟨⟨[]⟩⟩) = decide (t.s = []) := by rw [decide_eq_decide]; simp
  simp only [stpF, cond_true, cond_false, eq_self, List.length_nil, Int.reduceEq, Int.reduceLT, Int.reduceLE, hE]
  unfold tokOk
  refine Wq.ite (fun h => ?_) (fun h0 => ?_)
  · rw [if_pos h]
    refine Wq.bK (fun h => ?_) (fun h => ?_)
    · rw [h, Bool.true_and]; exact Wq.ret hA
    · rw [h, Bool.false_and]; exact Wq.ret hA
  rw [if_neg h0]
  refine Wq.ite (fun h => ?_) (fun h1 => ?_)
  · rw [if_pos h]
    refine Wq.bK (fun h => ?_) (fun h => ?_)
    · rw [h, Bool.true_and]
      refine Wq.bK (fun h => ?_) (fun h => ?_)
      · rw [h, Bool.true_and]; exact Wq.ret hA
      · rw [h, Bool.false_and]; exact Wq.ret hA
    · rw [h, Bool.false_and]; exact Wq.ret hA
  rw [if_neg h1]
  refine Wq.ite (fun h => ?_) (fun h2 => ?_)
  · rw [if_pos h]; exact Wq.ret hA
  rw [if_neg h2]
  refine Wq.ite (fun h => ?_) (fun h7 => ?_)
  · rw [if_pos h]
    refine Wq.bK (fun h => ?_) (fun h => ?_)
    · rw [h, Bool.true_and]
      simp only [stpF, cond_true, cond_false, eq_self, List.length_nil, Int.reduceEq, Int.reduceLT, Int.reduceLE, sl_99]
      refine Wq.callAt rfl (w_54_signs hT _ hA) fun H2 nx2 hA2 => ?_
      simp only [stpF, cond_true, cond_false, eq_self, List.length_nil, Int.reduceEq, Int.reduceLT, Int.reduceLE]
      exact Wq.ret hA2
    · rw [h, Bool.false_and]; exact Wq.ret hA
  rw [if_neg h7]
  refine Wq.ite (fun h => ?_) (fun h5 => ?_)
  · rw [if_pos h]
    have L26 : ∀ (b : Bool) H1 nx1, Ag nx H nx1 H1 → (b = true → isVar t.s = false) → (b = false → ∃ c d r, t.s = c :: d :: r ∧ isVar t.s = r.all fun c => !decide (c.toNat = 39) && inW c) → Wq P pl X0 (.jump (l33_26 (eptrV t.v) b H1 nx1)) nx H (.bool (isVar t.s && decide (t.n = 0))) := by
      intro b H1 nx1 hA1 hb1 hb2
      refine Wq.jmp (q33_26 ..) (fun _ => rfl) ?_
      refine Wq.bK (fun h => ?_) (fun h => ?_)
      · rw [hb1 h]; exact Wq.ret hA1
      · obtain ⟨c, d, r, hs, hv⟩ := hb2 h
        rw [hv]
        exact w_33_31 t hl r 2 H1 nx1 (by rw [hs]; rfl) (by rw [hs]; simp) hA1
    simp only [stpF, cond_true, cond_false, eq_self, List.length_nil, Int.reduceEq, Int.reduceLT, Int.reduceLE, rdLen_str _ und_9, txt_size]
    refine Wq.ite (fun hl2 => L26 _ _ _ hA (fun _ => ?_) (fun q => by cases q)) (fun hl2 => ?_)
    · match hs : t.s with
      | [] => rfl
      | [a] => rfl
      | a :: b :: r => rw [hs] at hl2; simp at hl2; omega
    obtain ⟨a, b, r, hs⟩ : ∃ a b r, t.s = a :: b :: r := by
      match hs : t.s with
      | [] => rw [hs] at hl2; simp at hl2
      | [a] => rw [hs] at hl2; simp at hl2
      | a :: b :: r => exact ⟨a, b, r, rfl⟩
    have i0 := rdIndex_txt (P := P) und_9 (l := t.s) (i := 0) (c := a) (by rw [hs]; rfl) .i64
    have i1 := rdIndex_txt (P := P) und_9 (l := t.s) (i := 1) (c := b) (by rw [hs]; rfl) .i64
    rw [show ((0 : Nat) : Int) = 0 from rfl] at i0
    rw [show ((1 : Nat) : Int) = 1 from rfl] at i1
    have hv : isVar t.s = (decide (a.toNat = 39) && (isLow b && r.all fun c => !decide (c.toNat = 39) && inW c)) := by rw [hs]; rfl
    have e39 : decide ((a.toNat : Int) = 39) = decide (a.toNat = 39) := by rw [decide_eq_decide]; omega
    simp only [stpF, cond_true, cond_false, eq_self, List.length_nil, Int.reduceEq, Int.reduceLT, Int.reduceLE, i0, i1, e39]
    refine Wq.bK (fun h => L26 _ _ _ hA (fun _ => ?_) (fun q => by cases q)) (fun h => ?_)
    · rw [hv, show decide (a.toNat = 39) = false from by rw [← Bool.not_inj_iff, h]; rfl]; rfl
    have ha : decide (a.toNat = 39) = true := by rw [← Bool.not_inj_iff, h]; rfl
    refine Wq.call (pu_55 b) hA fun H1 nx1 hA1 => ?_
    simp only [stpF, cond_true, cond_false, eq_self, List.length_nil, Int.reduceEq, Int.reduceLT, Int.reduceLE]
    refine L26 _ _ _ hA1 (fun q => ?_) (fun q => ⟨a, b, r, hs, ?_⟩)
    · rw [hv, show isLow b = false from by rw [← Bool.not_inj_iff, q]; rfl]; simp
    · rw [hv, ha, show isLow b = true from by rw [← Bool.not_inj_iff, q]; rfl]; rfl
  rw [if_neg h5]
  have L46 : Wq P pl X0 (.jump (l33_46 (eptrV t.v) true H (nx + 1))) nx H (.bool (isWord t.s && (decide (t.n = 0) && decide (kindW t.s = t.k)))) := by
    refine Wq.jmp (q33_46 ..) (fun _ => rfl) ?_
    cases hs : t.s with
    | nil =>
      have e1 : decide ((⟨⟨t.s⟩⟩ : ByteArray) = ⟨⟨[]⟩⟩) = true := by rw [hs]; simp
      simp only [stpF, cond_true, cond_false, eq_self, List.length_nil, Int.reduceEq, Int.reduceLT, Int.reduceLE, e1]
      refine Wq.jmp (q33_48 ..) (fun _ => rfl) ?_
      exact Wq.ret hA
    | cons a r =>
      rw [← hs]
      have i0 := rdIndex_txt (P := P) und_9 (l := a :: r) (i := 0) (c := a) rfl .i64
      rw [show ((0 : Nat) : Int) = 0 from rfl] at i0
      have hne : decide ((⟨⟨a :: r⟩⟩ : ByteArray) = ⟨⟨[]⟩⟩) = false := by simp
      have hw : isWord t.s = ((isLow a || isHigh a) && r.all inW) := by rw [hs]; rfl
      have L48 : ∀ (b : Bool) H1 nx1, Ag nx H nx1 H1 → b = !(isLow a || isHigh a) → Wq P pl X0 (.jump (l33_48 (eptrV t.v) b H1 nx1)) nx H (.bool (isWord t.s && (decide (t.n = 0) && decide (kindW t.s = t.k)))) := by
        intro b H1 nx1 hA1 hb
        refine Wq.jmp (q33_48 ..) (fun _ => rfl) ?_
        rw [hw]
        refine Wq.bK (fun h => ?_) (fun h => ?_)
        · have : (isLow a || isHigh a) = false := by rw [← Bool.not_inj_iff, ← hb, h]; rfl
          exact Wq.retE (by rw [this]; rfl) hA1
        · have h1 : (isLow a || isHigh a) = true := by rw [← Bool.not_inj_iff, ← hb, h]; rfl
          rw [h1, Bool.true_and]
          exact w_33_53 hT t a r hs hl r 1 H1 nx1 (by rw [hs]; rfl) (by rw [hs]; simp) hA1
      have e0 : rdIndex P 9 (some (txt t.s)) (some (.int .i64 0)) = some (.int .u8 (a.toNat : Int)) := by rw [hs]; exact i0
      have e1 : decide ((⟨⟨t.s⟩⟩ : ByteArray) = ⟨⟨[]⟩⟩) = false := by rw [hs]; exact hne
      simp only [stpF, cond_true, cond_false, eq_self, List.length_nil, Int.reduceEq, Int.reduceLT, Int.reduceLE, e0, e1]
      refine Wq.call (pu_55 a) hA fun H1 nx1 hA1 => ?_
      simp only [stpF, cond_true, cond_false, eq_self, List.length_nil, Int.reduceEq, Int.reduceLT, Int.reduceLE]
      cases hlo : isLow a with
      | true =>
        simp only [stpF, cond_true, cond_false, eq_self, List.length_nil, Int.reduceEq, Int.reduceLT, Int.reduceLE]
        exact L48 false _ _ hA1 (by rw [hlo]; rfl)
      | false =>
        simp only [stpF, cond_true, cond_false, eq_self, List.length_nil, Int.reduceEq, Int.reduceLT, Int.reduceLE]
        refine Wq.call (pu_57 a) hA1 fun H2 nx2 hA2 => ?_
        simp only [stpF, cond_true, cond_false, eq_self, List.length_nil, Int.reduceEq, Int.reduceLT, Int.reduceLE]
        exact L48 (!isHigh a) _ _ hA2 (by rw [hlo]; rfl)
  refine Wq.ite (fun h3 => ?_) (fun h3 => ?_)
  · rw [if_pos (Or.inl h3), show decide (t.k = 3) = true from by simp [h3]]; exact L46
  refine Wq.ite (fun h4 => ?_) (fun h4 => ?_)
  · rw [if_pos (Or.inr (Or.inl h4)), show decide (t.k = 4) = true from by simp [h4]]; exact L46
  by_cases h6 : t.k = 6
  · rw [if_pos (Or.inr (Or.inr h6)), show decide (t.k = 6) = true from by simp [h6]]; exact L46
  · rw [if_neg (by omega), show decide (t.k = 6) = false from by simp [h6]]
    refine Wq.jmp (q33_46 ..) (fun _ => rfl) ?_
    exact Wq.ret hA
end
end Go.Proofs.YthjhonhhbddhkaaGreatDoor
/- Trees as values. -/
namespace Go.Proofs.YthjhonhhbddhkaaGreatDoor
open Go.Ev Go.RowKit
noncomputable section
set_option maxRecDepth 100000
set_option linter.unusedVariables false
set_option linter.unusedSimpArgs false
inductive Pat where
  | mk (k n : Int) (s : List UInt8) (l : List Pat)
inductive TyS where
  | mk (k : Int) (s : List UInt8) (l : List TyS)
structure Con where
  s : List UInt8
  arg : List TyS
structure Data where
  vars : List (List UInt8)
  s : List UInt8
  cons : List Con
mutual
inductive Exp where
  | mk (k n : Int) (s : List UInt8) (l : List Exp) (p : List Pat) (d : List Dec)
inductive Dec where
  | mk (k : Int) (p : Pat) (e : Exp) (f : List Fn) (x : Data) (c : Con)
inductive Fn where
  | mk (s : List UInt8) (p : List Pat) (b : Exp)
end
def Pat.k : Pat → Int | .mk k _ _ _ => k
def Pat.n : Pat → Int | .mk _ n _ _ => n
def Pat.s : Pat → List UInt8 | .mk _ _ s _ => s
def Pat.l : Pat → List Pat | .mk _ _ _ l => l
def TyS.k : TyS → Int | .mk k _ _ => k
def TyS.s : TyS → List UInt8 | .mk _ s _ => s
def TyS.l : TyS → List TyS | .mk _ _ l => l
def Exp.k : Exp → Int | .mk k _ _ _ _ _ => k
def Exp.n : Exp → Int | .mk _ n _ _ _ _ => n
def Exp.s : Exp → List UInt8 | .mk _ _ s _ _ _ => s
def Exp.l : Exp → List Exp | .mk _ _ _ l _ _ => l
def Exp.p : Exp → List Pat | .mk _ _ _ _ p _ => p
def Exp.d : Exp → List Dec | .mk _ _ _ _ _ d => d
def Dec.k : Dec → Int | .mk k _ _ _ _ _ => k
def Dec.p : Dec → Pat | .mk _ p _ _ _ _ => p
def Dec.e : Dec → Exp | .mk _ _ e _ _ _ => e
def Dec.f : Dec → List Fn | .mk _ _ _ f _ _ => f
def Dec.x : Dec → Data | .mk _ _ _ _ x _ => x
def Dec.c : Dec → Con | .mk _ _ _ _ _ c => c
def Fn.s : Fn → List UInt8 | .mk s _ _ => s
def Fn.p : Fn → List Pat | .mk _ p _ => p
def Fn.b : Fn → Exp | .mk _ _ b => b
/-! cells -/
mutual
def Pat.cs : Pat → List Value
  | .mk k n s l => [i64 k, i64 n, txt s, rowV 4 (patsV l)]
def patsV : List Pat → List Value
  | [] => []
  | p :: l => .agg ⟨p.cs⟩ :: patsV l
end
mutual
def TyS.cs : TyS → List Value
  | .mk k s l => [i64 k, txt s, rowV 3 (tysV l)]
def tysV : List TyS → List Value
  | [] => []
  | p :: l => .agg ⟨p.cs⟩ :: tysV l
end
def Pat.v (p : Pat) : Value := .agg ⟨p.cs⟩
def TyS.v (p : TyS) : Value := .agg ⟨p.cs⟩
abbrev patsR (l : List Pat) : Value := rowV 4 (l.map Pat.v)
abbrev tysR (l : List TyS) : Value := rowV 3 (l.map TyS.v)
abbrev strsR (l : List (List UInt8)) : Value := rowV 1 (l.map txt)
def Con.cs (c : Con) : List Value := [txt c.s, tysR c.arg]
def Con.v (c : Con) : Value := .agg ⟨c.cs⟩
abbrev consR (l : List Con) : Value := rowV 2 (l.map Con.v)
def Data.cs (x : Data) : List Value := [strsR x.vars, txt x.s, consR x.cons]
def Data.v (x : Data) : Value := .agg ⟨x.cs⟩
mutual
def Exp.cs : Exp → List Value
  | .mk k n s l p d => [i64 k, i64 n, txt s, rowV 6 (expsV l), patsR p, rowV 17 (decsV d)]
def Dec.cs : Dec → List Value
  | .mk k p e f x c => i64 k :: (p.cs ++ (e.cs ++ (rowV 8 (fnsV f) :: (x.cs ++ c.cs))))
def Fn.cs : Fn → List Value
  | .mk s p b => txt s :: patsR p :: b.cs
def expsV : List Exp → List Value
  | [] => []
  | p :: l => .agg ⟨p.cs⟩ :: expsV l
def decsV : List Dec → List Value
  | [] => []
  | p :: l => .agg ⟨p.cs⟩ :: decsV l
def fnsV : List Fn → List Value
  | [] => []
  | p :: l => .agg ⟨p.cs⟩ :: fnsV l
end
def Exp.v (p : Exp) : Value := .agg ⟨p.cs⟩
def Dec.v (p : Dec) : Value := .agg ⟨p.cs⟩
def Fn.v (p : Fn) : Value := .agg ⟨p.cs⟩
abbrev expsR (l : List Exp) : Value := rowV 6 (l.map Exp.v)
abbrev decsR (l : List Dec) : Value := rowV 17 (l.map Dec.v)
abbrev fnsR (l : List Fn) : Value := rowV 8 (l.map Fn.v)
theorem patsV_eq (l : List Pat) : patsV l = l.map Pat.v := by
  induction l with
  | nil => rw [patsV]; rfl
  | cons s l ih => rw [patsV, ih]; rfl
theorem tysV_eq (l : List TyS) : tysV l = l.map TyS.v := by
  induction l with
  | nil => rw [tysV]; rfl
  | cons s l ih => rw [tysV, ih]; rfl
theorem expsV_eq (l : List Exp) : expsV l = l.map Exp.v := by
  induction l with
  | nil => rw [expsV]; rfl
  | cons s l ih => rw [expsV, ih]; rfl
theorem decsV_eq (l : List Dec) : decsV l = l.map Dec.v := by
  induction l with
  | nil => rw [decsV]; rfl
  | cons s l ih => rw [decsV, ih]; rfl
theorem fnsV_eq (l : List Fn) : fnsV l = l.map Fn.v := by
  induction l with
  | nil => rw [fnsV]; rfl
  | cons s l ih => rw [fnsV, ih]; rfl
theorem Pat.cs_eq (p : Pat) : p.cs = [i64 p.k, i64 p.n, txt p.s, patsR p.l] := by cases p; rw [Pat.cs, patsV_eq]; rfl
theorem TyS.cs_eq (p : TyS) : p.cs = [i64 p.k, txt p.s, tysR p.l] := by cases p; rw [TyS.cs, tysV_eq]; rfl
theorem Exp.cs_eq (p : Exp) : p.cs = [i64 p.k, i64 p.n, txt p.s, expsR p.l, patsR p.p, decsR p.d] := by cases p; rw [Exp.cs, expsV_eq, decsV_eq]; rfl
theorem Fn.cs_eq (p : Fn) : p.cs = [txt p.s, patsR p.p, i64 p.b.k, i64 p.b.n, txt p.b.s, expsR p.b.l, patsR p.b.p, decsR p.b.d] := by cases p; rw [Fn.cs, Exp.cs_eq]; rfl
theorem Dec.cs_eq (p : Dec) : p.cs = [i64 p.k, i64 p.p.k, i64 p.p.n, txt p.p.s, patsR p.p.l, i64 p.e.k, i64 p.e.n, txt p.e.s, expsR p.e.l, patsR p.e.p, decsR p.e.d, fnsR p.f, strsR p.x.vars, txt p.x.s, consR p.x.cons, txt p.c.s, tysR p.c.arg] := by cases p; rw [Dec.cs, Exp.cs_eq, Pat.cs_eq, fnsV_eq]; rfl
theorem Pat.v_eq (p : Pat) : p.v = .agg ⟨[i64 p.k, i64 p.n, txt p.s, patsR p.l]⟩ := by rw [Pat.v, Pat.cs_eq]
theorem TyS.v_eq (p : TyS) : p.v = .agg ⟨[i64 p.k, txt p.s, tysR p.l]⟩ := by rw [TyS.v, TyS.cs_eq]
theorem Exp.v_eq (p : Exp) : p.v = .agg ⟨[i64 p.k, i64 p.n, txt p.s, expsR p.l, patsR p.p, decsR p.d]⟩ := by rw [Exp.v, Exp.cs_eq]
theorem Fn.v_eq (p : Fn) : p.v = .agg ⟨[txt p.s, patsR p.p, i64 p.b.k, i64 p.b.n, txt p.b.s, expsR p.b.l, patsR p.b.p, decsR p.b.d]⟩ := by rw [Fn.v, Fn.cs_eq]
theorem Con.v_eq (p : Con) : p.v = .agg ⟨[txt p.s, tysR p.arg]⟩ := rfl
theorem Data.v_eq (p : Data) : p.v = .agg ⟨[strsR p.vars, txt p.s, consR p.cons]⟩ := rfl
theorem Dec.v_eq (p : Dec) : p.v = .agg ⟨[i64 p.k, i64 p.p.k, i64 p.p.n, txt p.p.s, patsR p.p.l, i64 p.e.k, i64 p.e.n, txt p.e.s, expsR p.e.l, patsR p.e.p, decsR p.e.d, fnsR p.f, strsR p.x.vars, txt p.x.s, consR p.x.cons, txt p.c.s, tysR p.c.arg]⟩ := by rw [Dec.v, Dec.cs_eq]
/-! from parts to all -/
theorem Pat.ind {p : Pat → Prop} (h : ∀ t : Pat, (∀ c, c ∈ t.l → p c) → p t) (t : Pat) : p t :=
  Pat.rec (motive_1 := p) (motive_2 := fun l => ∀ c, c ∈ l → p c) (fun k n s l h1 => h _ h1) (fun c hc => nomatch hc) (fun a l h1 h2 c hc => (List.mem_cons.1 hc).elim (fun e => e ▸ h1) (h2 c)) t
theorem TyS.ind {p : TyS → Prop} (h : ∀ t : TyS, (∀ c, c ∈ t.l → p c) → p t) (t : TyS) : p t :=
  TyS.rec (motive_1 := p) (motive_2 := fun l => ∀ c, c ∈ l → p c) (fun k s l h1 => h _ h1) (fun c hc => nomatch hc) (fun a l h1 h2 c hc => (List.mem_cons.1 hc).elim (fun e => e ▸ h1) (h2 c)) t
theorem Exp.ind {p : Exp → Prop} {q : Dec → Prop} (h : ∀ t : Exp, (∀ c, c ∈ t.l → p c) → (∀ c, c ∈ t.d → q c) → p t) (h' : ∀ t : Dec, p t.e → (∀ f, f ∈ t.f → p f.b) → q t) (t : Exp) : p t :=
  Exp.rec (motive_1 := p) (motive_2 := q) (motive_3 := fun f => p f.b) (motive_4 := fun l => ∀ c, c ∈ l → p c) (motive_5 := fun l => ∀ c, c ∈ l → q c) (motive_6 := fun l => ∀ f, f ∈ l → p f.b)
    (fun k n s l pt d h1 h2 => h _ h1 h2) (fun k pt e f x c h1 h2 => h' _ h1 h2) (fun s pt b h1 => h1)
    (fun c hc => nomatch hc) (fun a l h1 h2 c hc => (List.mem_cons.1 hc).elim (fun e => e ▸ h1) (h2 c))
    (fun c hc => nomatch hc) (fun a l h1 h2 c hc => (List.mem_cons.1 hc).elim (fun e => e ▸ h1) (h2 c))
    (fun c hc => nomatch hc) (fun a l h1 h2 c hc => (List.mem_cons.1 hc).elim (fun e => e ▸ h1) (h2 c)) t
theorem Dec.ind {p : Exp → Prop} {q : Dec → Prop} (h : ∀ t : Exp, (∀ c, c ∈ t.l → p c) → (∀ c, c ∈ t.d → q c) → p t) (h' : ∀ t : Dec, p t.e → (∀ f, f ∈ t.f → p f.b) → q t) (t : Dec) : q t := h' t (Exp.ind h h' _) fun f _ => Exp.ind h h' _
/-! what is not too large -/
abbrev big : Nat := 1125899906842624
abbrev sOk (s : List UInt8) : Prop := s.length < 140737488355328
abbrev rg (n : Int) : Prop := -9223372036854775808 ≤ n ∧ n < 9223372036854775808
mutual
def Pat.ok : Pat → Prop
  | .mk k n s l => rg n ∧ sOk s ∧ l.length < big ∧ patsOk l
def patsOk : List Pat → Prop
  | [] => True
  | p :: l => p.ok ∧ patsOk l
end
mutual
def TyS.ok : TyS → Prop
  | .mk k s l => sOk s ∧ l.length < big ∧ tysOk l
def tysOk : List TyS → Prop
  | [] => True
  | p :: l => p.ok ∧ tysOk l
end
def Con.ok (c : Con) : Prop := sOk c.s ∧ c.arg.length < big ∧ ∀ t, t ∈ c.arg → t.ok
def Data.ok (x : Data) : Prop := (x.vars.length < big ∧ ∀ s, s ∈ x.vars → sOk s) ∧ sOk x.s ∧ x.cons.length < big ∧ ∀ c, c ∈ x.cons → c.ok
mutual
def Exp.ok : Exp → Prop
  | .mk k n s l p d => rg n ∧ sOk s ∧ (l.length < big ∧ expsOk l) ∧ (p.length < big ∧ ∀ q, q ∈ p → q.ok) ∧ d.length < big ∧ decsOk d
def Dec.ok : Dec → Prop
  | .mk k p e f x c => p.ok ∧ e.ok ∧ (f.length < big ∧ fnsOk f) ∧ x.ok ∧ c.ok
def Fn.ok : Fn → Prop
  | .mk s p b => sOk s ∧ (p.length < big ∧ ∀ q, q ∈ p → q.ok) ∧ b.ok
def expsOk : List Exp → Prop
  | [] => True
  | p :: l => p.ok ∧ expsOk l
def decsOk : List Dec → Prop
  | [] => True
  | p :: l => p.ok ∧ decsOk l
def fnsOk : List Fn → Prop
  | [] => True
  | p :: l => p.ok ∧ fnsOk l
end
theorem patsOk_iff (l : List Pat) : patsOk l ↔ ∀ c, c ∈ l → c.ok := by
  induction l with
  | nil => simp [patsOk]
  | cons s l ih => simp [patsOk, ih]
theorem tysOk_iff (l : List TyS) : tysOk l ↔ ∀ c, c ∈ l → c.ok := by
  induction l with
  | nil => simp [tysOk]
  | cons s l ih => simp [tysOk, ih]
theorem expsOk_iff (l : List Exp) : expsOk l ↔ ∀ c, c ∈ l → c.ok := by
  induction l with
  | nil => simp [expsOk]
  | cons s l ih => simp [expsOk, ih]
theorem decsOk_iff (l : List Dec) : decsOk l ↔ ∀ c, c ∈ l → c.ok := by
  induction l with
  | nil => simp [decsOk]
  | cons s l ih => simp [decsOk, ih]
theorem fnsOk_iff (l : List Fn) : fnsOk l ↔ ∀ c, c ∈ l → c.ok := by
  induction l with
  | nil => simp [fnsOk]
  | cons s l ih => simp [fnsOk, ih]
theorem Pat.ok_iff (p : Pat) : p.ok ↔ rg p.n ∧ sOk p.s ∧ p.l.length < big ∧ ∀ c, c ∈ p.l → c.ok := by cases p; rw [Pat.ok, patsOk_iff]; rfl
theorem TyS.ok_iff (p : TyS) : p.ok ↔ sOk p.s ∧ p.l.length < big ∧ ∀ c, c ∈ p.l → c.ok := by cases p; rw [TyS.ok, tysOk_iff]; rfl
theorem Exp.ok_iff (p : Exp) : p.ok ↔ rg p.n ∧ sOk p.s ∧ (p.l.length < big ∧ ∀ c, c ∈ p.l → c.ok) ∧ (p.p.length < big ∧ ∀ c, c ∈ p.p → c.ok) ∧ p.d.length < big ∧ ∀ c, c ∈ p.d → c.ok := by cases p; rw [Exp.ok, expsOk_iff, decsOk_iff]; rfl
theorem Dec.ok_iff (p : Dec) : p.ok ↔ p.p.ok ∧ p.e.ok ∧ (p.f.length < big ∧ ∀ c, c ∈ p.f → c.ok) ∧ p.x.ok ∧ p.c.ok := by cases p; rw [Dec.ok, fnsOk_iff]; rfl
theorem Fn.ok_iff (p : Fn) : p.ok ↔ sOk p.s ∧ (p.p.length < big ∧ ∀ c, c ∈ p.p → c.ok) ∧ p.b.ok := by cases p; rw [Fn.ok]; rfl
end
end Go.Proofs.YthjhonhhbddhkaaGreatDoor
/- Parts of trees. -/
namespace Go.Proofs.YthjhonhhbddhkaaGreatDoor
open Go.Ev Go.RowKit
noncomputable section
set_option maxRecDepth 100000
set_option linter.unusedVariables false
set_option linter.unusedSimpArgs false
theorem fExp_0 (e : Exp) : rdFieldAddr P 44 (some (eptrV e.v)) 0 = some (eptrV (i64 e.k)) := by rw [Exp.v_eq]; kernel_rfl
theorem fExp_1 (e : Exp) : rdFieldAddr P 44 (some (eptrV e.v)) 1 = some (eptrV (i64 e.n)) := by rw [Exp.v_eq]; kernel_rfl
theorem fExp_2 (e : Exp) : rdFieldAddr P 44 (some (eptrV e.v)) 2 = some (eptrV (txt e.s)) := by rw [Exp.v_eq]; kernel_rfl
theorem fExp_3 (e : Exp) : rdFieldAddr P 44 (some (eptrV e.v)) 3 = some (eptrV (expsR e.l)) := by rw [Exp.v_eq]; kernel_rfl
theorem fExp_4 (e : Exp) : rdFieldAddr P 44 (some (eptrV e.v)) 4 = some (eptrV (patsR e.p)) := by rw [Exp.v_eq]; kernel_rfl
theorem fExp_5 (e : Exp) : rdFieldAddr P 44 (some (eptrV e.v)) 5 = some (eptrV (decsR e.d)) := by rw [Exp.v_eq]; kernel_rfl
theorem lExp (H : T OB) (e : Exp) : rdLoad P H 44 (some (eptrV e.v)) = some e.v := by rw [Exp.v_eq]; kernel_rfl
theorem nExp (e : Exp) : e.v.cells.toList.length = 6 := by rw [Exp.v_eq]; rfl
theorem oExp (e : Exp) : e.v.cells.toList.all oneCell = true := by rw [Exp.v_eq]; rfl
theorem fDec_0 (e : Dec) : rdFieldAddr P 57 (some (eptrV e.v)) 0 = some (eptrV (i64 e.k)) := by rw [Dec.v_eq]; kernel_rfl
theorem fDec_1 (e : Dec) : rdFieldAddr P 57 (some (eptrV e.v)) 1 = some (eptrV (e.p.v)) := by rw [Dec.v_eq]; rw [Pat.v_eq]; kernel_rfl
theorem fDec_2 (e : Dec) : rdFieldAddr P 57 (some (eptrV e.v)) 2 = some (eptrV (e.e.v)) := by rw [Dec.v_eq]; rw [Exp.v_eq]; kernel_rfl
theorem fDec_3 (e : Dec) : rdFieldAddr P 57 (some (eptrV e.v)) 3 = some (eptrV (fnsR e.f)) := by rw [Dec.v_eq]; kernel_rfl
theorem fDec_4 (e : Dec) : rdFieldAddr P 57 (some (eptrV e.v)) 4 = some (eptrV (e.x.v)) := by rw [Dec.v_eq]; rw [Data.v_eq]; kernel_rfl
theorem fDec_5 (e : Dec) : rdFieldAddr P 57 (some (eptrV e.v)) 5 = some (eptrV (e.c.v)) := by rw [Dec.v_eq]; rw [Con.v_eq]; kernel_rfl
theorem lDec (H : T OB) (e : Dec) : rdLoad P H 57 (some (eptrV e.v)) = some e.v := by rw [Dec.v_eq]; kernel_rfl
theorem nDec (e : Dec) : e.v.cells.toList.length = 17 := by rw [Dec.v_eq]; rfl
theorem oDec (e : Dec) : e.v.cells.toList.all oneCell = true := by rw [Dec.v_eq]; rfl
theorem fFn_0 (e : Fn) : rdFieldAddr P 65 (some (eptrV e.v)) 0 = some (eptrV (txt e.s)) := by rw [Fn.v_eq]; kernel_rfl
theorem fFn_1 (e : Fn) : rdFieldAddr P 65 (some (eptrV e.v)) 1 = some (eptrV (patsR e.p)) := by rw [Fn.v_eq]; kernel_rfl
theorem fFn_2 (e : Fn) : rdFieldAddr P 65 (some (eptrV e.v)) 2 = some (eptrV (e.b.v)) := by rw [Fn.v_eq]; rw [Exp.v_eq]; kernel_rfl
theorem lFn (H : T OB) (e : Fn) : rdLoad P H 65 (some (eptrV e.v)) = some e.v := by rw [Fn.v_eq]; kernel_rfl
theorem nFn (e : Fn) : e.v.cells.toList.length = 8 := by rw [Fn.v_eq]; rfl
theorem oFn (e : Fn) : e.v.cells.toList.all oneCell = true := by rw [Fn.v_eq]; rfl
theorem fData_0 (e : Data) : rdFieldAddr P 52 (some (eptrV e.v)) 0 = some (eptrV (strsR e.vars)) := by rw [Data.v_eq]; kernel_rfl
theorem fData_1 (e : Data) : rdFieldAddr P 52 (some (eptrV e.v)) 1 = some (eptrV (txt e.s)) := by rw [Data.v_eq]; kernel_rfl
theorem fData_2 (e : Data) : rdFieldAddr P 52 (some (eptrV e.v)) 2 = some (eptrV (consR e.cons)) := by rw [Data.v_eq]; kernel_rfl
theorem lData (H : T OB) (e : Data) : rdLoad P H 52 (some (eptrV e.v)) = some e.v := by rw [Data.v_eq]; kernel_rfl
theorem nData (e : Data) : e.v.cells.toList.length = 3 := by rw [Data.v_eq]; rfl
theorem oData (e : Data) : e.v.cells.toList.all oneCell = true := by rw [Data.v_eq]; rfl
theorem fCon_0 (e : Con) : rdFieldAddr P 55 (some (eptrV e.v)) 0 = some (eptrV (txt e.s)) := by rw [Con.v_eq]; kernel_rfl
theorem fCon_1 (e : Con) : rdFieldAddr P 55 (some (eptrV e.v)) 1 = some (eptrV (tysR e.arg)) := by rw [Con.v_eq]; kernel_rfl
theorem lCon (H : T OB) (e : Con) : rdLoad P H 55 (some (eptrV e.v)) = some e.v := by rw [Con.v_eq]; kernel_rfl
theorem nCon (e : Con) : e.v.cells.toList.length = 2 := by rw [Con.v_eq]; rfl
theorem oCon (e : Con) : e.v.cells.toList.all oneCell = true := by rw [Con.v_eq]; rfl
theorem fPat_0 (e : Pat) : rdFieldAddr P 47 (some (eptrV e.v)) 0 = some (eptrV (i64 e.k)) := by rw [Pat.v_eq]; kernel_rfl
theorem fPat_1 (e : Pat) : rdFieldAddr P 47 (some (eptrV e.v)) 1 = some (eptrV (i64 e.n)) := by rw [Pat.v_eq]; kernel_rfl
theorem fPat_2 (e : Pat) : rdFieldAddr P 47 (some (eptrV e.v)) 2 = some (eptrV (txt e.s)) := by rw [Pat.v_eq]; kernel_rfl
theorem fPat_3 (e : Pat) : rdFieldAddr P 47 (some (eptrV e.v)) 3 = some (eptrV (patsR e.l)) := by rw [Pat.v_eq]; kernel_rfl
theorem lPat (H : T OB) (e : Pat) : rdLoad P H 47 (some (eptrV e.v)) = some e.v := by rw [Pat.v_eq]; kernel_rfl
theorem nPat (e : Pat) : e.v.cells.toList.length = 4 := by rw [Pat.v_eq]; rfl
theorem oPat (e : Pat) : e.v.cells.toList.all oneCell = true := by rw [Pat.v_eq]; rfl
theorem fTyS_0 (e : TyS) : rdFieldAddr P 138 (some (eptrV e.v)) 0 = some (eptrV (i64 e.k)) := by rw [TyS.v_eq]; kernel_rfl
theorem fTyS_1 (e : TyS) : rdFieldAddr P 138 (some (eptrV e.v)) 1 = some (eptrV (txt e.s)) := by rw [TyS.v_eq]; kernel_rfl
theorem fTyS_2 (e : TyS) : rdFieldAddr P 138 (some (eptrV e.v)) 2 = some (eptrV (tysR e.l)) := by rw [TyS.v_eq]; kernel_rfl
theorem lTyS (H : T OB) (e : TyS) : rdLoad P H 138 (some (eptrV e.v)) = some e.v := by rw [TyS.v_eq]; kernel_rfl
theorem nTyS (e : TyS) : e.v.cells.toList.length = 3 := by rw [TyS.v_eq]; rfl
theorem oTyS (e : TyS) : e.v.cells.toList.all oneCell = true := by rw [TyS.v_eq]; rfl
/-- What the parts of trees are. -/
theorem sttF : type_of% (And.intro @fExp_0 (And.intro @fExp_1 (And.intro @fExp_2 (And.intro @fExp_3 (And.intro @fExp_4 (And.intro @fExp_5 (And.intro @lExp (And.intro @fDec_0 (And.intro @fDec_1 (And.intro @fDec_2 (And.intro @fDec_3 (And.intro @fDec_4 (And.intro @fDec_5 (And.intro @lDec (And.intro @fFn_0 (And.intro @fFn_1 (And.intro @fFn_2 (And.intro @lFn (And.intro @fData_0 (And.intro @fData_1 (And.intro @fData_2 (And.intro @lData (And.intro @fCon_0 (And.intro @fCon_1 (And.intro @lCon (And.intro @fPat_0 (And.intro @fPat_1 (And.intro @fPat_2 (And.intro @fPat_3 (And.intro @lPat (And.intro @fTyS_0 (And.intro @fTyS_1 (And.intro @fTyS_2 @lTyS))))))))))))))))))))))))))))))))) := And.intro @fExp_0 (And.intro @fExp_1 (And.intro @fExp_2 (And.intro @fExp_3 (And.intro @fExp_4 (And.intro @fExp_5 (And.intro @lExp (And.intro @fDec_0 (And.intro @fDec_1 (And.intro @fDec_2 (And.intro @fDec_3 (And.intro @fDec_4 (And.intro @fDec_5 (And.intro @lDec (And.intro @fFn_0 (And.intro @fFn_1 (And.intro @fFn_2 (And.intro @lFn (And.intro @fData_0 (And.intro @fData_1 (And.intro @fData_2 (And.intro @lData (And.intro @fCon_0 (And.intro @fCon_1 (And.intro @lCon (And.intro @fPat_0 (And.intro @fPat_1 (And.intro @fPat_2 (And.intro @fPat_3 (And.intro @lPat (And.intro @fTyS_0 (And.intro @fTyS_1 (And.intro @fTyS_2 @lTyS))))))))))))))))))))))))))))))))
end
end Go.Proofs.YthjhonhhbddhkaaGreatDoor
/- How deep trees are: the answers of both. -/
namespace Go.Proofs.YthjhonhhbddhkaaGreatDoor
open Go.Ev Go.RowKit
noncomputable section
set_option maxRecDepth 100000
set_option linter.unusedVariables false
set_option linter.unusedSimpArgs false
variable {nx0 : Nat} {H0 : T OB}
def mx (a b : Int) : Int := if b > a then b else a
theorem mx_max (ts : Array TypeId) (t : TypeId) (a b : Int) : bltV P .max ts t (some [.int .i64 a, .int .i64 b]) = some (i64 (mx a b)) := max_int ts t a b
mutual
def patD : Pat → Int
  | .mk _ _ _ l => w (patsD l 0 + 1)
def patsD : List Pat → Int → Int
  | [], n => n
  | p :: l, n => patsD l (mx n (patD p))
end
mutual
def tyD : TyS → Int
  | .mk _ _ l => w (tysD l 0 + 1)
def tysD : List TyS → Int → Int
  | [], n => n
  | p :: l, n => tysD l (mx n (tyD p))
end
def consD : List Con → Int → Int
  | [], n => n
  | c :: l, n => consD l (tysD c.arg n)
mutual
def expD : Exp → Int
  | .mk _ _ _ l p d => w (patsD p (expsD l (decsD d 0)) + 1)
def inD : Dec → Int
  | .mk k p e f x c => if k = 1 then mx (patD p) (expD e) else if k = 5 then expD e else if k = 2 then fnsD f 0 else if k = 3 then consD x.cons 0 else if k = 4 then tysD c.arg 0 else 0
def fnD : Fn → Int → Int
  | .mk _ p b, n => patsD p (mx n (expD b))
def expsD : List Exp → Int → Int
  | [], n => n
  | e :: l, n => expsD l (mx n (expD e))
def decsD : List Dec → Int → Int
  | [], n => n
  | d :: l, n => decsD l (mx n (w (inD d + 1)))
def fnsD : List Fn → Int → Int
  | [], n => n
  | f :: l, n => fnsD l (fnD f n)
end
theorem patD_eq (p : Pat) : patD p = w (patsD p.l 0 + 1) := by cases p; rw [patD]; rfl
theorem tyD_eq (p : TyS) : tyD p = w (tysD p.l 0 + 1) := by cases p; rw [tyD]; rfl
theorem expD_eq (p : Exp) : expD p = w (patsD p.p (expsD p.l (decsD p.d 0)) + 1) := by cases p; rw [expD]; rfl
theorem inD_eq (d : Dec) : inD d = if d.k = 1 then mx (patD d.p) (expD d.e) else if d.k = 5 then expD d.e else if d.k = 2 then fnsD d.f 0 else if d.k = 3 then consD d.x.cons 0 else if d.k = 4 then tysD d.c.arg 0 else 0 := by cases d; rw [inD]; rfl
theorem fnD_eq (f : Fn) (n : Int) : fnD f n = patsD f.p (mx n (expD f.b)) := by cases f; rw [fnD]; rfl
theorem sm_lt {n : Nat} (h : n < big) : n < 9223372036854775807 := Nat.lt_trans h (by decide)
theorem pu_48 (a b : Int) : P0 48 [i64 a, i64 b] (i64 (mx a b)) := Pure.of rfl fun H nx => by
  rw [q48]
  simp only [stpF, cond_true, cond_false, eq_self, List.length_nil, Int.reduceEq, Int.reduceLT, Int.reduceLE]
  unfold mx
  refine Wq.ite (fun h => ?_) (fun h => ?_)
  · rw [if_neg (by omega)]; exact Wq.ret (.refl _ _)
  · by_cases h2 : b > a
    · rw [if_pos h2]; exact Wq.ret (.refl _ _)
    · rw [if_neg h2]; exact Wq.retE (by rw [show b = a by omega]) (.refl _ _)
theorem w_93_9 (e : Pat) (hl : e.l.length < big) (ih : ∀ c, c ∈ e.l → P0 93 [c.v] (i64 (patD c))) (s : Int) (H : T OB) (nx : Nat) (hA : Ag nx0 H0 nx H) : Wq P pl X0 (.jump (l93_9 (eptrV e.v) (i64 s) (i64 ((0 : Nat) : Int)) H nx)) nx0 H0 (i64 (w (patsD (e.l) s + 1))) :=
  Wq.each (e.l) (fun i s H nx => .jump (l93_9 (eptrV e.v) (i64 s) (i64 (i : Int)) H nx)) (fun t s => i64 (w (patsD t s + 1))) (fun s H1 nx1 hA1 => by
    refine Wq.jmp (q93_9 ..) (fun _ => rfl) ?_
    simp only [stpF, cond_true, cond_false, eq_self, List.length_nil, Int.reduceEq, Int.reduceLT, Int.reduceLE, sttF, List.length_map, not_lt_len]
    exact Wq.retE (by rw [Int.add_comm, patsD]) hA1) (fun i a t s H1 nx1 hg hlt hd hA1 ih' => by
    have hg' : ((e.l).map Pat.v)[i]? = some (Pat.v a) := by simp [hg]
    have hm := List.mem_of_getElem? hg
    refine Wq.jmp (q93_9 ..) (fun _ => rfl) ?_
    simp only [stpF, cond_true, cond_false, eq_self, List.length_nil, Int.reduceEq, Int.reduceLT, Int.reduceLE, sttF, List.length_map, is_lt_len hlt, ix_42 hg']
    refine Wq.call (ih a hm) hA1 fun H2 nx2 hA2 => ?_
    refine Wq.call (pu_48 _ _) hA2 fun H3 nx3 hA3 => ?_
    simp only [stpF, cond_true, cond_false, eq_self, List.length_nil, Int.reduceEq, Int.reduceLT, Int.reduceLE, wrap_succ (show i < 9223372036854775807 by have := sm_lt hl; omega)]
    exact ih' _ _ _ hA3) s H nx hA
theorem pu_93 (e : Pat) (h : e.ok) : P0 93 [e.v] (i64 (patD e)) := by
  refine Pat.ind (p := fun e => e.ok → P0 93 [e.v] (i64 (patD e))) (fun e ih h => ?_) e h
  rw [Pat.ok_iff] at h
  refine Pure.of rfl fun H nx => ?_
  rw [q93]
  refine Wq.natF' (.refl _ _) fun hA => ?_
  rw [patD_eq]
  exact w_93_9 e h.2.2.1 (fun c hc => ih c hc (h.2.2.2 c hc)) 0 H _ hA
theorem w_96_9 (l : List Pat) (hl : l.length < big) (ih : ∀ c, c ∈ l → P0 96 [c.v] (i64 (patD c))) (s : Int) (H : T OB) (nx : Nat) (hA : Ag nx0 H0 nx H) : Wq P pl X0 (.jump (l96_9 (i64 s) (patsR l) (i64 (l.length : Int)) (i64 ((0 : Nat) : Int)) H nx)) nx0 H0 (i64 (w (patsD (l) s + 1))) :=
  Wq.each (l) (fun i s H nx => .jump (l96_9 (i64 s) (patsR l) (i64 (l.length : Int)) (i64 (i : Int)) H nx)) (fun t s => i64 (w (patsD t s + 1))) (fun s H1 nx1 hA1 => by
    refine Wq.jmp (q96_9 ..) (fun _ => rfl) ?_
    simp only [stpF, cond_true, cond_false, eq_self, List.length_nil, Int.reduceEq, Int.reduceLT, Int.reduceLE, sttF, List.length_map, not_lt_len]
    exact Wq.ret hA1) (fun i a t s H1 nx1 hg hlt hd hA1 ih' => by
    have hg' : ((l).map Pat.v)[i]? = some (Pat.v a) := by simp [hg]
    have hm := List.mem_of_getElem? hg
    refine Wq.jmp (q96_9 ..) (fun _ => rfl) ?_
    simp only [stpF, cond_true, cond_false, eq_self, List.length_nil, Int.reduceEq, Int.reduceLT, Int.reduceLE, sttF, List.length_map, is_lt_len hlt, ix_42 hg']
    refine Wq.var zero_47 sz_47 rfl (nPat _) (oPat _) hA1 fun H2 nx2 hA2 => ?_
    refine Wq.call (ih a hm) hA2 fun H3 nx3 hA3 => ?_
    simp only [stpF, cond_true, cond_false, eq_self, List.length_nil, Int.reduceEq, Int.reduceLT, Int.reduceLE, mx_max]
    simp only [stpF, cond_true, cond_false, eq_self, List.length_nil, Int.reduceEq, Int.reduceLT, Int.reduceLE, wrap_succ (show i < 9223372036854775807 by have := sm_lt hl; omega)]
    exact ih' _ _ _ hA3) s H nx hA
theorem pu_96 (e : Pat) (h : e.ok) : P0 96 [e.v] (i64 (patD e)) := by
  refine Pat.ind (p := fun e => e.ok → P0 96 [e.v] (i64 (patD e))) (fun e ih h => ?_) e h
  rw [Pat.ok_iff] at h
  refine Pure.of rfl fun H nx => ?_
  rw [q96]
  refine Wq.natF' (.refl _ _) fun hA => ?_
  simp only [stpF, cond_true, cond_false, eq_self, List.length_nil, Int.reduceEq, Int.reduceLT, Int.reduceLE, sttF, List.length_map]
  rw [patD_eq]
  exact w_96_9 e.l h.2.2.1 (fun c hc => ih c hc (h.2.2.2 c hc)) 0 H _ hA
theorem w_95_9 (e : TyS) (hl : e.l.length < big) (ih : ∀ c, c ∈ e.l → P0 95 [c.v] (i64 (tyD c))) (s : Int) (H : T OB) (nx : Nat) (hA : Ag nx0 H0 nx H) : Wq P pl X0 (.jump (l95_9 (eptrV e.v) (i64 s) (i64 ((0 : Nat) : Int)) H nx)) nx0 H0 (i64 (w (tysD (e.l) s + 1))) :=
  Wq.each (e.l) (fun i s H nx => .jump (l95_9 (eptrV e.v) (i64 s) (i64 (i : Int)) H nx)) (fun t s => i64 (w (tysD t s + 1))) (fun s H1 nx1 hA1 => by
    refine Wq.jmp (q95_9 ..) (fun _ => rfl) ?_
    simp only [stpF, cond_true, cond_false, eq_self, List.length_nil, Int.reduceEq, Int.reduceLT, Int.reduceLE, sttF, List.length_map, not_lt_len]
    exact Wq.retE (by rw [Int.add_comm, tysD]) hA1) (fun i a t s H1 nx1 hg hlt hd hA1 ih' => by
    have hg' : ((e.l).map TyS.v)[i]? = some (TyS.v a) := by simp [hg]
    have hm := List.mem_of_getElem? hg
    refine Wq.jmp (q95_9 ..) (fun _ => rfl) ?_
    simp only [stpF, cond_true, cond_false, eq_self, List.length_nil, Int.reduceEq, Int.reduceLT, Int.reduceLE, sttF, List.length_map, is_lt_len hlt, ix_53 hg']
    refine Wq.call (ih a hm) hA1 fun H2 nx2 hA2 => ?_
    refine Wq.call (pu_48 _ _) hA2 fun H3 nx3 hA3 => ?_
    simp only [stpF, cond_true, cond_false, eq_self, List.length_nil, Int.reduceEq, Int.reduceLT, Int.reduceLE, wrap_succ (show i < 9223372036854775807 by have := sm_lt hl; omega)]
    exact ih' _ _ _ hA3) s H nx hA
theorem pu_95 (e : TyS) (h : e.ok) : P0 95 [e.v] (i64 (tyD e)) := by
  refine TyS.ind (p := fun e => e.ok → P0 95 [e.v] (i64 (tyD e))) (fun e ih h => ?_) e h
  rw [TyS.ok_iff] at h
  refine Pure.of rfl fun H nx => ?_
  rw [q95]
  refine Wq.natF' (.refl _ _) fun hA => ?_
  rw [tyD_eq]
  exact w_95_9 e h.2.1 (fun c hc => ih c hc (h.2.2 c hc)) 0 H _ hA
theorem w_98_9 (l : List TyS) (hl : l.length < big) (ih : ∀ c, c ∈ l → P0 98 [c.v] (i64 (tyD c))) (s : Int) (H : T OB) (nx : Nat) (hA : Ag nx0 H0 nx H) : Wq P pl X0 (.jump (l98_9 (i64 s) (tysR l) (i64 (l.length : Int)) (i64 ((0 : Nat) : Int)) H nx)) nx0 H0 (i64 (w (tysD (l) s + 1))) :=
  Wq.each (l) (fun i s H nx => .jump (l98_9 (i64 s) (tysR l) (i64 (l.length : Int)) (i64 (i : Int)) H nx)) (fun t s => i64 (w (tysD t s + 1))) (fun s H1 nx1 hA1 => by
    refine Wq.jmp (q98_9 ..) (fun _ => rfl) ?_
    simp only [stpF, cond_true, cond_false, eq_self, List.length_nil, Int.reduceEq, Int.reduceLT, Int.reduceLE, sttF, List.length_map, not_lt_len]
    exact Wq.ret hA1) (fun i a t s H1 nx1 hg hlt hd hA1 ih' => by
    have hg' : ((l).map TyS.v)[i]? = some (TyS.v a) := by simp [hg]
    have hm := List.mem_of_getElem? hg
    refine Wq.jmp (q98_9 ..) (fun _ => rfl) ?_
    simp only [stpF, cond_true, cond_false, eq_self, List.length_nil, Int.reduceEq, Int.reduceLT, Int.reduceLE, sttF, List.length_map, is_lt_len hlt, ix_53 hg']
    refine Wq.var zero_138 sz_138 rfl (nTyS _) (oTyS _) hA1 fun H2 nx2 hA2 => ?_
    refine Wq.call (ih a hm) hA2 fun H3 nx3 hA3 => ?_
    simp only [stpF, cond_true, cond_false, eq_self, List.length_nil, Int.reduceEq, Int.reduceLT, Int.reduceLE, mx_max]
    simp only [stpF, cond_true, cond_false, eq_self, List.length_nil, Int.reduceEq, Int.reduceLT, Int.reduceLE, wrap_succ (show i < 9223372036854775807 by have := sm_lt hl; omega)]
    exact ih' _ _ _ hA3) s H nx hA
theorem pu_98 (e : TyS) (h : e.ok) : P0 98 [e.v] (i64 (tyD e)) := by
  refine TyS.ind (p := fun e => e.ok → P0 98 [e.v] (i64 (tyD e))) (fun e ih h => ?_) e h
  rw [TyS.ok_iff] at h
  refine Pure.of rfl fun H nx => ?_
  rw [q98]
  refine Wq.natF' (.refl _ _) fun hA => ?_
  simp only [stpF, cond_true, cond_false, eq_self, List.length_nil, Int.reduceEq, Int.reduceLT, Int.reduceLE, sttF, List.length_map]
  rw [tyD_eq]
  exact w_98_9 e.l h.2.1 (fun c hc => ih c hc (h.2.2 c hc)) 0 H _ hA
theorem Wq.base {nx1 : Nat} {H1 : T OB} {q : Q} {v : Value} (hA : Ag nx0 H0 nx1 H1) (h : Wq P pl X0 q nx1 H1 v) : Wq P pl X0 q nx0 H0 v := by
  obtain ⟨u, H', nx', h1, h2, h3⟩ := h
  exact ⟨u, H', nx', hA.trans h1, h2, h3⟩
theorem w_49_53 (v : Value) (k : Nat) (hk : k < big) (l : List TyS) (hl : l.length < big) (hok : ∀ c, c ∈ l → c.ok) (hv : ∀ nx2 H2, Ag nx0 H0 nx2 H2 → ∃ p x, rdIndexAddr P 50 (some v) (some (i64 (k : Int))) = some p ∧ rdFieldAddr P 55 (some p) 1 = some x ∧ rdLoad P H2 53 (some x) = some (tysR l)) (R : Int → Value)
    (hc : ∀ s H nx, Ag nx0 H0 nx H → Wq P pl X0 (.jump (l49_47 (i64 s) v (i64 ((k + 1 : Nat) : Int)) H nx)) nx0 H0 (R s)) (s : Int) (H : T OB) (nx : Nat) (hA : Ag nx0 H0 nx H) : Wq P pl X0 (.jump (l49_53 (i64 s) v (i64 (k : Int)) (i64 ((0 : Nat) : Int)) H nx)) nx0 H0 (R (tysD l s)) :=
  Wq.each l (fun i s H nx => .jump (l49_53 (i64 s) v (i64 (k : Int)) (i64 (i : Int)) H nx)) (fun t s => R (tysD t s)) (fun s H1 nx1 hA1 => by
    obtain ⟨p, x, h1, h2, h3⟩ := hv nx1 H1 hA1
    refine Wq.jmp (q49_53 ..) (fun _ => rfl) ?_
    simp only [stpF, cond_true, cond_false, eq_self, List.length_nil, Int.reduceEq, Int.reduceLT, Int.reduceLE, sttF, List.length_map, h1, h2, h3, not_lt_len, wrap_succ (show k < 9223372036854775807 by have := sm_lt hk; omega)]
    exact hc s H1 nx1 hA1) (fun i a t s H1 nx1 hg hlt hd hA1 ih' => by
    have hg' : (l.map TyS.v)[i]? = some a.v := by simp [hg]
    have hm := List.mem_of_getElem? hg
    obtain ⟨p, x, h1, h2, h3⟩ := hv nx1 H1 hA1
    refine Wq.jmp (q49_53 ..) (fun _ => rfl) ?_
    simp only [stpF, cond_true, cond_false, eq_self, List.length_nil, Int.reduceEq, Int.reduceLT, Int.reduceLE, sttF, List.length_map, h1, h2, h3, is_lt_len hlt, ix_53 hg']
    refine Wq.call (pu_95 a (hok a hm)) hA1 fun H2 nx2 hA2 => ?_
    refine Wq.call (pu_48 _ _) hA2 fun H3 nx3 hA3 => ?_
    simp only [stpF, cond_true, cond_false, eq_self, List.length_nil, Int.reduceEq, Int.reduceLT, Int.reduceLE, wrap_succ (show i < 9223372036854775807 by have := sm_lt hl; omega)]
    exact ih' _ _ _ hA3) s H nx hA
theorem fl_55 (a b : Value) : Instr.fill (fun i => some (i * 2, 2)) (zeroRow [Value.string ⟨⟨[]⟩⟩, Value.slice none 0 0] (1 * 2)) [(0, .agg ⟨[a, b]⟩)] = some ⟨[a, b]⟩ := by kernel_rfl
theorem ix_50_0 (b : Nat) : rdIndexAddr P 50 (some (.slice (some ⟨b, 0, none⟩) 1 1)) (some (i64 ((0 : Nat) : Int))) = some (.pointer (some ⟨b, 0 + 0 * 2, none⟩)) := rdIndex_sl (by kernel_rfl) (by omega) .i64
theorem pu_49 (d : Dec) (h : d.ok) (hE : P0 94 [d.e.v] (i64 (expD d.e))) (hF : ∀ f, f ∈ d.f → P0 94 [f.b.v] (i64 (expD f.b))) : P0 49 [d.v] (i64 (inD d)) := Pure.of rfl fun H nx => by
  rw [Dec.ok_iff] at h
  obtain ⟨hp, he, ⟨hfl, hf⟩, hx, hc⟩ := h
  rw [q49]
  refine Wq.natF' (.refl _ _) fun hA => ?_
  have L58 : ∀ (n : Int) H1 nx1, Ag nx H nx1 H1 → Wq P pl X0 (.jump (l49_58 (i64 n) H1 nx1)) nx H (i64 n) := fun n H1 nx1 hA1 => by
    refine Wq.jmp (q49_58 ..) (fun _ => rfl) ?_
    exact Wq.ret hA1
  have L12 : ∀ (v : Value) (H1 : T OB) (nx1 : Nat), d.k ≠ 4 → v = consR d.x.cons → Ag nx H nx1 H1 → Wq P pl X0 (.jump (l49_12 (eptrV d.v) (i64 0) v H1 nx1)) nx H (i64 (inD d)) := by
    intro v H1 nx1 h4 hv hA1
    subst hv
    rw [inD_eq]
    refine Wq.jmp (q49_12 ..) (fun _ => rfl) ?_
    simp only [stpF, cond_true, cond_false, eq_self, List.length_nil, Int.reduceEq, Int.reduceLT, Int.reduceLE, sttF, List.length_map]
    refine Wq.ite (fun h1 => ?_) (fun h1 => ?_)
    · rw [if_pos h1]
      refine Wq.call (pu_93 _ hp) hA1 fun H2 nx2 hA2 => ?_
      refine Wq.call hE hA2 fun H3 nx3 hA3 => ?_
      refine Wq.call (pu_48 _ _) hA3 fun H4 nx4 hA4 => ?_
      exact L58 _ _ _ hA4
    rw [if_neg h1]
    refine Wq.ite (fun h5 => ?_) (fun h5 => ?_)
    · rw [if_pos h5]
      refine Wq.call hE hA1 fun H3 nx3 hA3 => ?_
      exact L58 _ _ _ hA3
    rw [if_neg h5]
    refine Wq.ite (fun h2 => ?_) (fun h2 => ?_)
    · rw [if_pos h2]
      refine Wq.each (d.f) (fun i s H nx => .jump (l49_27 (eptrV d.v) (i64 s) (i64 (i : Int)) H nx)) (fun t s => i64 (fnsD t s)) (fun s0 H0 nx0 hA0 => ?_) (fun i0 a0 t0 s0 H0 nx0 hg0 hlt0 hd0 hA0 ih0 => ?_) (0) _ _ hA1
      · refine Wq.jmp (q49_27 ..) (fun _ => rfl) ?_
        simp only [stpF, cond_true, cond_false, eq_self, List.length_nil, Int.reduceEq, Int.reduceLT, Int.reduceLE, sttF, List.length_map, not_lt_len]
        exact Wq.ret hA0
      · have hx0 : ((d.f).map Fn.v)[i0]? = some (Fn.v a0) := by simp [hg0]
        have hm0 := List.mem_of_getElem? hg0
        refine Wq.jmp (q49_27 ..) (fun _ => rfl) ?_
        simp only [stpF, cond_true, cond_false, eq_self, List.length_nil, Int.reduceEq, Int.reduceLT, Int.reduceLE, sttF, List.length_map, is_lt_len hlt0, ix_48 hx0]
        refine Wq.call (hF a0 hm0) hA0 fun H2 nx2 hA2 => ?_
        refine Wq.call (pu_48 _ _) hA2 fun H3 nx3 hA3 => ?_
        have hpl := ((Fn.ok_iff a0).1 (hf a0 hm0)).2.1
        rw [fnsD, fnD_eq]
        refine Wq.each (a0.p) (fun i s H nx => .jump (l49_35 (eptrV d.v) (i64 s) (i64 (i0 : Int)) (i64 (i : Int)) H nx)) (fun t s => i64 (fnsD t0 (patsD t s))) (fun s8 H8 nx8 hA8 => ?_) (fun i8 a8 t8 s8 H8 nx8 hg8 hlt8 hd8 hA8 ih8 => ?_) (mx s0 (expD a0.b)) _ _ hA3
        · refine Wq.jmp (q49_35 ..) (fun _ => rfl) ?_
          simp only [stpF, cond_true, cond_false, eq_self, List.length_nil, Int.reduceEq, Int.reduceLT, Int.reduceLE, sttF, List.length_map, not_lt_len, ix_48 hx0]
          simp only [stpF, cond_true, cond_false, eq_self, List.length_nil, Int.reduceEq, Int.reduceLT, Int.reduceLE, wrap_succ (show i0 < 9223372036854775807 by have := sm_lt hfl; omega)]
          exact ih0 _ _ _ hA8
        · have hx8 : ((a0.p).map Pat.v)[i8]? = some (Pat.v a8) := by simp [hg8]
          have hm8 := List.mem_of_getElem? hg8
          refine Wq.jmp (q49_35 ..) (fun _ => rfl) ?_
          simp only [stpF, cond_true, cond_false, eq_self, List.length_nil, Int.reduceEq, Int.reduceLT, Int.reduceLE, sttF, List.length_map, is_lt_len hlt8, ix_42 hx8, ix_48 hx0]
          refine Wq.call (pu_93 a8 (hpl.2 a8 hm8)) hA8 fun H2 nx2 hA2 => ?_
          refine Wq.call (pu_48 _ _) hA2 fun H3 nx3 hA3 => ?_
          simp only [stpF, cond_true, cond_false, eq_self, List.length_nil, Int.reduceEq, Int.reduceLT, Int.reduceLE, wrap_succ (show i8 < 9223372036854775807 by have := sm_lt hpl.1; omega)]
          exact ih8 _ _ _ hA3
    rw [if_neg h2]
    have h4' : decide (d.k = 4) = false := by simp [h4]
    rw [h4']
    refine Wq.ite (fun h3 => ?_) (fun h3 => ?_)
    · rw [if_pos h3, show decide (d.k = 3) = true by simp [h3]]
      refine Wq.jmp (q49_44 ..) (fun _ => rfl) ?_
      simp only [stpF, cond_true, cond_false, eq_self, List.length_nil, Int.reduceEq, Int.reduceLT, Int.reduceLE]
      refine Wq.each (d.x.cons) (fun i s H nx => .jump (l49_47 (i64 s) (consR d.x.cons) (i64 (i : Int)) H nx)) (fun t s => i64 (consD t s)) (fun s0 H0 nx0 hA0 => ?_) (fun i0 a0 t0 s0 H0 nx0 hg0 hlt0 hd0 hA0 ih0 => ?_) (0) _ _ hA1
      · refine Wq.jmp (q49_47 ..) (fun _ => rfl) ?_
        simp only [stpF, cond_true, cond_false, eq_self, List.length_nil, Int.reduceEq, Int.reduceLT, Int.reduceLE, sttF, List.length_map, not_lt_len]
        exact Wq.ret hA0
      · have hx0 : ((d.x.cons).map Con.v)[i0]? = some (Con.v a0) := by simp [hg0]
        have hm0 := List.mem_of_getElem? hg0
        refine Wq.jmp (q49_47 ..) (fun _ => rfl) ?_
        simp only [stpF, cond_true, cond_false, eq_self, List.length_nil, Int.reduceEq, Int.reduceLT, Int.reduceLE, sttF, List.length_map, is_lt_len hlt0, ix_50 hx0]
        have hc0 := hx.2.2.2 a0 hm0
        rw [consD]
        refine w_49_53 _ _ (by have := hx.2.2.1; omega) a0.arg hc0.2.1 hc0.2.2 (fun nx2 H2 _ => ⟨_, _, ix_50 hx0 .i64, fCon_1 a0, ?_⟩) (fun s => i64 (consD t0 s)) ih0 _ _ _ hA0
        simp only [stpF, cond_true, cond_false, eq_self, List.length_nil, Int.reduceEq, Int.reduceLT, Int.reduceLE]
    · rw [if_neg h3, if_neg h4]
      refine Wq.jmp (q49_44 ..) (fun _ => rfl) ?_
      exact Wq.ret hA1
  simp only [stpF, cond_true, cond_false, eq_self, List.length_nil, Int.reduceEq, Int.reduceLT, Int.reduceLE, sttF, List.length_map]
  refine Wq.ite (fun h4 => ?_) (fun h4 => ?_)
  · rw [inD_eq, if_neg (by omega), if_neg (by omega), if_neg (by omega), if_neg (by omega), if_pos h4]
    rw [Con.v_eq]
    refine Wq.row und_50 sz_55 zero_55 rfl (fl_55 _ _) hA fun H2 hb2 _ hA2 => ?_
    refine Wq.jmp (q49_12 ..) (fun _ => rfl) ?_
    simp only [stpF, cond_true, cond_false, eq_self, List.length_nil, Int.reduceEq, Int.reduceLT, Int.reduceLE, sttF, List.length_map, h4]
    refine Wq.jmp (q49_44 ..) (fun _ => rfl) ?_
    simp only [stpF, cond_true, cond_false, eq_self, List.length_nil, Int.reduceEq, Int.reduceLT, Int.reduceLE]
    refine Wq.jmp (q49_47 ..) (fun _ => rfl) ?_
    simp only [stpF, cond_true, cond_false, eq_self, List.length_nil, Int.reduceEq, Int.reduceLT, Int.reduceLE]
    refine Wq.base hA2 ?_
    refine w_49_53 _ 0 (by decide) d.c.arg hc.2.1 hc.2.2 (fun nx3 H3 hA3 => ⟨_, _, ix_50_0 _, fpo_55_1 _ _, rdLoad_cell (hb2.ag hA3 (by omega)) agg_53 rfl⟩) i64 (fun s H nx hA => ?_) 0 _ _ (.refl _ _)
    refine Wq.jmp (q49_47 ..) (fun _ => rfl) ?_
    simp only [stpF, cond_true, cond_false, eq_self, List.length_nil, Int.reduceEq, Int.reduceLT, Int.reduceLE]
    exact Wq.ret hA
  · exact L12 _ _ _ h4 rfl hA
theorem pu_23 (l : List Dec) (hl : l.length < big) (ih : ∀ d, d ∈ l → P0 49 [d.v] (i64 (inD d))) : P0 23 [decsR l] (i64 (decsD l 0)) := Pure.of rfl fun H nx => by
  rw [q23]
  refine Wq.each (l) (fun i s H nx => .jump (l23_9 (decsR l) (i64 s) (i64 (i : Int)) H nx)) (fun t s => i64 (decsD t s)) (fun s0 H0 nx0 hA0 => ?_) (fun i0 a0 t0 s0 H0 nx0 hg0 hlt0 hd0 hA0 ih0 => ?_) (0) _ _ (.refl _ _)
  · refine Wq.jmp (q23_9 ..) (fun _ => rfl) ?_
    simp only [stpF, cond_true, cond_false, eq_self, List.length_nil, Int.reduceEq, Int.reduceLT, Int.reduceLE, sttF, List.length_map, not_lt_len]
    exact Wq.ret hA0
  · have hx0 : ((l).map Dec.v)[i0]? = some (Dec.v a0) := by simp [hg0]
    have hm0 := List.mem_of_getElem? hg0
    refine Wq.jmp (q23_9 ..) (fun _ => rfl) ?_
    simp only [stpF, cond_true, cond_false, eq_self, List.length_nil, Int.reduceEq, Int.reduceLT, Int.reduceLE, sttF, List.length_map, is_lt_len hlt0, ix_24 hx0]
    refine Wq.call (ih a0 hm0) hA0 fun H2 nx2 hA2 => ?_
    simp only [stpF, cond_true, cond_false, eq_self, List.length_nil, Int.reduceEq, Int.reduceLT, Int.reduceLE, Int.add_comm 1]
    refine Wq.call (pu_48 _ _) hA2 fun H3 nx3 hA3 => ?_
    rw [decsD]
    simp only [stpF, cond_true, cond_false, eq_self, List.length_nil, Int.reduceEq, Int.reduceLT, Int.reduceLE, wrap_succ (show i0 < 9223372036854775807 by have := sm_lt hl; omega)]
    exact ih0 _ _ _ hA3
theorem pu_94a (e : Exp) (h : e.ok) (h1 : ∀ c, c ∈ e.l → P0 94 [c.v] (i64 (expD c))) (h2 : ∀ d, d ∈ e.d → P0 49 [d.v] (i64 (inD d))) : P0 94 [e.v] (i64 (expD e)) := Pure.of rfl fun H nx => by
  rw [Exp.ok_iff] at h
  obtain ⟨hr, hs, ⟨hl, hl'⟩, ⟨hp, hp'⟩, hd, hd'⟩ := h
  rw [q94]
  refine Wq.natF' (.refl _ _) fun hA => ?_
  simp only [stpF, cond_true, cond_false, eq_self, List.length_nil, Int.reduceEq, Int.reduceLT, Int.reduceLE, sttF, List.length_map]
  refine Wq.call (pu_23 _ hd h2) hA fun H1 nx1 hA1 => ?_
  rw [expD_eq]
  refine Wq.each (e.l) (fun i s H nx => .jump (l94_9 (eptrV e.v) (i64 s) (i64 (i : Int)) H nx)) (fun t s => i64 (w (patsD e.p (expsD t s) + 1))) (fun s0 H0 nx0 hA0 => ?_) (fun i0 a0 t0 s0 H0 nx0 hg0 hlt0 hd0 hA0 ih0 => ?_) (decsD e.d 0) _ _ hA1
  · refine Wq.jmp (q94_9 ..) (fun _ => rfl) ?_
    simp only [stpF, cond_true, cond_false, eq_self, List.length_nil, Int.reduceEq, Int.reduceLT, Int.reduceLE, sttF, List.length_map, not_lt_len]
    refine Wq.each (e.p) (fun i s H nx => .jump (l94_17 (eptrV e.v) (i64 s) (i64 (i : Int)) H nx)) (fun t s => i64 (w (patsD t s + 1))) (fun s8 H8 nx8 hA8 => ?_) (fun i8 a8 t8 s8 H8 nx8 hg8 hlt8 hd8 hA8 ih8 => ?_) (s0) _ _ hA0
    · refine Wq.jmp (q94_17 ..) (fun _ => rfl) ?_
      simp only [stpF, cond_true, cond_false, eq_self, List.length_nil, Int.reduceEq, Int.reduceLT, Int.reduceLE, sttF, List.length_map, not_lt_len]
      exact Wq.retE (by rw [Int.add_comm]; rfl) hA8
    · have hx8 : ((e.p).map Pat.v)[i8]? = some (Pat.v a8) := by simp [hg8]
      have hm8 := List.mem_of_getElem? hg8
      refine Wq.jmp (q94_17 ..) (fun _ => rfl) ?_
      simp only [stpF, cond_true, cond_false, eq_self, List.length_nil, Int.reduceEq, Int.reduceLT, Int.reduceLE, sttF, List.length_map, is_lt_len hlt8, ix_42 hx8]
      refine Wq.call (pu_93 _ (hp' _ hm8)) hA8 fun H2 nx2 hA2 => ?_
      refine Wq.call (pu_48 _ _) hA2 fun H3 nx3 hA3 => ?_
      simp only [stpF, cond_true, cond_false, eq_self, List.length_nil, Int.reduceEq, Int.reduceLT, Int.reduceLE, wrap_succ (show i8 < 9223372036854775807 by have := sm_lt hp; omega)]
      exact ih8 _ _ _ hA3
  · have hx0 : ((e.l).map Exp.v)[i0]? = some (Exp.v a0) := by simp [hg0]
    have hm0 := List.mem_of_getElem? hg0
    refine Wq.jmp (q94_9 ..) (fun _ => rfl) ?_
    simp only [stpF, cond_true, cond_false, eq_self, List.length_nil, Int.reduceEq, Int.reduceLT, Int.reduceLE, sttF, List.length_map, is_lt_len hlt0, ix_41 hx0]
    refine Wq.call (h1 _ hm0) hA0 fun H2 nx2 hA2 => ?_
    refine Wq.call (pu_48 _ _) hA2 fun H3 nx3 hA3 => ?_
    rw [expsD]
    simp only [stpF, cond_true, cond_false, eq_self, List.length_nil, Int.reduceEq, Int.reduceLT, Int.reduceLE, wrap_succ (show i0 < 9223372036854775807 by have := sm_lt hl; omega)]
    exact ih0 _ _ _ hA3
theorem both_94 : (∀ e : Exp, e.ok → P0 94 [e.v] (i64 (expD e))) ∧ ∀ d : Dec, d.ok → P0 49 [d.v] (i64 (inD d)) := by
  have A : ∀ e : Exp, (∀ c, c ∈ e.l → c.ok → P0 94 [c.v] (i64 (expD c))) → (∀ c, c ∈ e.d → c.ok → P0 49 [c.v] (i64 (inD c))) → e.ok → P0 94 [e.v] (i64 (expD e)) := fun e h1 h2 h => by
    have h' := (Exp.ok_iff e).1 h
    exact pu_94a e h (fun c hc => h1 c hc (h'.2.2.1.2 c hc)) fun d hd => h2 d hd (h'.2.2.2.2.2 d hd)
  have B : ∀ d : Dec, (d.e.ok → P0 94 [d.e.v] (i64 (expD d.e))) → (∀ f, f ∈ d.f → f.b.ok → P0 94 [f.b.v] (i64 (expD f.b))) → d.ok → P0 49 [d.v] (i64 (inD d)) := fun d h1 h2 h => by
    have h' := (Dec.ok_iff d).1 h
    exact pu_49 d h (h1 h'.2.1) fun f hf => h2 f hf ((Fn.ok_iff f).1 (h'.2.2.1.2 f hf)).2.2
  exact ⟨Exp.ind A B, Dec.ind A B⟩
theorem pu_50 (d : Dec) (h : d.ok) (hE : P0 97 [d.e.v] (i64 (expD d.e))) (hF : ∀ f, f ∈ d.f → P0 97 [f.b.v] (i64 (expD f.b))) : P0 50 [d.v] (i64 (w (inD d + 1))) := Pure.of rfl fun H nx => by
  rw [Dec.ok_iff] at h
  obtain ⟨hp, he, ⟨hfl, hf⟩, hx, hc⟩ := h
  rw [q50]
  refine Wq.natF' (.refl _ _) fun hA => ?_
  have L70 : ∀ (n : Int) H1 nx1, Ag nx H nx1 H1 → Wq P pl X0 (.jump (l50_70 (i64 n) H1 nx1)) nx H (i64 (w (n + 1))) := fun n H1 nx1 hA1 => by
    refine Wq.jmp (q50_70 ..) (fun _ => rfl) ?_
    simp only [stpF, cond_true, cond_false, eq_self, List.length_nil, Int.reduceEq, Int.reduceLT, Int.reduceLE]
    exact Wq.ret hA1
  simp only [stpF, cond_true, cond_false, eq_self, List.length_nil, Int.reduceEq, Int.reduceLT, Int.reduceLE, sttF, List.length_map]
  rw [inD_eq]
  refine Wq.ite (fun h1 => ?_) (fun h1 => ?_)
  · rw [if_pos h1]
    refine Wq.call (pu_96 _ hp) hA fun H2 nx2 hA2 => ?_
    refine Wq.call hE hA2 fun H3 nx3 hA3 => ?_
    simp only [stpF, cond_true, cond_false, eq_self, List.length_nil, Int.reduceEq, Int.reduceLT, Int.reduceLE, mx_max]
    exact L70 _ _ _ hA3
  rw [if_neg h1]
  refine Wq.ite (fun h2 => ?_) (fun h2 => ?_)
  · rw [if_neg (by omega), if_pos h2]
    refine Wq.each (d.f) (fun i s H nx => .jump (l50_17 (i64 s) (fnsR d.f) (i64 (d.f.length : Int)) (i64 (i : Int)) H nx)) (fun t s => i64 (w (fnsD t s + 1))) (fun s0 H0 nx0 hA0 => ?_) (fun i0 a0 t0 s0 H0 nx0 hg0 hlt0 hd0 hA0 ih0 => ?_) (0) _ _ hA
    · refine Wq.jmp (q50_17 ..) (fun _ => rfl) ?_
      simp only [stpF, cond_true, cond_false, eq_self, List.length_nil, Int.reduceEq, Int.reduceLT, Int.reduceLE, sttF, List.length_map, not_lt_len]
      exact Wq.ret hA0
    · have hx0 : ((d.f).map Fn.v)[i0]? = some (Fn.v a0) := by simp [hg0]
      have hm0 := List.mem_of_getElem? hg0
      refine Wq.jmp (q50_17 ..) (fun _ => rfl) ?_
      simp only [stpF, cond_true, cond_false, eq_self, List.length_nil, Int.reduceEq, Int.reduceLT, Int.reduceLE, sttF, List.length_map, is_lt_len hlt0, ix_48 hx0]
      refine Wq.var zero_65 sz_65 rfl (nFn _) (oFn _) hA0 fun H2 nx2 hA2 => ?_
      refine Wq.call (hF a0 hm0) hA2 fun H3 nx3 hA3 => ?_
      simp only [stpF, cond_true, cond_false, eq_self, List.length_nil, Int.reduceEq, Int.reduceLT, Int.reduceLE, sttF, List.length_map, mx_max]
      have hpl := ((Fn.ok_iff a0).1 (hf a0 hm0)).2.1
      rw [fnsD, fnD_eq]
      refine Wq.each (a0.p) (fun i s H nx => .jump (l50_25 (i64 s) (fnsR d.f) (i64 (d.f.length : Int)) (i64 (i0 : Int)) (patsR a0.p) (i64 (a0.p.length : Int)) (i64 (i : Int)) H nx)) (fun t s => i64 (w (fnsD t0 (patsD t s) + 1))) (fun s8 H8 nx8 hA8 => ?_) (fun i8 a8 t8 s8 H8 nx8 hg8 hlt8 hd8 hA8 ih8 => ?_) (mx s0 (expD a0.b)) _ _ hA3
      · refine Wq.jmp (q50_25 ..) (fun _ => rfl) ?_
        simp only [stpF, cond_true, cond_false, eq_self, List.length_nil, Int.reduceEq, Int.reduceLT, Int.reduceLE, sttF, List.length_map, not_lt_len]
        simp only [stpF, cond_true, cond_false, eq_self, List.length_nil, Int.reduceEq, Int.reduceLT, Int.reduceLE, wrap_succ (show i0 < 9223372036854775807 by have := sm_lt hfl; omega)]
        exact ih0 _ _ _ hA8
      · have hx8 : ((a0.p).map Pat.v)[i8]? = some (Pat.v a8) := by simp [hg8]
        have hm8 := List.mem_of_getElem? hg8
        refine Wq.jmp (q50_25 ..) (fun _ => rfl) ?_
        simp only [stpF, cond_true, cond_false, eq_self, List.length_nil, Int.reduceEq, Int.reduceLT, Int.reduceLE, sttF, List.length_map, is_lt_len hlt8, ix_42 hx8]
        refine Wq.var zero_47 sz_47 rfl (nPat _) (oPat _) hA8 fun H2 nx2 hA2 => ?_
        refine Wq.call (pu_96 a8 (hpl.2 a8 hm8)) hA2 fun H3 nx3 hA3 => ?_
        simp only [stpF, cond_true, cond_false, eq_self, List.length_nil, Int.reduceEq, Int.reduceLT, Int.reduceLE, mx_max]
        simp only [stpF, cond_true, cond_false, eq_self, List.length_nil, Int.reduceEq, Int.reduceLT, Int.reduceLE, wrap_succ (show i8 < 9223372036854775807 by have := sm_lt hpl.1; omega)]
        exact ih8 _ _ _ hA3
  refine Wq.ite (fun h3 => ?_) (fun h3 => ?_)
  · rw [if_neg (by omega), if_neg h2, if_pos h3]
    refine Wq.each (d.x.cons) (fun i s H nx => .jump (l50_39 (i64 s) (consR d.x.cons) (i64 (d.x.cons.length : Int)) (i64 (i : Int)) H nx)) (fun t s => i64 (w (consD t s + 1))) (fun s0 H0 nx0 hA0 => ?_) (fun i0 a0 t0 s0 H0 nx0 hg0 hlt0 hd0 hA0 ih0 => ?_) (0) _ _ hA
    · refine Wq.jmp (q50_39 ..) (fun _ => rfl) ?_
      simp only [stpF, cond_true, cond_false, eq_self, List.length_nil, Int.reduceEq, Int.reduceLT, Int.reduceLE, sttF, List.length_map, not_lt_len]
      exact Wq.ret hA0
    · have hx0 : ((d.x.cons).map Con.v)[i0]? = some (Con.v a0) := by simp [hg0]
      have hm0 := List.mem_of_getElem? hg0
      refine Wq.jmp (q50_39 ..) (fun _ => rfl) ?_
      simp only [stpF, cond_true, cond_false, eq_self, List.length_nil, Int.reduceEq, Int.reduceLT, Int.reduceLE, sttF, List.length_map, is_lt_len hlt0, ix_50 hx0]
      refine Wq.var zero_55 sz_55 rfl (nCon _) (oCon _) hA0 fun H2 nx2 hA2 => ?_
      have hpl := (hx.2.2.2 a0 hm0).2
      rw [consD]
      refine Wq.each (a0.arg) (fun i s H nx => .jump (l50_45 (i64 s) (consR d.x.cons) (i64 (d.x.cons.length : Int)) (i64 (i0 : Int)) (tysR a0.arg) (i64 (a0.arg.length : Int)) (i64 (i : Int)) H nx)) (fun t s => i64 (w (consD t0 (tysD t s) + 1))) (fun s8 H8 nx8 hA8 => ?_) (fun i8 a8 t8 s8 H8 nx8 hg8 hlt8 hd8 hA8 ih8 => ?_) (s0) _ _ hA2
      · refine Wq.jmp (q50_45 ..) (fun _ => rfl) ?_
        simp only [stpF, cond_true, cond_false, eq_self, List.length_nil, Int.reduceEq, Int.reduceLT, Int.reduceLE, sttF, List.length_map, not_lt_len]
        simp only [stpF, cond_true, cond_false, eq_self, List.length_nil, Int.reduceEq, Int.reduceLT, Int.reduceLE, wrap_succ (show i0 < 9223372036854775807 by have := sm_lt (show d.x.cons.length < big from hx.2.2.1); omega)]
        exact ih0 _ _ _ hA8
      · have hx8 : ((a0.arg).map TyS.v)[i8]? = some (TyS.v a8) := by simp [hg8]
        have hm8 := List.mem_of_getElem? hg8
        refine Wq.jmp (q50_45 ..) (fun _ => rfl) ?_
        simp only [stpF, cond_true, cond_false, eq_self, List.length_nil, Int.reduceEq, Int.reduceLT, Int.reduceLE, sttF, List.length_map, is_lt_len hlt8, ix_53 hx8]
        refine Wq.var zero_138 sz_138 rfl (nTyS _) (oTyS _) hA8 fun H2 nx2 hA2 => ?_
        refine Wq.call (pu_98 a8 (hpl.2 a8 hm8)) hA2 fun H3 nx3 hA3 => ?_
        simp only [stpF, cond_true, cond_false, eq_self, List.length_nil, Int.reduceEq, Int.reduceLT, Int.reduceLE, mx_max]
        simp only [stpF, cond_true, cond_false, eq_self, List.length_nil, Int.reduceEq, Int.reduceLT, Int.reduceLE, wrap_succ (show i8 < 9223372036854775807 by have := sm_lt hpl.1; omega)]
        exact ih8 _ _ _ hA3
  refine Wq.ite (fun h4 => ?_) (fun h4 => ?_)
  · rw [if_neg (by omega), if_neg h2, if_neg h3, if_pos h4]
    refine Wq.each (d.c.arg) (fun i s H nx => .jump (l50_59 (i64 s) (tysR d.c.arg) (i64 (d.c.arg.length : Int)) (i64 (i : Int)) H nx)) (fun t s => i64 (w (tysD t s + 1))) (fun s0 H0 nx0 hA0 => ?_) (fun i0 a0 t0 s0 H0 nx0 hg0 hlt0 hd0 hA0 ih0 => ?_) (0) _ _ hA
    · refine Wq.jmp (q50_59 ..) (fun _ => rfl) ?_
      simp only [stpF, cond_true, cond_false, eq_self, List.length_nil, Int.reduceEq, Int.reduceLT, Int.reduceLE, sttF, List.length_map, not_lt_len]
      exact Wq.ret hA0
    · have hx0 : ((d.c.arg).map TyS.v)[i0]? = some (TyS.v a0) := by simp [hg0]
      have hm0 := List.mem_of_getElem? hg0
      refine Wq.jmp (q50_59 ..) (fun _ => rfl) ?_
      simp only [stpF, cond_true, cond_false, eq_self, List.length_nil, Int.reduceEq, Int.reduceLT, Int.reduceLE, sttF, List.length_map, is_lt_len hlt0, ix_53 hx0]
      refine Wq.var zero_138 sz_138 rfl (nTyS _) (oTyS _) hA0 fun H2 nx2 hA2 => ?_
      refine Wq.call (pu_98 a0 (hc.2.2 a0 hm0)) hA2 fun H3 nx3 hA3 => ?_
      simp only [stpF, cond_true, cond_false, eq_self, List.length_nil, Int.reduceEq, Int.reduceLT, Int.reduceLE, mx_max]
      simp only [stpF, cond_true, cond_false, eq_self, List.length_nil, Int.reduceEq, Int.reduceLT, Int.reduceLE, wrap_succ (show i0 < 9223372036854775807 by have := sm_lt hc.2.1; omega)]
      exact ih0 _ _ _ hA3
  refine Wq.ite (fun h5 => ?_) (fun h5 => ?_)
  · rw [if_pos h5]
    refine Wq.call hE hA fun H3 nx3 hA3 => ?_
    exact L70 _ _ _ hA3
  · rw [if_neg h5, if_neg h2, if_neg h3, if_neg h4]
    exact L70 _ _ _ hA
theorem pu_27 (l : List Dec) (hl : l.length < big) (ih : ∀ d, d ∈ l → P0 50 [d.v] (i64 (w (inD d + 1)))) : P0 27 [decsR l] (i64 (decsD l 0)) := Pure.of rfl fun H nx => by
  rw [q27]
  simp only [stpF, cond_true, cond_false, eq_self, List.length_nil, Int.reduceEq, Int.reduceLT, Int.reduceLE, sttF, List.length_map]
  refine Wq.each (l) (fun i s H nx => .jump (l27_9 (i64 s) (decsR l) (i64 (l.length : Int)) (i64 (i : Int)) H nx)) (fun t s => i64 (decsD t s)) (fun s0 H0 nx0 hA0 => ?_) (fun i0 a0 t0 s0 H0 nx0 hg0 hlt0 hd0 hA0 ih0 => ?_) (0) _ _ (.refl _ _)
  · refine Wq.jmp (q27_9 ..) (fun _ => rfl) ?_
    simp only [stpF, cond_true, cond_false, eq_self, List.length_nil, Int.reduceEq, Int.reduceLT, Int.reduceLE, sttF, List.length_map, not_lt_len]
    exact Wq.ret hA0
  · have hx0 : ((l).map Dec.v)[i0]? = some (Dec.v a0) := by simp [hg0]
    have hm0 := List.mem_of_getElem? hg0
    refine Wq.jmp (q27_9 ..) (fun _ => rfl) ?_
    simp only [stpF, cond_true, cond_false, eq_self, List.length_nil, Int.reduceEq, Int.reduceLT, Int.reduceLE, sttF, List.length_map, is_lt_len hlt0, ix_24 hx0]
    refine Wq.var zero_57 sz_57 rfl (nDec _) (oDec _) hA0 fun H2 nx2 hA2 => ?_
    refine Wq.call (ih a0 hm0) hA2 fun H3 nx3 hA3 => ?_
    simp only [stpF, cond_true, cond_false, eq_self, List.length_nil, Int.reduceEq, Int.reduceLT, Int.reduceLE, mx_max]
    rw [decsD]
    simp only [stpF, cond_true, cond_false, eq_self, List.length_nil, Int.reduceEq, Int.reduceLT, Int.reduceLE, wrap_succ (show i0 < 9223372036854775807 by have := sm_lt hl; omega)]
    exact ih0 _ _ _ hA3
theorem pu_97a (e : Exp) (h : e.ok) (h1 : ∀ c, c ∈ e.l → P0 97 [c.v] (i64 (expD c))) (h2 : ∀ d, d ∈ e.d → P0 50 [d.v] (i64 (w (inD d + 1)))) : P0 97 [e.v] (i64 (expD e)) := Pure.of rfl fun H nx => by
  rw [Exp.ok_iff] at h
  obtain ⟨hr, hs, ⟨hl, hl'⟩, ⟨hp, hp'⟩, hd, hd'⟩ := h
  rw [q97]
  refine Wq.natF' (.refl _ _) fun hA => ?_
  simp only [stpF, cond_true, cond_false, eq_self, List.length_nil, Int.reduceEq, Int.reduceLT, Int.reduceLE, sttF, List.length_map]
  refine Wq.call (pu_27 _ hd h2) hA fun H1 nx1 hA1 => ?_
  rw [expD_eq]
  refine Wq.each (e.l) (fun i s H nx => .jump (l97_9 (eptrV e.v) (i64 s) (expsR e.l) (i64 (e.l.length : Int)) (i64 (i : Int)) H nx)) (fun t s => i64 (w (patsD e.p (expsD t s) + 1))) (fun s0 H0 nx0 hA0 => ?_) (fun i0 a0 t0 s0 H0 nx0 hg0 hlt0 hd0 hA0 ih0 => ?_) (decsD e.d 0) _ _ hA1
  · refine Wq.jmp (q97_9 ..) (fun _ => rfl) ?_
    simp only [stpF, cond_true, cond_false, eq_self, List.length_nil, Int.reduceEq, Int.reduceLT, Int.reduceLE, sttF, List.length_map, not_lt_len]
    refine Wq.each (e.p) (fun i s H nx => .jump (l97_19 (i64 s) (patsR e.p) (i64 (e.p.length : Int)) (i64 (i : Int)) H nx)) (fun t s => i64 (w (patsD t s + 1))) (fun s8 H8 nx8 hA8 => ?_) (fun i8 a8 t8 s8 H8 nx8 hg8 hlt8 hd8 hA8 ih8 => ?_) (s0) _ _ hA0
    · refine Wq.jmp (q97_19 ..) (fun _ => rfl) ?_
      simp only [stpF, cond_true, cond_false, eq_self, List.length_nil, Int.reduceEq, Int.reduceLT, Int.reduceLE, sttF, List.length_map, not_lt_len]
      exact Wq.ret hA8
    · have hx8 : ((e.p).map Pat.v)[i8]? = some (Pat.v a8) := by simp [hg8]
      have hm8 := List.mem_of_getElem? hg8
      refine Wq.jmp (q97_19 ..) (fun _ => rfl) ?_
      simp only [stpF, cond_true, cond_false, eq_self, List.length_nil, Int.reduceEq, Int.reduceLT, Int.reduceLE, sttF, List.length_map, is_lt_len hlt8, ix_42 hx8]
      refine Wq.var zero_47 sz_47 rfl (nPat _) (oPat _) hA8 fun H2 nx2 hA2 => ?_
      refine Wq.call (pu_96 _ (hp' _ hm8)) hA2 fun H3 nx3 hA3 => ?_
      simp only [stpF, cond_true, cond_false, eq_self, List.length_nil, Int.reduceEq, Int.reduceLT, Int.reduceLE, mx_max]
      simp only [stpF, cond_true, cond_false, eq_self, List.length_nil, Int.reduceEq, Int.reduceLT, Int.reduceLE, wrap_succ (show i8 < 9223372036854775807 by have := sm_lt hp; omega)]
      exact ih8 _ _ _ hA3
  · have hx0 : ((e.l).map Exp.v)[i0]? = some (Exp.v a0) := by simp [hg0]
    have hm0 := List.mem_of_getElem? hg0
    refine Wq.jmp (q97_9 ..) (fun _ => rfl) ?_
    simp only [stpF, cond_true, cond_false, eq_self, List.length_nil, Int.reduceEq, Int.reduceLT, Int.reduceLE, sttF, List.length_map, is_lt_len hlt0, ix_41 hx0]
    refine Wq.var zero_44 sz_44 rfl (nExp _) (oExp _) hA0 fun H2 nx2 hA2 => ?_
    refine Wq.call (h1 _ hm0) hA2 fun H3 nx3 hA3 => ?_
    simp only [stpF, cond_true, cond_false, eq_self, List.length_nil, Int.reduceEq, Int.reduceLT, Int.reduceLE, mx_max]
    rw [expsD]
    simp only [stpF, cond_true, cond_false, eq_self, List.length_nil, Int.reduceEq, Int.reduceLT, Int.reduceLE, wrap_succ (show i0 < 9223372036854775807 by have := sm_lt hl; omega)]
    exact ih0 _ _ _ hA3
theorem both_97 : (∀ e : Exp, e.ok → P0 97 [e.v] (i64 (expD e))) ∧ ∀ d : Dec, d.ok → P0 50 [d.v] (i64 (w (inD d + 1))) := by
  have A : ∀ e : Exp, (∀ c, c ∈ e.l → c.ok → P0 97 [c.v] (i64 (expD c))) → (∀ c, c ∈ e.d → c.ok → P0 50 [c.v] (i64 (w (inD c + 1)))) → e.ok → P0 97 [e.v] (i64 (expD e)) := fun e h1 h2 h => by
    have h' := (Exp.ok_iff e).1 h
    exact pu_97a e h (fun c hc => h1 c hc (h'.2.2.1.2 c hc)) fun d hd => h2 d hd (h'.2.2.2.2.2 d hd)
  have B : ∀ d : Dec, (d.e.ok → P0 97 [d.e.v] (i64 (expD d.e))) → (∀ f, f ∈ d.f → f.b.ok → P0 97 [f.b.v] (i64 (expD f.b))) → d.ok → P0 50 [d.v] (i64 (w (inD d + 1))) := fun d h1 h2 h => by
    have h' := (Dec.ok_iff d).1 h
    exact pu_50 d h (h1 h'.2.1) fun f hf => h2 f hf ((Fn.ok_iff f).1 (h'.2.2.1.2 f hf)).2.2
  exact ⟨Exp.ind A B, Dec.ind A B⟩
/-- How deep declarations are: both say the same. -/
theorem deeps (l : List Dec) (hl : l.length < big) (h : ∀ d, d ∈ l → d.ok) : P0 23 [decsR l] (i64 (decsD l 0)) ∧ P0 27 [decsR l] (i64 (decsD l 0)) :=
  ⟨pu_23 l hl fun d hd => both_94.2 d (h d hd), pu_27 l hl fun d hd => both_97.2 d (h d hd)⟩
end
end Go.Proofs.YthjhonhhbddhkaaGreatDoor
/- Whether trees are the same. -/
namespace Go.Proofs.YthjhonhhbddhkaaGreatDoor
open Go.Ev Go.RowKit
noncomputable section
set_option maxRecDepth 100000
set_option linter.unusedVariables false
set_option linter.unusedSimpArgs false
variable {nx0 : Nat} {H0 : T OB}
/-- A row by value, or none. -/
def IsR (s : Nat) (l : List Value) (v : Value) : Prop := v = rowV s l ∨ (l = [] ∧ v = .slice none 0 0)
theorem IsR.row (s : Nat) (l : List Value) : IsR s l (rowV s l) := .inl rfl
theorem IsR.nil (s : Nat) : IsR s [] (.slice none 0 0) := .inr ⟨rfl, rfl⟩
theorem fr1_42 {l : List Value} {v : Value} (h : IsR 4 l v) (H : T OB) (nx : Nat) (k : Value → T OB → Nat → Q) : frz1 P 42 v H nx k = k (rowV 4 l) H nx := by
  rcases h with rfl | ⟨rfl, rfl⟩ <;> kernel_rfl
theorem fr1_41 {l : List Value} {v : Value} (h : IsR 6 l v) (H : T OB) (nx : Nat) (k : Value → T OB → Nat → Q) : frz1 P 41 v H nx k = k (rowV 6 l) H nx := by
  rcases h with rfl | ⟨rfl, rfl⟩ <;> kernel_rfl
theorem fr1_24 {l : List Value} {v : Value} (h : IsR 17 l v) (H : T OB) (nx : Nat) (k : Value → T OB → Nat → Q) : frz1 P 24 v H nx k = k (rowV 17 l) H nx := by
  rcases h with rfl | ⟨rfl, rfl⟩ <;> kernel_rfl
theorem fr1_53 {l : List Value} {v : Value} (h : IsR 3 l v) (H : T OB) (nx : Nat) (k : Value → T OB → Nat → Q) : frz1 P 53 v H nx k = k (rowV 3 l) H nx := by
  rcases h with rfl | ⟨rfl, rfl⟩ <;> kernel_rfl
theorem fr1_49 {l : List Value} {v : Value} (h : IsR 1 l v) (H : T OB) (nx : Nat) (k : Value → T OB → Nat → Q) : frz1 P 49 v H nx k = k (rowV 1 l) H nx := by
  rcases h with rfl | ⟨rfl, rfl⟩ <;> kernel_rfl
theorem fr1_50 {l : List Value} {v : Value} (h : IsR 2 l v) (H : T OB) (nx : Nat) (k : Value → T OB → Nat → Q) : frz1 P 50 v H nx k = k (rowV 2 l) H nx := by
  rcases h with rfl | ⟨rfl, rfl⟩ <;> kernel_rfl
def VPat (p : Pat) (v : Value) : Prop := ∃ d, v = .agg ⟨[i64 p.k, i64 p.n, txt p.s, d]⟩ ∧ IsR 4 (p.l.map Pat.v) d
def VExp (e : Exp) (v : Value) : Prop := ∃ a b c, v = .agg ⟨[i64 e.k, i64 e.n, txt e.s, a, b, c]⟩ ∧ IsR 6 (e.l.map Exp.v) a ∧ IsR 4 (e.p.map Pat.v) b ∧ IsR 17 (e.d.map Dec.v) c
def VCon (e : Con) (v : Value) : Prop := ∃ a, v = .agg ⟨[txt e.s, a]⟩ ∧ IsR 3 (e.arg.map TyS.v) a
def VData (e : Data) (v : Value) : Prop := ∃ a b, v = .agg ⟨[a, txt e.s, b]⟩ ∧ IsR 1 (e.vars.map txt) a ∧ IsR 2 (e.cons.map Con.v) b
theorem Pat.vv (p : Pat) : VPat p p.v := ⟨_, p.v_eq, .row _ _⟩
theorem Exp.vv (p : Exp) : VExp p p.v := ⟨_, _, _, p.v_eq, .row _ _, .row _ _, .row _ _⟩
theorem Con.vv (p : Con) : VCon p p.v := ⟨_, p.v_eq, .row _ _⟩
theorem Data.vv (p : Data) : VData p p.v := ⟨_, _, p.v_eq, .row _ _, .row _ _⟩
theorem fr_47 (a b c d : Value) (H : T OB) (nx : Nat) (k : Value → T OB → Nat → Q) : frzV P 47 (.agg ⟨[a, b, c, d]⟩) H nx k = frz1 P 42 d H nx fun d H nx => k (.agg ⟨[a, b, c, d]⟩) H nx := by kernel_rfl
theorem fr_44 (a b c d e f : Value) (H : T OB) (nx : Nat) (k : Value → T OB → Nat → Q) : frzV P 44 (.agg ⟨[a, b, c, d, e, f]⟩) H nx k = frz1 P 41 d H nx fun d H nx => frz1 P 42 e H nx fun e H nx => frz1 P 24 f H nx fun f H nx => k (.agg ⟨[a, b, c, d, e, f]⟩) H nx := by kernel_rfl
theorem fr_55 (a b : Value) (H : T OB) (nx : Nat) (k : Value → T OB → Nat → Q) : frzV P 55 (.agg ⟨[a, b]⟩) H nx k = frz1 P 53 b H nx fun b H nx => k (.agg ⟨[a, b]⟩) H nx := by kernel_rfl
theorem fr_52 (a b c : Value) (H : T OB) (nx : Nat) (k : Value → T OB → Nat → Q) : frzV P 52 (.agg ⟨[a, b, c]⟩) H nx k = frz1 P 49 a H nx fun a H nx => frz1 P 50 c H nx fun c H nx => k (.agg ⟨[a, b, c]⟩) H nx := by kernel_rfl
theorem frPat {p : Pat} {v : Value} (h : VPat p v) (H : T OB) (nx : Nat) (k : Value → T OB → Nat → Q) : frzV P 47 v H nx k = k p.v H nx := by
  obtain ⟨d, rfl, h⟩ := h
  rw [fr_47, fr1_42 h, p.v_eq]
theorem frExp {p : Exp} {v : Value} (h : VExp p v) (H : T OB) (nx : Nat) (k : Value → T OB → Nat → Q) : frzV P 44 v H nx k = k p.v H nx := by
  obtain ⟨a, b, c, rfl, h1, h2, h3⟩ := h
  rw [fr_44, fr1_41 h1, fr1_42 h2, fr1_24 h3, p.v_eq]
theorem frCon {p : Con} {v : Value} (h : VCon p v) (H : T OB) (nx : Nat) (k : Value → T OB → Nat → Q) : frzV P 55 v H nx k = k p.v H nx := by
  obtain ⟨d, rfl, h⟩ := h
  rw [fr_55, fr1_53 h, p.v_eq]
theorem frData {p : Data} {v : Value} (h : VData p v) (H : T OB) (nx : Nat) (k : Value → T OB → Nat → Q) : frzV P 52 v H nx k = k p.v H nx := by
  obtain ⟨d, b, rfl, h, h2⟩ := h
  rw [fr_52, fr1_49 h, fr1_50 h2, p.v_eq]
/-! equal -/
def eqb {α : Type} (a b : α) : Bool := @decide (a = b) (Classical.propDecidable _)
theorem eqb_t {α : Type} {a b : α} (h : a = b) : eqb a b = true := by unfold eqb; simp [h]
theorem eqb_f {α : Type} {a b : α} (h : a ≠ b) : eqb a b = false := by unfold eqb; simp [h]
theorem eqb_iff {α : Type} {a b : α} : eqb a b = true ↔ a = b := by unfold eqb; simp
theorem eqb_self {α : Type} (a : α) : eqb a a = true := eqb_t rfl
theorem eqb_congr {α β : Type} {a b : α} {c d : β} (h : a = b ↔ c = d) : eqb a b = eqb c d := by
  rw [Bool.eq_iff_iff, eqb_iff, eqb_iff]; exact h
theorem txt_dec (a b : List UInt8) : decide ((⟨⟨a⟩⟩ : ByteArray) = ⟨⟨b⟩⟩) = decide (a = b) := by rw [decide_eq_decide]; simp
theorem Wq.nite {p : Prop} [Decidable p] {R : Value → T OB → Nat → Prop} {x y : Q} (h : ¬p → WqR P pl X0 x nx0 H0 R) (h' : p → WqR P pl X0 y nx0 H0 R) : WqR P pl X0 (Ev.bK (!decide p) x y) nx0 H0 R :=
  Wq.bK (fun q => h (by simpa using q)) (fun q => h' (by simpa using q))
/-- Two rows side by side, something being kept. -/
theorem Wq.zipI (I : T OB → Nat → Prop) {α : Type} (l m : List α) (hlm : l.length = m.length) (q : Nat → T OB → Nat → Q) (r : Bool) (hend : ∀ H1 nx1, I H1 nx1 → Ag nx0 H0 nx1 H1 → Wq P pl X0 (q l.length H1 nx1) nx0 H0 (.bool r))
    (hstep : ∀ (i : Nat) (a b : α) (t u : List α) H1 nx1, l[i]? = some a → m[i]? = some b → i < l.length → I H1 nx1 → Ag nx0 H0 nx1 H1 → (∀ H2 nx2, I H2 nx2 → Ag nx0 H0 nx2 H2 → Wq P pl X0 (q (i + 1) H2 nx2) nx0 H0 (.bool (eqb t u && r))) → Wq P pl X0 (q i H1 nx1) nx0 H0 (.bool (eqb a b && (eqb t u && r)))) (H1 : T OB) (nx1 : Nat) (hI : I H1 nx1) (hA : Ag nx0 H0 nx1 H1) :
    Wq P pl X0 (q 0 H1 nx1) nx0 H0 (.bool (eqb l m && r)) := by
  have key : ∀ (t u : List α) (i : Nat), l.drop i = t → m.drop i = u → i ≤ l.length → ∀ H1 nx1, I H1 nx1 → Ag nx0 H0 nx1 H1 → Wq P pl X0 (q i H1 nx1) nx0 H0 (.bool (eqb t u && r)) := by
    intro t
    induction t with
    | nil =>
      intro u i hd hu hi H1 nx1 hI hA
      have hil := drop_nil hd hi
      have : u = [] := by rw [← hu, List.drop_of_length_le (by omega)]
      rw [this, eqb_self, Bool.true_and, hil]
      exact hend H1 nx1 hI hA
    | cons a t ih =>
      intro u i hd hu hi H1 nx1 hI hA
      obtain ⟨hg, hlt, hd'⟩ := drop_cons hd
      cases u with
      | nil =>
        have := drop_nil hu (by omega)
        omega
      | cons b u =>
        obtain ⟨hg2, hlt2, hd2⟩ := drop_cons hu
        have : eqb (a :: t) (b :: u) = (eqb a b && eqb t u) := by
          rw [Bool.eq_iff_iff]; simp [eqb_iff]
        rw [this, Bool.and_assoc]
        exact hstep i a b t u H1 nx1 hg hg2 hlt hI hA fun H2 nx2 h1 h2 => ih u (i + 1) hd' hd2 (by omega) H2 nx2 h1 h2
  have := key l m 0 rfl rfl (Nat.zero_le _) H1 nx1 hI hA
  exact this
/-- Two rows side by side. -/
theorem Wq.zip {α : Type} (l m : List α) (hlm : l.length = m.length) (q : Nat → T OB → Nat → Q) (r : Bool) (hend : ∀ H1 nx1, Ag nx0 H0 nx1 H1 → Wq P pl X0 (q l.length H1 nx1) nx0 H0 (.bool r))
    (hstep : ∀ (i : Nat) (a b : α) (t u : List α) H1 nx1, l[i]? = some a → m[i]? = some b → i < l.length → Ag nx0 H0 nx1 H1 → (∀ H2 nx2, Ag nx0 H0 nx2 H2 → Wq P pl X0 (q (i + 1) H2 nx2) nx0 H0 (.bool (eqb t u && r))) → Wq P pl X0 (q i H1 nx1) nx0 H0 (.bool (eqb a b && (eqb t u && r)))) (H1 : T OB) (nx1 : Nat) (hA : Ag nx0 H0 nx1 H1) :
    Wq P pl X0 (q 0 H1 nx1) nx0 H0 (.bool (eqb l m && r)) := by
  have key : ∀ (t u : List α) (i : Nat), l.drop i = t → m.drop i = u → i ≤ l.length → ∀ H1 nx1, Ag nx0 H0 nx1 H1 → Wq P pl X0 (q i H1 nx1) nx0 H0 (.bool (eqb t u && r)) := by
    intro t
    induction t with
    | nil =>
      intro u i hd hu hi H1 nx1 hA
      have hil := drop_nil hd hi
      have : u = [] := by rw [← hu, List.drop_of_length_le (by omega)]
      rw [this, eqb_self, Bool.true_and, hil]
      exact hend H1 nx1 hA
    | cons a t ih =>
      intro u i hd hu hi H1 nx1 hA
      obtain ⟨hg, hlt, hd'⟩ := drop_cons hd
      cases u with
      | nil =>
        have := drop_nil hu (by omega)
        omega
      | cons b u =>
        obtain ⟨hg2, hlt2, hd2⟩ := drop_cons hu
        have : eqb (a :: t) (b :: u) = (eqb a b && eqb t u) := by
          rw [Bool.eq_iff_iff]; simp [eqb_iff]
        rw [this, Bool.and_assoc]
        exact hstep i a b t u H1 nx1 hg hg2 hlt hA fun H2 nx2 h2 => ih u (i + 1) hd' hd2 (by omega) H2 nx2 h2
  have := key l m 0 rfl rfl (Nat.zero_le _) H1 nx1 hA
  exact this
theorem pu_32 (l m : List Pat) (hl : l.length < big) (ih : ∀ a, a ∈ l → ∀ b, P0 29 [a.v, b.v] (.bool (eqb a b))) : P0 32 [patsR l, patsR m] (.bool (eqb l m)) := Pure.of rfl fun H nx => by
  rw [q32]
  simp only [stpF, cond_true, cond_false, eq_self, List.length_nil, Int.reduceEq, Int.reduceLT, Int.reduceLE, sttF, List.length_map]
  refine Wq.nite (fun h => ?_) (fun h => ?_)
  · exact Wq.retE (by rw [eqb_f (fun q => h (by rw [q]))]) (.refl _ _)
  have hlm : l.length = m.length := by omega
  have := Wq.zip (nx0 := nx) (H0 := H) l m hlm (fun i H nx => .jump (l32_11 (patsR l) (patsR m) (i64 (i : Int)) H nx)) true (fun H1 nx1 hA1 => ?_) (fun i a b t u H1 nx1 hg hg2 hlt hA1 ih' => ?_) H nx (.refl _ _)
  · rw [Bool.and_true] at this
    exact this
  · refine Wq.jmp (q32_11 ..) (fun _ => rfl) ?_
    simp only [stpF, cond_true, cond_false, eq_self, List.length_nil, Int.reduceEq, Int.reduceLT, Int.reduceLE, sttF, List.length_map, not_lt_len]
    exact Wq.ret hA1
  · have hx : (l.map Pat.v)[i]? = some a.v := by simp [hg]
    have hx2 : (m.map Pat.v)[i]? = some b.v := by simp [hg2]
    refine Wq.jmp (q32_11 ..) (fun _ => rfl) ?_
    simp only [stpF, cond_true, cond_false, eq_self, List.length_nil, Int.reduceEq, Int.reduceLT, Int.reduceLE, sttF, List.length_map, is_lt_len hlt, ix_42 hx, ix_42 hx2]
    refine Wq.call (ih a (List.mem_of_getElem? hg) b) hA1 fun H2 nx2 hA2 => ?_
    cases hE : eqb a b with
    | false => simp only [stpF, cond_true, cond_false, eq_self, List.length_nil, Int.reduceEq, Int.reduceLT, Int.reduceLE, Bool.false_and]; exact Wq.ret hA2
    | true =>
      simp only [stpF, cond_true, cond_false, eq_self, List.length_nil, Int.reduceEq, Int.reduceLT, Int.reduceLE, Bool.true_and, wrap_succ (show i < 9223372036854775807 by have := sm_lt hl; omega)]
      exact ih' _ _ hA2
theorem pu_29a (p q : Pat) (v : Value) (hv : VPat p v) (ih : P0 32 [patsR p.l, patsR q.l] (.bool (eqb p.l q.l))) : P0 29 [v, q.v] (.bool (eqb p q)) := Pure.of rfl fun H nx => by
  rw [q29, frPat hv]
  refine Wq.natF' (.refl _ _) fun hA => ?_
  refine Wq.natF' hA fun hA => ?_
  simp only [stpF, cond_true, cond_false, eq_self, List.length_nil, Int.reduceEq, Int.reduceLT, Int.reduceLE, sttF, List.length_map, txt_dec]
  refine Wq.ite (fun h1 => ?_) (fun h1 => Wq.retE (by rw [eqb_f (fun h => h1 (by rw [h]))]) hA)
  refine Wq.ite (fun h2 => ?_) (fun h2 => Wq.retE (by rw [eqb_f (fun h => h2 (by rw [h]))]) hA)
  refine Wq.ite (fun h3 => ?_) (fun h3 => Wq.retE (by rw [eqb_f (fun h => h3 (by rw [h]))]) hA)
  refine Wq.call ih hA fun H2 nx2 hA2 => ?_
  refine Wq.retE ?_ hA2
  rw [eqb_congr]
  cases p; cases q
  simp only [Pat.k, Pat.n, Pat.s, Pat.l] at h1 h2 h3 ⊢
  simp [h1, h2, h3]
theorem pu_29 (p : Pat) (hp : p.ok) : ∀ (q : Pat) (v : Value), VPat p v → P0 29 [v, q.v] (.bool (eqb p q)) := by
  refine Pat.ind (p := fun p => p.ok → ∀ (q : Pat) (v : Value), VPat p v → P0 29 [v, q.v] (.bool (eqb p q))) (fun p ih hp q v hv => ?_) p hp
  rw [Pat.ok_iff] at hp
  exact pu_29a p q v hv (pu_32 p.l q.l hp.2.2.1 fun a ha b => ih a ha (hp.2.2.2 a ha) b _ a.vv)
theorem pu_32' (l m : List Pat) (hl : l.length < big) (h : ∀ a, a ∈ l → a.ok) : P0 32 [patsR l, patsR m] (.bool (eqb l m)) := pu_32 l m hl fun a ha b => pu_29 a (h a ha) b _ a.vv
theorem pu_53a (l m : List TyS) (hl : l.length < big) (ih : ∀ a, a ∈ l → ∀ m', P0 53 [tysR a.l, tysR m'] (.bool (eqb a.l m'))) : P0 53 [tysR l, tysR m] (.bool (eqb l m)) := Pure.of rfl fun H nx => by
  rw [q53]
  simp only [stpF, cond_true, cond_false, eq_self, List.length_nil, Int.reduceEq, Int.reduceLT, Int.reduceLE, sttF, List.length_map]
  refine Wq.nite (fun h => ?_) (fun h => ?_)
  · exact Wq.retE (by rw [eqb_f (fun q => h (by rw [q]))]) (.refl _ _)
  have hlm : l.length = m.length := by omega
  have := Wq.zip (nx0 := nx) (H0 := H) l m hlm (fun i H nx => .jump (l53_11 (tysR l) (tysR m) (i64 (i : Int)) H nx)) true (fun H1 nx1 hA1 => ?_) (fun i a b t u H1 nx1 hg hg2 hlt hA1 ih' => ?_) H nx (.refl _ _)
  · rw [Bool.and_true] at this
    exact this
  · refine Wq.jmp (q53_11 ..) (fun _ => rfl) ?_
    simp only [stpF, cond_true, cond_false, eq_self, List.length_nil, Int.reduceEq, Int.reduceLT, Int.reduceLE, sttF, List.length_map, not_lt_len]
    exact Wq.ret hA1
  · have hx : (l.map TyS.v)[i]? = some a.v := by simp [hg]
    have hx2 : (m.map TyS.v)[i]? = some b.v := by simp [hg2]
    have L16 : ∀ (r : Bool) H2 nx2, Ag nx H nx2 H2 → r = !eqb a b → Wq P pl X0 (.jump (l53_16 (tysR l) (tysR m) (i64 (i : Int)) r H2 nx2)) nx H (.bool (eqb a b && (eqb t u && true))) := by
      intro r H2 nx2 hA2 hr
      refine Wq.jmp (q53_16 ..) (fun _ => rfl) ?_
      cases hE : eqb a b with
      | false => rw [hE] at hr; rw [hr]; exact Wq.ret hA2
      | true =>
        rw [hE] at hr; rw [hr]
        simp only [stpF, cond_true, cond_false, eq_self, List.length_nil, Int.reduceEq, Int.reduceLT, Int.reduceLE, Bool.true_and, wrap_succ (show i < 9223372036854775807 by have := sm_lt hl; omega)]
        exact ih' _ _ hA2
    refine Wq.jmp (q53_11 ..) (fun _ => rfl) ?_
    simp only [stpF, cond_true, cond_false, eq_self, List.length_nil, Int.reduceEq, Int.reduceLT, Int.reduceLE, sttF, List.length_map, is_lt_len hlt, ix_53 hx, ix_53 hx2, txt_dec]
    refine Wq.nite (fun h1 => L16 _ _ _ hA1 (by rw [eqb_f (fun h => h1 (by rw [h]))]; rfl)) (fun h1 => ?_)
    refine Wq.nite (fun h2 => L16 _ _ _ hA1 (by rw [eqb_f (fun h => h2 (by rw [h]))]; rfl)) (fun h2 => ?_)
    refine Wq.call (ih a (List.mem_of_getElem? hg) b.l) hA1 fun H2 nx2 hA2 => ?_
    simp only [stpF, cond_true, cond_false, eq_self, List.length_nil, Int.reduceEq, Int.reduceLT, Int.reduceLE]
    refine L16 _ _ _ hA2 (congrArg _ (eqb_congr ?_))
    cases a; cases b
    simp only [TyS.k, TyS.s, TyS.l] at h1 h2 ⊢
    simp [h1, h2]
theorem pu_53t (a : TyS) (ha : a.ok) : ∀ m, P0 53 [tysR a.l, tysR m] (.bool (eqb a.l m)) := by
  refine TyS.ind (p := fun a => a.ok → ∀ m, P0 53 [tysR a.l, tysR m] (.bool (eqb a.l m))) (fun p ih hp m => ?_) a ha
  rw [TyS.ok_iff] at hp
  exact pu_53a p.l m hp.2.1 fun a ha m' => ih a ha (hp.2.2 a ha) m'
theorem pu_53 (l m : List TyS) (hl : l.length < big) (h : ∀ a, a ∈ l → a.ok) : P0 53 [tysR l, tysR m] (.bool (eqb l m)) := pu_53a l m hl fun a ha m' => pu_53t a (h a ha) m'
theorem pu_30 (p q : Con) (hp : p.ok) (v : Value) (hv : VCon p v) : P0 30 [v, q.v] (.bool (eqb p q)) := Pure.of rfl fun H nx => by
  rw [q30, frCon hv]
  refine Wq.natF' (.refl _ _) fun hA => ?_
  refine Wq.natF' hA fun hA => ?_
  simp only [stpF, cond_true, cond_false, eq_self, List.length_nil, Int.reduceEq, Int.reduceLT, Int.reduceLE, sttF, List.length_map, txt_dec]
  refine Wq.ite (fun h1 => ?_) (fun h1 => Wq.retE (by rw [eqb_f (fun h => h1 (by rw [h]))]) hA)
  refine Wq.call (pu_53 p.arg q.arg hp.2.1 hp.2.2) hA fun H2 nx2 hA2 => ?_
  refine Wq.retE ?_ hA2
  rw [eqb_congr]
  cases p; cases q
  simp only at h1 ⊢
  simp [h1]
theorem pu_31 (p q : Data) (hp : p.ok) (v : Value) (hv : VData p v) : P0 31 [v, q.v] (.bool (eqb p q)) := Pure.of rfl fun H nx => by
  rw [q31, frData hv]
  refine Wq.natF' (.refl _ _) fun hA => ?_
  refine Wq.natF' hA fun hA => ?_
  have L6 : ∀ H1 nx1, Ag nx H nx1 H1 → p ≠ q → Wq P pl X0 (.jump (l31_6 (eptrV p.v) (eptrV q.v) true H1 nx1)) nx H (.bool (eqb p q)) := by
    intro H1 nx1 hA1 h
    refine Wq.jmp (q31_6 ..) (fun _ => rfl) ?_
    rw [eqb_f h]
    exact Wq.ret hA1
  simp only [stpF, cond_true, cond_false, eq_self, List.length_nil, Int.reduceEq, Int.reduceLT, Int.reduceLE, sttF, List.length_map, txt_dec]
  refine Wq.nite (fun h1 => L6 _ _ hA fun h => h1 (by rw [h])) (fun h1 => ?_)
  refine Wq.nite (fun h2 => L6 _ _ hA fun h => h2 (by rw [h])) (fun h2 => ?_)
  refine Wq.jmp (q31_6 ..) (fun _ => rfl) ?_
  refine Wq.nite (fun h3 => ?_) (fun h3 => ?_)
  · rw [eqb_f fun h => h3 (by rw [h])]; exact Wq.ret hA
  have e0 : eqb p q = (eqb p.vars q.vars && (eqb p.cons q.cons && true)) := by
    rw [Bool.and_true, Bool.eq_iff_iff, Bool.and_eq_true, eqb_iff, eqb_iff, eqb_iff]
    cases p; cases q
    simp only at h1 ⊢
    simp [h1]
  rw [e0]
  refine Wq.zip (nx0 := nx) (H0 := H) p.vars q.vars (by omega) (fun i H nx => .jump (l31_11 (eptrV p.v) (eptrV q.v) (i64 (i : Int)) H nx)) _ (fun H1 nx1 hA1 => ?_) (fun i a b t u H1 nx1 hg hg2 hlt hA1 ih' => ?_) _ _ hA
  · refine Wq.jmp (q31_11 ..) (fun _ => rfl) ?_
    simp only [stpF, cond_true, cond_false, eq_self, List.length_nil, Int.reduceEq, Int.reduceLT, Int.reduceLE, sttF, List.length_map, not_lt_len]
    refine Wq.zip (nx0 := nx) (H0 := H) p.cons q.cons (by omega) (fun i H nx => .jump (l31_21 (eptrV p.v) (eptrV q.v) (i64 (i : Int)) H nx)) _ (fun H1 nx1 hA1 => ?_) (fun i a b t u H1 nx1 hg hg2 hlt hA1 ih' => ?_) _ _ hA1
    · refine Wq.jmp (q31_21 ..) (fun _ => rfl) ?_
      simp only [stpF, cond_true, cond_false, eq_self, List.length_nil, Int.reduceEq, Int.reduceLT, Int.reduceLE, sttF, List.length_map, not_lt_len]
      exact Wq.ret hA1
    · have hx : (p.cons.map Con.v)[i]? = some a.v := by simp [hg]
      have hx2 : (q.cons.map Con.v)[i]? = some b.v := by simp [hg2]
      refine Wq.jmp (q31_21 ..) (fun _ => rfl) ?_
      simp only [stpF, cond_true, cond_false, eq_self, List.length_nil, Int.reduceEq, Int.reduceLT, Int.reduceLE, sttF, List.length_map, is_lt_len hlt, ix_50 hx, ix_50 hx2]
      refine Wq.call (pu_30 a b (hp.2.2.2 a (List.mem_of_getElem? hg)) _ a.vv) hA1 fun H2 nx2 hA2 => ?_
      cases hE : eqb a b with
      | false => simp only [stpF, cond_true, cond_false, eq_self, List.length_nil, Int.reduceEq, Int.reduceLT, Int.reduceLE, Bool.false_and]; exact Wq.ret hA2
      | true =>
        simp only [stpF, cond_true, cond_false, eq_self, List.length_nil, Int.reduceEq, Int.reduceLT, Int.reduceLE, Bool.true_and, wrap_succ (show i < 9223372036854775807 by have := sm_lt hp.2.2.1; omega)]
        exact ih' _ _ hA2
  · have hx : (p.vars.map txt)[i]? = some (txt a) := by simp [hg]
    have hx2 : (q.vars.map txt)[i]? = some (txt b) := by simp [hg2]
    refine Wq.jmp (q31_11 ..) (fun _ => rfl) ?_
    simp only [stpF, cond_true, cond_false, eq_self, List.length_nil, Int.reduceEq, Int.reduceLT, Int.reduceLE, sttF, List.length_map, is_lt_len hlt, ix_49 hx, ix_49 hx2, txt_dec]
    refine Wq.nite (fun h => ?_) (fun h => ?_)
    · rw [eqb_f h]; exact Wq.ret hA1
    · rw [eqb_t h]
      simp only [stpF, cond_true, cond_false, eq_self, List.length_nil, Int.reduceEq, Int.reduceLT, Int.reduceLE, Bool.true_and, wrap_succ (show i < 9223372036854775807 by have := sm_lt hp.1.1; omega)]
      exact ih' _ _ hA1
end
end Go.Proofs.YthjhonhhbddhkaaGreatDoor
/- Whether expressions and declarations are the same. -/
namespace Go.Proofs.YthjhonhhbddhkaaGreatDoor
open Go.Ev Go.RowKit
noncomputable section
set_option maxRecDepth 100000
set_option linter.unusedVariables false
set_option linter.unusedSimpArgs false
variable {nx0 : Nat} {H0 : T OB}
theorem pu_25a (e q : Exp) (he : e.ok) (v : Value) (hv : VExp e v) (h1 : ∀ a, a ∈ e.l → ∀ b : Exp, P0 25 [a.v, b.v] (.bool (eqb a b))) (h2 : ∀ m, P0 14 [decsR e.d, decsR m] (.bool (eqb e.d m))) : P0 25 [v, q.v] (.bool (eqb e q)) := Pure.of rfl fun H nx => by
  rw [Exp.ok_iff] at he
  rw [q25, frExp hv]
  refine Wq.natF' (.refl _ _) fun hA => ?_
  refine Wq.natF' hA fun hA => ?_
  have L6 : ∀ H1 nx1, Ag nx H nx1 H1 → e ≠ q → Wq P pl X0 (.jump (l25_6 (eptrV e.v) (eptrV q.v) true H1 nx1)) nx H (.bool (eqb e q)) := by
    intro H1 nx1 hA1 h
    refine Wq.jmp (q25_6 ..) (fun _ => rfl) ?_
    rw [eqb_f h]
    exact Wq.ret hA1
  simp only [stpF, cond_true, cond_false, eq_self, List.length_nil, Int.reduceEq, Int.reduceLT, Int.reduceLE, sttF, List.length_map, txt_dec]
  refine Wq.nite (fun g1 => L6 _ _ hA fun h => g1 (by rw [h])) (fun g1 => ?_)
  refine Wq.nite (fun g2 => L6 _ _ hA fun h => g2 (by rw [h])) (fun g2 => ?_)
  refine Wq.nite (fun g3 => L6 _ _ hA fun h => g3 (by rw [h])) (fun g3 => ?_)
  refine Wq.nite (fun g4 => L6 _ _ hA fun h => g4 (by rw [h])) (fun g4 => ?_)
  refine Wq.call (pu_32' e.p q.p he.2.2.2.1.1 he.2.2.2.1.2) hA fun H1 nx1 hA1 => ?_
  cases g5 : eqb e.p q.p with
  | false =>
    simp only [stpF, cond_true, cond_false, eq_self, List.length_nil, Int.reduceEq, Int.reduceLT, Int.reduceLE]
    exact L6 _ _ hA1 fun h => by rw [h, eqb_self] at g5; cases g5
  | true =>
    simp only [stpF, cond_true, cond_false, eq_self, List.length_nil, Int.reduceEq, Int.reduceLT, Int.reduceLE]
    refine Wq.call (h2 q.d) hA1 fun H2 nx2 hA2 => ?_
    cases g6 : eqb e.d q.d with
    | false =>
      simp only [stpF, cond_true, cond_false, eq_self, List.length_nil, Int.reduceEq, Int.reduceLT, Int.reduceLE]
      exact L6 _ _ hA2 fun h => by rw [h, eqb_self] at g6; cases g6
    | true =>
      simp only [stpF, cond_true, cond_false, eq_self, List.length_nil, Int.reduceEq, Int.reduceLT, Int.reduceLE]
      refine Wq.jmp (q25_6 ..) (fun _ => rfl) ?_
      have e0 : eqb e q = (eqb e.l q.l && true) := by
        rw [Bool.and_true, eqb_congr]
        rw [eqb_iff] at g5 g6
        cases e; cases q
        simp only [Exp.k, Exp.n, Exp.s, Exp.p, Exp.d, Exp.l] at g1 g2 g3 g5 g6 ⊢
        simp [g1, g2, g3, g5, g6]
      rw [e0]
      refine Wq.zip (nx0 := nx) (H0 := H) e.l q.l (by omega) (fun i H nx => .jump (l25_11 (eptrV e.v) (eptrV q.v) (i64 (i : Int)) H nx)) _ (fun H1 nx1 hA1 => ?_) (fun i a b t u H1 nx1 hg hg2 hlt hA1 ih' => ?_) _ _ hA2
      · refine Wq.jmp (q25_11 ..) (fun _ => rfl) ?_
        simp only [stpF, cond_true, cond_false, eq_self, List.length_nil, Int.reduceEq, Int.reduceLT, Int.reduceLE, sttF, List.length_map, not_lt_len]
        exact Wq.ret hA1
      · have hx : (e.l.map Exp.v)[i]? = some a.v := by simp [hg]
        have hx2 : (q.l.map Exp.v)[i]? = some b.v := by simp [hg2]
        refine Wq.jmp (q25_11 ..) (fun _ => rfl) ?_
        simp only [stpF, cond_true, cond_false, eq_self, List.length_nil, Int.reduceEq, Int.reduceLT, Int.reduceLE, sttF, List.length_map, is_lt_len hlt, ix_41 hx, ix_41 hx2]
        refine Wq.call (h1 a (List.mem_of_getElem? hg) b) hA1 fun H2 nx2 hA2 => ?_
        cases hE : eqb a b with
        | false => simp only [stpF, cond_true, cond_false, eq_self, List.length_nil, Int.reduceEq, Int.reduceLT, Int.reduceLE, Bool.false_and]; exact Wq.ret hA2
        | true =>
          simp only [stpF, cond_true, cond_false, eq_self, List.length_nil, Int.reduceEq, Int.reduceLT, Int.reduceLE, Bool.true_and, wrap_succ (show i < 9223372036854775807 by have := sm_lt he.2.2.1.1; omega)]
          exact ih' _ _ hA2
/-! declarations -/
def VDec (d : Dec) (v : Value) : Prop := ∃ a1 a2 a3 a4 a5 a6 a7 a8, v = .agg ⟨[i64 d.k, i64 d.p.k, i64 d.p.n, txt d.p.s, a1, i64 d.e.k, i64 d.e.n, txt d.e.s, a2, a3, a4, a5, a6, txt d.x.s, a7, txt d.c.s, a8]⟩ ∧
  IsR 4 (d.p.l.map Pat.v) a1 ∧ IsR 6 (d.e.l.map Exp.v) a2 ∧ IsR 4 (d.e.p.map Pat.v) a3 ∧ IsR 17 (d.e.d.map Dec.v) a4 ∧ IsR 8 (d.f.map Fn.v) a5 ∧ IsR 1 (d.x.vars.map txt) a6 ∧ IsR 2 (d.x.cons.map Con.v) a7 ∧ IsR 3 (d.c.arg.map TyS.v) a8
theorem Dec.vv (d : Dec) : VDec d d.v := ⟨_, _, _, _, _, _, _, _, d.v_eq, .row _ _, .row _ _, .row _ _, .row _ _, .row _ _, .row _ _, .row _ _, .row _ _⟩
theorem DB_of {H : T OB} {b : Nat} {c0 c1 c2 c3 c4 c5 c6 c7 c8 c9 c10 c11 c12 c13 c14 c15 c16 : Value} (h : IsB H b [c0, c1, c2, c3, c4, c5, c6, c7, c8, c9, c10, c11, c12, c13, c14, c15, c16] 57) :
    rdLoad P H 3 (some (.pointer (some ⟨b, 0, none⟩))) = some c0 ∧ rdLoad P H 47 (some (.pointer (some ⟨b, 1, none⟩))) = some (.agg ⟨[c1, c2, c3, c4]⟩) ∧ rdLoad P H 44 (some (.pointer (some ⟨b, 5, none⟩))) = some (.agg ⟨[c5, c6, c7, c8, c9, c10]⟩) ∧
    rdLoad P H 48 (some (.pointer (some ⟨b, 11, none⟩))) = some c11 ∧ rdLoad P H 52 (some (.pointer (some ⟨b, 12, none⟩))) = some (.agg ⟨[c12, c13, c14]⟩) ∧ rdLoad P H 55 (some (.pointer (some ⟨b, 15, none⟩))) = some (.agg ⟨[c15, c16]⟩) :=
  ⟨rdLoad_cell h agg_3 rfl, rdLoad_agg h agg_47 sz_47 (by simp), rdLoad_agg h agg_44 sz_44 (by simp), rdLoad_cell h agg_48 rfl, rdLoad_agg h agg_52 sz_52 (by simp), rdLoad_agg h agg_55 sz_55 (by simp)⟩
theorem SB_of {H : T OB} {b : Nat} {d : Dec} (h : IsB H b d.cs 57) :
    rdLoad P H 3 (some (.pointer (some ⟨b, 0, none⟩))) = some (i64 d.k) ∧ rdLoad P H 47 (some (.pointer (some ⟨b, 1, none⟩))) = some d.p.v ∧ rdLoad P H 44 (some (.pointer (some ⟨b, 5, none⟩))) = some d.e.v ∧
    rdLoad P H 48 (some (.pointer (some ⟨b, 11, none⟩))) = some (fnsR d.f) ∧ rdLoad P H 52 (some (.pointer (some ⟨b, 12, none⟩))) = some d.x.v ∧ rdLoad P H 55 (some (.pointer (some ⟨b, 15, none⟩))) = some d.c.v := by
  rw [Dec.cs_eq] at h
  have := DB_of h
  rw [Pat.v_eq, Exp.v_eq]
  exact this
theorem FB_of {H : T OB} {b : Nat} {f : Fn} (h : IsB H b f.cs 65) : rdLoad P H 9 (some (.pointer (some ⟨b, 0, none⟩))) = some (txt f.s) ∧ rdLoad P H 42 (some (.pointer (some ⟨b, 1, none⟩))) = some (patsR f.p) ∧ rdLoad P H 44 (some (.pointer (some ⟨b, 2, none⟩))) = some f.b.v := by
  rw [Fn.cs_eq] at h
  rw [Exp.v_eq]
  exact ⟨rdLoad_cell h agg_9 rfl, rdLoad_cell h agg_42 rfl, rdLoad_agg h agg_44 sz_44 (by simp)⟩
theorem lVDec {d : Dec} {v : Value} (h : VDec d v) (H : T OB) : rdLoad P H 57 (some (eptrV v)) = some v ∧ v.cells.toList.length = 17 ∧ v.cells.toList.all oneCell = true := by
  obtain ⟨a1, a2, a3, a4, a5, a6, a7, a8, rfl, h1, h2, h3, h4, h5, h6, h7, h8⟩ := h
  refine ⟨by kernel_rfl, rfl, ?_⟩
  have key : ∀ s l x, IsR s l x → oneCell x = true := fun s l x h => by rcases h with rfl | ⟨_, rfl⟩ <;> rfl
  simp [Value.cells, key _ _ _ h1, key _ _ _ h2, key _ _ _ h3, key _ _ _ h4, key _ _ _ h5, key _ _ _ h6, key _ _ _ h7, key _ _ _ h8]
theorem fn_len {l : List Value} {v : Value} (h : IsR 8 l v) : rdLen P #[48] 3 (some [v]) = some (i64 (l.length : Int)) := by
  rcases h with rfl | ⟨rfl, rfl⟩
  · exact len_48 _ _ _
  · exact lenN_48 _
theorem Dec_eqb (d q : Dec) : eqb d q = (decide (d.k = q.k) && (eqb d.p q.p && (eqb d.e q.e && (eqb d.c q.c && (eqb d.x q.x && eqb d.f q.f))))) := by
  rw [Bool.eq_iff_iff]
  simp only [Bool.and_eq_true, eqb_iff, decide_eq_true_eq]
  cases d; cases q
  simp only [Dec.k, Dec.p, Dec.e, Dec.c, Dec.x, Dec.f, Dec.mk.injEq]
  exact ⟨fun ⟨a, b, c, d, e, f⟩ => ⟨a, b, c, f, e, d⟩, fun ⟨a, b, c, d, e, f⟩ => ⟨a, b, c, f, e, d⟩⟩
theorem Fn_eqb (d q : Fn) : eqb d q = (decide (d.s = q.s) && (eqb d.p q.p && eqb d.b q.b)) := by
  rw [Bool.eq_iff_iff]
  simp only [Bool.and_eq_true, eqb_iff, decide_eq_true_eq]
  cases d; cases q
  simp only [Fn.s, Fn.p, Fn.b, Fn.mk.injEq]
theorem w_14 (l m : List Dec) (vs : List Value) (hl : l.length < big) (hok : ∀ d, d ∈ l → d.ok) (hn : vs.length = l.length) (hvs : ∀ (i : Nat) d v, l[i]? = some d → vs[i]? = some v → VDec d v)
    (hE : ∀ d, d ∈ l → ∀ v, VExp d.e v → ∀ q : Exp, P0 25 [v, q.v] (.bool (eqb d.e q))) (hF : ∀ d, d ∈ l → ∀ f, f ∈ d.f → ∀ q : Exp, P0 25 [f.b.v, q.v] (.bool (eqb f.b q))) (hlm : l.length = m.length) (H1 : T OB) (nx1 : Nat) (hA : Ag nx0 H0 nx1 H1) :
    Wq P pl X0 (.jump (l14_11 (rowV 17 vs) (decsR m) (i64 ((0 : Nat) : Int)) H1 nx1)) nx0 H0 (.bool (eqb l m)) := by
  have := Wq.zip l m hlm (fun i H nx => .jump (l14_11 (rowV 17 vs) (decsR m) (i64 (i : Int)) H nx)) true (fun H1 nx1 hA1 => ?_) (fun i d q t u H1 nx1 hg hg2 hlt hA1 ih' => ?_) H1 nx1 hA
  · rw [Bool.and_true] at this
    exact this
  · refine Wq.jmp (q14_11 ..) (fun _ => rfl) ?_
    simp only [stpF, cond_true, cond_false, eq_self, List.length_nil, Int.reduceEq, Int.reduceLT, Int.reduceLE, sttF, List.length_map, hn, not_lt_len]
    exact Wq.ret hA1
  have hx : vs[i]? = some (vs[i]'(by omega)) := List.getElem?_eq_getElem _
  generalize hv0 : vs[i]'(by omega) = v at hx
  have hv := hvs i d v hg hx
  have hx2 : (m.map Dec.v)[i]? = some q.v := by simp [hg2]
  have hd := List.mem_of_getElem? hg
  have ok := (Dec.ok_iff d).1 (hok d hd)
  refine Wq.jmp (q14_11 ..) (fun _ => rfl) ?_
  obtain ⟨l1, l2, l3⟩ := lVDec hv H1
  simp only [stpF, cond_true, cond_false, eq_self, List.length_nil, Int.reduceEq, Int.reduceLT, Int.reduceLE, sttF, List.length_map, hn, is_lt_len hlt, ix_24 hx, ix_24 hx2, l1]
  refine Wq.alloc zero_57 hA1 fun H2 hb2 _ hA2 => ?_
  refine Wq.alloc zero_57 hA2 fun H3 hb3 k3 hA3 => ?_
  refine Wq.store (k3 _ _ _ (by omega) hb2) sz_57 (by simp) l2 l3 hA3 (by have := hA1.1; omega) fun H4 hb4 k4 hA4 => ?_
  simp only [stpF, cond_true, cond_false, eq_self, List.length_nil, Int.reduceEq, Int.reduceLT, Int.reduceLE, l1, (lVDec hv H4).1, lDec]
  refine Wq.store (k4 _ _ _ (by omega) hb3) sz_57 (by simp) (nDec q) (oDec q) hA4 (by have := hA1.1; omega) fun H5 hb5 k5 hA5 => ?_
  have hb1 : IsB H5 nx1 v.cells.toList 57 := by
    have := k5 _ _ _ (by omega) hb4
    obtain ⟨a1, a2, a3, a4, a5, a6, a7, a8, rfl, _⟩ := hv
    exact this
  have hb2 : IsB H5 (nx1 + 1) q.cs 57 := by
    rw [Dec.v_eq] at hb5
    rw [Dec.cs_eq]
    exact hb5
  clear hb5 hb4 hb3 k3 k4 k5
  obtain ⟨a1, a2, a3, a4, a5, a6, a7, a8, rfl, i1, i2, i3, i4, i5, i6, i7, i8⟩ := hv
  have D := fun H' (h : IsB H' nx1 (Value.agg ⟨[i64 d.k, i64 d.p.k, i64 d.p.n, txt d.p.s, a1, i64 d.e.k, i64 d.e.n, txt d.e.s, a2, a3, a4, a5, a6, txt d.x.s, a7, txt d.c.s, a8]⟩).cells.toList 57) => DB_of (H := H') h
  have L18 : ∀ H' nx', Ag nx0 H0 nx' H' → eqb d q = false → Wq P pl X0 (.jump (l14_18 (rowV 17 vs) (decsR m) (i64 (i : Int)) (.pointer (some ⟨nx1, 0, none⟩)) (.pointer (some ⟨nx1 + 1, 0, none⟩)) true H' nx')) nx0 H0 (.bool (eqb d q && (eqb t u && true))) := by
    intro H' nx' hA' h
    refine Wq.jmp (q14_18 ..) (fun _ => rfl) ?_
    rw [h]
    exact Wq.ret hA'
  rw [Dec_eqb] at L18 ⊢
  simp only [stpF, cond_true, cond_false, eq_self, List.length_nil, Int.reduceEq, Int.reduceLT, Int.reduceLE, fp_57_0, fp_57_1, fp_57_2, fp_57_3, fp_57_4, fp_57_5, (D _ hb1).1, (SB_of hb2).1]
  refine Wq.nite (fun g1 => L18 _ _ hA5 (by simp [g1])) (fun g1 => ?_)
  rw [show decide (d.k = q.k) = true by simp [g1], Bool.true_and] at L18 ⊢
  simp only [stpF, cond_true, cond_false, eq_self, List.length_nil, Int.reduceEq, Int.reduceLT, Int.reduceLE, (D _ hb1).2.1, (SB_of hb2).2.1]
  refine Wq.callB (pu_29 d.p ok.1 q.p _ ⟨a1, rfl, i1⟩) hA5 fun H6 nx6 hA6 n6 k6 => ?_
  replace hb1 := k6 _ _ _ (by omega) hb1
  replace hb2 := k6 _ _ _ (by omega) hb2
  cases g2 : eqb d.p q.p with
  | false => rw [g2] at L18; simp only [stpF, cond_true, cond_false, eq_self, List.length_nil, Int.reduceEq, Int.reduceLT, Int.reduceLE]; exact L18 _ _ hA6 rfl
  | true =>
  rw [g2, Bool.true_and] at L18
  rw [Bool.true_and]
  simp only [stpF, cond_true, cond_false, eq_self, List.length_nil, Int.reduceEq, Int.reduceLT, Int.reduceLE, (D _ hb1).2.2.1, (SB_of hb2).2.2.1]
  refine Wq.callB (hE d hd _ ⟨a2, a3, a4, rfl, i2, i3, i4⟩ q.e) hA6 fun H7 nx7 hA7 n7 k7 => ?_
  replace hb1 := k7 _ _ _ (by omega) hb1
  replace hb2 := k7 _ _ _ (by omega) hb2
  cases g3 : eqb d.e q.e with
  | false => rw [g3] at L18; simp only [stpF, cond_true, cond_false, eq_self, List.length_nil, Int.reduceEq, Int.reduceLT, Int.reduceLE]; exact L18 _ _ hA7 rfl
  | true =>
  rw [g3, Bool.true_and] at L18
  rw [Bool.true_and]
  simp only [stpF, cond_true, cond_false, eq_self, List.length_nil, Int.reduceEq, Int.reduceLT, Int.reduceLE, (D _ hb1).2.2.2.1, (SB_of hb2).2.2.2.1, fn_len i5, len_48, List.length_map]
  refine Wq.nite (fun g4 => L18 _ _ hA7 (by rw [show eqb d.f q.f = false from eqb_f fun h => g4 (by rw [h])]; simp)) (fun g4 => ?_)
  have hfl : d.f.length = q.f.length := by omega
  simp only [stpF, cond_true, cond_false, eq_self, List.length_nil, Int.reduceEq, Int.reduceLT, Int.reduceLE, (D _ hb1).2.2.2.2.2, (SB_of hb2).2.2.2.2.2]
  refine Wq.callB (pu_30 d.c q.c ok.2.2.2.2 _ ⟨a8, rfl, i8⟩) hA7 fun H8 nx8 hA8 n8 k8 => ?_
  replace hb1 := k8 _ _ _ (by omega) hb1
  replace hb2 := k8 _ _ _ (by omega) hb2
  cases g5 : eqb d.c q.c with
  | false => rw [g5] at L18; simp only [stpF, cond_true, cond_false, eq_self, List.length_nil, Int.reduceEq, Int.reduceLT, Int.reduceLE]; exact L18 _ _ hA8 rfl
  | true =>
  rw [g5, Bool.true_and] at L18
  rw [Bool.true_and]
  simp only [stpF, cond_true, cond_false, eq_self, List.length_nil, Int.reduceEq, Int.reduceLT, Int.reduceLE, (D _ hb1).2.2.2.2.1, (SB_of hb2).2.2.2.2.1]
  refine Wq.callB (pu_31 d.x q.x ok.2.2.2.1 _ ⟨a6, a7, rfl, i6, i7⟩) hA8 fun H9 nx9 hA9 n9 k9 => ?_
  replace hb1 := k9 _ _ _ (by omega) hb1
  replace hb2 := k9 _ _ _ (by omega) hb2
  cases g6 : eqb d.x q.x with
  | false => rw [g6] at L18; simp only [stpF, cond_true, cond_false, eq_self, List.length_nil, Int.reduceEq, Int.reduceLT, Int.reduceLE]; exact L18 _ _ hA9 rfl
  | true =>
  rw [Bool.true_and]
  simp only [stpF, cond_true, cond_false, eq_self, List.length_nil, Int.reduceEq, Int.reduceLT, Int.reduceLE]
  refine Wq.jmp (q14_18 ..) (fun _ => rfl) ?_
  have hn1 : nx0 ≤ nx1 := hA1.1
  have hn9 : nx1 + 2 ≤ nx9 := by omega
  clear L18 g1 g2 g3 g4 g5 g6 n6 n7 n8 n9 k6 k7 k8 k9 hA5 hA6 hA7 hA8 hA4 hA3 hA2
  refine Wq.zipI (fun H nx => (IsB H nx1 (Value.agg ⟨[i64 d.k, i64 d.p.k, i64 d.p.n, txt d.p.s, a1, i64 d.e.k, i64 d.e.n, txt d.e.s, a2, a3, a4, a5, a6, txt d.x.s, a7, txt d.c.s, a8]⟩).cells.toList 57 ∧ IsB H (nx1 + 1) q.cs 57) ∧ nx1 + 2 ≤ nx) d.f q.f hfl (fun j H nx => .jump (l14_23 (rowV 17 vs) (decsR m) (i64 (i : Int)) (.pointer (some ⟨nx1, 0, none⟩)) (.pointer (some ⟨nx1 + 1, 0, none⟩)) (i64 (j : Int)) H nx)) _ (fun Hz nz hI hB1 => ?_) (fun j a b t' u' Hz nz kg kg2 klt hI hB1 jh => ?_) _ _ ⟨⟨hb1, hb2⟩, hn9⟩ hA9
  · refine Wq.jmp (q14_23 ..) (fun _ => rfl) ?_
    simp only [stpF, cond_true, cond_false, eq_self, List.length_nil, Int.reduceEq, Int.reduceLT, Int.reduceLE, fp_57_3, (D _ hI.1.1).2.2.2.1, fn_len i5, List.length_map, not_lt_len, wrap_succ (show i < 9223372036854775807 by have := sm_lt hl; omega)]
    exact ih' _ _ hB1
  have jx : (d.f.map Fn.v)[j]? = some a.v := by simp [kg]
  have jx2 : (q.f.map Fn.v)[j]? = some b.v := by simp [kg2]
  have ha := List.mem_of_getElem? kg
  have e5 : a5 = fnsR d.f := by
    rcases i5 with h | ⟨h, _⟩
    · exact h
    · rw [h] at jx; cases jx
  subst e5
  have oka := (Fn.ok_iff a).1 (ok.2.2.1.2 a ha)
  obtain ⟨⟨hb1, hb2⟩, hn2⟩ := hI
  refine Wq.jmp (q14_23 ..) (fun _ => rfl) ?_
  simp only [stpF, cond_true, cond_false, eq_self, List.length_nil, Int.reduceEq, Int.reduceLT, Int.reduceLE, sttF, List.length_map, fp_57_3, (D _ hb1).2.2.2.1, (SB_of hb2).2.2.2.1, is_lt_len klt, ix_48 jx, ix_48 jx2]
  refine Wq.alloc zero_65 hB1 fun H2 hc1 s2 hB2 => ?_
  refine Wq.alloc zero_65 hB2 fun H3 hc2 s3 hB3 => ?_
  replace hb1 := s3 _ _ _ (by omega) (s2 _ _ _ (by omega) hb1)
  replace hb2 := s3 _ _ _ (by omega) (s2 _ _ _ (by omega) hb2)
  refine Wq.store (s3 _ _ _ (by omega) hc1) sz_65 (by simp) (nFn a) (oFn a) hB3 (by have := hB1.1; omega) fun H4 hc1 s4 hB4 => ?_
  replace hb1 := s4 _ _ _ (by omega) hb1
  replace hb2 := s4 _ _ _ (by omega) hb2
  simp only [stpF, cond_true, cond_false, eq_self, List.length_nil, Int.reduceEq, Int.reduceLT, Int.reduceLE, lFn, (SB_of hb2).2.2.2.1]
  refine Wq.store (s4 _ _ _ (by omega) hc2) sz_65 (by simp) (nFn b) (oFn b) hB4 (by have := hB1.1; omega) fun H5 hc2 s5 hB5 => ?_
  replace hb1 := s5 _ _ _ (by omega) hb1
  replace hb2 := s5 _ _ _ (by omega) hb2
  replace hc1 : IsB H5 nz a.cs 65 := by
    have := s5 _ _ _ (by omega) hc1
    rw [Fn.v_eq] at this
    rw [Fn.cs_eq]
    exact this
  replace hc2 : IsB H5 (nz + 1) b.cs 65 := by
    rw [Fn.v_eq] at hc2
    rw [Fn.cs_eq]
    exact hc2
  clear s2 s3 s4 s5 hB2 hB3 hB4
  have M30 : ∀ (r : Bool) H' nx', nz ≤ nx' → r = eqb a b → IsB H' nx1 (Value.agg ⟨[i64 d.k, i64 d.p.k, i64 d.p.n, txt d.p.s, a1, i64 d.e.k, i64 d.e.n, txt d.e.s, a2, a3, a4, fnsR d.f, a6, txt d.x.s, a7, txt d.c.s, a8]⟩).cells.toList 57 → IsB H' (nx1 + 1) q.cs 57 → Ag nx0 H0 nx' H' → Wq P pl X0 (.jump (l14_30 (rowV 17 vs) (decsR m) (i64 (i : Int)) (.pointer (some ⟨nx1, 0, none⟩)) (.pointer (some ⟨nx1 + 1, 0, none⟩)) (i64 (j : Int)) (!r) H' nx')) nx0 H0 (.bool (eqb a b && (eqb t' u' && (eqb t u && true)))) := by
    intro r H' nx' hn hr g1 g2 hA'
    refine Wq.jmp (q14_30 ..) (fun _ => rfl) ?_
    rw [← hr]
    cases r with
    | false => exact Wq.ret hA'
    | true =>
      simp only [stpF, cond_true, cond_false, eq_self, List.length_nil, Int.reduceEq, Int.reduceLT, Int.reduceLE, Bool.true_and, wrap_succ (show j < 9223372036854775807 by have := sm_lt ok.2.2.1.1; omega)]
      exact jh _ _ ⟨⟨g1, g2⟩, by omega⟩ hA'
  have hz := Fn_eqb a b
  simp only [stpF, cond_true, cond_false, eq_self, List.length_nil, Int.reduceEq, Int.reduceLT, Int.reduceLE, fp_65_0, fp_65_1, fp_65_2, (FB_of hc1).1, (FB_of hc2).1, txt_dec]
  refine Wq.nite (fun g1 => M30 false _ _ (by omega) (by rw [hz]; simp [g1]) hb1 hb2 hB5) (fun g1 => ?_)
  simp only [stpF, cond_true, cond_false, eq_self, List.length_nil, Int.reduceEq, Int.reduceLT, Int.reduceLE, (FB_of hc1).2.1, (FB_of hc2).2.1]
  refine Wq.callB (pu_32' a.p b.p oka.2.1.1 oka.2.1.2) hB5 fun H6 nx6 hB6 n6 k6 => ?_
  replace hb1 := k6 _ _ _ (by omega) hb1
  replace hb2 := k6 _ _ _ (by omega) hb2
  replace hc1 := k6 _ _ _ (by omega) hc1
  replace hc2 := k6 _ _ _ (by omega) hc2
  cases g2 : eqb a.p b.p with
  | false => simp only [stpF, cond_true, cond_false, eq_self, List.length_nil, Int.reduceEq, Int.reduceLT, Int.reduceLE]; exact M30 false _ _ (by omega) (by rw [hz]; simp [g2]) hb1 hb2 hB6
  | true =>
  simp only [stpF, cond_true, cond_false, eq_self, List.length_nil, Int.reduceEq, Int.reduceLT, Int.reduceLE, (FB_of hc1).2.2, (FB_of hc2).2.2]
  refine Wq.callB (hF d hd a ha b.b) hB6 fun H7 nx7 hB7 n7 k7 => ?_
  replace hb1 := k7 _ _ _ (by omega) hb1
  replace hb2 := k7 _ _ _ (by omega) hb2
  simp only [stpF, cond_true, cond_false, eq_self, List.length_nil, Int.reduceEq, Int.reduceLT, Int.reduceLE]
  exact M30 _ _ _ (by omega) (by rw [hz]; simp [g1, g2]) hb1 hb2 hB7
theorem frR_24 (es : List Value) (H : T OB) (nx : Nat) (k : Value → T OB → Nat → Q) : frzV P 24 (rowV 17 es) H nx k = k (rowV 17 es) H nx := by kernel_rfl
theorem pu_14 (l m : List Dec) (hl : l.length < big) (hok : ∀ d, d ∈ l → d.ok) (hE : ∀ d, d ∈ l → ∀ v, VExp d.e v → ∀ q : Exp, P0 25 [v, q.v] (.bool (eqb d.e q))) (hF : ∀ d, d ∈ l → ∀ f, f ∈ d.f → ∀ q : Exp, P0 25 [f.b.v, q.v] (.bool (eqb f.b q))) : P0 14 [decsR l, decsR m] (.bool (eqb l m)) := Pure.of rfl fun H nx => by
  rw [q14, frR_24, frR_24]
  simp only [stpF, cond_true, cond_false, eq_self, List.length_nil, Int.reduceEq, Int.reduceLT, Int.reduceLE, sttF, List.length_map]
  refine Wq.nite (fun h => ?_) (fun h => ?_)
  · exact Wq.retE (by rw [eqb_f (fun q => h (by rw [q]))]) (.refl _ _)
  exact w_14 l m _ hl hok (by simp) (fun i d v h1 h2 => by
    rw [List.getElem?_map, h1] at h2
    cases h2
    exact d.vv) hE hF (by omega) _ _ (.refl _ _)
def Same25 (e : Exp) : Prop := ∀ (q : Exp) (v : Value), VExp e v → P0 25 [v, q.v] (.bool (eqb e q))
theorem both_25 : (∀ e : Exp, e.ok → Same25 e) ∧ ∀ d : Dec, d.ok → Same25 d.e ∧ ∀ f, f ∈ d.f → Same25 f.b := by
  have A : ∀ e : Exp, (∀ c, c ∈ e.l → c.ok → Same25 c) → (∀ d, d ∈ e.d → d.ok → Same25 d.e ∧ ∀ f, f ∈ d.f → Same25 f.b) → e.ok → Same25 e := fun e h1 h2 h q v hv => by
    have h' := (Exp.ok_iff e).1 h
    exact pu_25a e q h v hv (fun a ha b => h1 a ha (h'.2.2.1.2 a ha) b _ a.vv) fun m => pu_14 e.d m h'.2.2.2.2.1 h'.2.2.2.2.2 (fun d hd v hv q => (h2 d hd (h'.2.2.2.2.2 d hd)).1 q v hv) fun d hd f hf q => (h2 d hd (h'.2.2.2.2.2 d hd)).2 f hf q _ f.b.vv
  have B : ∀ d : Dec, (d.e.ok → Same25 d.e) → (∀ f, f ∈ d.f → f.b.ok → Same25 f.b) → d.ok → Same25 d.e ∧ ∀ f, f ∈ d.f → Same25 f.b := fun d h1 h2 h => by
    have h' := (Dec.ok_iff d).1 h
    exact ⟨h1 h'.2.1, fun f hf => h2 f hf ((Fn.ok_iff f).1 (h'.2.2.1.2 f hf)).2.2⟩
  exact ⟨Exp.ind A B, Dec.ind A B⟩
theorem frS_24 {b : Nat} {cs : List Value} {H : T OB} {nx : Nat} {R : Value → T OB → Nat → Prop} {k : Value → T OB → Nat → Q} (hb : IsB H b cs 57) (hl : cs.length = 17) (h : Ag nx0 H0 nx H) (hbn : nx0 ≤ b)
    (hk : ∀ H', (∀ c l e, c ≠ b → IsB H c l e → IsB H' c l e) → Ag nx0 H0 (nx + 1) H' → WqR P pl X0 (k (rowV 17 [.agg ⟨cs⟩]) H' (nx + 1)) nx0 H0 R) : WqR P pl X0 (frzV P 24 (.slice (some ⟨b, 0, none⟩) 1 1) H nx k) nx0 H0 R := by
  refine Wq.frz und_24 sz_57 agg_57 rfl hb (by omega) (by rw [Nat.ble_eq_true_of_le (Nat.le_refl _), Bool.or_true]) ?_ (by simp [Ev.bK]) h hbn hk
  have := chunk_aggs 17 [cs] (by simp [hl])
  simpa using this
/-- A declaration that stands alone, beside another one. -/
theorem w_14h (d q : Dec) (hd : d.ok) (v : Value) (hv : VDec d v) (b1 b2 : Nat) (hne : b1 ≠ b2) (H : T OB) (nx : Nat) (h1 : IsB H b1 v.cells.toList 57) (h2 : IsB H b2 q.cs 57) (n1 : nx0 ≤ b1) (n2 : nx0 ≤ b2) (hA : Ag nx0 H0 nx H) :
    Wq P pl X0 (evT P pl (.call 14 [.slice (some ⟨b1, 0, none⟩) 1 1, .slice (some ⟨b2, 0, none⟩) 1 1] false none H nx)) nx0 H0 (.bool (eqb d q)) := by
  have e0 : eqb d q = eqb [d] [q] := eqb_congr (by simp)
  have hv17 := (lVDec hv H).2.1
  rw [q14, e0]
  refine frS_24 h1 hv17 hA n1 fun H1 k1 hA1 => ?_
  refine frS_24 (k1 _ _ _ (fun q => hne q.symm) h2) (by rw [Dec.cs_eq]; rfl) hA1 n2 fun H2 k2 hA2 => ?_
  simp only [stpF, cond_true, cond_false, eq_self, List.length_nil, Int.reduceEq, Int.reduceLT, Int.reduceLE, len_24, List.length_cons, Int.reduceEq, decide_true, Bool.not_true]
  have ev : (Value.agg ⟨v.cells.toList⟩) = v := by
    obtain ⟨a1, a2, a3, a4, a5, a6, a7, a8, rfl, _⟩ := hv
    rfl
  rw [ev]
  have hb := both_25.2 d hd
  exact w_14 [d] [q] [v] (show 1 < big by decide) (fun c hc => by rw [List.mem_singleton.1 hc]; exact hd) rfl (fun i c w h3 h4 => by
    cases i with
    | zero => cases h3; cases h4; exact hv
    | succ i => cases h3) (fun c hc w hw q => by rw [List.mem_singleton.1 hc] at hw ⊢; exact hb.1 q w hw) (fun c hc f hf q => by rw [List.mem_singleton.1 hc] at hf; exact hb.2 f hf q _ f.b.vv) rfl _ _ hA2
end
end Go.Proofs.YthjhonhhbddhkaaGreatDoor
/- The document: which texts are words. -/
namespace Go.Proofs.YthjhonhhbddhkaaGreatDoor
open Go.Ev Go.RowKit
noncomputable section
set_option maxRecDepth 100000
set_option linter.unusedVariables false
set_option linter.unusedSimpArgs false
variable {nx0 : Nat} {H0 : T OB}
theorem pu_144 (c : UInt8) (lo hi : Nat) : P0 144 [b8 c, .int .u8 (lo : Int), .int .u8 (hi : Int)] (.bool (decide (lo ≤ c.toNat) && decide (c.toNat ≤ hi))) := Pure.of rfl fun H nx => by
  rw [q144]
  simp only [stpF, cond_true, cond_false, eq_self, List.length_nil, Int.reduceEq, Int.reduceLT, Int.reduceLE]
  have e1 : decide ((lo : Int) ≤ (c.toNat : Int)) = decide (lo ≤ c.toNat) := by rw [decide_eq_decide]; omega
  have e2 : decide ((c.toNat : Int) ≤ (hi : Int)) = decide (c.toNat ≤ hi) := by rw [decide_eq_decide]; omega
  rw [e1]
  refine Wq.bK (fun h => ?_) (fun h => ?_)
  · rw [h, Bool.true_and, ← e2]; exact Wq.ret (.refl _ _)
  · rw [h, Bool.false_and]; exact Wq.ret (.refl _ _)
theorem pu_low (c : UInt8) : P0 144 [b8 c, .int .u8 97, .int .u8 122] (.bool (isLow c)) := pu_144 c 97 122
theorem pu_high (c : UInt8) : P0 144 [b8 c, .int .u8 65, .int .u8 90] (.bool (isHigh c)) := pu_144 c 65 90
theorem pu_dig (c : UInt8) : P0 144 [b8 c, .int .u8 48, .int .u8 57] (.bool (isDig c)) := pu_144 c 48 57
theorem dec39 (c : UInt8) : decide ((c.toNat : Int) = 39) = decide (c.toNat = 39) := by rw [decide_eq_decide]; omega
theorem dec95 (c : UInt8) : decide ((c.toNat : Int) = 95) = decide (c.toNat = 95) := by rw [decide_eq_decide]; omega
theorem pu_156 (c : UInt8) : P0 156 [b8 c] (.bool (inW c)) := Pure.of rfl fun H nx => by
  rw [q156]
  unfold inW
  refine Wq.call (pu_low c) (.refl _ _) fun H1 nx1 hA1 => ?_
  simp only [stpF, cond_true, cond_false, eq_self, List.length_nil, Int.reduceEq, Int.reduceLT, Int.reduceLE, dec39, dec95]
  refine Wq.bK (fun h => by rw [h, Bool.true_or]; exact Wq.ret hA1) (fun h => ?_)
  rw [h, Bool.false_or]
  refine Wq.call (pu_high c) hA1 fun H2 nx2 hA2 => ?_
  simp only [stpF, cond_true, cond_false, eq_self, List.length_nil, Int.reduceEq, Int.reduceLT, Int.reduceLE]
  refine Wq.bK (fun h => by rw [h, Bool.true_or]; exact Wq.ret hA2) (fun h => ?_)
  rw [h, Bool.false_or]
  refine Wq.call (pu_dig c) hA2 fun H3 nx3 hA3 => ?_
  simp only [stpF, cond_true, cond_false, eq_self, List.length_nil, Int.reduceEq, Int.reduceLT, Int.reduceLE]
  refine Wq.bK (fun h => by rw [h, Bool.true_or]; exact Wq.ret hA3) (fun h => ?_)
  rw [h, Bool.false_or]
  refine Wq.bK (fun h => by rw [h, Bool.true_or]; exact Wq.ret hA3) (fun h => ?_)
  rw [h, Bool.false_or]
  exact Wq.ret hA3
/-! a text among some -/
theorem w_115 (l : List (List UInt8)) (hl : l.length < big) (s : List UInt8) : ∀ (r : List (List UInt8)) (i : Nat) (H : T OB) (nx : Nat), l.drop i = r → i ≤ l.length → Ag nx0 H0 nx H → Wq P pl X0 (.jump (l115_7 (strsR l) (txt s) (i64 (i : Int)) H nx)) nx0 H0 (.bool (r.contains s)) := by
  intro r
  induction r with
  | nil =>
    intro i H nx hd hi hA
    have hil := drop_nil hd hi
    refine Wq.jmp (q115_7 ..) (fun _ => rfl) ?_
    simp only [stpF, cond_true, cond_false, eq_self, List.length_nil, Int.reduceEq, Int.reduceLT, Int.reduceLE, sttF, List.length_map, hil, not_lt_len]
    exact Wq.ret hA
  | cons x r ih =>
    intro i H nx hd hi hA
    obtain ⟨hg, hlt, hd'⟩ := drop_cons hd
    have hg' : (l.map txt)[i]? = some (txt x) := by simp [hg]
    refine Wq.jmp (q115_7 ..) (fun _ => rfl) ?_
    simp only [stpF, cond_true, cond_false, eq_self, List.length_nil, Int.reduceEq, Int.reduceLT, Int.reduceLE, sttF, List.length_map, is_lt_len hlt, ix_49 hg', txt_dec, wrap_succ (show i < 9223372036854775807 by have := sm_lt hl; omega)]
    refine Wq.ite (fun h => ?_) (fun h => ?_)
    · exact Wq.retE (by subst h; simp) hA
    · have : ((x :: r).contains s) = r.contains s := by rw [List.contains_cons, show (s == x) = false from by simp; exact fun q => h q.symm, Bool.false_or]
      rw [this]
      exact ih (i + 1) H nx hd' (by omega) hA
theorem fr_49 (es : List Value) (H : T OB) (nx : Nat) (k : Value → T OB → Nat → Q) : frzV P 49 (rowV 1 es) H nx k = k (rowV 1 es) H nx := by kernel_rfl
theorem pu_115 (l : List (List UInt8)) (hl : l.length < big) (s : List UInt8) : P0 115 [strsR l, txt s] (.bool (l.contains s)) := Pure.of rfl fun H nx => by
  rw [q115, fr_49]
  exact w_115 l hl s l 0 H nx rfl (Nat.zero_le _) (.refl _ _)
theorem zero_9' : zeroC P 9 = some [.string ⟨⟨[]⟩⟩] := by kernel_rfl
/-- A row of texts that stands in memory, by value. -/
theorem Wq.frT {b n : Nat} {l : List (List UInt8)} {H : T OB} {nx : Nat} {R : Value → T OB → Nat → Prop} {k : Value → T OB → Nat → Q} (hb : IsB H b (l.map txt) 9) (hl : l.length = n) (h : Ag nx0 H0 nx H) (hbn : nx0 ≤ b)
    (hk : ∀ H', (∀ c l e, c ≠ b → IsB H c l e → IsB H' c l e) → Ag nx0 H0 (nx + 1) H' → WqR P pl X0 (k (strsR l) H' (nx + 1)) nx0 H0 R) : WqR P pl X0 (frzV P 49 (.slice (some ⟨b, 0, none⟩) n n) H nx k) nx0 H0 R := by
  subst hl
  have hch : chunk false 1 l.length (l.map txt) = some (l.map txt) := by
    have := chunk_cells (l.map txt)
    rwa [List.length_map] at this
  exact Wq.frz und_49 sz_9 agg_9 rfl hb (by simp) (by rw [Nat.ble_eq_true_of_le (Nat.le_refl _), Bool.or_true]) hch (by simp [Ev.bK]) h hbn hk
theorem fl_157 : Instr.fill (fun i => some (i * 1, 1)) (zeroRow [Value.string ⟨⟨[]⟩⟩] (26 * 1)) [(0, (.string ⟨⟨[97, 110, 100]⟩⟩)), (1, (.string ⟨⟨[97, 110, 100, 97, 108, 115, 111]⟩⟩)), (2, (.string ⟨⟨[99, 97, 115, 101]⟩⟩)), (3, (.string ⟨⟨[100, 97, 116, 97, 116, 121, 112, 101]⟩⟩)), (4, (.string ⟨⟨[100, 105, 118]⟩⟩)), (5, (.string ⟨⟨[101, 108, 115, 101]⟩⟩)), (6, (.string ⟨⟨[101, 110, 100]⟩⟩)), (7, (.string ⟨⟨[101, 120, 99, 101, 112, 116, 105, 111, 110]⟩⟩)), (8, (.string ⟨⟨[102, 110]⟩⟩)), (9, (.string ⟨⟨[102, 117, 110]⟩⟩)), (10, (.string ⟨⟨[104, 97, 110, 100, 108, 101]⟩⟩)), (11, (.string ⟨⟨[105, 102]⟩⟩)), (12, (.string ⟨⟨[105, 110]⟩⟩)), (13, (.string ⟨⟨[105, 116, 111, 115]⟩⟩)), (14, (.string ⟨⟨[108, 101, 116]⟩⟩)), (15, (.string ⟨⟨[109, 111, 100]⟩⟩)), (16, (.string ⟨⟨[110, 111, 116]⟩⟩)), (17, (.string ⟨⟨[111, 102]⟩⟩)), (18, (.string ⟨⟨[111, 114, 100]⟩⟩)), (19, (.string ⟨⟨[111, 114, 101, 108, 115, 101]⟩⟩)), (20, (.string ⟨⟨[114, 97, 105, 115, 101]⟩⟩)), (21, (.string ⟨⟨[114, 101, 102]⟩⟩)), (22, (.string ⟨⟨[115, 105, 122, 101]⟩⟩)), (23, (.string ⟨⟨[115, 116, 114]⟩⟩)), (24, (.string ⟨⟨[116, 104, 101, 110]⟩⟩)), (25, (.string ⟨⟨[118, 97, 108]⟩⟩))] = some ⟨keysL.map txt⟩ := by kernel_rfl
theorem pu_157 : P0 157 [] (strsR keysL) := Pure.of rfl fun H nx => by
  rw [q157]
  refine Wq.row und_49 sz_9 zero_9' rfl (fl_157) (.refl _ _) fun H1 hb1 _ hA1 => ?_
  refine Wq.frT (l := keysL) hb1 rfl hA1 (Nat.le_refl _) fun H2 _ hA2 => ?_
  exact Wq.ret hA2
theorem fl_116 : Instr.fill (fun i => some (i * 1, 1)) (zeroRow [Value.string ⟨⟨[]⟩⟩] (22 * 1)) [(0, (.string ⟨⟨[45, 62]⟩⟩)), (1, (.string ⟨⟨[61, 62]⟩⟩)), (2, (.string ⟨⟨[58, 58]⟩⟩)), (3, (.string ⟨⟨[58, 61]⟩⟩)), (4, (.string ⟨⟨[60, 61]⟩⟩)), (5, (.string ⟨⟨[62, 61]⟩⟩)), (6, (.string ⟨⟨[60, 62]⟩⟩)), (7, (.string ⟨⟨[61]⟩⟩)), (8, (.string ⟨⟨[60]⟩⟩)), (9, (.string ⟨⟨[62]⟩⟩)), (10, (.string ⟨⟨[43]⟩⟩)), (11, (.string ⟨⟨[45]⟩⟩)), (12, (.string ⟨⟨[42]⟩⟩)), (13, (.string ⟨⟨[94]⟩⟩)), (14, (.string ⟨⟨[33]⟩⟩)), (15, (.string ⟨⟨[126]⟩⟩)), (16, (.string ⟨⟨[40]⟩⟩)), (17, (.string ⟨⟨[41]⟩⟩)), (18, (.string ⟨⟨[44]⟩⟩)), (19, (.string ⟨⟨[59]⟩⟩)), (20, (.string ⟨⟨[124]⟩⟩)), (21, (.string ⟨⟨[95]⟩⟩))] = some ⟨signsL.map txt⟩ := by kernel_rfl
theorem pu_116 : P0 116 [] (strsR signsL) := Pure.of rfl fun H nx => by
  rw [q116]
  refine Wq.row und_49 sz_9 zero_9' rfl (fl_116) (.refl _ _) fun H1 hb1 _ hA1 => ?_
  refine Wq.frT (l := signsL) hb1 rfl hA1 (Nat.le_refl _) fun H2 _ hA2 => ?_
  exact Wq.ret hA2
theorem fl_142 : Instr.fill (fun i => some (i * 1, 1)) (zeroRow [Value.string ⟨⟨[]⟩⟩] (8 * 1)) [(0, (.string ⟨⟨[126]⟩⟩)), (1, (.string ⟨⟨[33]⟩⟩)), (2, (.string ⟨⟨[110, 111, 116]⟩⟩)), (3, (.string ⟨⟨[114, 101, 102]⟩⟩)), (4, (.string ⟨⟨[115, 105, 122, 101]⟩⟩)), (5, (.string ⟨⟨[115, 116, 114]⟩⟩)), (6, (.string ⟨⟨[111, 114, 100]⟩⟩)), (7, (.string ⟨⟨[105, 116, 111, 115]⟩⟩))] = some ⟨wordsL.map txt⟩ := by kernel_rfl
theorem pu_142 : P0 142 [] (strsR wordsL) := Pure.of rfl fun H nx => by
  rw [q142]
  refine Wq.row und_49 sz_9 zero_9' rfl (fl_142) (.refl _ _) fun H1 hb1 _ hA1 => ?_
  refine Wq.frT (l := wordsL) hb1 rfl hA1 (Nat.le_refl _) fun H2 _ hA2 => ?_
  exact Wq.ret hA2
def binsL : List (List UInt8) := [[111, 114, 101, 108, 115, 101], [97, 110, 100, 97, 108, 115, 111], [58, 61], [61], [60, 62], [60], [60, 61], [62], [62, 61], [58, 58], [43], [45], [94], [42], [100, 105, 118], [109, 111, 100]]
theorem fl_bins : Instr.fill (fun i => some (i * 1, 1)) (zeroRow [Value.string ⟨⟨[]⟩⟩] (16 * 1)) [(0, (.string ⟨⟨[111, 114, 101, 108, 115, 101]⟩⟩)), (1, (.string ⟨⟨[97, 110, 100, 97, 108, 115, 111]⟩⟩)), (2, (.string ⟨⟨[58, 61]⟩⟩)), (3, (.string ⟨⟨[61]⟩⟩)), (4, (.string ⟨⟨[60, 62]⟩⟩)), (5, (.string ⟨⟨[60]⟩⟩)), (6, (.string ⟨⟨[60, 61]⟩⟩)), (7, (.string ⟨⟨[62]⟩⟩)), (8, (.string ⟨⟨[62, 61]⟩⟩)), (9, (.string ⟨⟨[58, 58]⟩⟩)), (10, (.string ⟨⟨[43]⟩⟩)), (11, (.string ⟨⟨[45]⟩⟩)), (12, (.string ⟨⟨[94]⟩⟩)), (13, (.string ⟨⟨[42]⟩⟩)), (14, (.string ⟨⟨[100, 105, 118]⟩⟩)), (15, (.string ⟨⟨[109, 111, 100]⟩⟩))] = some ⟨binsL.map txt⟩ := by kernel_rfl
/-! words -/
theorem w_112_11 (s : List UInt8) (hl : s.length < big) : ∀ (r : List UInt8) (i : Nat) (H : T OB) (nx : Nat), s.drop i = r → i ≤ s.length → Ag nx0 H0 nx H → Wq P pl X0 (.jump (l112_11 (txt s) (i64 (i : Int)) H nx)) nx0 H0 (.bool (r.all inW)) := by
  intro r
  induction r with
  | nil =>
    intro i H nx hd hi hA
    have hil := drop_nil hd hi
    refine Wq.jmp (q112_11 ..) (fun _ => rfl) ?_
    simp only [stpF, cond_true, cond_false, eq_self, List.length_nil, Int.reduceEq, Int.reduceLT, Int.reduceLE, rdLen_str _ und_9, txt_size, hil, not_lt_len]
    exact Wq.ret hA
  | cons c r ih =>
    intro i H nx hd hi hA
    obtain ⟨hg, hlt, hd'⟩ := drop_cons hd
    refine Wq.jmp (q112_11 ..) (fun _ => rfl) ?_
    simp only [stpF, cond_true, cond_false, eq_self, List.length_nil, Int.reduceEq, Int.reduceLT, Int.reduceLE, rdLen_str _ und_9, txt_size, is_lt_len hlt, rdIndex_txt und_9 hg]
    refine Wq.call (pu_156 c) hA fun H1 nx1 hA1 => ?_
    simp only [stpF, cond_true, cond_false, eq_self, List.length_nil, Int.reduceEq, Int.reduceLT, Int.reduceLE]
    rw [List.all_cons]
    cases inW c with
    | false => exact Wq.ret hA1
    | true =>
      simp only [stpF, cond_true, cond_false, eq_self, List.length_nil, Int.reduceEq, Int.reduceLT, Int.reduceLE, wrap_succ (show i < 9223372036854775807 by have := sm_lt hl; omega), Bool.true_and]
      exact ih (i + 1) H1 nx1 hd' (by omega) hA1
theorem ix0 (a : UInt8) (r : List UInt8) : rdIndex P 9 (some (txt (a :: r))) (some (.int .i64 0)) = some (b8 a) := by
  have := rdIndex_txt (P := P) und_9 (l := a :: r) (i := 0) (c := a) rfl .i64
  exact this
theorem ix1 (a b : UInt8) (r : List UInt8) : rdIndex P 9 (some (txt (a :: b :: r))) (some (.int .i64 1)) = some (b8 b) := rdIndex_txt (P := P) und_9 (l := a :: b :: r) (i := 1) (c := b) rfl .i64
theorem ix2 (a b c : UInt8) (r : List UInt8) : rdIndex P 9 (some (txt (a :: b :: c :: r))) (some (.int .i64 2)) = some (b8 c) := rdIndex_txt (P := P) und_9 (l := a :: b :: c :: r) (i := 2) (c := c) rfl .i64
theorem ix3 (a b c d : UInt8) (r : List UInt8) : rdIndex P 9 (some (txt (a :: b :: c :: d :: r))) (some (.int .i64 3)) = some (b8 d) := rdIndex_txt (P := P) und_9 (l := a :: b :: c :: d :: r) (i := 3) (c := d) rfl .i64
theorem cons_ne (a : UInt8) (r : List UInt8) : decide (a :: r = []) = false := by simp
theorem pu_112 (s : List UInt8) (hl : s.length < big) : P0 112 [txt s] (.bool (isWord s)) := Pure.of rfl fun H nx => by
  rw [q112]
  cases s with
  | nil =>
    simp only [stpF, cond_true, cond_false, eq_self, List.length_nil, Int.reduceEq, Int.reduceLT, Int.reduceLE, txt_dec]
    refine Wq.jmp (q112_6 ..) (fun _ => rfl) ?_
    exact Wq.ret (.refl _ _)
  | cons a r =>
    have L6 : ∀ (b : Bool) H1 nx1, Ag nx H nx1 H1 → b = !(isLow a || isHigh a) → Wq P pl X0 (.jump (l112_6 (txt (a :: r)) b H1 nx1)) nx H (.bool (isWord (a :: r))) := by
      intro b H1 nx1 hA1 hb
      refine Wq.jmp (q112_6 ..) (fun _ => rfl) ?_
      show Wq P pl X0 _ nx H (.bool ((isLow a || isHigh a) && r.all inW))
      cases hx : isLow a || isHigh a with
      | true => rw [hx] at hb; rw [hb, Bool.true_and]; exact w_112_11 (a :: r) hl r 1 H1 nx1 rfl (by simp) hA1
      | false => rw [hx] at hb; rw [hb, Bool.false_and]; exact Wq.ret hA1
    simp only [stpF, cond_true, cond_false, eq_self, List.length_nil, Int.reduceEq, Int.reduceLT, Int.reduceLE, txt_dec, cons_ne, ix0]
    refine Wq.call (pu_low a) (.refl _ _) fun H1 nx1 hA1 => ?_
    simp only [stpF, cond_true, cond_false, eq_self, List.length_nil, Int.reduceEq, Int.reduceLT, Int.reduceLE]
    cases hlo : isLow a with
    | true => simp only [stpF, cond_true, cond_false, eq_self, List.length_nil, Int.reduceEq, Int.reduceLT, Int.reduceLE]; exact L6 false _ _ hA1 (by rw [hlo]; rfl)
    | false =>
      simp only [stpF, cond_true, cond_false, eq_self, List.length_nil, Int.reduceEq, Int.reduceLT, Int.reduceLE]
      refine Wq.call (pu_high a) hA1 fun H2 nx2 hA2 => ?_
      simp only [stpF, cond_true, cond_false, eq_self, List.length_nil, Int.reduceEq, Int.reduceLT, Int.reduceLE]
      exact L6 _ _ _ hA2 (by rw [hlo, Bool.false_or])
theorem w_114_11 (s : List UInt8) (hl : s.length < big) : ∀ (r : List UInt8) (i : Nat) (H : T OB) (nx : Nat), s.drop i = r → i ≤ s.length → Ag nx0 H0 nx H → Wq P pl X0 (.jump (l114_11 (txt s) (i64 (i : Int)) H nx)) nx0 H0 (.bool (r.all fun c => !decide (c.toNat = 39) && inW c)) := by
  intro r
  induction r with
  | nil =>
    intro i H nx hd hi hA
    have hil := drop_nil hd hi
    refine Wq.jmp (q114_11 ..) (fun _ => rfl) ?_
    simp only [stpF, cond_true, cond_false, eq_self, List.length_nil, Int.reduceEq, Int.reduceLT, Int.reduceLE, rdLen_str _ und_9, txt_size, hil, not_lt_len]
    exact Wq.ret hA
  | cons c r ih =>
    intro i H nx hd hi hA
    obtain ⟨hg, hlt, hd'⟩ := drop_cons hd
    have L16 : ∀ (b : Bool) H1 nx1, Ag nx0 H0 nx1 H1 → b = !(!decide (c.toNat = 39) && inW c) → Wq P pl X0 (.jump (l114_16 (txt s) (i64 (i : Int)) b H1 nx1)) nx0 H0 (.bool ((c :: r).all fun c => !decide (c.toNat = 39) && inW c)) := by
      intro b H1 nx1 hA1 hb
      refine Wq.jmp (q114_16 ..) (fun _ => rfl) ?_
      rw [List.all_cons]
      cases hx : (!decide (c.toNat = 39) && inW c) with
      | false => rw [hx] at hb; rw [hb, Bool.false_and]; exact Wq.ret hA1
      | true =>
        rw [hx] at hb
        rw [hb, Bool.true_and]
        simp only [stpF, cond_true, cond_false, eq_self, List.length_nil, Int.reduceEq, Int.reduceLT, Int.reduceLE, wrap_succ (show i < 9223372036854775807 by have := sm_lt hl; omega)]
        exact ih (i + 1) H1 nx1 hd' (by omega) hA1
    refine Wq.jmp (q114_11 ..) (fun _ => rfl) ?_
    simp only [stpF, cond_true, cond_false, eq_self, List.length_nil, Int.reduceEq, Int.reduceLT, Int.reduceLE, rdLen_str _ und_9, txt_size, is_lt_len hlt, rdIndex_txt und_9 hg, dec39]
    refine Wq.bK (fun h => L16 _ _ _ hA (by rw [h]; rfl)) (fun h => ?_)
    refine Wq.call (pu_156 c) hA fun H1 nx1 hA1 => ?_
    simp only [stpF, cond_true, cond_false, eq_self, List.length_nil, Int.reduceEq, Int.reduceLT, Int.reduceLE]
    exact L16 _ _ _ hA1 (by rw [h]; rfl)
theorem pu_114 (s : List UInt8) (hl : s.length < big) : P0 114 [txt s] (.bool (isVar s)) := Pure.of rfl fun H nx => by
  rw [q114]
  have L6t : ∀ H1 nx1, Ag nx H nx1 H1 → isVar s = false → Wq P pl X0 (.jump (l114_6 (txt s) true H1 nx1)) nx H (.bool (isVar s)) := by
    intro H1 nx1 hA1 h
    refine Wq.jmp (q114_6 ..) (fun _ => rfl) ?_
    rw [h]; exact Wq.ret hA1
  match s with
  | [] => simp only [stpF, cond_true, cond_false, eq_self, List.length_nil, Int.reduceEq, Int.reduceLT, Int.reduceLE, rdLen_str _ und_9, txt_size]; exact L6t _ _ (.refl _ _) rfl
  | [a] => simp only [stpF, cond_true, cond_false, eq_self, List.length_nil, Int.reduceEq, Int.reduceLT, Int.reduceLE, rdLen_str _ und_9, txt_size, List.length_cons]; exact L6t _ _ (.refl _ _) rfl
  | a :: b :: r =>
    have e2 : decide (((a :: b :: r).length : Int) < 2) = false := by simp; omega
    simp only [stpF, cond_true, cond_false, eq_self, List.length_nil, Int.reduceEq, Int.reduceLT, Int.reduceLE, rdLen_str _ und_9, txt_size, e2, ix0, dec39]
    have hv : isVar (a :: b :: r) = (decide (a.toNat = 39) && (isLow b && r.all fun c => !decide (c.toNat = 39) && inW c)) := rfl
    cases ha : decide (a.toNat = 39) with
    | false => simp only [stpF, cond_true, cond_false, eq_self, List.length_nil, Int.reduceEq, Int.reduceLT, Int.reduceLE]; exact L6t _ _ (.refl _ _) (by rw [hv, ha]; rfl)
    | true =>
      simp only [stpF, cond_true, cond_false, eq_self, List.length_nil, Int.reduceEq, Int.reduceLT, Int.reduceLE, ix1]
      refine Wq.call (pu_low b) (.refl _ _) fun H1 nx1 hA1 => ?_
      simp only [stpF, cond_true, cond_false, eq_self, List.length_nil, Int.reduceEq, Int.reduceLT, Int.reduceLE]
      cases hb : isLow b with
      | false => exact L6t _ _ hA1 (by rw [hv, hb]; simp)
      | true =>
        refine Wq.jmp (q114_6 ..) (fun _ => rfl) ?_
        rw [hv, ha, hb, Bool.true_and, Bool.true_and]
        exact w_114_11 (a :: b :: r) hl r 2 H1 nx1 rfl (by simp) hA1
/-- The document's kind of a word. -/
def kindR (s : List UInt8) : Int := if keysL.contains s = true then 6 else if (firstHigh s || (decide (s = [116, 114, 117, 101]) || (decide (s = [102, 97, 108, 115, 101]) || decide (s = [110, 105, 108])))) = true then 4 else 3
theorem kindR_eq (s : List UInt8) : kindR s = kindW s := by
  unfold kindR kindW
  have key : keysL.contains s = true → (firstHigh s || (decide (s = [116, 114, 117, 101]) || (decide (s = [102, 97, 108, 115, 101]) || decide (s = [110, 105, 108])))) = false := by
    intro h
    have hm : s ∈ keysL := by simpa using h
    have : ∀ k ∈ keysL, (firstHigh k || (decide (k = [116, 114, 117, 101]) || (decide (k = [102, 97, 108, 115, 101]) || decide (k = [110, 105, 108])))) = false := by decide
    exact this s hm
  by_cases h : keysL.contains s = true
  · rw [if_pos h, key h, if_neg (by decide), if_pos h]
  · rw [if_neg h, if_neg h]
theorem pu_113 (a : UInt8) (r : List UInt8) : P0 113 [txt (a :: r)] (i64 (kindW (a :: r))) := Pure.of rfl fun H nx => by
  rw [q113, ← kindR_eq]
  refine Wq.call pu_157 (.refl _ _) fun H1 nx1 hA1 => ?_
  refine Wq.call (pu_115 keysL (by decide) (a :: r)) hA1 fun H2 nx2 hA2 => ?_
  unfold kindR
  simp only [stpF, cond_true, cond_false, eq_self, List.length_nil, Int.reduceEq, Int.reduceLT, Int.reduceLE]
  refine Wq.bK (fun h => by rw [if_pos h]; exact Wq.ret hA2) (fun h => ?_)
  rw [if_neg (by rw [h]; decide)]
  have L10 : ∀ (b : Bool) H1 nx1, Ag nx H nx1 H1 → b = (isHigh a || (decide (a :: r = [116, 114, 117, 101]) || (decide (a :: r = [102, 97, 108, 115, 101]) || decide (a :: r = [110, 105, 108])))) → Wq P pl X0 (.jump (l113_10 b H1 nx1)) nx H (i64 (if (firstHigh (a :: r) || (decide (a :: r = [116, 114, 117, 101]) || (decide (a :: r = [102, 97, 108, 115, 101]) || decide (a :: r = [110, 105, 108])))) = true then 4 else 3)) := by
    intro b H1 nx1 hA1 hb
    refine Wq.jmp (q113_10 ..) (fun _ => rfl) ?_
    show Wq P pl X0 _ nx H (i64 (if (isHigh a || (decide (a :: r = [116, 114, 117, 101]) || (decide (a :: r = [102, 97, 108, 115, 101]) || decide (a :: r = [110, 105, 108])))) = true then 4 else 3))
    rw [← hb]
    cases b
    · exact Wq.ret hA1
    · exact Wq.ret hA1
  simp only [stpF, cond_true, cond_false, eq_self, List.length_nil, Int.reduceEq, Int.reduceLT, Int.reduceLE, ix0]
  refine Wq.call (pu_high a) hA2 fun H3 nx3 hA3 => ?_
  simp only [stpF, cond_true, cond_false, eq_self, List.length_nil, Int.reduceEq, Int.reduceLT, Int.reduceLE, txt_dec]
  refine Wq.bK (fun h => L10 _ _ _ hA3 (by rw [h]; rfl)) (fun h0 => ?_)
  refine Wq.bK (fun h => L10 _ _ _ hA3 (by rw [h0, h]; rfl)) (fun h1 => ?_)
  refine Wq.bK (fun h => L10 _ _ _ hA3 (by rw [h0, h1, h]; rfl)) (fun h2 => ?_)
  exact L10 _ _ _ hA3 (by rw [h0, h1, h2]; rfl)
end
end Go.Proofs.YthjhonhhbddhkaaGreatDoor
/- The document: tokens that are words. -/
namespace Go.Proofs.YthjhonhhbddhkaaGreatDoor
open Go.Ev Go.RowKit
noncomputable section
set_option maxRecDepth 100000
set_option linter.unusedVariables false
set_option linter.unusedSimpArgs false
variable {nx0 : Nat} {H0 : T OB}
def first (s : List UInt8) (n : Nat) : Bool := match s with
  | [] => false
  | c :: _ => decide (c.toNat = n)
def firstDig (s : List UInt8) : Bool := match s with
  | [] => false
  | c :: _ => isDig c
theorem und_2 : P.underlying 2 = some (.int .i64) := by kernel_rfl
theorem und_3 : P.underlying 3 = some (.int .i64) := by kernel_rfl
theorem und_5 : P.underlying 5 = some (.int .u8) := by kernel_rfl
theorem zero_5 : zeroC P 5 = some [.int .u8 0] := by kernel_rfl
theorem cv_5_2 (H : T OB) (k : IntKind) (n : Int) : rdConv P H 5 2 (some (.int k n)) = some (i64 (IntKind.i64.wrap n)) := rdConv_int und_5 und_2
theorem cv_5_3 (H : T OB) (k : IntKind) (n : Int) : rdConv P H 5 3 (some (.int k n)) = some (i64 (IntKind.i64.wrap n)) := rdConv_int und_5 und_3
theorem cv_3_5 (H : T OB) (n : Int) : rdConv P H 3 5 (some (i64 n)) = some (.int .u8 (IntKind.u8.wrap n)) := rdConv_int und_3 und_5
theorem quo_10 (H : T OB) (a : Int) : rdBin P H .quo 2 true (some (i64 a)) (some (i64 10)) = some (i64 (IntKind.i64.wrap (a.tdiv 10))) := rdBin_quo _ _ _ _ _ (by decide)
/-- What digits are: a number, and whether they are digits. -/
abbrev NumR (s : List UInt8) (b0 : Bool) : Value → T OB → Nat → Prop := fun v _ _ => ∃ n b, v = .tuple ⟨[i64 n, .bool b]⟩ ∧ (b = true → b0 = true ∨ firstDig s = true)
theorem w_110_9 (s : List UInt8) (hl : s.length < big) : ∀ (r : List UInt8) (i : Nat) (n : Int) (H : T OB) (nx : Nat), s.drop i = r → i ≤ s.length → (i = 0 ∨ firstDig s = true) → Ag nx0 H0 nx H →
    WqR P pl X0 (.jump (l110_9 (txt s) (i64 n) (i64 (i : Int)) H nx)) nx0 H0 (NumR s false) := by
  intro r
  induction r with
  | nil =>
    intro i n H nx hd hi h1 hA
    have hil := drop_nil hd hi
    refine Wq.jmp (q110_9 ..) (fun _ => rfl) ?_
    simp only [stpF, cond_true, cond_false, eq_self, List.length_nil, Int.reduceEq, Int.reduceLT, Int.reduceLE, rdLen_str _ und_9, txt_size, hil, not_lt_len, txt_dec]
    refine Wq.retR hA ⟨n, _, rfl, fun h => .inr ?_⟩
    rcases h1 with h1 | h1
    · have : s = [] := by cases s with
        | nil => rfl
        | cons a t => rw [h1] at hil; simp at hil
      rw [this] at h; simp at h
    · exact h1
  | cons c r ih =>
    intro i n H nx hd hi h1 hA
    obtain ⟨hg, hlt, hd'⟩ := drop_cons hd
    have L14 : ∀ (b : Bool) H1 nx1, Ag nx0 H0 nx1 H1 → (b = false → isDig c = true) → WqR P pl X0 (.jump (l110_14 (txt s) (i64 n) (i64 (i : Int)) b H1 nx1)) nx0 H0 (NumR s false) := by
      intro b H1 nx1 hA1 hb
      refine Wq.jmp (q110_14 ..) (fun _ => rfl) ?_
      cases b with
      | true => exact Wq.retR hA1 ⟨0, false, rfl, fun h => by cases h⟩
      | false =>
        simp only [stpF, cond_true, cond_false, eq_self, List.length_nil, Int.reduceEq, Int.reduceLT, Int.reduceLE, rdIndex_txt und_9 hg, cv_5_2, wrap_succ (show i < 9223372036854775807 by have := sm_lt hl; omega)]
        refine ih (i + 1) _ H1 nx1 hd' (by omega) (.inr ?_) hA1
        rcases h1 with h1 | h1
        · subst h1
          rw [List.drop_zero] at hd
          rw [hd]
          exact hb rfl
        · exact h1
    refine Wq.jmp (q110_9 ..) (fun _ => rfl) ?_
    simp only [stpF, cond_true, cond_false, eq_self, List.length_nil, Int.reduceEq, Int.reduceLT, Int.reduceLE, rdLen_str _ und_9, txt_size, is_lt_len hlt, rdIndex_txt und_9 hg]
    refine Wq.call (pu_dig c) hA fun H1 nx1 hA1 => ?_
    simp only [stpF, cond_true, cond_false, eq_self, List.length_nil, Int.reduceEq, Int.reduceLT, Int.reduceLE, cv_5_2, quo_10]
    cases hdg : isDig c with
    | false => exact L14 _ _ _ hA1 (fun h => by cases h)
    | true => exact L14 _ _ _ hA1 (fun h => hdg)
theorem w_110 (s : List UInt8) (hl : s.length < big) (H : T OB) (nx : Nat) (hA : Ag nx0 H0 nx H) : WqR P pl X0 (evT P pl (.call 110 [txt s] false none H nx)) nx0 H0 (NumR s false) := by
  rw [q110]
  exact w_110_9 s hl s 0 0 H nx rfl (Nat.zero_le _) (.inl rfl) hA
/-! signs in quotes -/
theorem pu_180 (c : UInt8) : ∃ n : Int, P0 180 [b8 c] (i64 n) := by
  refine ⟨if isDig c = true then IntKind.i64.wrap (IntKind.i64.wrap (c.toNat : Int) - 48) else if (decide (65 ≤ c.toNat) && decide (c.toNat ≤ 70)) = true then IntKind.i64.wrap (IntKind.i64.wrap (IntKind.i64.wrap (c.toNat : Int) - 65) + 10) else -1, Pure.of rfl fun H nx => ?_⟩
  rw [q180]
  refine Wq.call (pu_dig c) (.refl _ _) fun H1 nx1 hA1 => ?_
  simp only [stpF, cond_true, cond_false, eq_self, List.length_nil, Int.reduceEq, Int.reduceLT, Int.reduceLE, cv_5_3]
  refine Wq.bK (fun h => by rw [if_pos h]; exact Wq.ret hA1) (fun h => ?_)
  rw [if_neg (by rw [h]; decide)]
  refine Wq.call (pu_144 c 65 70) hA1 fun H2 nx2 hA2 => ?_
  simp only [stpF, cond_true, cond_false, eq_self, List.length_nil, Int.reduceEq, Int.reduceLT, Int.reduceLE]
  refine Wq.bK (fun h => by rw [if_pos h]; exact Wq.ret hA2) (fun h => ?_)
  rw [if_neg (by rw [h]; decide)]
  exact Wq.ret hA2
abbrev SigR (s : List UInt8) : Value → T OB → Nat → Prop := fun v _ _ => ∃ (c : UInt8) (n : Nat), v = .tuple ⟨[b8 c, i64 (n : Int)]⟩ ∧ n ≤ s.length
theorem wrap_u8 (n : Int) : IntKind.u8.wrap n = n % 256 := by
  unfold IntKind.wrap
  simp [IntKind.bits, IntKind.signed]
theorem u8_of (n : Int) : ∃ c : UInt8, IntKind.u8.wrap n = (c.toNat : Int) := by
  have h : 0 ≤ IntKind.u8.wrap n ∧ IntKind.u8.wrap n < 256 := by
    rw [wrap_u8]; omega
  refine ⟨UInt8.ofNat (IntKind.u8.wrap n).toNat, ?_⟩
  rw [UInt8.toNat_ofNat']
  omega
theorem sg (c : UInt8) (n : Nat) (s : List UInt8) (h : n ≤ s.length) (H : T OB) (nx : Nat) (hA : Ag nx0 H0 nx H) : WqR P pl X0 (.ret ⟨.ret (.tuple ⟨[b8 c, i64 (n : Int)]⟩), false, H, nx⟩) nx0 H0 (SigR s) := Wq.retR hA ⟨c, n, rfl, h⟩
theorem w_155 (s : List UInt8) (hs : s ≠ []) (hl : s.length < big) (H : T OB) (nx : Nat) (hA : Ag nx0 H0 nx H) : WqR P pl X0 (evT P pl (.call 155 [txt s] false none H nx)) nx0 H0 (SigR s) := by
  rw [q155]
  obtain ⟨a, t, rfl⟩ : ∃ a t, s = a :: t := by cases s with
    | nil => exact absurd rfl hs
    | cons a t => exact ⟨a, t, rfl⟩
  have L36 : ∀ (b : Bool) H1 nx1, Ag nx0 H0 nx1 H1 → (b = true → ∃ x y z r, t = x :: y :: z :: r) → WqR P pl X0 (.jump (l155_36 (txt (a :: t)) b H1 nx1)) nx0 H0 (SigR (a :: t)) := by
    intro b H1 nx1 hA1 hb
    refine Wq.jmp (q155_36 ..) (fun _ => rfl) ?_
    cases b with
    | false => exact sg 0 0 _ (Nat.zero_le _) _ _ hA1
    | true =>
      obtain ⟨x, y, z, r, rfl⟩ := hb rfl
      obtain ⟨n1, p1⟩ := pu_180 y
      obtain ⟨n2, p2⟩ := pu_180 z
      simp only [stpF, cond_true, cond_false, eq_self, List.length_nil, Int.reduceEq, Int.reduceLT, Int.reduceLE, ix2, ix3]
      refine Wq.call p1 hA1 fun H2 nx2 hA2 => ?_
      simp only [stpF, cond_true, cond_false, eq_self, List.length_nil, Int.reduceEq, Int.reduceLT, Int.reduceLE]
      refine Wq.call p2 hA2 fun H3 nx3 hA3 => ?_
      simp only [stpF, cond_true, cond_false, eq_self, List.length_nil, Int.reduceEq, Int.reduceLT, Int.reduceLE, cv_3_5]
      obtain ⟨c, hc⟩ := u8_of (IntKind.i64.wrap (IntKind.i64.wrap (16 * n1) + n2))
      rw [hc]
      exact sg c 4 _ (by simp) _ _ hA3
  have L6 : ∀ (b : Bool) H1 nx1, Ag nx0 H0 nx1 H1 → WqR P pl X0 (.jump (l155_6 (txt (a :: t)) b H1 nx1)) nx0 H0 (SigR (a :: t)) := by
    intro b H1 nx1 hA1
    refine Wq.jmp (q155_6 ..) (fun _ => rfl) ?_
    cases b with
    | true => exact sg 0 0 _ (Nat.zero_le _) _ _ hA1
    | false =>
      simp only [stpF, cond_true, cond_false, eq_self, List.length_nil, Int.reduceEq, Int.reduceLT, Int.reduceLE, ix0]
      refine Wq.nite (fun h => sg a 1 _ (by simp) _ _ hA1) (fun h => ?_)
      cases t with
      | nil =>
        simp only [stpF, cond_true, cond_false, eq_self, List.length_nil, Int.reduceEq, Int.reduceLT, Int.reduceLE, rdLen_str _ und_9, txt_size, List.length_cons]
        exact sg 0 0 _ (Nat.zero_le _) _ _ hA1
      | cons x t =>
        have e2 : decide (((a :: x :: t).length : Int) < 2) = false := by simp; omega
        simp only [stpF, cond_true, cond_false, eq_self, List.length_nil, Int.reduceEq, Int.reduceLT, Int.reduceLE, rdLen_str _ und_9, txt_size, e2, ix1]
        refine Wq.ite (fun h => sg 34 2 _ (by simp) _ _ hA1) (fun h1 => ?_)
        refine Wq.ite (fun h => sg 92 2 _ (by simp) _ _ hA1) (fun h1 => ?_)
        refine Wq.ite (fun h => sg 10 2 _ (by simp) _ _ hA1) (fun h1 => ?_)
        refine Wq.ite (fun h => sg 9 2 _ (by simp) _ _ hA1) (fun h1 => ?_)
        refine Wq.ite (fun h => ?_) (fun h1 => L36 _ _ _ hA1 (fun h => by cases h))
        refine Wq.ite (fun h4 => ?_) (fun h1 => L36 _ _ _ hA1 (fun h => by cases h))
        obtain ⟨y, z, r, rfl⟩ : ∃ y z r, t = y :: z :: r := by
          match t with
          | [] => simp at h4
          | [_] => simp at h4
          | y :: z :: r => exact ⟨y, z, r, rfl⟩
        obtain ⟨n1, p1⟩ := pu_180 y
        obtain ⟨n2, p2⟩ := pu_180 z
        simp only [stpF, cond_true, cond_false, eq_self, List.length_nil, Int.reduceEq, Int.reduceLT, Int.reduceLE, ix2, ix3]
        refine Wq.call p1 hA1 fun H2 nx2 hA2 => ?_
        simp only [stpF, cond_true, cond_false, eq_self, List.length_nil, Int.reduceEq, Int.reduceLT, Int.reduceLE]
        refine Wq.ite (fun h => ?_) (fun h1 => L36 _ _ _ hA2 (fun h => by cases h))
        refine Wq.call p2 hA2 fun H3 nx3 hA3 => ?_
        simp only [stpF, cond_true, cond_false, eq_self, List.length_nil, Int.reduceEq, Int.reduceLT, Int.reduceLE]
        exact L36 _ _ _ hA3 fun _ => ⟨x, y, z, r, rfl⟩
  simp only [stpF, cond_true, cond_false, eq_self, List.length_nil, Int.reduceEq, Int.reduceLT, Int.reduceLE, txt_dec, cons_ne, ix0]
  refine Wq.bK (fun h => L6 _ _ _ hA) (fun h => ?_)
  refine Wq.bK (fun h => L6 _ _ _ hA) (fun h => ?_)
  exact L6 _ _ _ hA
end
end Go.Proofs.YthjhonhhbddhkaaGreatDoor
