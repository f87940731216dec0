/- Rows of bytes that grow. -/
import Derived.Test.YtfdgoenmdalphaaGreatDoorQU
namespace Go.Ev
noncomputable section
set_option linter.unusedVariables false
variable {P : Program} {pl : Pol} {X : Ext} {H H0 H1 : T OB} {nx nx0 nx1 : Nat} {v u : Value} {R : Value → T OB → Nat → Prop}
theorem rdIndex_txt {t : TypeId} (hu : P.underlying t = some .string) {l : List UInt8} {i : Nat} {c : UInt8} (h : l[i]? = some c) (k : IntKind) : rdIndex P t (some (txt l)) (some (.int k (i : Int))) = some (.int .u8 (c.toNat : Int)) := by
  show indexV P t (txt l) (.int k i) = _
  show fV P (Instr.index t (txt l) (.int k i)) = _
  have hi : i < l.length := (List.getElem?_eq_some_iff.1 h).1
  have e0 : (⟨⟨l⟩⟩ : ByteArray)[i]? = some c := by
    rw [ByteArray.getElem?_lt' _ _ hi]
    exact (List.getElem?_eq_getElem hi).symm.trans h
  have e1 : pureRun P (Instr.index t (txt l) (.int k i)) = some (.int .u8 (c.toNat : Int)) := by
    unfold Instr.index
    simp only [asIntOf, pureRun_bind, pureRun_und hu, Option.bind_some]
    have h0 : (0 : Int) ≤ (i : Int) := by omega
    have : pureRun P (pure (k, (i : Int)) : Sem (IntKind × Int)) = some (k, (i : Int)) := rfl
    simp only [this, Option.bind_some, h0, if_true, Int.toNat_natCast, e0]
    rfl
  exact fV_run e1 rfl
theorem rdBin_shr (t : TypeId) (q : Bool) (k k' : IntKind) (a : Int) (n : Nat) (hn : n ≤ k.bits) : rdBin P H .shr t q (some (.int k a)) (some (.int k' (n : Int))) = some (.int k (a.fdiv (2 ^ n))) := by
  rw [rdBin_flat rfl rfl rfl rfl]
  have e0 : binV P .shr t (.int k a) (.int k' (n : Int)) = fV P (binOp .shr t (.int k a) (.int k' (n : Int))) := rfl
  have e : binOp .shr t (.int k a) (.int k' (n : Int)) = pure (.int k (a.fdiv (2 ^ n))) := by
    show Op.shift .shr k a k' (n : Int) = _
    unfold Op.shift
    rw [if_neg (by omega)]
    simp only [Int.toNat_natCast, Nat.min_eq_left hn]
  rw [e0, e]; exact fV_pure rfl
theorem rdBin_and (t : TypeId) (q : Bool) (k : IntKind) (a b : Int) : rdBin P H .and t q (some (.int k a)) (some (.int k b)) = some (.int k (k.wrap ((BitVec.ofInt k.bits a &&& BitVec.ofInt k.bits b).toNat : Int))) := by
  rw [rdBin_int]
  have e : binOp .and t (.int k a) (.int k b) = pure (.int k (k.wrap ((BitVec.ofInt k.bits a &&& BitVec.ofInt k.bits b).toNat : Int))) := by simp [binOp, Op.intBits]
  rw [e]; exact fV_pure rfl
/-- A row of bytes: nil, or a block of its own. -/
def BS (e : TypeId) (nx0 : Nat) (H : T OB) (nx : Nat) (r : List UInt8) (sl : Value) : Prop :=
  (r = [] ∧ sl = .slice none 0 0) ∨ ∃ b c, nx0 ≤ b ∧ b < nx ∧ IsB H b (bys r) e ∧ (c = unk ∨ c = r.length) ∧ sl = .slice (some ⟨b, 0, none⟩) r.length c
theorem BS.nil (e : TypeId) (nx0 : Nat) (H : T OB) (nx : Nat) : BS e nx0 H nx [] (.slice none 0 0) := .inl ⟨rfl, rfl⟩
/-- Bytes behind such a row, made for it. -/
theorem Wq.addB {t e : TypeId} {n : Nat} {r x : List UInt8} {sl : Value} {vs : List (Nat × Value)} {z : List Value} {k : Value → T OB → Nat → Q} (hu : P.underlying t = some (.slice e)) (hs : szOf P e = some 1) (hz : zeroC P e = some z) (hsl : BS e nx0 H nx r sl) (hn : x.length = n)
    (hg : (Nat.ble (n * 1) 16777216 && Nat.blt 0 (n * 1) && Nat.blt 0 z.length) = true) (hf : Instr.fill (fun i => some (i * 1, 1)) (zeroRow z (n * 1)) vs = some ⟨bys x⟩) (hsm : ∀ m, m ≤ r.length + x.length → apSmall P e 1 m = true) (h : Ag nx0 H0 nx H)
    (hk : ∀ H' sl' nx', BS e nx0 H' nx' (r ++ x) sl' → Ag nx0 H0 nx' H' → nx ≤ nx' → WqR P pl X (k sl' H' nx') nx0 H0 R) :
    WqR P pl X (effQ (efBuildSlice P H nx t n (some vs)) fun v H nx => effQ (efAppS P H nx [t, t] (some [sl, v])) k) nx0 H0 R := by
  have hn0 : 0 < x.length := by
    rw [hn]
    simp only [Bool.and_eq_true] at hg
    have := Nat.lt_of_lt_of_le (Nat.zero_lt_one) (Nat.le_of_ble_eq_true hg.1.2)
    omega
  refine Wq.row hu hs hz hg hf h fun H1 hb1 keep hA1 => ?_
  have hx1 : xsOf H1 1 (.slice (some ⟨nx, 0, none⟩) n n) = some (n, bys x) := xsOf_b hb1 (by simp; exact hn)
  rcases hsl with ⟨rfl, rfl⟩ | ⟨b, c, hb0, hbx, hb, hc, rfl⟩
  · refine Wq.app0 hu hs rfl hx1 (hsm _ (by simp; omega)) hA1 (fun h0 => by omega) fun H2 _ hb2 _ hA2 => ?_
    refine hk _ _ _ ?_ hA2 (by omega)
    exact .inr ⟨nx + 1, unk, by have := h.1; omega, by omega, by simpa using hb2, .inl rfl, by rw [List.nil_append, hn]⟩
  · have hb' := keep _ _ _ hbx hb
    rcases hc with rfl | rfl
    · refine Wq.app hu hs hb' hs (by simp) rfl hx1 (bys_all x) (hsm _ (by omega)) hA1 hb0 (by omega) fun H2 hb2 _ hA2 => ?_
      refine hk _ _ _ ?_ hA2 (by omega)
      exact .inr ⟨nx + 1, unk, by have := h.1; omega, by omega, by rw [bys_append]; exact hb2, .inl rfl, by rw [List.length_append, hn]⟩
    · rw [efAppS_eq rfl]
      unfold sliceTK
      rw [hu]
      simp only [hs, optK_some, hx1, hsm (r.length + n) (by omega), cond_true]
      obtain ⟨tr, h1, h2⟩ := hb'
      by_cases hr : r.length = unk
      · have hh := hsm r.length (by omega)
        exact absurd hh (by
          unfold apSmall
          intro q
          split at q
          · simp only [Bool.and_eq_true] at q
            have := Nat.le_of_ble_eq_true q.1.2
            unfold unk at hr
            omega
          · cases q)
      · have e1 : apGo P H1 (nx + 1) e 1 (some ⟨b, 0, none⟩) r.length r.length n (bys x) = apNew H1 (nx + 1) e (r.length + n) (bys r ++ bys x) := by
          show apAt P H1 (nx + 1) e 1 b 0 r.length r.length n (bys x) = _
          unfold apAt
          rw [h1]
          have eu : Nat.beq r.length unk = false := by
            rw [Bool.eq_false_iff]; intro q; rw [Nat.beq_eq] at q; exact hr q
          have el : Nat.ble (r.length + n) r.length = false := by
            rw [Bool.eq_false_iff]; intro q; have := Nat.le_of_ble_eq_true q; omega
          simp only [cellsK, eu, cond_false, el]
          unfold apOut
          rw [show Nat.ble (0 + r.length * 1) (bys r).length = true from Nat.ble_eq_true_of_le (by simp), show Nat.blt 0 n = true from Nat.ble_eq_true_of_le (by omega)]
          have : toL tr (r.length * 1) 0 = some (bys r) := by rw [toL_of h2 _ _ (by simp)]; simp [List.take_of_length_le]
          simp only [Bool.and_self, cond_true, this, optK_some]
        rw [e1, newK_mk]
        refine Wq.new (q := fun H n' => k (.slice (some ⟨nx + 1, 0, none⟩) (r.length + n) unk) H n') hA1 fun H2 hb2 _ hA2 => ?_
        refine hk _ _ _ ?_ hA2 (by omega)
        exact .inr ⟨nx + 1, unk, by have := h.1; omega, by omega, by rw [bys_append]; exact hb2, .inl rfl, by rw [List.length_append, hn]⟩
/-- Such a row as a text. -/
theorem rdConv_BS {s d e : TypeId} {r : List UInt8} {sl : Value} (hs : P.underlying s = some (.slice e)) (he : P.underlying e = some (.int .u8)) (hd : P.underlying d = some .string) (hq : isBytesT P s d = true) {e' : TypeId} (h : BS e' nx0 H nx r sl) : rdConv P H s d (some sl) = some (txt r) := by
  rcases h with ⟨rfl, rfl⟩ | ⟨b, c, hb0, hbx, hb, hc, rfl⟩
  · exact rdConv_nil hs he hd
  · exact rdConv_sl hq hb (by simp) (by rw [List.drop_zero, List.take_of_length_le (by simp)])
/-- A text behind such a row: it stays, nil, or is one of its own. -/
theorem Wq.addT {t u' e : TypeId} {r x : List UInt8} {sl : Value} {k : Value → T OB → Nat → Q} (hu : P.underlying t = some (.slice e)) (hs : szOf P e = some 1) (hq : isStrT P u' = true) (hsl : BS e nx0 H nx r sl) (hcap : ∀ b n c, sl = .slice (some b) n c → c = unk)
    (hsm : ∀ m, m ≤ r.length + x.length → apSmall P e 1 m = true) (h : Ag nx0 H0 nx H)
    (hk : ∀ H' sl' nx', BS e nx0 H' nx' (r ++ x) sl' → (∀ b n c, sl' = .slice (some b) n c → c = unk) → (∀ b o n c, sl' = .slice (some ⟨b, o, none⟩) n c → nx ≤ b) → (∀ c l e, (∀ o n c', sl ≠ .slice (some ⟨c, o, none⟩) n c') → c < nx → IsB H c l e → IsB H' c l e) → Ag nx0 H0 nx' H' → nx ≤ nx' → WqR P pl X (k sl' H' nx') nx0 H0 R) :
    WqR P pl X (effQ (efAppS P H nx [t, u'] (some [sl, txt x])) k) nx0 H0 R := by
  rcases hsl with ⟨rfl, rfl⟩ | ⟨b, c, hb0, hbx, hb, hc, rfl⟩
  · refine Wq.appT0 hu hs hq (hsm _ (by simp)) h (fun h0 => ?_) fun H2 h0 hb2 keep hA2 => ?_
    · subst h0
      exact hk _ _ _ (.inl ⟨rfl, rfl⟩) (fun b n c q => by cases q) (fun b o n c q => by cases q) (fun _ _ _ _ _ q => q) h (Nat.le_refl _)
    · refine hk _ _ _ (.inr ⟨_, _, h.1, by omega, by simpa using hb2, .inl rfl, by simp⟩) (fun b n c q => by cases q; rfl) (fun b o n c q => by cases q; exact Nat.le_refl _) (fun c l e _ hc => keep c l e hc) hA2 (by omega)
  · obtain rfl := hcap _ _ _ rfl
    refine Wq.appT hu hs hq hb hs (by simp) (hsm _ (Nat.le_refl _)) h hb0 hbx fun H2 hb2 keep hA2 => ?_
    refine hk _ _ _ (.inr ⟨_, _, h.1, by omega, by rw [bys_append]; exact hb2, .inl rfl, by simp⟩) (fun b n c q => by cases q; rfl) (fun b o n c q => by cases q; exact Nat.le_refl _) (fun c l e hne hc => keep c l e (fun q => by subst q; exact hne _ _ _ rfl) hc) hA2 (by omega)
end
end Go.Ev
