/- The evaluator's appends, calls, and all operations that are no readers together. -/
import Derived.Test.YtcfpakjillacgaaGreatDoorQG
namespace Go.Ev
noncomputable section
open Go.RowKit (Below)
variable {P : Program} {W w : World} {φ : Phi} {H : T OB} {tm : T Value} {ρ : Operand → Value} {g : Nat → Option OB}

/-- A new block of ours over a row of the model's that no other of ours stands for. -/
theorem HR.alias (hH : HR P W φ g w) {e : Ent} {ob : OB} (hr : e.r < w.heap.size) (hno : ∀ k ob x, g k = some ob → live ob = true → φ[k]? = some (some x) → x.r ≠ e.r)
    (h0 : e.fz = none) (hfz : ∀ (k : Nat) (x : Ent) (c : Array Value), φ[k]? = some (some x) → x.fz = some c → e.r ≠ x.r) (hob : OBR P W φ ob e w) :
    HR P W (φ ++ [some e]) (upd g φ.length (some ob)) w where
  below := hH.below
  gl := hH.glob (le_push φ _)
  dom := fun k o h => by
    simp only [List.length_append, List.length_singleton]
    by_cases hk : k = φ.length
    · omega
    · rw [upd_other g hk] at h; have := hH.dom k o h; omega
  rng := fun k x h => by
    rcases push_some h with h | ⟨_, h⟩
    · exact hH.rng k x h
    · cases h; exact hr
  inj := fun k k' o1 o2 x x' h h' hg hg' hl hl' hrr => by
    rcases push_some h with h0 | ⟨hk, hx⟩
    · have l0 := (List.getElem?_eq_some_iff.1 h0).1
      rw [upd_other g (by omega)] at hg
      rcases push_some h' with h1 | ⟨hk', hx'⟩
      · have l1 := (List.getElem?_eq_some_iff.1 h1).1
        rw [upd_other g (by omega)] at hg'
        exact hH.inj k k' o1 o2 x x' h0 h1 hg hg' hl hl' hrr
      · cases hx'
        exact absurd hrr (hno k o1 x hg hl h0)
    · cases hx
      rcases push_some h' with h1 | ⟨hk', hx'⟩
      · have l1 := (List.getElem?_eq_some_iff.1 h1).1
        rw [upd_other g (by omega)] at hg'
        exact absurd hrr.symm (hno k' o2 x' hg' hl' h1)
      · exact hk.trans hk'.symm
  obj := fun k oa x hg h => by
    rcases push_some h with h0 | ⟨hk, hx⟩
    · have l0 := (List.getElem?_eq_some_iff.1 h0).1
      rw [upd_other g (by omega)] at hg
      exact (hH.obj k oa x hg h0).mono (le_push φ _)
    · cases hx
      subst hk
      rw [upd_same] at hg
      cases hg
      exact hob.mono (le_push φ _)
  fzr := fun k x c h hf => by
    rcases push_some h with h1 | ⟨_, hx⟩
    · exact hH.fzr k x c h1 hf
    · cases hx; rw [h0] at hf; cases hf
  fzl := fun k k' x x' c o h hf h' hg hl => by
    rcases push_some h with h1 | ⟨_, hx⟩
    · rcases push_some h' with h2 | ⟨_, hx'⟩
      · have l2 := (List.getElem?_eq_some_iff.1 h2).1
        rw [upd_other g (by omega)] at hg
        exact hH.fzl k k' x x' c o h1 hf h2 hg hl
      · cases hx'
        exact hfz k x c h1 hf
    · cases hx; rw [h0] at hf; cases hf

/-- Fewer cells of a block, told in another way. -/
theorem HR.recast (hH : HR P W φ g w) {k n n' : Nat} {t t' : T Value} {el : TypeId} {e : Ent} (hg : g k = some (.cells n t el)) (hk : φ[k]? = some (some e)) (hn : n' ≤ n)
    (ht : ∀ i, i < n' → t'.get (bits i) = t.get (bits i)) : HR P W φ (upd g k (some (.cells n' t' el))) w := by
  obtain ⟨h1, ⟨c, el', h2, h3, h4, h5⟩, h6⟩ := hH.obj k _ e hg hk
  exact hH.put hg rfl hk hH.below rfl (fun _ _ => rfl) ⟨h1, ⟨c, el', h2, h3, by omega, fun i hi v hv => h5 i (by omega) v (by rw [← ht i hi]; exact hv)⟩, h6⟩

section ops
variable {o : Oper} {v : Value} {H' : T OB} {nx nx' : Nat}

theorem cells_get {w : World} {r off : Nat} {c : Array Value} {el : TypeId} {fz : Nat × Nat} (hr : w.heap[r]? = some (.cells c el fz)) {s : Nat} :
    ∀ (j : Nat) (v : Value), ((c.toList.drop off).take s)[j]? = some v → w.cell? ((⟨r, off, none⟩ : Addr).add j) = some v := fun j v hv => by
  rw [add_none, cell_of_row w r (off + j) c el fz hr]
  rw [List.getElem?_take] at hv
  split at hv
  · rw [List.getElem?_drop] at hv; simpa using hv
  · cases hv

/-- The cells behind a slice, and the model's. -/
theorem cellsOf_sound (hH : HR P W φ (hp H) w) {s n c : Nat} {base : Option Addr} {x' : Value} {xs : List Value} (hv : VR φ (.slice base n c) x') (h : cellsOf H s base n = some xs) :
    ∃ xs', LR φ xs xs' ∧ xs'.length = n * s ∧
      ((base = none ∧ n = 0 ∧ x' = .slice none n c) ∨ ∃ a c', x' = .slice (some a) n c' ∧ ∀ j v, xs'[j]? = some v → w.cell? (a.add j) = some v) := by
  cases base with
  | none =>
    obtain ⟨h1, h2⟩ := bif_inv (show (bif Nat.beq n 0 then some [] else none) = some xs from h)
    cases h2
    have h1 := beq_eq h1
    subst h1
    have := hv.eq_of_flat rfl
    exact ⟨[], .nil, by simp, .inl ⟨rfl, rfl, this⟩⟩
  | some a =>
    obtain ⟨b, off, sp⟩ := a
    obtain ⟨e, c', hb, rfl, rfl, _⟩ := hv.slice_inv
    have h : rowK (H.get (bits b)) (fun m tr => bif Nat.ble (off + n * s) m then toL tr (n * s) off else none) none = some xs := h
    obtain ⟨m, tr, hg, h⟩ := rowK_inv h
    obtain ⟨hle, hl⟩ := bif_inv h
    obtain ⟨cs, el', fz, hr, hn, hc⟩ := hH.row hg hb
    have hle := ble_le hle
    obtain ⟨h1, h2⟩ := row_LR hc hl hle hn
    exact ⟨_, h1, by rw [← h1.len, h2], .inr ⟨_, c', rfl, cells_get hr⟩⟩

theorem firstCells_of {w : World} {x' : Value} {n s : Nat} {xs' : List Value} (hl : xs'.length = n * s)
    (h : (n = 0 ∧ ∃ c, x' = .slice none n c) ∨ ∃ a c', x' = .slice (some a) n c' ∧ ∀ j v, xs'[j]? = some v → w.cell? (a.add j) = some v) :
    (Builtin.firstCells s n x').run P w = .ok xs'.toArray w ∧ (Builtin.lenOf x').run P w = .ok n w := by
  rcases h with ⟨rfl, c, rfl⟩ | ⟨a, c', rfl, h⟩
  · have : xs' = [] := by
      cases xs' with
      | nil => rfl
      | cons _ _ => simp at hl
    subst this
    exact ⟨rfl, rfl⟩
  · exact ⟨run_firstCells_some w s n a n c' xs' hl h, rfl⟩

theorem flatMap_const {es : List Value} {s : Nat} (h : ∀ x ∈ es, x.cells.toList.length = s) : (es.flatMap fun u => u.cells.toList).length = es.length * s := by
  induction es with
  | nil => simp
  | cons x es ih =>
    rw [List.flatMap_cons, List.length_append, h x (by simp), ih fun y hy => h y (by simp [hy]), List.length_cons, Nat.succ_mul]
    omega
theorem flatMap_get {es : List Value} {s : Nat} (h : ∀ x ∈ es, x.cells.toList.length = s) : ∀ (m : Nat) (v : Value), (es.flatMap fun u => u.cells.toList)[m]? = some v → ∃ i j x, m = i * s + j ∧ es[i]? = some x ∧ x.cells.toList[j]? = some v := by
  induction es with
  | nil => intro m v hv; simp at hv
  | cons x es ih =>
    intro m v hv
    rw [List.flatMap_cons] at hv
    have hx := h x (by simp)
    by_cases hm : m < x.cells.toList.length
    · rw [List.getElem?_append_left hm] at hv
      exact ⟨0, m, x, by omega, rfl, hv⟩
    · rw [List.getElem?_append_right (by omega), hx] at hv
      obtain ⟨i, j, y, h1, h2, h3⟩ := ih (fun y hy => h y (by simp [hy])) _ v hv
      refine ⟨i + 1, j, y, ?_, by simpa using h2, h3⟩
      rw [hx] at hm
      rw [Nat.succ_mul]
      omega

/-- What is added, and the model's. -/
theorem xsOf_sound (hH : HR P W φ (hp H) w) {s xl : Nat} {xv x' : Value} {xs : List Value} (hv : VR φ xv x') (h : xsOf H s xv = some (xl, xs)) :
    ∃ xs', LR φ xs xs' ∧ xs'.length = xl * s ∧ ((xl = 0 ∧ ∃ c, x' = .slice none xl c) ∨ ∃ a c', x' = .slice (some a) xl c' ∧ ∀ j v, xs'[j]? = some v → w.cell? (a.add j) = some v) := by
  unfold xsOf at h
  split at h
  · rename_i xb n xc
    obtain ⟨l, hl, h1⟩ := optK_inv h
    cases h1
    obtain ⟨xs', h2, h3, h4⟩ := cellsOf_sound hH hv hl
    refine ⟨xs', h2, h3, ?_⟩
    rcases h4 with ⟨_, h4, h5⟩ | h4
    · exact .inl ⟨h4, _, h5⟩
    · exact .inr h4
  · obtain ⟨s', es, rfl, h1⟩ := rowVK_inv h
    obtain ⟨h2, h3⟩ := bif_inv h1
    have h2 := beq_eq h2
    subst h2
    cases h3
    clear h h1
    rcases hv.row_inv with ⟨rfl, hy | ⟨a, c', hy⟩⟩ | ⟨k, o', c', e, c, h3, h4, h5, h6, h7, h8, hy⟩
    · exact ⟨[], .nil, by simp, .inl ⟨rfl, _, hy⟩⟩
    · exact ⟨[], .nil, by simp, .inr ⟨_, c', hy, fun j v hj => by simp at hj⟩⟩
    · obtain ⟨el, fz, hrow⟩ := hH.fzr k e c h3 h4
      have hlen := flatMap_const h5
      by_cases hne : es = []
      · subst hne
        exact ⟨[], .nil, by simp, .inr ⟨_, c', hy, fun j v hj => by simp at hj⟩⟩
      · have h6 := h6 hne
        refine ⟨(c.toList.drop o').take (es.length * s'), ⟨?_, fun m a b ha hb => ?_⟩, ?_, .inr ⟨_, c', hy, cells_get hrow⟩⟩
        · rw [hlen]; simp only [List.length_take, List.length_drop, Array.length_toList]; omega
        · obtain ⟨i, j, x, rfl, hi, hj⟩ := flatMap_get h5 m a ha
          rw [List.getElem?_take] at hb
          split at hb
          · rw [List.getElem?_drop, Array.getElem?_toList] at hb
            exact h8 i j x a b hi hj (by rw [Nat.add_assoc]; exact hb)
          · cases hb
        · simp only [List.length_take, List.length_drop, Array.length_toList]; omega

theorem apSmall_inv {e : TypeId} {s need : Nat} (h : apSmall P e s need = true) (hs : szOf P e = some s) :
    ∃ i z', P.info? e = some i ∧ i.zero = some z' ∧ i.size = s ∧ z'.cells.size = s ∧ 0 < s ∧ need ≤ 1048576 ∧ i.bytes ≤ 65536 := by
  unfold apSmall at h
  split at h
  · rename_i i z hi hz
    simp only [Bool.and_eq_true] at h
    obtain ⟨i', z', hi', hz', hl, _⟩ := zeroC_inv hz
    rw [hi] at hi'
    cases hi'
    have h1 := beq_eq h.1.1.1
    refine ⟨i, z', hi, hz', ?_, ?_, blt_lt h.1.1.2, ble_le h.1.2, ble_le h.2⟩
    · unfold szOf at hs
      rw [hi] at hs
      cases hs
      rfl
    · rw [← h1, ← hl]; simp
  · cases h

theorem notInt {d : TypeDesc} (h : ∀ k, d ≠ .int k) : (match d with | .int _ => true | _ => false) = false := by
  cases d <;> first | rfl | exact absurd rfl (h _)
/-- An append in place, in the model. -/
theorem run_append_in (t u ty e : TypeId) (i : TypeInfo) {d : TypeDesc} (ht : P.underlying t = some (.slice e)) (hud : P.underlying u = some d) (hd : ∀ k, d ≠ .int k) (hi : P.info? e = some i) (b : Addr) (sLen sCap : Nat) {x : Value} {n : Nat} {xs : List Value}
    (hn : (Builtin.lenOf x).run P w = .ok n w) (hf : (Builtin.firstCells i.size n x).run P w = .ok xs.toArray w) (hle : sLen + n ≤ sCap) {w' : World}
    (hst : (storeCells (b.add (sLen * i.size)) xs).run P w = .ok () w') :
    (Builtin.append_ #[t, u] ty #[.slice (some b) sLen sCap, x]).run P w = .ok (.slice (some b) (sLen + n) sCap) w' := by
  have hm := notInt hd
  simp [Builtin.append_, run_underlying ht, run_underlying hud, hm, sizeOf, typeInfo, hi, hn, hle, hf, hst]
theorem run_append_nil0 (t u ty e : TypeId) (i : TypeInfo) {d : TypeDesc} (ht : P.underlying t = some (.slice e)) (hud : P.underlying u = some d) (hd : ∀ k, d ≠ .int k) (hi : P.info? e = some i) {x : Value} {xs : List Value}
    (hn : (Builtin.lenOf x).run P w = .ok 0 w) (hf : (Builtin.firstCells i.size 0 x).run P w = .ok xs.toArray w) :
    (Builtin.append_ #[t, u] ty #[.slice none 0 0, x]).run P w = .ok (.slice none 0 0) w := by
  have hm := notInt hd
  simp [Builtin.append_, run_underlying ht, run_underlying hud, hm, sizeOf, typeInfo, hi, hn, hf]
/-- An append that makes a new row, in the model. -/
theorem run_append_more (t u ty e : TypeId) (i : TypeInfo) (z : Value) {d : TypeDesc} (ht : P.underlying t = some (.slice e)) (hud : P.underlying u = some d) (hd : ∀ k, d ≠ .int k) (hi : P.info? e = some i) (hz : i.zero = some z)
    (base : Option Addr) (sLen sCap : Nat) (olds : List Value) (holds : (Builtin.firstCells i.size sLen (.slice base sLen sCap)).run P w.drew = .ok olds.toArray w.drew) {x : Value} (n : Nat) (news : List Value)
    (hn : (Builtin.lenOf x).run P w = .ok n w) (hf : (Builtin.firstCells i.size n x).run P w.drew = .ok news.toArray w.drew)
    (hg : sCap < sLen + n) (h63 : ((sLen + n : Nat) : Int) ≤ 9223372036854775807) (hfit : Builtin.nextslicecap (sLen + n) sCap * i.bytes ≤ 281474976710656) :
    (Builtin.append_ #[t, u] ty #[.slice base sLen sCap, x]).run P w =
      .ok (.slice (some ⟨w.heap.size, 0, none⟩) (sLen + n) (grownCap w (sLen + n) sCap e))
        (w.drew.alloc (.cells ((olds ++ news).toArray ++ Builtin.zeroCells z.cells (grownCap w (sLen + n) sCap e - (sLen + n))) e)) := by
  have hm := notInt hd
  have hn' : ¬ (sLen + n ≤ sCap) := by omega
  have h63' : ¬ (9223372036854775807 < ((sLen : Int) + (n : Int))) := by omega
  have h48' : ¬ (281474976710656 < Builtin.nextslicecap (sLen + n) sCap * i.bytes) := by omega
  simp [Builtin.append_, run_underlying ht, run_underlying hud, hm, sizeOf, typeInfo, zeroValue, hi, hz, hn, hn', h63', h48', Question.forced, hf, holds, newRow, grownCap]
  congr 2
  apply Array.ext'
  simp [List.append_assoc]

theorem newK_mk {H : T OB} {nx : Nat} {e : TypeId} {m : Nat} {l : List Value} : apNew H nx e m l = .val (.slice (some ⟨nx, 0, none⟩) m unk) (set H (bits nx) (some (newOB l e))) (nx + 1) := by
  unfold apNew
  rw [newK_eq, natF_eq]

/-- What the call of 'append' comes to. -/
theorem exec_append {c : Call} (hc : c.callee = .builtin .append) (ho : o.op = .call c) {r : Result Value} (h : (Builtin.append_ c.argTypes o.type (c.args.map ρ)).run P w = r) :
    (execOp ρ o).run P w = r.andThen fun v w' => .ok (.value v) w' := by
  subst h
  simp only [execOp, ho, resolve, hc, Sem.run_bind, Sem.run_pure, Result.andThen_ok, invoke, builtin]

theorem zeroCells_size (z : Array Value) (n : Nat) : (Builtin.zeroCells z n).size = n * z.size := by simp [Builtin.zeroCells]

theorem grownCap_ge (w : World) (need old : Nat) (e : TypeId) : need ≤ grownCap w need old e := by
  unfold grownCap
  simp only [Question.cut]
  omega

/-- An append that makes a new row. -/
theorem ap_grow (hnx : φ.length = nx) {e : TypeId} {z' : Value} {s m cap : Nat} {l l' : List Value} {r : Result Next} (H₁ : T OB) (hH₁ : HR P W φ (hp H₁) w) (hk : Keep φ φ (hp H) (hp H₁))
    (hs : szOf P e = some s) (hz : z'.cells.size = s) (hl : LR φ l l') (hlen : l'.length = m * s) (hm : m ≤ cap)
    (hr : r = .ok (.value (.slice (some ⟨w.heap.size, 0, none⟩) m cap)) (w.drew.alloc (.cells (l'.toArray ++ Builtin.zeroCells z'.cells (cap - m)) e))) :
    EfOk P W φ H w r (.slice (some ⟨nx, 0, none⟩) m unk) (set H₁ (bits nx) (some (newOB l e))) (nx + 1) := by
  subst hnx
  refine ⟨_, _, _, _, hr, .inl rfl, .slice (fresh_get φ w.heap.size (l'.toArray ++ Builtin.zeroCells z'.cells (cap - m)).size s) (.inr ⟨rfl, hm, ?_⟩), fresh_le _ _ _ _, ?_, fresh_len _ _ _ _, ?_⟩
  · simp only [Array.size_append, List.size_toArray, zeroCells_size, hz, hlen]
    rw [← Nat.add_mul]
    rw [show m + (cap - m) = cap from by omega]
    omega
  · rw [hp_set]
    exact hH₁.drew.fresh _ (newOB_R (w := w.drew) hl e e _ (fun z h => by rw [hs] at h; cases h; rfl) hH₁.below.drew)
  · rw [hp_set]
    exact hk.trans (fresh_keep _ _ _ _ _ _)

/-- An append, the added cells told. 'u': the type of what is added. -/
theorem ap_go (hH : HR P W φ (hp H) w) (hnx : φ.length = nx) {c : Call} (hc : c.callee = .builtin .append) (ho : o.op = .call c) {t u e : TypeId} {s sl sc xl : Nat} {base : Option Addr} {sv xv : Value} {xs xs' : List Value}
    (hty : c.argTypes = #[t, u]) (hargs : c.args.map ρ = #[sv, xv]) (hsv : VR φ (.slice base sl sc) sv) (hu : P.underlying t = some (.slice e)) (hux : ∃ d, P.underlying u = some d ∧ ∀ k, d ≠ .int k) (hs : szOf P e = some s)
    (hsm : apSmall P e s (sl + xl) = true) (hx1 : LR φ xs xs') (hx2 : xs'.length = xl * s) (hlx : ∀ w', (Builtin.lenOf xv).run P w' = .ok xl w') (hfx : (Builtin.firstCells s xl xv).run P w = .ok xs'.toArray w)
    (hfxd : (Builtin.firstCells s xl xv).run P w.drew = .ok xs'.toArray w.drew) (h : apGo P H nx e s base sl sc xl xs = .val v H' nx') : EfOk P W φ H w ((execOp ρ o).run P w) v H' nx' := by
  obtain ⟨i, z', hi, hz, his, hzs, h0, hneed, hby⟩ := apSmall_inv hsm hs
  obtain ⟨dd, hud, hdd⟩ := hux
  rw [← his] at hfx hfxd
  have h48 : ∀ old, old < sl + xl → Builtin.nextslicecap (sl + xl) old * i.bytes ≤ 281474976710656 := fun old hold =>
    growslice_fits hold (Nat.le_trans (Nat.mul_le_mul hneed hby) (by decide))
  cases base with
  | none =>
    have hsv := hsv.eq_of_flat rfl
    subst hsv
    obtain ⟨hb, h'⟩ := bif_eff (show (bif Nat.beq sl 0 && Nat.beq sc 0 then (bif Nat.beq xl 0 then Eff.val (.slice none 0 0) H nx else apNew H nx e xl xs) else .bad) = .val v H' nx' from h)
    simp only [Bool.and_eq_true] at hb
    have hb1 := beq_eq hb.1
    have hb2 := beq_eq hb.2
    subst hb1 hb2
    cases hx0 : Nat.beq xl 0 with
    | true =>
      rw [hx0] at h'
      have h' : Eff.val (.slice none 0 0) H nx = .val v H' nx' := h'
      cases h'
      have hx0 := beq_eq hx0
      subst hx0
      refine ⟨φ, .slice none 0 0, w, .value (.slice none 0 0), ?_, .inl rfl, .flat _ rfl, φ.le_refl, hH, hnx, Keep.refl _ _⟩
      rw [exec_append hc ho (r := .ok (.slice none 0 0) w) ?_]
      · rfl
      · rw [hty, hargs]
        exact run_append_nil0 t u o.type e i hu hud hdd hi (hlx w) hfx
    | false =>
      rw [hx0] at h'
      have h' : apNew H nx e xl xs = .val v H' nx' := h'
      rw [newK_mk] at h'
      cases h'
      have hx0 : 0 < xl := by
        rcases Nat.eq_zero_or_pos xl with q | q
        · subst q; cases hx0
        · exact q
      refine ap_grow hnx H hH (Keep.refl _ _) hs hzs hx1 hx2 (grownCap_ge w xl 0 e) ?_
      rw [exec_append hc ho rfl, hty, hargs]
      have h5 := run_append_more (P := P) (w := w) t u o.type e i z' hu hud hdd hi hz none 0 0 [] rfl xl xs' (hlx w) hfxd (by omega) (by omega) (h48 0 (by omega))
      rw [Nat.zero_add, List.nil_append] at h5
      rw [h5]
      rfl
  | some a0 =>
    obtain ⟨b, off, sp⟩ := a0
    obtain ⟨en, c0, hb, rfl, rfl, hcap⟩ := hsv.slice_inv
    have h : cellsK (H.get (bits b)) (fun n tr el => bif Nat.beq sc unk then apU P H nx e s b off sl xl n tr xs
      else bif Nat.ble (sl + xl) sc then apIn H nx s b off sl sc xl n tr el xs else apOut H nx e s off sl xl n tr xs) .bad = .val v H' nx' := h
    obtain ⟨n, tr, el, hg, h⟩ := cellsK_eff h
    obtain ⟨cr, elr, hrow, hrsz, hrn, hrc⟩ := hH.cells hg hb
    -- growing, from a block that may be gone by then
    have grow : ∀ (H₁ : T OB) (old : List Value), HR P W φ (hp H₁) w → Keep φ φ (hp H) (hp H₁) → toL tr (sl * s) off = some old → off + sl * s ≤ n → c0 < sl + xl → 0 < xl →
        EfOk P W φ H w ((execOp ρ o).run P w) (.slice (some ⟨nx, 0, none⟩) (sl + xl) unk) (set H₁ (bits nx) (some (newOB (old ++ xs) e))) (nx + 1) := by
      intro H₁ old hH₁ hk hold hle hlt hx0
      obtain ⟨ho1, ho2⟩ := row_LR hrc hold hle (by omega)
      have holds := run_firstCells_some (P := P) w.drew i.size sl ⟨en.r, off, none⟩ sl c0 _ (by rw [← ho1.len, ho2, his]) (cells_get (w := w.drew) (s := sl * s) hrow)
      refine ap_grow hnx H₁ hH₁ hk hs hzs (ho1.append hx1) ?_ (grownCap_ge w (sl + xl) c0 e) ?_
      · rw [List.length_append, ← ho1.len, ho2, hx2, Nat.add_mul]
      · rw [exec_append hc ho rfl, hty, hargs, run_append_more (P := P) (w := w) t u o.type e i z' hu hud hdd hi hz (some ⟨en.r, off, none⟩) sl c0 _ holds xl xs' (hlx w) hfxd hlt (by omega) (h48 c0 hlt)]
        rfl
    cases hsc : Nat.beq sc unk with
    | true =>
      rw [hsc] at h
      have h : apU P H nx e s b off sl xl n tr xs = .val v H' nx' := h
      have hsc := beq_eq hsc
      rcases hcap with ⟨q, _⟩ | ⟨_, hcl, hcb⟩
      · exact absurd hsc q
      unfold apU at h
      obtain ⟨hq, h⟩ := bif_eff h
      obtain ⟨old, hold, h⟩ := optK_eff h
      rw [setK_set, newK_mk] at h
      cases h
      simp only [Bool.and_eq_true] at hq
      have hoff := beq_eq hq.1.1.1
      have hsn := ble_le hq.1.1.2
      subst hoff
      have hes : en.es = s := by
        have h15 := hq.1.2
        unfold esIs at h15
        rw [hg] at h15
        have h15 : optK (szOf P el) (fun z => Nat.beq z s) false = true := h15
        cases hz : szOf P el with
        | none => rw [hz] at h15; cases h15
        | some z =>
          rw [hz] at h15
          have h15 : Nat.beq z s = true := h15
          have := beq_eq h15
          subst this
          exact hH.es (show hp H b = some (.cells n tr el) from hg) hb z hz
      have hkill : HR P W φ (hp (set H (bits b) (some .dead))) w := by rw [hp_set]; exact hH.kill (show hp H b = some (.cells n tr el) from hg) hb
      have hkeep : Keep φ φ (hp H) (hp (set H (bits b) (some .dead))) := fun k hk => ⟨hk, by
        rw [hp_set, upd_other]
        intro q; subst q; rw [hb] at hk; cases hk⟩
      by_cases hfit : sl + xl ≤ c0
      · -- in place: the new block of ours over the old row
        obtain ⟨ho1, ho2⟩ := row_LR hrc hold (by omega) (by omega)
        have hle1 : (sl + xl) * s ≤ en.sz := by
          have : (sl + xl) * s ≤ c0 * s := Nat.mul_le_mul_right s hfit
          rw [hes] at hcb
          omega
        rw [Nat.add_mul] at hle1
        obtain ⟨hab, _, _⟩ := hH.obj b _ en (show hp H b = some (.cells n tr el) from hg) hb
        have hAl := hkill.alias (e := en) (ob := .cells en.sz (fromL old 0 .leaf) e) (hH.rng b en hb) (fun k ob x hgk hlk hφk hr => by
          rw [hp_set] at hgk
          by_cases hkb : k = b
          · subst hkb; rw [upd_same] at hgk; cases hgk; cases hlk
          · rw [upd_other _ hkb] at hgk
            exact hkb (hH.inj k b _ _ x en hφk hb hgk (show hp H b = some (.cells n tr el) from hg) hlk rfl hr))
          (by
            cases hz : en.fz with
            | none => rfl
            | some cz => exact absurd rfl (hH.fzl b b en en cz _ hb hz hb (show hp H b = some (.cells n tr el) from hg) rfl))
          (fun k x cz hx hz => hH.fzl k b x en cz _ hx hz hb (show hp H b = some (.cells n tr el) from hg) rfl) ⟨hab, ⟨cr, elr, hrow, hrsz, Nat.le_refl _, fun j hj v hv => by
          rw [get_fromL] at hv
          split at hv
          · rename_i hjl
            have hj2 : j < sl * s := by omega
            have h3 := (toL_some tr (sl * s) 0 old hold).2 j hj2
            rw [Nat.zero_add] at h3
            rw [Nat.sub_zero] at hv
            rw [hv] at h3
            exact hrc j (by omega) v h3
          · rw [get_leaf] at hv; cases hv⟩, fun z hz => by rw [hs] at hz; cases hz; exact hes⟩
        obtain ⟨w', hrun, hH2⟩ := run_storeCells (φ := φ ++ [some en]) (b := φ.length) (n := en.sz) (el := e) (e := en) (get_push φ _) xs xs' (sl * s) 0 _ w _ hAl (upd_same _ _ _) (hx1.mono (le_push φ _)) hq.2 (by rw [hx1.len, hx2]; omega)
        rw [upd_upd, Nat.add_zero] at hH2
        have hH3 := hH2.recast (k := φ.length) (n' := (old ++ xs).length) (t' := fromL (old ++ xs) 0 .leaf) (upd_same _ _ _) (get_push φ _) (by rw [List.length_append, ho2, hx1.len, hx2]; omega) (fun j hj => by
          rw [get_fromL, get_fromL, if_pos (by omega), Nat.sub_zero]
          rw [List.length_append, ho2] at hj
          by_cases hjs : j < sl * s
          · rw [if_neg (by omega), List.getElem?_append_left (by omega), get_fromL, if_pos (by omega), Nat.sub_zero]
          · rw [if_pos (by omega), List.getElem?_append_right (by omega), ho2])
        rw [upd_upd] at hH3
        subst hnx
        refine ⟨φ ++ [some en], .slice (some ⟨en.r, 0, none⟩) (sl + xl) c0, w', .value (.slice (some ⟨en.r, 0, none⟩) (sl + xl) c0), ?_, .inl rfl, .slice (get_push φ _) (.inr ⟨rfl, hfit, hcb⟩), le_push φ _, ?_, by simp, ?_⟩
        · rw [exec_append hc ho (r := .ok (.slice (some ⟨en.r, 0, none⟩) (sl + xl) c0) w') ?_]
          · rfl
          · rw [hty, hargs]
            refine run_append_in t u o.type e i hu hud hdd hi ⟨en.r, 0, none⟩ sl c0 (hlx w) hfx hfit ?_
            rw [add_none, his, Nat.zero_add]
            exact hrun
        · rw [hp_set]; exact hH3
        · rw [hp_set]
          refine hkeep.trans (fun k hk => ⟨?_, upd_other _ ?_ _⟩)
          · rw [List.getElem?_append_left (List.getElem?_eq_some_iff.1 hk).1]; exact hk
          · have := (List.getElem?_eq_some_iff.1 hk).1; omega
      · exact grow _ old hkill hkeep hold (by omega) (by omega) (by omega)
    | false =>
      rw [hsc] at h
      have hne : sc ≠ unk := fun q => by rw [q] at hsc; exact absurd (Nat.beq_refl unk) (by rw [hsc]; decide)
      have hc0 : c0 = sc := by
        rcases hcap with ⟨_, q⟩ | ⟨q, _⟩
        · exact q
        · exact absurd q hne
      subst hc0
      have h : (bif Nat.ble (sl + xl) c0 then apIn H nx s b off sl c0 xl n tr el xs else apOut H nx e s off sl xl n tr xs) = .val v H' nx' := h
      cases hle : Nat.ble (sl + xl) c0 with
      | true =>
        rw [hle] at h
        have h : apIn H nx s b off sl c0 xl n tr el xs = .val v H' nx' := h
        have hle := ble_le hle
        unfold apIn at h
        obtain ⟨hq, h⟩ := bif_eff h
        rw [fromLK_fromL, setK_set, natF_eq] at h
        cases h
        simp only [Bool.and_eq_true] at hq
        have hin := ble_le hq.1
        have hmul : (sl + xl) * s ≤ c0 * s := Nat.mul_le_mul_right s hle
        rw [Nat.add_mul] at hmul
        obtain ⟨w', hrun, hH2⟩ := run_storeCells hb xs xs' (off + sl * s) 0 (hp H) w tr hH hg hx1 hq.2 (by rw [hx1.len, hx2]; omega)
        refine ⟨φ, .slice (some ⟨en.r, off, none⟩) (sl + xl) c0, w', .value (.slice (some ⟨en.r, off, none⟩) (sl + xl) c0), ?_, .inl rfl, .slice hb (.inl ⟨hne, rfl⟩), φ.le_refl, ?_, hnx, ?_⟩
        · rw [exec_append hc ho (r := .ok (.slice (some ⟨en.r, off, none⟩) (sl + xl) c0) w') ?_]
          · rfl
          · rw [hty, hargs]
            refine run_append_in t u o.type e i hu hud hdd hi ⟨en.r, off, none⟩ sl c0 (hlx w) hfx hle ?_
            rw [add_none, his]
            exact hrun
        · rw [hp_set]; exact hH2
        · intro k hk
          refine ⟨hk, ?_⟩
          rw [hp_set, upd_other]
          intro q; subst q; rw [hb] at hk; cases hk
      | false =>
        rw [hle] at h
        have h : apOut H nx e s off sl xl n tr xs = .val v H' nx' := h
        have hlt : c0 < sl + xl := by
          rcases Nat.lt_or_ge c0 (sl + xl) with q | q
          · exact q
          · exact absurd (Nat.ble_eq_true_of_le q) (by rw [hle]; decide)
        unfold apOut at h
        obtain ⟨hq, h⟩ := bif_eff h
        obtain ⟨old, hold, h⟩ := optK_eff h
        rw [newK_mk] at h
        cases h
        simp only [Bool.and_eq_true] at hq
        exact grow H old hH (Keep.refl _ _) hold (ble_le hq.1) hlt (blt_lt hq.2)

theorem ef_append (hH : HR P W φ (hp H) w) (hnx : φ.length = nx) {c : Call} (hc : c.callee = .builtin .append) (ho : o.op = .call c) (hE : EvR P φ tm ρ c.args.toList)
    (h : efAppS P H nx c.argTypes.toList (evs P tm c.args.toList) = .val v H' nx') : EfOk P W φ H w ((execOp ρ o).run P w) v H' nx' := by
  have two : ∀ {a b : Value}, evs P tm c.args.toList = some [a, b] → ∃ sv xv, VR φ a sv ∧ VR φ b xv ∧ c.args.map ρ = #[sv, xv] := by
    intro a b hevs
    have hLRa := evs_LR _ _ hE hevs
    obtain ⟨sv, m1, hm1, hsv, hrest⟩ := hLRa.inv
    obtain ⟨xv, m2, hm2, hxv, hrest⟩ := hrest.inv
    have hm3 := hrest.nil_inv
    subst hm3
    subst hm2
    exact ⟨sv, xv, hsv, hxv, Array.ext' (by rw [Array.toList_map]; exact hm1)⟩
  have tys : ∀ {t u : TypeId}, c.argTypes.toList = [t, u] → c.argTypes = #[t, u] := fun {t u} q => by
    have : c.argTypes.toList.toArray = #[t, u] := by rw [q]
    simpa using this
  unfold efAppS at h
  split at h
  · rename_i base sl sc b t u hevs htys
    obtain ⟨sv, xv, hsv, hxv, hargs⟩ := two hevs
    have hxv := hxv.eq_of_flat rfl
    subst hxv
    obtain ⟨hst, h⟩ := bif_eff h
    obtain ⟨e, s, hu, hs, h⟩ := sliceTK_eff h
    obtain ⟨hsm, h⟩ := bif_eff h
    simp only [Bool.and_eq_true] at hsm
    have hs1 := beq_eq hsm.2
    subst hs1
    have hud : ∃ d, P.underlying u = some d ∧ ∀ k, d ≠ .int k := by
      unfold isStrT at hst
      split at hst
      · rename_i q; exact ⟨_, q, fun k => by simp⟩
      · cases hst
    have hfc : ∀ w', (Builtin.firstCells 1 b.size (.string b)).run P w' = .ok (b.data.toList.map fun x => Value.int .u8 (.ofNat x.toNat)).toArray w' := fun w' => by
      simp [Builtin.firstCells]
      exact Array.ext' (by simp)
    refine ap_go hH hnx hc ho (xv := .string b) (xs := b.data.toList.map fun x => .int .u8 (.ofNat x.toNat)) (tys htys) hargs hsv hu hud hs hsm.1 (LR.of_flat (fun x hx => ?_)) ?_ (fun w' => rfl) (hfc w) (hfc w.drew) h
    · obtain ⟨y, _, rfl⟩ := List.mem_map.1 hx
      rfl
    · simp
  · unfold efAppend at h
    split at h
    case h_2 => cases h
    rename_i base sl sc xv0 t u hevs htys
    obtain ⟨sv, xv, hsv, hxv, hargs⟩ := two hevs
    cases htu : Nat.beq t u with
    | false => rw [htu] at h; cases h
    | true =>
      rw [htu] at h
      have htu := beq_eq htu
      subst htu
      have h : sliceTK P t (fun e s => optK (xsOf H s xv0) (fun p => bif apSmall P e s (sl + p.1) then apGo P H nx e s base sl sc p.1 p.2 else .bad) .bad) .bad = .val v H' nx' := h
      obtain ⟨e, s, hu, hs, h⟩ := sliceTK_eff h
      obtain ⟨⟨xl, xs⟩, hxs, h⟩ := optK_eff h
      obtain ⟨hsm, h⟩ := bif_eff h
      obtain ⟨xs', hx1, hx2, hx3⟩ := xsOf_sound hH hxv hxs
      obtain ⟨hfx, hlx⟩ := firstCells_of (P := P) hx2 hx3
      have hx3' : (xl = 0 ∧ ∃ c, xv = .slice none xl c) ∨ ∃ a c', xv = .slice (some a) xl c' ∧ ∀ j v, xs'[j]? = some v → w.drew.cell? (a.add j) = some v := hx3
      obtain ⟨hfxd, _⟩ := firstCells_of (P := P) (w := w.drew) hx2 hx3'
      have hl : ∀ w', (Builtin.lenOf xv).run P w' = .ok xl w' := fun w' => by
        rcases hx3 with ⟨_, c, rfl⟩ | ⟨a, c', rfl, _⟩ <;> rfl
      exact ap_go hH hnx hc ho (tys htys) hargs hsv hu ⟨_, hu, fun k => by simp⟩ hs hsm hx1 hx2 hl hfx hfxd h
end ops
end
end Go.Ev
