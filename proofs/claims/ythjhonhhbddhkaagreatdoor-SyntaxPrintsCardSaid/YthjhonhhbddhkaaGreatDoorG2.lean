/- The evaluator's appends, calls, and all operations that are no readers together. -/
import Derived.Test.YthjhonhhbddhkaaGreatDoorG1
import Derived.Scope
import Derived.Recover
namespace Go.Ev
noncomputable section
open Go.RowKit (Below)
variable {P : Program} {W w : World} {φ : Phi} {H : T OB} {tm : T Value} {ρ : Operand -> Value} {g : Nat -> Option OB}
theorem HR.alias (hH : HR P W φ g w) {e : Ent} {ob : OB} (hr : e.r < w.heap.size) (hno : ∀ k ob x, g k = some ob -> live ob = true -> φ[k]? = some (some x) -> x.r ≠ e.r)
 (h0 : e.fz = none) (hfz : ∀ (k : Nat) (x : Ent) (c : Array Value), φ[k]? = some (some x) -> x.fz = some c -> e.r ≠ x.r) (hob : OBR P W φ ob e w) :
 HR P W (φ ++ [some e]) (upd g φ.length (some ob)) w where
 below := hH.below
 gl := hH.glob (le_push φ _)
 dom := fun k o h => by
  simp only [List.length_append, List.length_singleton]
  by_cases hk : k = φ.length
  . omega
  . rw [upd_other g hk] at h; have := hH.dom k o h; omega
 rng := fun k x h => by
  rcases push_some h with h | ⟨_, h⟩
  . exact hH.rng k x h
  . cases h; exact hr
 inj := fun k k' o1 o2 x x' h h' hg hg' hl hl' hrr => by
  rcases push_some h with h0 | ⟨hk, hx⟩
  . have l0 := (List.getElem?_eq_some_iff.1 h0).1
    rw [upd_other g (by omega)] at hg
    rcases push_some h' with h1 | ⟨hk', hx'⟩
    . have l1 := (List.getElem?_eq_some_iff.1 h1).1
      rw [upd_other g (by omega)] at hg'
      exact hH.inj k k' o1 o2 x x' h0 h1 hg hg' hl hl' hrr
    . cases hx'
      exact absurd hrr (hno k o1 x hg hl h0)
  . cases hx
    rcases push_some h' with h1 | ⟨hk', hx'⟩
    . have l1 := (List.getElem?_eq_some_iff.1 h1).1
      rw [upd_other g (by omega)] at hg'
      exact absurd hrr.symm (hno k' o2 x' hg' hl' h1)
    . exact hk.trans hk'.symm
 obj := fun k oa x hg h => by
  rcases push_some h with h0 | ⟨hk, hx⟩
  . have l0 := (List.getElem?_eq_some_iff.1 h0).1
    rw [upd_other g (by omega)] at hg
    exact (hH.obj k oa x hg h0).mono (le_push φ _)
  . cases hx
    subst hk
    rw [upd_same] at hg
    cases hg
    exact hob.mono (le_push φ _)
 fzr := fun k x c h hf => by
  rcases push_some h with h1 | ⟨_, hx⟩
  . exact hH.fzr k x c h1 hf
  . cases hx; rw [h0] at hf; cases hf
 fzl := fun k k' x x' c o h hf h' hg hl => by
  rcases push_some h with h1 | ⟨_, hx⟩
  . rcases push_some h' with h2 | ⟨_, hx'⟩
    . have l2 := (List.getElem?_eq_some_iff.1 h2).1
      rw [upd_other g (by omega)] at hg
      exact hH.fzl k k' x x' c o h1 hf h2 hg hl
    . cases hx'
      exact hfz k x c h1 hf
  . cases hx; rw [h0] at hf; cases hf
theorem HR.recast (hH : HR P W φ g w) {k n n' : Nat} {t t' : T Value} {el : TypeId} {e : Ent} (hg : g k = some (.cells n t el)) (hk : φ[k]? = some (some e)) (hn : n' <= n)
 (ht : ∀ i, i < n' -> t'.get (bits i) = t.get (bits i)) : HR P W φ (upd g k (some (.cells n' t' el))) w := by
 obtain ⟨h1, ⟨c, el', h2, h3, h4, h5⟩, h6⟩ := hH.obj k _ e hg hk
 exact hH.put hg rfl hk hH.below rfl (fun _ _ => rfl) ⟨h1, ⟨c, el', h2, h3, by omega, fun i hi v hv => h5 i (by omega) v (by rw [<- ht i hi]; exact hv)⟩, h6⟩
section ops
variable {o : Oper} {v : Value} {H' : T OB} {nx nx' : Nat}
theorem cells_get {w : World} {r off : Nat} {c : Array Value} {el : TypeId} {fz : Nat × Nat} (hr : w.heap[r]? = some (.cells c el fz)) {s : Nat} :
 ∀ (j : Nat) (v : Value), ((c.toList.drop off).take s)[j]? = some v -> w.cell? ((⟨r, off, none⟩ : Addr).add j) = some v := fun j v hv => by
 rw [add_none, cell_of_row w r (off + j) c el fz hr]
 rw [List.getElem?_take] at hv
 split at hv
 . rw [List.getElem?_drop] at hv; simpa using hv
 . cases hv
theorem cellsOf_sound (hH : HR P W φ (hp H) w) {s n c : Nat} {base : Option Addr} {x' : Value} {xs : List Value} (hv : VR φ (.slice base n c) x') (h : cellsOf H s base n = some xs) :
 ∃ xs', LR φ xs xs' /\ xs'.length = n * s /\
   ((base = none /\ n = 0 /\ x' = .slice none n c) \/ ∃ a c', x' = .slice (some a) n c' /\ ∀ j v, xs'[j]? = some v -> w.cell? (a.add j) = some v) := by
 cases base with
 | none =>
   obtain ⟨h1, h2⟩ := bif_inv (show (bif Nat.beq n 0 then some [] else none) = some xs from h)
   cases h2
   have h1 := beq_eq h1
   subst h1
   have := hv.eq_of_flat rfl
   exact ⟨[], .nil, by simp, .inl ⟨rfl, rfl, this⟩⟩
 | some a =>
   obtain ⟨b, off, sp⟩ := a
   obtain ⟨e, c', hb, rfl, rfl, _⟩ := hv.slice_inv
   have h : rowK (H.get (bits b)) (fun m tr => bif Nat.ble (off + n * s) m then toL tr (n * s) off else none) none = some xs := h
   obtain ⟨m, tr, hg, h⟩ := rowK_inv h
   obtain ⟨hle, hl⟩ := bif_inv h
   obtain ⟨cs, el', fz, hr, hn, hc⟩ := hH.row hg hb
   have hle := ble_le hle
   obtain ⟨h1, h2⟩ := row_LR hc hl hle hn
   exact ⟨_, h1, by rw [<- h1.len, h2], .inr ⟨_, c', rfl, cells_get hr⟩⟩
theorem firstCells_of {w : World} {x' : Value} {n s : Nat} {xs' : List Value} (hl : xs'.length = n * s)
 (h : (n = 0 /\ ∃ c, x' = .slice none n c) \/ ∃ a c', x' = .slice (some a) n c' /\ ∀ j v, xs'[j]? = some v -> w.cell? (a.add j) = some v) :
 (Builtin.firstCells s n x').run P w = .ok xs'.toArray w /\ (Builtin.lenOf x').run P w = .ok n w := by
 rcases h with ⟨rfl, c, rfl⟩ | ⟨a, c', rfl, h⟩
 . have : xs' = [] := by
    cases xs' with
    | nil => rfl
    | cons _ _ => simp at hl
   subst this
   exact ⟨rfl, rfl⟩
 . exact ⟨run_firstCells_some w s n a n c' xs' hl h, rfl⟩
theorem flatMap_const {es : List Value} {s : Nat} (h : ∀ x ∈ es, x.cells.toList.length = s) : (es.flatMap fun u => u.cells.toList).length = es.length * s := by
 induction es with
 | nil => simp
 | cons x es ih =>
   rw [List.flatMap_cons, List.length_append, h x (by simp), ih fun y hy => h y (by simp [hy]), List.length_cons, Nat.succ_mul]
   omega
theorem flatMap_get {es : List Value} {s : Nat} (h : ∀ x ∈ es, x.cells.toList.length = s) : ∀ (m : Nat) (v : Value), (es.flatMap fun u => u.cells.toList)[m]? = some v -> ∃ i j x, m = i * s + j /\ es[i]? = some x /\ x.cells.toList[j]? = some v := by
 induction es with
 | nil => intro m v hv; simp at hv
 | cons x es ih =>
   intro m v hv
   rw [List.flatMap_cons] at hv
   have hx := h x (by simp)
   by_cases hm : m < x.cells.toList.length
   . rw [List.getElem?_append_left hm] at hv
     exact ⟨0, m, x, by omega, rfl, hv⟩
   . rw [List.getElem?_append_right (by omega), hx] at hv
     obtain ⟨i, j, y, h1, h2, h3⟩ := ih (fun y hy => h y (by simp [hy])) _ v hv
     refine ⟨i + 1, j, y, ?_, by simpa using h2, h3⟩
     rw [hx] at hm
     rw [Nat.succ_mul]
     omega
theorem xsOf_sound (hH : HR P W φ (hp H) w) {s xl : Nat} {xv x' : Value} {xs : List Value} (hv : VR φ xv x') (h : xsOf H s xv = some (xl, xs)) :
 ∃ xs', LR φ xs xs' /\ xs'.length = xl * s /\ ((xl = 0 /\ ∃ c, x' = .slice none xl c) \/ ∃ a c', x' = .slice (some a) xl c' /\ ∀ j v, xs'[j]? = some v -> w.cell? (a.add j) = some v) := by
 unfold xsOf at h
 split at h
 . rename_i xb n xc
   obtain ⟨l, hl, h1⟩ := optK_inv h
   cases h1
   obtain ⟨xs', h2, h3, h4⟩ := cellsOf_sound hH hv hl
   refine ⟨xs', h2, h3, ?_⟩
   rcases h4 with ⟨_, h4, h5⟩ | h4
   . exact .inl ⟨h4, _, h5⟩
   . exact .inr h4
 . obtain ⟨s', es, rfl, h1⟩ := rowVK_inv h
   obtain ⟨h2, h3⟩ := bif_inv h1
   have h2 := beq_eq h2
   subst h2
   cases h3
   clear h h1
   rcases hv.row_inv with ⟨rfl, hy | ⟨a, c', hy⟩⟩ | ⟨k, o', c', e, c, h3, h4, h5, h6, h7, h8, hy⟩
   . exact ⟨[], .nil, by simp, .inl ⟨rfl, _, hy⟩⟩
   . exact ⟨[], .nil, by simp, .inr ⟨_, c', hy, fun j v hj => by simp at hj⟩⟩
   . obtain ⟨el, fz, hrow⟩ := hH.fzr k e c h3 h4
     have hlen := flatMap_const h5
     by_cases hne : es = []
     . subst hne
       exact ⟨[], .nil, by simp, .inr ⟨_, c', hy, fun j v hj => by simp at hj⟩⟩
     . have h6 := h6 hne
       refine ⟨(c.toList.drop o').take (es.length * s'), ⟨?_, fun m a b ha hb => ?_⟩, ?_, .inr ⟨_, c', hy, cells_get hrow⟩⟩
       . rw [hlen]; simp only [List.length_take, List.length_drop, Array.length_toList]; omega
       . obtain ⟨i, j, x, rfl, hi, hj⟩ := flatMap_get h5 m a ha
         rw [List.getElem?_take] at hb
         split at hb
         . rw [List.getElem?_drop, Array.getElem?_toList] at hb
           exact h8 i j x a b hi hj (by rw [Nat.add_assoc]; exact hb)
         . cases hb
       . simp only [List.length_take, List.length_drop, Array.length_toList]; omega
theorem apSmall_inv {e : TypeId} {s need : Nat} (h : apSmall P e s need = true) (hs : szOf P e = some s) :
 ∃ i z', P.info? e = some i /\ i.zero = some z' /\ i.size = s /\ z'.cells.size = s /\ 0 < s /\ need <= 1048576 /\ i.bytes <= 65536 := by
 unfold apSmall at h
 split at h
 . rename_i i z hi hz
   simp only [Bool.and_eq_true] at h
   obtain ⟨i', z', hi', hz', hl, _⟩ := zeroC_inv hz
   rw [hi] at hi'
   cases hi'
   have h1 := beq_eq h.1.1.1
   refine ⟨i, z', hi, hz', ?_, ?_, blt_lt h.1.1.2, ble_le h.1.2, ble_le h.2⟩
   . unfold szOf at hs
     rw [hi] at hs
     cases hs
     rfl
   . rw [<- h1, <- hl]; simp
 . cases h
theorem notInt {d : TypeDesc} (h : ∀ k, d ≠ .int k) : (match d with | .int _ => true | _ => false) = false := by
 cases d <;> first | rfl | exact absurd rfl (h _)
theorem run_append_in (t u ty e : TypeId) (i : TypeInfo) {d : TypeDesc} (ht : P.underlying t = some (.slice e)) (hud : P.underlying u = some d) (hd : ∀ k, d ≠ .int k) (hi : P.info? e = some i) (b : Addr) (sLen sCap : Nat) {x : Value} {n : Nat} {xs : List Value}
 (hn : (Builtin.lenOf x).run P w = .ok n w) (hf : (Builtin.firstCells i.size n x).run P w = .ok xs.toArray w) (hle : sLen + n <= sCap) {w' : World}
 (hst : (storeCells (b.add (sLen * i.size)) xs).run P w = .ok () w') :
 (Builtin.append_ #[t, u] ty #[.slice (some b) sLen sCap, x]).run P w = .ok (.slice (some b) (sLen + n) sCap) w' := by
 have hm := notInt hd
 simp [Builtin.append_, run_underlying ht, run_underlying hud, hm, sizeOf, typeInfo, hi, hn, hle, hf, hst]
theorem run_append_nil0 (t u ty e : TypeId) (i : TypeInfo) {d : TypeDesc} (ht : P.underlying t = some (.slice e)) (hud : P.underlying u = some d) (hd : ∀ k, d ≠ .int k) (hi : P.info? e = some i) {x : Value} {xs : List Value}
 (hn : (Builtin.lenOf x).run P w = .ok 0 w) (hf : (Builtin.firstCells i.size 0 x).run P w = .ok xs.toArray w) :
 (Builtin.append_ #[t, u] ty #[.slice none 0 0, x]).run P w = .ok (.slice none 0 0) w := by
 have hm := notInt hd
 simp [Builtin.append_, run_underlying ht, run_underlying hud, hm, sizeOf, typeInfo, hi, hn, hf]
theorem run_append_more (t u ty e : TypeId) (i : TypeInfo) (z : Value) {d : TypeDesc} (ht : P.underlying t = some (.slice e)) (hud : P.underlying u = some d) (hd : ∀ k, d ≠ .int k) (hi : P.info? e = some i) (hz : i.zero = some z)
 (base : Option Addr) (sLen sCap : Nat) (olds : List Value) (holds : (Builtin.firstCells i.size sLen (.slice base sLen sCap)).run P w.drew = .ok olds.toArray w.drew) {x : Value} (n : Nat) (news : List Value)
 (hn : (Builtin.lenOf x).run P w = .ok n w) (hf : (Builtin.firstCells i.size n x).run P w.drew = .ok news.toArray w.drew)
 (hg : sCap < sLen + n) (h63 : ((sLen + n : Nat) : Int) <= 9223372036854775807) (hfit : Builtin.nextslicecap (sLen + n) sCap * i.bytes <= 281474976710656) :
 (Builtin.append_ #[t, u] ty #[.slice base sLen sCap, x]).run P w =
  .ok (.slice (some ⟨w.heap.size, 0, none⟩) (sLen + n) (grownCap w (sLen + n) sCap e))
   (w.drew.alloc (.cells ((olds ++ news).toArray ++ Builtin.zeroCells z.cells (grownCap w (sLen + n) sCap e - (sLen + n))) e)) := by
 have hm := notInt hd
 have hn' : ¬ (sLen + n <= sCap) := by omega
 have h63' : ¬ (9223372036854775807 < ((sLen : Int) + (n : Int))) := by omega
 have h48' : ¬ (281474976710656 < Builtin.nextslicecap (sLen + n) sCap * i.bytes) := by omega
 simp [Builtin.append_, run_underlying ht, run_underlying hud, hm, sizeOf, typeInfo, zeroValue, hi, hz, hn, hn', h63', h48', Question.forced, hf, holds, newRow, grownCap]
 congr 2
 apply Array.ext'
 simp [List.append_assoc]
theorem newK_mk {H : T OB} {nx : Nat} {e : TypeId} {m : Nat} {l : List Value} : apNew H nx e m l = .val (.slice (some ⟨nx, 0, none⟩) m unk) (set H (bits nx) (some (newOB l e))) (nx + 1) := by
 unfold apNew
 rw [newK_eq, natF_eq]
theorem exec_append {c : Call} (hc : c.callee = .builtin .append) (ho : o.op = .call c) {r : Result Value} (h : (Builtin.append_ c.argTypes o.type (c.args.map ρ)).run P w = r) :
 (execOp ρ o).run P w = r.andThen fun v w' => .ok (.value v) w' := by
 subst h
 simp only [execOp, ho, resolve, hc, Sem.run_bind, Sem.run_pure, Result.andThen_ok, invoke, builtin]
theorem zeroCells_size (z : Array Value) (n : Nat) : (Builtin.zeroCells z n).size = n * z.size := by simp [Builtin.zeroCells]
theorem grownCap_ge (w : World) (need old : Nat) (e : TypeId) : need <= grownCap w need old e := by
 unfold grownCap
 simp only [Question.cut]
 omega
theorem ap_grow (hnx : φ.length = nx) {e : TypeId} {z' : Value} {s m cap : Nat} {l l' : List Value} {r : Result Next} (H₁ : T OB) (hH₁ : HR P W φ (hp H₁) w) (hk : Keep φ φ (hp H) (hp H₁))
 (hs : szOf P e = some s) (hz : z'.cells.size = s) (hl : LR φ l l') (hlen : l'.length = m * s) (hm : m <= cap)
 (hr : r = .ok (.value (.slice (some ⟨w.heap.size, 0, none⟩) m cap)) (w.drew.alloc (.cells (l'.toArray ++ Builtin.zeroCells z'.cells (cap - m)) e))) :
 EfOk P W φ H w r (.slice (some ⟨nx, 0, none⟩) m unk) (set H₁ (bits nx) (some (newOB l e))) (nx + 1) := by
 subst hnx
 refine ⟨_, _, _, _, hr, .inl rfl, .slice (fresh_get φ w.heap.size (l'.toArray ++ Builtin.zeroCells z'.cells (cap - m)).size s) (.inr ⟨rfl, hm, ?_⟩), fresh_le _ _ _ _, ?_, fresh_len _ _ _ _, ?_⟩
 . simp only [Array.size_append, List.size_toArray, zeroCells_size, hz, hlen]
   rw [<- Nat.add_mul]
   rw [show m + (cap - m) = cap from by omega]
   omega
 . rw [hp_set]
   exact hH₁.drew.fresh _ (newOB_R (w := w.drew) hl e e _ (fun z h => by rw [hs] at h; cases h; rfl) hH₁.below.drew)
 . rw [hp_set]
   exact hk.trans (fresh_keep _ _ _ _ _ _)
theorem ap_go (hH : HR P W φ (hp H) w) (hnx : φ.length = nx) {c : Call} (hc : c.callee = .builtin .append) (ho : o.op = .call c) {t u e : TypeId} {s sl sc xl : Nat} {base : Option Addr} {sv xv : Value} {xs xs' : List Value}
 (hty : c.argTypes = #[t, u]) (hargs : c.args.map ρ = #[sv, xv]) (hsv : VR φ (.slice base sl sc) sv) (hu : P.underlying t = some (.slice e)) (hux : ∃ d, P.underlying u = some d /\ ∀ k, d ≠ .int k) (hs : szOf P e = some s)
 (hsm : apSmall P e s (sl + xl) = true) (hx1 : LR φ xs xs') (hx2 : xs'.length = xl * s) (hlx : ∀ w', (Builtin.lenOf xv).run P w' = .ok xl w') (hfx : (Builtin.firstCells s xl xv).run P w = .ok xs'.toArray w)
 (hfxd : (Builtin.firstCells s xl xv).run P w.drew = .ok xs'.toArray w.drew) (h : apGo P H nx e s base sl sc xl xs = .val v H' nx') : EfOk P W φ H w ((execOp ρ o).run P w) v H' nx' := by
 obtain ⟨i, z', hi, hz, his, hzs, h0, hneed, hby⟩ := apSmall_inv hsm hs
 obtain ⟨dd, hud, hdd⟩ := hux
 rw [<- his] at hfx hfxd
 have h48 : ∀ old, old < sl + xl -> Builtin.nextslicecap (sl + xl) old * i.bytes <= 281474976710656 := fun old hold =>
  growslice_fits hold (Nat.le_trans (Nat.mul_le_mul hneed hby) (by decide))
 cases base with
 | none =>
   have hsv := hsv.eq_of_flat rfl
   subst hsv
   obtain ⟨hb, h'⟩ := bif_eff (show (bif Nat.beq sl 0 && Nat.beq sc 0 then (bif Nat.beq xl 0 then Eff.val (.slice none 0 0) H nx else apNew H nx e xl xs) else .bad) = .val v H' nx' from h)
   simp only [Bool.and_eq_true] at hb
   have hb1 := beq_eq hb.1
   have hb2 := beq_eq hb.2
   subst hb1 hb2
   cases hx0 : Nat.beq xl 0 with
   | true =>
     rw [hx0] at h'
     have h' : Eff.val (.slice none 0 0) H nx = .val v H' nx' := h'
     cases h'
     have hx0 := beq_eq hx0
     subst hx0
     refine ⟨φ, .slice none 0 0, w, .value (.slice none 0 0), ?_, .inl rfl, .flat _ rfl, φ.le_refl, hH, hnx, Keep.refl _ _⟩
     rw [exec_append hc ho (r := .ok (.slice none 0 0) w) ?_]
     . rfl
     . rw [hty, hargs]
       exact run_append_nil0 t u o.type e i hu hud hdd hi (hlx w) hfx
   | false =>
     rw [hx0] at h'
     have h' : apNew H nx e xl xs = .val v H' nx' := h'
     rw [newK_mk] at h'
     cases h'
     have hx0 : 0 < xl := by
      rcases Nat.eq_zero_or_pos xl with q | q
      . subst q; cases hx0
      . exact q
     refine ap_grow hnx H hH (Keep.refl _ _) hs hzs hx1 hx2 (grownCap_ge w xl 0 e) ?_
     rw [exec_append hc ho rfl, hty, hargs]
     have h5 := run_append_more (P := P) (w := w) t u o.type e i z' hu hud hdd hi hz none 0 0 [] rfl xl xs' (hlx w) hfxd (by omega) (by omega) (h48 0 (by omega))
     rw [Nat.zero_add, List.nil_append] at h5
     rw [h5]
     rfl
 | some a0 =>
   obtain ⟨b, off, sp⟩ := a0
   obtain ⟨en, c0, hb, rfl, rfl, hcap⟩ := hsv.slice_inv
   have h : cellsK (H.get (bits b)) (fun n tr el => bif Nat.beq sc unk then apU P H nx e s b off sl xl n tr xs
    else bif Nat.ble (sl + xl) sc then apIn H nx s b off sl sc xl n tr el xs else apOut H nx e s off sl xl n tr xs) .bad = .val v H' nx' := h
   obtain ⟨n, tr, el, hg, h⟩ := cellsK_eff h
   obtain ⟨cr, elr, hrow, hrsz, hrn, hrc⟩ := hH.cells hg hb
   have grow : ∀ (H₁ : T OB) (old : List Value), HR P W φ (hp H₁) w -> Keep φ φ (hp H) (hp H₁) -> toL tr (sl * s) off = some old -> off + sl * s <= n -> c0 < sl + xl -> 0 < xl ->
    EfOk P W φ H w ((execOp ρ o).run P w) (.slice (some ⟨nx, 0, none⟩) (sl + xl) unk) (set H₁ (bits nx) (some (newOB (old ++ xs) e))) (nx + 1) := by
    intro H₁ old hH₁ hk hold hle hlt hx0
    obtain ⟨ho1, ho2⟩ := row_LR hrc hold hle (by omega)
    have holds := run_firstCells_some (P := P) w.drew i.size sl ⟨en.r, off, none⟩ sl c0 _ (by rw [<- ho1.len, ho2, his]) (cells_get (w := w.drew) (s := sl * s) hrow)
    refine ap_grow hnx H₁ hH₁ hk hs hzs (ho1.append hx1) ?_ (grownCap_ge w (sl + xl) c0 e) ?_
    . rw [List.length_append, <- ho1.len, ho2, hx2, Nat.add_mul]
    . rw [exec_append hc ho rfl, hty, hargs, run_append_more (P := P) (w := w) t u o.type e i z' hu hud hdd hi hz (some ⟨en.r, off, none⟩) sl c0 _ holds xl xs' (hlx w) hfxd hlt (by omega) (h48 c0 hlt)]
      rfl
   cases hsc : Nat.beq sc unk with
   | true =>
     rw [hsc] at h
     have h : apU P H nx e s b off sl xl n tr xs = .val v H' nx' := h
     have hsc := beq_eq hsc
     rcases hcap with ⟨q, _⟩ | ⟨_, hcl, hcb⟩
     . exact absurd hsc q
     unfold apU at h
     obtain ⟨hq, h⟩ := bif_eff h
     obtain ⟨old, hold, h⟩ := optK_eff h
     rw [setK_set, newK_mk] at h
     cases h
     simp only [Bool.and_eq_true] at hq
     have hoff := beq_eq hq.1.1.1
     have hsn := ble_le hq.1.1.2
     subst hoff
     have hes : en.es = s := by
      have h15 := hq.1.2
      unfold esIs at h15
      rw [hg] at h15
      have h15 : optK (szOf P el) (fun z => Nat.beq z s) false = true := h15
      cases hz : szOf P el with
      | none => rw [hz] at h15; cases h15
      | some z =>
        rw [hz] at h15
        have h15 : Nat.beq z s = true := h15
        have := beq_eq h15
        subst this
        exact hH.es (show hp H b = some (.cells n tr el) from hg) hb z hz
     have hkill : HR P W φ (hp (set H (bits b) (some .dead))) w := by rw [hp_set]; exact hH.kill (show hp H b = some (.cells n tr el) from hg) hb
     have hkeep : Keep φ φ (hp H) (hp (set H (bits b) (some .dead))) := fun k hk => ⟨hk, by
      rw [hp_set, upd_other]
      intro q; subst q; rw [hb] at hk; cases hk⟩
     by_cases hfit : sl + xl <= c0
     . -- in place: the new block of ours over the old row
       obtain ⟨ho1, ho2⟩ := row_LR hrc hold (by omega) (by omega)
       have hle1 : (sl + xl) * s <= en.sz := by
        have : (sl + xl) * s <= c0 * s := Nat.mul_le_mul_right s hfit
        rw [hes] at hcb
        omega
       rw [Nat.add_mul] at hle1
       obtain ⟨hab, _, _⟩ := hH.obj b _ en (show hp H b = some (.cells n tr el) from hg) hb
       have hAl := hkill.alias (e := en) (ob := .cells en.sz (fromL old 0 .leaf) e) (hH.rng b en hb) (fun k ob x hgk hlk hφk hr => by
        rw [hp_set] at hgk
        by_cases hkb : k = b
        . subst hkb; rw [upd_same] at hgk; cases hgk; cases hlk
        . rw [upd_other _ hkb] at hgk
          exact hkb (hH.inj k b _ _ x en hφk hb hgk (show hp H b = some (.cells n tr el) from hg) hlk rfl hr))
        (by
         cases hz : en.fz with
         | none => rfl
         | some cz => exact absurd rfl (hH.fzl b b en en cz _ hb hz hb (show hp H b = some (.cells n tr el) from hg) rfl))
        (fun k x cz hx hz => hH.fzl k b x en cz _ hx hz hb (show hp H b = some (.cells n tr el) from hg) rfl) ⟨hab, ⟨cr, elr, hrow, hrsz, Nat.le_refl _, fun j hj v hv => by
        rw [get_fromL] at hv
        split at hv
        . rename_i hjl
          have hj2 : j < sl * s := by omega
          have h3 := (toL_some tr (sl * s) 0 old hold).2 j hj2
          rw [Nat.zero_add] at h3
          rw [Nat.sub_zero] at hv
          rw [hv] at h3
          exact hrc j (by omega) v h3
        . rw [get_leaf] at hv; cases hv⟩, fun z hz => by rw [hs] at hz; cases hz; exact hes⟩
       obtain ⟨w', hrun, hH2⟩ := run_storeCells (φ := φ ++ [some en]) (b := φ.length) (n := en.sz) (el := e) (e := en) (get_push φ _) xs xs' (sl * s) 0 _ w _ hAl (upd_same _ _ _) (hx1.mono (le_push φ _)) hq.2 (by rw [hx1.len, hx2]; omega)
       rw [upd_upd, Nat.add_zero] at hH2
       have hH3 := hH2.recast (k := φ.length) (n' := (old ++ xs).length) (t' := fromL (old ++ xs) 0 .leaf) (upd_same _ _ _) (get_push φ _) (by rw [List.length_append, ho2, hx1.len, hx2]; omega) (fun j hj => by
        rw [get_fromL, get_fromL, if_pos (by omega), Nat.sub_zero]
        rw [List.length_append, ho2] at hj
        by_cases hjs : j < sl * s
        . rw [if_neg (by omega), List.getElem?_append_left (by omega), get_fromL, if_pos (by omega), Nat.sub_zero]
        . rw [if_pos (by omega), List.getElem?_append_right (by omega), ho2])
       rw [upd_upd] at hH3
       subst hnx
       refine ⟨φ ++ [some en], .slice (some ⟨en.r, 0, none⟩) (sl + xl) c0, w', .value (.slice (some ⟨en.r, 0, none⟩) (sl + xl) c0), ?_, .inl rfl, .slice (get_push φ _) (.inr ⟨rfl, hfit, hcb⟩), le_push φ _, ?_, by simp, ?_⟩
       . rw [exec_append hc ho (r := .ok (.slice (some ⟨en.r, 0, none⟩) (sl + xl) c0) w') ?_]
         . rfl
         . rw [hty, hargs]
           refine run_append_in t u o.type e i hu hud hdd hi ⟨en.r, 0, none⟩ sl c0 (hlx w) hfx hfit ?_
           rw [add_none, his, Nat.zero_add]
           exact hrun
       . rw [hp_set]; exact hH3
       . rw [hp_set]
         refine hkeep.trans (fun k hk => ⟨?_, upd_other _ ?_ _⟩)
         . rw [List.getElem?_append_left (List.getElem?_eq_some_iff.1 hk).1]; exact hk
         . have := (List.getElem?_eq_some_iff.1 hk).1; omega
     . exact grow _ old hkill hkeep hold (by omega) (by omega) (by omega)
   | false =>
     rw [hsc] at h
     have hne : sc ≠ unk := fun q => by rw [q] at hsc; exact absurd (Nat.beq_refl unk) (by rw [hsc]; decide)
     have hc0 : c0 = sc := by
      rcases hcap with ⟨_, q⟩ | ⟨q, _⟩
      . exact q
      . exact absurd q hne
     subst hc0
     have h : (bif Nat.ble (sl + xl) c0 then apIn H nx s b off sl c0 xl n tr el xs else apOut H nx e s off sl xl n tr xs) = .val v H' nx' := h
     cases hle : Nat.ble (sl + xl) c0 with
     | true =>
       rw [hle] at h
       have h : apIn H nx s b off sl c0 xl n tr el xs = .val v H' nx' := h
       have hle := ble_le hle
       unfold apIn at h
       obtain ⟨hq, h⟩ := bif_eff h
       rw [fromLK_fromL, setK_set, natF_eq] at h
       cases h
       simp only [Bool.and_eq_true] at hq
       have hin := ble_le hq.1
       have hmul : (sl + xl) * s <= c0 * s := Nat.mul_le_mul_right s hle
       rw [Nat.add_mul] at hmul
       obtain ⟨w', hrun, hH2⟩ := run_storeCells hb xs xs' (off + sl * s) 0 (hp H) w tr hH hg hx1 hq.2 (by rw [hx1.len, hx2]; omega)
       refine ⟨φ, .slice (some ⟨en.r, off, none⟩) (sl + xl) c0, w', .value (.slice (some ⟨en.r, off, none⟩) (sl + xl) c0), ?_, .inl rfl, .slice hb (.inl ⟨hne, rfl⟩), φ.le_refl, ?_, hnx, ?_⟩
       . rw [exec_append hc ho (r := .ok (.slice (some ⟨en.r, off, none⟩) (sl + xl) c0) w') ?_]
         . rfl
         . rw [hty, hargs]
           refine run_append_in t u o.type e i hu hud hdd hi ⟨en.r, off, none⟩ sl c0 (hlx w) hfx hle ?_
           rw [add_none, his]
           exact hrun
       . rw [hp_set]; exact hH2
       . intro k hk
         refine ⟨hk, ?_⟩
         rw [hp_set, upd_other]
         intro q; subst q; rw [hb] at hk; cases hk
     | false =>
       rw [hle] at h
       have h : apOut H nx e s off sl xl n tr xs = .val v H' nx' := h
       have hlt : c0 < sl + xl := by
        rcases Nat.lt_or_ge c0 (sl + xl) with q | q
        . exact q
        . exact absurd (Nat.ble_eq_true_of_le q) (by rw [hle]; decide)
       unfold apOut at h
       obtain ⟨hq, h⟩ := bif_eff h
       obtain ⟨old, hold, h⟩ := optK_eff h
       rw [newK_mk] at h
       cases h
       simp only [Bool.and_eq_true] at hq
       exact grow H old hH (Keep.refl _ _) hold (ble_le hq.1) hlt (blt_lt hq.2)
theorem ef_append (hH : HR P W φ (hp H) w) (hnx : φ.length = nx) {c : Call} (hc : c.callee = .builtin .append) (ho : o.op = .call c) (hE : EvR P φ tm ρ c.args.toList)
 (h : efAppS P H nx c.argTypes.toList (evs P tm c.args.toList) = .val v H' nx') : EfOk P W φ H w ((execOp ρ o).run P w) v H' nx' := by
 have two : ∀ {a b : Value}, evs P tm c.args.toList = some [a, b] -> ∃ sv xv, VR φ a sv /\ VR φ b xv /\ c.args.map ρ = #[sv, xv] := by
  intro a b hevs
  have hLRa := evs_LR _ _ hE hevs
  obtain ⟨sv, m1, hm1, hsv, hrest⟩ := hLRa.inv
  obtain ⟨xv, m2, hm2, hxv, hrest⟩ := hrest.inv
  have hm3 := hrest.nil_inv
  subst hm3
  subst hm2
  exact ⟨sv, xv, hsv, hxv, Array.ext' (by rw [Array.toList_map]; exact hm1)⟩
 have tys : ∀ {t u : TypeId}, c.argTypes.toList = [t, u] -> c.argTypes = #[t, u] := fun {t u} q => by
  have : c.argTypes.toList.toArray = #[t, u] := by rw [q]
  simpa using this
 unfold efAppS at h
 split at h
 . rename_i base sl sc b t u hevs htys
   obtain ⟨sv, xv, hsv, hxv, hargs⟩ := two hevs
   have hxv := hxv.eq_of_flat rfl
   subst hxv
   obtain ⟨hst, h⟩ := bif_eff h
   obtain ⟨e, s, hu, hs, h⟩ := sliceTK_eff h
   obtain ⟨hsm, h⟩ := bif_eff h
   simp only [Bool.and_eq_true] at hsm
   have hs1 := beq_eq hsm.2
   subst hs1
   have hud : ∃ d, P.underlying u = some d /\ ∀ k, d ≠ .int k := by
    unfold isStrT at hst
    split at hst
    . rename_i q; exact ⟨_, q, fun k => by simp⟩
    . cases hst
   have hfc : ∀ w', (Builtin.firstCells 1 b.size (.string b)).run P w' = .ok (b.data.toList.map fun x => Value.int .u8 (.ofNat x.toNat)).toArray w' := fun w' => by
    simp [Builtin.firstCells]
    exact Array.ext' (by simp)
   refine ap_go hH hnx hc ho (xv := .string b) (xs := b.data.toList.map fun x => .int .u8 (.ofNat x.toNat)) (tys htys) hargs hsv hu hud hs hsm.1 (LR.of_flat (fun x hx => ?_)) ?_ (fun w' => rfl) (hfc w) (hfc w.drew) h
   . obtain ⟨y, _, rfl⟩ := List.mem_map.1 hx
     rfl
   . simp
 . unfold efAppend at h
   split at h
   case h_2 => cases h
   rename_i base sl sc xv0 t u hevs htys
   obtain ⟨sv, xv, hsv, hxv, hargs⟩ := two hevs
   cases htu : Nat.beq t u with
   | false => rw [htu] at h; cases h
   | true =>
     rw [htu] at h
     have htu := beq_eq htu
     subst htu
     have h : sliceTK P t (fun e s => optK (xsOf H s xv0) (fun p => bif apSmall P e s (sl + p.1) then apGo P H nx e s base sl sc p.1 p.2 else .bad) .bad) .bad = .val v H' nx' := h
     obtain ⟨e, s, hu, hs, h⟩ := sliceTK_eff h
     obtain ⟨⟨xl, xs⟩, hxs, h⟩ := optK_eff h
     obtain ⟨hsm, h⟩ := bif_eff h
     obtain ⟨xs', hx1, hx2, hx3⟩ := xsOf_sound hH hxv hxs
     obtain ⟨hfx, hlx⟩ := firstCells_of (P := P) hx2 hx3
     have hx3' : (xl = 0 /\ ∃ c, xv = .slice none xl c) \/ ∃ a c', xv = .slice (some a) xl c' /\ ∀ j v, xs'[j]? = some v -> w.drew.cell? (a.add j) = some v := hx3
     obtain ⟨hfxd, _⟩ := firstCells_of (P := P) (w := w.drew) hx2 hx3'
     have hl : ∀ w', (Builtin.lenOf xv).run P w' = .ok xl w' := fun w' => by
      rcases hx3 with ⟨_, c, rfl⟩ | ⟨a, c', rfl, _⟩ <;> rfl
     exact ap_go hH hnx hc ho (tys htys) hargs hsv hu ⟨_, hu, fun k => by simp⟩ hs hsm hx1 hx2 hl hfx hfxd h
end ops
end
end Go.Ev
/- All of the evaluator's operations that are no readers: what they come to, in the model. -/
namespace Go.Ev
noncomputable section
open Go.RowKit (Below)
variable {P : Program} {W w : World} {φ : Phi} {H : T OB} {tm : T Value} {ρ : Operand -> Value} {g : Nat -> Option OB}
section ops
variable {o : Oper} {v : Value} {H' : T OB} {nx nx' : Nat}
theorem ef_makeMap (hH : HR P W φ (hp H) w) (hnx : φ.length = nx) {t : TypeId} (ho : o.op = .makeMap t none)
 (h : (setK (bits nx) H (some (.map [] 0)) fun H => natF (Nat.succ nx) fun n => Eff.val (.map (some nx)) H n) = .val v H' nx') : EfOk P W φ H w ((execOp ρ o).run P w) v H' nx' := by
 rw [setK_set, natF_eq] at h
 cases h
 subst hnx
 refine ⟨fresh φ w.heap.size 0 0, .map (some w.heap.size), w.alloc (.map #[] 0), .value (.map (some w.heap.size)), ?_, .inl rfl, .map (fresh_get φ _ _ _), fresh_le _ _ _ _, ?_, fresh_len _ _ _ _, ?_⟩
 . simp [execOp, ho, Instr.makeMap]
 . rw [hp_set]; exact hH.fresh _ ⟨hH.below.size, #[], Go.heap_alloc_new w _, .nil⟩
 . rw [hp_set]; exact fresh_keep _ _ _ _ _ _
theorem newIter_sound (hH : HR P W φ (hp H) w) (hnx : φ.length = nx) {m m' : Option Nat} {c : Nat} (hm : MapN φ m m') {r : Result Next}
 (hr : r = .ok (.value (.pointer (some ⟨w.heap.size, 0, none⟩))) (w.alloc (.mapIter m' c #[] c))) (h : newIter H nx m c = .val v H' nx') : EfOk P W φ H w r v H' nx' := by
 unfold newIter at h
 rw [setK_set, natF_eq] at h
 cases h
 subst hnx
 refine ⟨fresh φ w.heap.size 0 0, _, _, _, hr, .inl rfl, .ptr (fresh_get φ _ _ _), fresh_le _ _ _ _, ?_, fresh_len _ _ _ _, ?_⟩
 . rw [hp_set]; exact hH.fresh _ ⟨hH.below.size, m', #[], Go.heap_alloc_new w _, rfl, hm⟩
 . rw [hp_set]; exact fresh_keep _ _ _ _ _ _
theorem mapK_eff {x : Option OB} {k : List MapEntry -> Nat -> Eff} {v : Value} {H' : T OB} {nx' : Nat} (h : mapK x k .bad = .val v H' nx') : ∃ es c, x = some (.map es c) /\ k es c = .val v H' nx' := by
 unfold mapK at h
 split at h
 . exact ⟨_, _, rfl, h⟩
 . cases h
theorem iterK_eff {x : Option OB} {k : Option Nat -> Nat -> List Nat -> Nat -> Eff} {v : Value} {H' : T OB} {nx' : Nat} (h : iterK x k .bad = .val v H' nx') :
 ∃ m s l c, x = some (.iter m s l c) /\ k m s l c = .val v H' nx' := by
 unfold iterK at h
 split at h
 . exact ⟨_, _, _, _, rfl, h⟩
 . cases h
theorem mapTK_eff {t : TypeId} {k : TypeDesc -> TypeId -> Eff} {v : Value} {H' : T OB} {nx' : Nat} (h : mapTK P t k .bad = .val v H' nx') :
 ∃ kt et d, P.underlying t = some (.map kt et) /\ P.underlying kt = some d /\ keyKind d = true /\ k d et = .val v H' nx' := by
 unfold mapTK at h
 split at h
 . rename_i kt et hu
   obtain ⟨d, h1, h2⟩ := optK_eff h
   obtain ⟨h3, h4⟩ := bif_eff h2
   exact ⟨kt, et, d, hu, h1, h3, h4⟩
 . cases h
theorem ef_range (hH : HR P W φ (hp H) w) (hnx : φ.length = nx) {t : TypeId} {x : Operand} (ho : o.op = .range t x) (hE : ∀ v, eva P tm x = some v -> VR φ v (ρ x))
 (h : efRange P H nx t (eva P tm x) = .val v H' nx') : EfOk P W φ H w ((execOp ρ o).run P w) v H' nx' := by
 unfold efRange at h
 obtain ⟨ht, h⟩ := bif_eff h
 unfold isMapT at ht
 split at ht
 . rename_i kt et hu
   split at h
   . rename_i hx
     have hx' := (hE _ hx).eq_of_flat rfl
     refine newIter_sound (m' := none) hH hnx (show MapN φ none none from trivial) ?_ h
     simp [execOp, ho, hx', Instr.range, run_und hu]
   . rename_i b hx
     obtain ⟨e, hb, hx'⟩ := (hE _ hx).map_inv
     obtain ⟨es, c, hg, h⟩ := mapK_eff h
     obtain ⟨_, es', hr, hml⟩ := hH.obj b _ e (show hp H b = some (.map es c) from hg) hb
     refine newIter_sound (m' := some e.r) hH hnx (show MapN φ (some b) (some e.r) from ⟨e, hb, rfl⟩) ?_ h
     simp [execOp, ho, hx', Instr.range, run_und hu, MapKept.run_getObj_map hr]
   . cases h
 . cases ht
theorem run_setObj {w : World} {r : Nat} {o o' : Obj} (hr : w.heap[r]? = some o) (hn : ∀ c e f, o ≠ .cells c e f) : (setObj r o').run P w = .ok () { w with heap := w.heap.setIfInBounds r o' } := by
 unfold Go.setObj
 cases o with
 | cells c e f => exact absurd rfl (hn _ _ _)
 | _ => simp only [Sem.run, hr]
theorem run_getObj {w : World} {r : Nat} {o : Obj} (hr : w.heap[r]? = some o) (hn : ∀ c e f, o ≠ .cells c e f) : (getObj r).run P w = .ok o w := by
 unfold getObj
 cases o with
 | cells c e f => exact absurd rfl (hn _ _ _)
 | _ => simp only [Sem.run, hr]
theorem HR.setObj (hH : HR P W φ g w) {b : Nat} {ob0 ob' : OB} {e : Ent} (hg : g b = some ob0) (hl : live ob0 = true) (hb : φ[b]? = some (some e)) (o' : Obj)
 (hob : OBR P W φ ob' e { w with heap := w.heap.setIfInBounds e.r o' }) : HR P W φ (upd g b (some ob')) { w with heap := w.heap.setIfInBounds e.r o' } := by
 have hab := OBR.above hl (hH.obj b ob0 e hg hb)
 refine hH.put hg hl hb ?_ (by simp) (fun r hr => Array.getElem?_setIfInBounds_ne (fun q => hr q.symm)) hob
 exact hH.below.trans ⟨rfl, rfl, rfl, by simp, fun k hk => Array.getElem?_setIfInBounds_ne (by omega)⟩
theorem heap_set {w : World} {r : Nat} {o o' : Obj} (hr : w.heap[r]? = some o) : ({ w with heap := w.heap.setIfInBounds r o' } : World).heap[r]? = some o' :=
 Array.getElem?_setIfInBounds_self_of_lt (Array.getElem?_eq_some_iff.1 hr).1
theorem keep_upd {b : Nat} {e : Ent} (hb : φ[b]? = some (some e)) (x : Option OB) : Keep φ φ g (upd g b x) := fun k hk => ⟨hk, upd_other g (fun q => by subst q; rw [hb] at hk; cases hk) x⟩
theorem MLR.length {l l' : List MapEntry} (h : MLR φ l l') : l'.length = l.length := by
 induction h with
 | nil => rfl
 | cons _ _ ih => simp [ih]
theorem MLR.append {a a' b b' : List MapEntry} (h : MLR φ a a') (h' : MLR φ b b') : MLR φ (a ++ b) (a' ++ b') := by
 induction h with
 | nil => exact h'
 | cons h _ ih => exact .cons h ih
theorem MLR.modify {k k' v v' : Value} (hk : VR φ k k') (hv : VR φ v v') {l l' : List MapEntry} (h : MLR φ l l') : ∀ i, MLR φ (l.modify i fun e => { e with key := k, val := v }) (l'.modify i fun e => { e with key := k', val := v' }) := by
 induction h with
 | nil => intro i; cases i <;> exact .nil
 | @cons e e' l l' he hl ih =>
   intro i
   cases i with
   | zero => exact .cons ⟨hk, hv, he.born⟩ hl
   | succ i => exact .cons he (ih i)
theorem findNow_key {d : TypeDesc} {k : Value} : ∀ (l : List MapEntry) (i j : Nat) (v : Value), Instr.findNow d k l i = some (some (j, v)) -> ∃ n e, j = i + n /\ l[n]? = some e /\ Instr.sameNow d k e.key = some true
 | [], i, j, v, h => by cases h
 | e :: l, i, j, v, h => by
   unfold Instr.findNow at h
   cases hs : Instr.sameNow d k e.key with
   | none => rw [hs] at h; cases h
   | some b =>
     rw [hs] at h
     cases b with
     | true => cases h; exact ⟨0, e, rfl, rfl, hs⟩
     | false =>
       obtain ⟨n, e', h1, h2, h3⟩ := findNow_key l (i + 1) j v h
       exact ⟨n + 1, e', by omega, by simpa using h2, h3⟩
theorem bytes_beq {a b : ByteArray} (h : (a == b) = true) : (b == a) = true := by
 have : a = b := by
  cases a; cases b
  exact congrArg _ (eq_of_beq h)
 subst this
 exact h
theorem sameBits_of {d : TypeDesc} {k a : Value} (h : Instr.sameNow d k a = some true) (n : Nat) : Instr.sameBits (n + 1) a k = true := by
 unfold Instr.sameNow at h
 split at h
 . split at h
   . rename_i hk
     subst hk
     injection h with h
     have := beq_iff_eq.1 h
     subst this
     simp [Instr.sameBits]
   . cases h
 . injection h with h
   simp only [Instr.sameBits]
   exact bytes_beq h
 . injection h with h
   have := beq_iff_eq.1 h
   subst this
   simp [Instr.sameBits]
 . cases h
theorem ef_mapUpdate (hH : HR P W φ (hp H) w) (hnx : φ.length = nx) {t : TypeId} {m k x : Operand} (ho : o.op = .mapUpdate t m k x) (hE : EvR P φ tm ρ [m, k, x])
 (h : efMapUpdate P H nx t (eva P tm m) (eva P tm k) (eva P tm x) = .val v H' nx') : EfOk P W φ H w ((execOp ρ o).run P w) v H' nx' := by
 unfold efMapUpdate at h
 obtain ⟨kt, et, d, hu, hd, hkk, h⟩ := mapTK_eff h
 obtain ⟨b, hm, h⟩ := optK_eff h
 obtain ⟨kv, hk, h⟩ := optK_eff h
 obtain ⟨xv, hx, h⟩ := optK_eff h
 obtain ⟨es, c, hg, h⟩ := mapK_eff h
 have hm' : eva P tm m = some (.map (some b)) := by
  unfold mapAt at hm
  split at hm
  . rename_i q; cases hm; exact q
  . cases hm
 obtain ⟨e, hb, hmr⟩ := (hE m (by simp) _ hm').map_inv
 have hkv := hE k (by simp) kv hk
 have hxv := hE x (by simp) xv hx
 have hgb : hp H b = some (.map es c) := hg
 obtain ⟨hab, es', hr, hml⟩ := hH.obj b _ e hgb hb
 have hnc : ∀ c' e' f, Obj.map es' c ≠ .cells c' e' f := fun _ _ _ => by simp
 cases hf : Instr.findNow d kv es 0 with
 | none => rw [hf] at h; cases h
 | some r =>
   rw [hf] at h
   obtain ⟨r', hf', hfr⟩ := findNow_VR hkv hml 0 r hf
   have hfk := run_findKey hd hf' w
   have fin : ∀ (nes : List MapEntry) (nes' : Array MapEntry) (nc : Nat), MLR φ nes nes'.toList -> (execOp ρ o).run P w = .ok .skip { w with heap := w.heap.setIfInBounds e.r (.map nes' nc) } ->
    EfOk P W φ H w ((execOp ρ o).run P w) undef (set H (bits b) (some (.map nes nc))) nx := fun nes nes' nc hn hrun =>
    ⟨φ, undef, _, .skip, hrun, .inr ⟨rfl, rfl⟩, .flat _ rfl, φ.le_refl, by rw [hp_set]; exact hH.setObj hgb rfl hb _ ⟨hab, nes', heap_set hr, hn⟩, hnx, by rw [hp_set]; exact keep_upd hb _⟩
   cases hfr with
   | @some i u u' hu' =>
     have h : (setK (bits b) H (some (.map (es.modify i fun e => { e with key := kv, val := xv }) c)) fun H => Eff.val undef H nx) = .val v H' nx' := h
     rw [setK_set] at h
     cases h
     refine fin _ (es'.modify i fun e => { e with key := ρ k, val := ρ x }) c (by rw [Array.toList_modify]; exact hml.modify hkv hxv i) ?_
     obtain ⟨n, en, hn1, hn2, hn3⟩ := findNow_key _ _ _ _ hf'
     rw [Nat.zero_add] at hn1
     subst hn1
     have hkey : (Instr.keyThatStays (((es'[i]?).map (·.key)).getD (ρ k)) (ρ k)).run P w = .ok (ρ k) w := by
      have h1 : es'[i]? = some en := by simpa using hn2
      rw [h1]
      simp only [Option.map_some, Option.getD_some, Instr.keyThatStays, sameBits_of hn3 9999, if_true]
      rfl
     simp only [execOp, ho, hmr, Instr.mapUpdate, Sem.run_bind, run_und hu, Result.andThen_ok, run_getObj hr hnc, run_checkKey hd hkk, hfk, hkey, run_setObj hr hnc]
     rfl
   | none =>
     have h : (natF (Nat.succ c) fun c' => setK (bits b) H (some (.map (es ++ [⟨kv, xv, c⟩]) c')) fun H => Eff.val undef H nx) = .val v H' nx' := h
     rw [natF_eq, setK_set] at h
     cases h
     refine fin _ (es'.push { key := ρ k, val := ρ x, born := c }) (c + 1) (by rw [Array.toList_push]; exact hml.append (.cons ⟨hkv, hxv, rfl⟩ .nil)) ?_
     simp only [execOp, ho, hmr, Instr.mapUpdate, Sem.run_bind, run_und hu, Result.andThen_ok, run_getObj hr hnc, run_checkKey hd hkk, hfk, run_setObj hr hnc]
     rfl
theorem MLR.filter {l l' : List MapEntry} (h : MLR φ l l') (p : Nat -> Bool) : MLR φ (l.filter fun e => p e.born) (l'.filter fun e => p e.born) := by
 induction h with
 | nil => exact .nil
 | @cons e e' l l' he hl ih =>
   simp only [List.filter_cons, he.born]
   split
   . exact .cons he ih
   . exact ih
theorem MLR.all {l l' : List MapEntry} (h : MLR φ l l') (p : Nat -> Bool) : (l'.all fun e => p e.born) = (l.all fun e => p e.born) := by
 induction h with
 | nil => rfl
 | cons he _ ih => simp only [List.all_cons, he.born, ih]
theorem ef_next (hH : HR P W φ (hp H) w) (hnx : φ.length = nx) {x : Operand} {isS : Bool} (ho : o.op = .next x isS) (hE : ∀ v, eva P tm x = some v -> VR φ v (ρ x))
 (h : efNext H nx (eva P tm x) isS = .val v H' nx') : EfOk P W φ H w ((execOp ρ o).run P w) v H' nx' := by
 unfold efNext at h
 cases isS with
 | true => cases h
 | false =>
   have h : ptrK (eva P tm x) (fun r off => bif Nat.beq off 0 then iterK (H.get (bits r)) (fun m since seen last => match m with
    | none => Eff.val (.tuple #[.bool false]) H nx
    | some m => nextM H nx r m since last seen) .bad else .bad) .bad = .val v H' nx' := h
   obtain ⟨r, off, hx, h⟩ := ptrK_eff h
   obtain ⟨h0, h⟩ := bif_eff h
   have h0 := beq_eq h0
   subst h0
   obtain ⟨m, since, seen, last, hg, h⟩ := iterK_eff h
   obtain ⟨e, hb, _, hxr⟩ := (hE _ hx).ptr_inv
   have hgb : hp H r = some (.iter m since seen last) := hg
   obtain ⟨hab, m', seen', hr, hseen, hmn⟩ := hH.obj r _ e hgb hb
   have hnc : ∀ c' e' f, Obj.mapIter m' since seen' last ≠ .cells c' e' f := fun _ _ _ => by simp
   have over : (execOp ρ o).run P w = .ok (.value (.tuple #[.bool false])) w -> EfOk P W φ H w ((execOp ρ o).run P w) (.tuple #[.bool false]) H nx := fun hrun =>
    ⟨φ, _, w, _, hrun, .inl rfl, .flat _ rfl, φ.le_refl, hH, hnx, Keep.refl _ _⟩
   cases m with
   | none =>
     cases m' with
     | some _ => exact hmn.elim
     | none =>
       have h : Eff.val (.tuple #[.bool false]) H nx = .val v H' nx' := h
       cases h
       refine over ?_
       simp only [execOp, ho, hxr, Instr.next, Sem.run_bind, run_getObj hr hnc, Result.andThen_ok]
       rfl
   | some m =>
     cases m' with
     | none => exact hmn.elim
     | some m' =>
       obtain ⟨em, hbm, rfl⟩ := hmn
       have h : nextM H nx r m since last seen = .val v H' nx' := h
       unfold nextM at h
       obtain ⟨es, c, hgm, h⟩ := mapK_eff h
       obtain ⟨_, es', hrm, hml⟩ := hH.obj m _ em (show hp H m = some (.map es c) from hgm) hbm
       have hncm : ∀ c' e' f, Obj.map es' c ≠ .cells c' e' f := fun _ _ _ => by simp
       cases hbad : !seen.isEmpty && !es.isEmpty && es.all (fun e => Nat.ble last e.born) with
       | true => rw [hbad] at h; cases h
       | false =>
         rw [hbad] at h
         have h : nextV1 H nx r m since c seen (es.filter fun e => !seen.contains e.born) = .val v H' nx' := h
         have hsn : ∀ b, seen'.contains b = seen.contains b := fun b => by rw [<- hseen]; simp
         have h1 : seen'.isEmpty = seen.isEmpty := by rw [<- hseen]; simp
         have h2 : es'.isEmpty = es.isEmpty := by
          have hl := hml.length
          have : es'.toList.isEmpty = es.isEmpty := by
           cases es with
           | nil => cases hq : es'.toList with
             | nil => rfl
             | cons a l => rw [hq] at hl; simp at hl
           | cons a l => cases hq : es'.toList with
             | nil => rw [hq] at hl; simp at hl
             | cons b m => rfl
          rw [<- this]; simp
         have h3 : (es'.all fun e => decide (e.born ≥ last)) = es.all (fun e => Nat.ble last e.born) := by
          have := hml.all (fun b => decide (b ≥ last))
          rw [<- Array.all_toList, this]
          congr 1
          funext e
          rw [Bool.eq_iff_iff]
          simp only [decide_eq_true_eq]
          exact ⟨fun q => Nat.ble_eq_true_of_le q, fun q => ble_le q⟩
         have hcond : (!seen'.isEmpty && !es'.isEmpty && es'.all (fun e => decide (e.born ≥ last))) = false := by rw [h1, h2, h3]; exact hbad
         have hcond' : ¬ ((!seen'.isEmpty && !es'.isEmpty && es'.all (fun e => decide (e.born ≥ last))) = true) := by rw [hcond]; decide
         have hleft := hml.filter (fun b => !seen.contains b)
         have hle : es'.filter (fun e => !seen'.contains e.born) = (es'.toList.filter fun e => !seen.contains e.born).toArray := by
          apply Array.ext'
          simp only [Array.toList_filter, hsn]
         generalize hL : (es'.toList.filter fun e => !seen.contains e.born) = L' at hleft hle
         generalize hLo : (es.filter fun e => !seen.contains e.born) = L at hleft h
         cases hleft with
         | nil =>
           have h : Eff.val (.tuple #[.bool false]) H nx = .val v H' nx' := h
           cases h
           refine over ?_
           simp only [execOp, ho, hxr, Instr.next, Sem.run_bind, run_getObj hr hnc, run_getObj hrm hncm, Result.andThen_ok]
           rw [if_neg hcond', hle]
           simp [Question.forced]
         | @cons e1 e1' l l' he1 hl =>
           cases l with
           | cons _ _ => cases h
           | nil =>
             cases hl
             obtain ⟨hlt, h⟩ := bif_eff (show (bif Nat.blt e1.born since then setK (bits r) H (some (.iter (some m) since (seen ++ [e1.born]) c)) (fun H => Eff.val (.tuple #[.bool true, e1.key, e1.val]) H nx) else .bad) = .val v H' nx' from h)
             rw [setK_set] at h
             cases h
             have hlt := blt_lt hlt
             have hb1 := he1.born
             have hrun : (execOp ρ o).run P w = .ok (.value (.tuple #[.bool true, e1'.key, e1'.val])) { w with heap := w.heap.setIfInBounds e.r (.mapIter (some em.r) since (seen'.push e1'.born) c) } := by
              have c1 : ¬ (since <= e1'.born) := by omega
              have c2 : e1'.born < since := by omega
              simp only [execOp, ho, hxr, Instr.next, Sem.run_bind, run_getObj hr hnc, run_getObj hrm hncm, Result.andThen_ok]
              rw [if_neg hcond', hle]
              simp [Question.forced, c1, c2, run_setObj hr hnc]
             refine ⟨φ, _, _, _, hrun, .inl rfl, (LR.cons (.flat (.bool true) rfl) (LR.cons he1.key (LR.cons he1.val LR.nil))).tuple, φ.le_refl, ?_, hnx, by rw [hp_set]; exact keep_upd hb _⟩
             rw [hp_set]
             exact hH.setObj hgb rfl hb _ ⟨hab, some em.r, seen'.push e1'.born, heap_set hr, by rw [Array.toList_push, hseen, hb1], em, hbm, rfl⟩
theorem MLR.find {l l' : List MapEntry} (h : MLR φ l l') (st : Nat) {e : MapEntry} (hf : l.find? (fun e => e.born == st) = some e) : ∃ e', l'.find? (fun e => e.born == st) = some e' /\ MER φ e e' := by
 induction h with
 | nil => cases hf
 | @cons a a' l l' ha _ ih =>
   simp only [List.find?_cons, ha.born] at hf ⊢
   cases hb : a.born == st with
   | true => rw [hb] at hf; cases hf; exact ⟨a', rfl, ha⟩
   | false => rw [hb] at hf; exact ih hf
theorem ef_entry (hH : HR P W φ (hp H) w) (hnx : φ.length = nx) {x : Operand} (ho : o.op = .entry x) (hE : ∀ v, eva P tm x = some v -> VR φ v (ρ x))
 (h : efEntry H nx (eva P tm x) = .val v H' nx') : EfOk P W φ H w ((execOp ρ o).run P w) v H' nx' := by
 unfold efEntry at h
 obtain ⟨r, off, hx, h⟩ := ptrK_eff h
 obtain ⟨h0, h⟩ := bif_eff h
 have h0 := beq_eq h0
 subst h0
 obtain ⟨m, since, seen, last, hg, h⟩ := iterK_eff h
 cases m with
 | none => cases h
 | some m =>
 rw [optK_some] at h
 obtain ⟨st, hst, h⟩ := optK_eff h
 obtain ⟨es, c, hgm, h⟩ := mapK_eff h
 obtain ⟨hc, h9⟩ := bif_eff h
 have hc := beq_eq hc
 subst hc
 obtain ⟨e, hb, _, hxr⟩ := (hE _ hx).ptr_inv
 obtain ⟨hab, m', seen', hr, hseen, hmn⟩ := hH.obj r _ e (show hp H r = some (.iter (some m) since seen c) from hg) hb
 cases m' with
 | none => exact hmn.elim
 | some m' =>
   obtain ⟨em, hbm, rfl⟩ := hmn
   obtain ⟨_, es', hrm, hml⟩ := hH.obj m _ em (show hp H m = some (.map es c) from hgm) hbm
   have hnc : ∀ c' e' f, Obj.mapIter (some em.r) since seen' c ≠ .cells c' e' f := fun _ _ _ => by simp
   have hncm : ∀ c' e' f, Obj.map es' c ≠ .cells c' e' f := fun _ _ _ => by simp
   have hback : seen'.back? = some st := by rw [<- hst, <- hseen]; simp
   unfold entryV at h9
   cases hf : es.find? (fun e => e.born == st) with
   | none => simp only [hf] at h9; cases h9
   | some e1 =>
     simp only [hf] at h9
     cases h9
     obtain ⟨e1', hf', he1⟩ := hml.find st hf
     have hf2 : es'.find? (fun e => e.born == st) = some e1' := by simpa using hf'
     refine ⟨φ, _, w, _, ?_, .inl rfl, (LR.cons he1.key (LR.cons he1.val LR.nil)).tuple, φ.le_refl, hH, hnx, Keep.refl _ _⟩
     simp [execOp, ho, hxr, Instr.entry, run_getObj hr hnc, run_getObj hrm hncm, hback, hf2]
theorem ef_sound (hH : HR P W φ (hp H) w) (hnx : φ.length = nx) (hE : EvR P φ tm ρ o.op.operands.toList) (h : ef P H nx tm o = .val v H' nx') :
 EfOk P W φ H w ((execOp ρ o).run P w) v H' nx' := by
 unfold ef at h
 cases ho : o.op with
 | alloc e => simp only [ho] at h; exact ef_alloc hH hnx ho h
 | box e x => simp only [ho] at h; exact ef_box hH hnx ho (fun v hv => hE x (by rw [ho]; simp [Op.operands]) v hv) h
 | store t a x => simp only [ho] at h; exact ef_store hH hnx ho (by rw [ho] at hE; exact hE) h
 | buildSlice t len ps => simp only [ho] at h; exact ef_buildSlice hH hnx ho hE h
 | makeSlice t l c => simp only [ho] at h; exact ef_makeSlice hH hnx ho (by rw [ho] at hE; exact hE) h
 | makeMap t r =>
   simp only [ho] at h
   cases r with
   | none => exact ef_makeMap hH hnx ho h
   | some x => cases h
 | mapUpdate t m k x => simp only [ho] at h; exact ef_mapUpdate hH hnx ho (by rw [ho] at hE; exact hE) h
 | insert t m k x =>
   simp only [ho] at h
   have h2 := ef_mapUpdate (o := { o with op := .mapUpdate t m k x }) hH hnx rfl (by rw [ho] at hE; exact hE) h
   have e : execOp ρ o = execOp ρ { o with op := .mapUpdate t m k x } := by simp only [execOp, ho]
   rw [e]; exact h2
 | range t x => simp only [ho] at h; exact ef_range hH hnx ho (fun v hv => hE x (by rw [ho]; simp [Op.operands]) v hv) h
 | next x b => simp only [ho] at h; exact ef_next hH hnx ho (fun v hv => hE x (by rw [ho]; simp [Op.operands]) v hv) h
 | entry x => simp only [ho] at h; exact ef_entry hH hnx ho (fun v hv => hE x (by rw [ho]; simp [Op.operands]) v hv) h
 | defer c =>
   simp only [ho] at h
   unfold efDefer at h
   split at h <;> cases h
 | panic x =>
   simp only [ho] at h
   unfold panV at h
   split at h <;> cases h
 | call c =>
   simp only [ho] at h
   unfold efCall at h
   split at h
   . unfold efGo at h
     split at h
     . obtain ⟨l, _, h⟩ := optK_eff h
       obtain ⟨_, h⟩ := bif_eff h
       cases h
     . cases h
   . rename_i hc
     exact ef_append hH hnx hc ho (fun x hx v hv => hE x (by rw [ho]; simp [Op.operands, Call.operands, hc]; simpa using hx) v hv) h
   . cases h
   . cases h
   . cases h
 | _ => simp only [ho] at h; cases h
theorem optK_call {α : Type} {x : Option α} {k : α -> Eff} {f : FuncId} {l : List Value} (h : optK x k .bad = .call f l) : ∃ a, x = some a /\ k a = .call f l := by
 cases x with
 | none => cases h
 | some a => exact ⟨a, rfl, h⟩
theorem bif_call {b : Bool} {x : Eff} {f : FuncId} {l : List Value} (h : (bif b then x else .bad) = .call f l) : b = true /\ x = .call f l := by
 cases b
 . cases h
 . exact ⟨rfl, h⟩
theorem callOk_inv {f : FuncId} (h : callOk P f = true) : ∃ fn, P.funcs[f]? = some fn /\ fn.body.isSome = true /\ (fn.name == "runtime.NumGoroutine") = false := by
 unfold callOk at h
 split at h
 . rename_i fn hfn
   simp only [Bool.and_eq_true, Bool.not_eq_true'] at h
   exact ⟨fn, hfn, h.1, h.2⟩
 . cases h
theorem run_callFunc {f : FuncId} (h : callOk P f = true) (args : Array Value) (w : World) : (callFunc f args).run P w = .ok (.enter f args) w := by
 obtain ⟨fn, h1, h2, h3⟩ := callOk_inv h
 have h2' : fn.body.isNone = false := by cases hb : fn.body <;> simp_all
 simp only [callFunc, Sem.run_bind, run_program, Result.andThen_ok, h1]
 simp [h3, h2']
theorem efGo_inv {c : Call} {fv : Operand} (hE : EvR P φ tm ρ (fv :: c.args.toList)) {f : FuncId} {l : List Value} (h : efGo P (eva P tm fv) (evs P tm c.args.toList) = .call f l) :
 ∃ a' cap', ρ fv = .func (.func f) #[] ⟨cap'⟩ /\ a' = c.args.toList.map ρ /\ LR φ l (a' ++ cap') /\ callOk P f = true := by
 unfold efGo at h
 split at h
 . rename_i g cap hf
   obtain ⟨vs, hvs, h⟩ := optK_call h
   obtain ⟨hok, h⟩ := bif_call h
   cases h
   obtain ⟨cap', hv', hcap⟩ := (hE fv (by simp) _ hf).func_inv
   have hargs := evs_LR _ _ (fun x hx => hE x (by simp [hx])) hvs
   exact ⟨_, cap', hv', rfl, hargs.append hcap, hok⟩
 . cases h
def PL (e : Eff) : Prop := match e with
 | .val _ _ _ => True
 | .bad => True
 | _ => False
theorem PL_optK {α : Type} {x : Option α} {k : α -> Eff} (h : ∀ a, PL (k a)) : PL (optK x k .bad) := by
 cases x with
 | none => trivial
 | some a => exact h a
theorem PL_bif {b : Bool} {x y : Eff} (h : PL x) (h' : PL y) : PL (bif b then x else y) := by
 cases b
 . exact h'
 . exact h
theorem PL_apNew {H : T OB} {nx : Nat} {e : TypeId} {m : Nat} {l : List Value} : PL (apNew H nx e m l) := by rw [newK_mk]; trivial
theorem PL_sliceTK {t : TypeId} {k : TypeId -> Nat -> Eff} (h : ∀ e s, PL (k e s)) : PL (sliceTK P t k .bad) := by
 unfold sliceTK
 split
 . exact PL_optK fun s => h _ s
 . trivial
theorem PL_cellsK {x : Option OB} {k : Nat -> T Value -> TypeId -> Eff} (h : ∀ n t e, PL (k n t e)) : PL (cellsK x k .bad) := by
 unfold cellsK
 split
 . exact h _ _ _
 . trivial
theorem PL_ptrK {x : Option Value} {k : Nat -> Nat -> Eff} (h : ∀ a b, PL (k a b)) : PL (ptrK x k .bad) := by
 unfold ptrK
 split
 . exact h _ _
 . trivial
theorem PL_mapK {x : Option OB} {k : List MapEntry -> Nat -> Eff} (h : ∀ a b, PL (k a b)) : PL (mapK x k .bad) := by
 unfold mapK
 split
 . exact h _ _
 . trivial
theorem PL_iterK {x : Option OB} {k : Option Nat -> Nat -> List Nat -> Nat -> Eff} (h : ∀ a b c d, PL (k a b c d)) : PL (iterK x k .bad) := by
 unfold iterK
 split
 . exact h _ _ _ _
 . trivial
theorem PL_mapTK {t : TypeId} {k : TypeDesc -> TypeId -> Eff} (h : ∀ a b, PL (k a b)) : PL (mapTK P t k .bad) := by
 unfold mapTK
 split
 . exact PL_optK fun d => PL_bif (h _ _) trivial
 . trivial
theorem PL_apGo {e : TypeId} {s sl sc xl : Nat} {base : Option Addr} {xs : List Value} : PL (apGo P H nx e s base sl sc xl xs) := by
 unfold apGo
 split
 . exact PL_bif (PL_bif trivial PL_apNew) trivial
 . unfold apAt
   refine PL_cellsK fun n tr el => PL_bif ?_ (PL_bif ?_ ?_)
   . unfold apU
     refine PL_bif (PL_optK fun old => ?_) trivial
     rw [setK_set]
     exact PL_apNew
   . unfold apIn
     refine PL_bif ?_ trivial
     rw [fromLK_fromL, setK_set, natF_eq]
     trivial
   . unfold apOut
     exact PL_bif (PL_optK fun old => PL_apNew) trivial
 . trivial
theorem PL_append {ts : List TypeId} {l : Option (List Value)} : PL (efAppS P H nx ts l) := by
 unfold efAppS
 split
 . exact PL_bif (PL_sliceTK fun e s => PL_bif PL_apGo trivial) trivial
 . unfold efAppend
   split
   . exact PL_bif trivial (PL_sliceTK fun e s => PL_optK fun p => PL_bif PL_apGo trivial)
   . trivial
theorem PL_updM {b : Nat} {es : List MapEntry} {c : Nat} {k v : Value} {r : Option (Option (Nat × Value))} : PL (updM H nx b es c k v r) := by
 unfold updM
 split
 . rw [setK_set]; trivial
 . rw [natF_eq, setK_set]; trivial
 . trivial
theorem PL_newIter {m : Option Nat} {c : Nat} : PL (newIter H nx m c) := by unfold newIter; rw [setK_set, natF_eq]; trivial
theorem PL_nextM {r m since last : Nat} {seen : List Nat} : PL (nextM H nx r m since last seen) := by
 unfold nextM
 refine PL_mapK fun es c => PL_bif trivial ?_
 unfold nextV1
 split
 . trivial
 . refine PL_bif ?_ trivial
   rw [setK_set]; trivial
 . trivial
theorem PL_entryV {es : List MapEntry} {st : Nat} : PL (entryV H nx es st) := by
 unfold entryV
 split <;> trivial
theorem efCall_inv {c : Call} {f : FuncId} {l : List Value} (h : efCall P H nx tm c = .call f l) : ∃ fv, c.callee = .value fv /\ efGo P (eva P tm fv) (evs P tm c.args.toList) = .call f l := by
 unfold efCall at h
 split at h
 . rename_i fv hc; exact ⟨fv, hc, h⟩
 . have := PL_append (P := P) (H := H) (nx := nx) (ts := c.argTypes.toList) (l := evs P tm c.args.toList)
   rw [h] at this
   exact this.elim
 . cases h
 . cases h
 . cases h
theorem ef_plain (h1 : ∀ c, o.op ≠ .call c) (h2 : ∀ c, o.op ≠ .defer c) (h3 : ∀ x, o.op ≠ .panic x) : PL (ef P H nx tm o) := by
 unfold ef
 cases ho : o.op with
 | call c => exact absurd ho (h1 c)
 | defer c => exact absurd ho (h2 c)
 | panic x => exact absurd ho (h3 x)
 | alloc e =>
   refine PL_optK fun l => ?_
   rw [newK_eq]; trivial
 | box e x =>
   refine PL_optK fun l => ?_
   rw [newK_eq]; trivial
 | store t a x =>
   refine PL_ptrK fun b off => PL_optK fun v => PL_cellsK fun n tr e => PL_optK fun s => PL_bif ?_ trivial
   rw [fromLK_fromL, setK_set]; trivial
 | buildSlice t len ps =>
   refine PL_optK fun vs => PL_sliceTK fun e s => PL_optK fun z => PL_bif (PL_optK fun cs => ?_) trivial
   rw [newK_eq, natF_eq]; trivial
 | makeSlice t a c =>
   show PL (efMakeSlice P H nx t (eva P tm a) (eva P tm c))
   unfold efMakeSlice
   split
   . rename_i i j e _ _ _
     cases i with
     | negSucc i => exact trivial
     | ofNat i =>
     cases j with
     | negSucc j =>
       show PL (intNK ((i : Nat) : Int) (fun l => intNK (Int.negSucc j) (fun c => mkSl P H nx e l c) .bad) .bad)
       rw [intNK_ofNat]
       exact trivial
     | ofNat j =>
     show PL (intNK ((i : Nat) : Int) (fun l => intNK ((j : Nat) : Int) (fun c => mkSl P H nx e l c) .bad) .bad)
     rw [intNK_ofNat, intNK_ofNat]
     unfold mkSl
     split
     . refine PL_bif ?_ trivial
       split
       . rw [setK_set, natF_eq]; trivial
       . refine PL_bif ?_ trivial
         rw [newK_eq]; trivial
     . trivial
   . trivial
 | makeMap t r =>
   cases r with
   | none =>
     show PL (setK (bits nx) H (some (.map [] 0)) fun H => natF (Nat.succ nx) fun n => Eff.val (.map (some nx)) H n)
     rw [setK_set, natF_eq]; trivial
   | some x => trivial
 | mapUpdate t m k x => exact PL_mapTK fun d et => PL_optK fun b => PL_optK fun k => PL_optK fun v => PL_mapK fun es c => PL_updM
 | insert t m k x => exact PL_mapTK fun d et => PL_optK fun b => PL_optK fun k => PL_optK fun v => PL_mapK fun es c => PL_updM
 | range t x =>
   refine PL_bif ?_ trivial
   split
   . exact PL_newIter
   . exact PL_mapK fun es c => PL_newIter
   . trivial
 | next x b =>
   refine PL_bif trivial (PL_ptrK fun r off => PL_bif (PL_iterK fun m s l c => ?_) trivial)
   cases m with
   | none => trivial
   | some m => exact PL_nextM
 | entry x => exact PL_ptrK fun r off => PL_bif (PL_iterK fun m s l c => PL_optK fun m => PL_optK fun st => PL_mapK fun es c => PL_bif PL_entryV trivial) trivial
 | _ => trivial
theorem ef_of {e : Eff} (h : ef P H nx tm o = e) (hp : ¬ PL e) : (∃ c, o.op = .call c /\ efCall P H nx tm c = e) \/ (∃ c, o.op = .defer c /\ efDefer (efCall P H nx tm c) = e) \/
 (∃ x, o.op = .panic x /\ panV (eva P tm x) = e) := by
 by_cases h1 : ∃ c, o.op = .call c
 . obtain ⟨c, hc⟩ := h1
   refine .inl ⟨c, hc, ?_⟩
   rw [<- h]; unfold ef; simp only [hc]
 . by_cases h2 : ∃ c, o.op = .defer c
   . obtain ⟨c, hc⟩ := h2
     refine .inr (.inl ⟨c, hc, ?_⟩)
     rw [<- h]; unfold ef; simp only [hc]
   . by_cases h3 : ∃ x, o.op = .panic x
     . obtain ⟨x, hx⟩ := h3
       refine .inr (.inr ⟨x, hx, ?_⟩)
       rw [<- h]; unfold ef; simp only [hx]
     . have := ef_plain (P := P) (H := H) (nx := nx) (tm := tm) (o := o) (fun c q => h1 ⟨c, q⟩) (fun c q => h2 ⟨c, q⟩) (fun c q => h3 ⟨c, q⟩)
       rw [h] at this
       exact absurd this hp
theorem efGo_call {f : Option Value} {l : Option (List Value)} : (∃ g a, efGo P f l = .call g a) \/ efGo P f l = .bad := by
 unfold efGo
 split
 . cases l with
   | none => exact .inr rfl
   | some l =>
     rw [optK_some]
     rename_i g cap
     cases callOk P g with
     | true => exact .inl ⟨_, _, rfl⟩
     | false => exact .inr rfl
 . exact .inr rfl
theorem efCall_not {c : Call} : (∀ f l, efCall P H nx tm c ≠ .dfr f l) /\ (∀ v, efCall P H nx tm c ≠ .pan v) /\ (efCall P H nx tm c = .rcv -> c.callee = .builtin .recover) := by
 unfold efCall
 split
 . rcases efGo_call (P := P) (f := eva P tm _) (l := evs P tm c.args.toList) with ⟨g, a, h⟩ | h
   . rw [h]; exact ⟨fun _ _ q => (nomatch q), fun _ q => (nomatch q), fun q => (nomatch q)⟩
   . rw [h]; exact ⟨fun _ _ q => (nomatch q), fun _ q => (nomatch q), fun q => (nomatch q)⟩
 . have := PL_append (P := P) (H := H) (nx := nx) (ts := c.argTypes.toList) (l := evs P tm c.args.toList)
   refine ⟨fun f l q => ?_, fun v q => ?_, fun q => ?_⟩ <;> (rw [q] at this; exact this.elim)
 . rename_i hc; exact ⟨fun _ _ q => (nomatch q), fun _ q => (nomatch q), fun _ => hc⟩
 . exact ⟨fun _ _ q => (nomatch q), fun _ q => (nomatch q), fun q => (nomatch q)⟩
 . exact ⟨fun _ _ q => (nomatch q), fun _ q => (nomatch q), fun q => (nomatch q)⟩
theorem ef_call {f : FuncId} {l : List Value} (hE : EvR P φ tm ρ o.op.operands.toList) (h : ef P H nx tm o = .call f l) :
 ∃ l', LR φ l l' /\ callOk P f = true /\ ∀ w, (execOp ρ o).run P w = .ok (.enter f l'.toArray) w := by
 obtain ⟨c, ho, h⟩ : ∃ c, o.op = .call c /\ efCall P H nx tm c = .call f l := by
  rcases ef_of h (fun q => q) with q | ⟨c, _, q⟩ | ⟨x, _, q⟩
  . exact q
  . unfold efDefer at q; split at q <;> cases q
  . unfold panV at q; split at q <;> cases q
 obtain ⟨fv, hc, h⟩ := efCall_inv h
 have hops : o.op.operands.toList = fv :: c.args.toList := by rw [ho]; simp [Op.operands, Call.operands, hc]
 rw [hops] at hE
 obtain ⟨a', cap', hv', rfl, hLR, hok⟩ := efGo_inv hE h
 refine ⟨_, hLR, hok, fun w => ?_⟩
 have e1 : (c.args.map ρ ++ ⟨cap'⟩ : Array Value) = (c.args.toList.map ρ ++ cap').toArray := Array.ext' (by simp)
 simp only [execOp, ho, resolve, hc, hv', Deferred.ofValue, Sem.run_bind, Sem.run_pure, Result.andThen_ok, invoke]
 simp [run_callFunc hok, e1]
def DfR (P : Program) (φ : Phi) (d : FuncId × List Value) (d' : Deferred) : Prop := ∃ a' cap', d' = { target := .fn (.func d.1) ⟨cap'⟩, args := a' } /\ LR φ d.2 (a'.toList ++ cap') /\ callOk P d.1 = true
theorem DfR.mono {φ' : Phi} (hle : φ.le φ') {d : FuncId × List Value} {d' : Deferred} (h : DfR P φ d d') : DfR P φ' d d' := by
 obtain ⟨a, b, c, d, e⟩ := h
 exact ⟨a, b, c, d.mono hle, e⟩
theorem ef_dfr {f : FuncId} {l : List Value} (hE : EvR P φ tm ρ o.op.operands.toList) (h : ef P H nx tm o = .dfr f l) : ∃ d', DfR P φ (f, l) d' /\ ∀ w, (execOp ρ o).run P w = .ok (.defer d') w := by
 rcases ef_of h (fun q => q) with ⟨c, _, q⟩ | ⟨c, ho, q⟩ | ⟨x, _, q⟩
 . exact absurd q (efCall_not.1 f l)
 . unfold efDefer at q
   split at q
   . rename_i g a hq
     cases q
     obtain ⟨fv, hc, hgo⟩ := efCall_inv hq
     have hops : o.op.operands.toList = fv :: c.args.toList := by rw [ho]; simp [Op.operands, Call.operands, hc]
     rw [hops] at hE
     obtain ⟨a', cap', hv', rfl, hLR, hok⟩ := efGo_inv hE hgo
     refine ⟨_, ⟨c.args.map ρ, cap', rfl, by simpa using hLR, hok⟩, fun w => ?_⟩
     simp [execOp, ho, resolve, hc, hv', Deferred.ofValue]
   . cases q
 . unfold panV at q; split at q <;> cases q
theorem ef_pan {v : Value} (hE : EvR P φ tm ρ o.op.operands.toList) (h : ef P H nx tm o = .pan v) : ∃ v', VR φ v v' /\ ∀ w, (execOp ρ o).run P w = .halt (.panic v') w := by
 rcases ef_of h (fun q => q) with ⟨c, _, q⟩ | ⟨c, _, q⟩ | ⟨x, ho, q⟩
 . exact absurd q (efCall_not.2.1 v)
 . unfold efDefer at q; split at q <;> cases q
 . unfold panV at q
   split at q
   . rename_i t u hx
     cases q
     obtain ⟨u', h1, h2⟩ := (hE x (by rw [ho]; simp [Op.operands]) _ hx).iface_inv
     exact ⟨_, .iface h2, fun w => by simp [execOp, ho, h1, Instr.panic]⟩
   . cases q
theorem ef_rcv (h : ef P H nx tm o = .rcv) (w : World) : (execOp ρ o).run P w = .ok .recover w := by
 rcases ef_of h (fun q => q) with ⟨c, ho, q⟩ | ⟨c, _, q⟩ | ⟨x, _, q⟩
 . have hc := efCall_not.2.2 q
   simp [execOp, ho, resolve, hc, invoke, builtin]
 . unfold efDefer at q; split at q <;> cases q
 . unfold panV at q; split at q <;> cases q
end ops
end
end Go.Ev
/- What a reader reads; orders of a region with a draw. -/
namespace Go.Ev
noncomputable section
variable {P : Program} {H H' : T OB} {tm tm' : T Value}
theorem parts_congr : ∀ (ps : List (Nat × Operand)), (∀ p ∈ ps, eva P tm' p.2 = eva P tm p.2) -> parts P tm' ps = parts P tm ps
 | [], _ => rfl
 | p :: ps, h => by simp only [parts, h p (by simp), parts_congr ps (fun q hq => h q (by simp [hq]))]
theorem evs_congr : ∀ (l : List Operand), (∀ x ∈ l, eva P tm' x = eva P tm x) -> evs P tm' l = evs P tm l
 | [], _ => rfl
 | x :: l, h => by simp only [evs, h x (by simp), evs_congr l (fun y hy => h y (by simp [hy]))]
theorem evaO_congr {x : Option Operand} (h : ∀ y ∈ x.toList, eva P tm' y = eva P tm y) : evaO P tm' x = evaO P tm x := by
 cases x with
 | none => rfl
 | some y => simp only [evaO, h y (by simp)]
theorem rd_congr {o : Oper} (h : ∀ x ∈ o.op.operands.toList, eva P tm' x = eva P tm x) : rd P H tm' o = rd P H tm o := by
 unfold rd
 cases ho : o.op with
 | move x => simp only [ho] at h; exact h x (by simp [Op.operands])
 | assign x => simp only [ho] at h; exact h x (by simp [Op.operands])
 | pick c a b =>
   simp only [ho] at h
   show rdPick (eva P tm' c) (eva P tm' a) (eva P tm' b) = rdPick (eva P tm c) (eva P tm a) (eva P tm b)
   rw [h c (by simp [Op.operands]), h a (by simp [Op.operands]), h b (by simp [Op.operands])]
 | load t x => simp only [ho] at h; show rdLoad P H t (eva P tm' x) = rdLoad P H t (eva P tm x); rw [h x (by simp [Op.operands])]
 | nilCheck x => simp only [ho] at h; show rdNil (eva P tm' x) = rdNil (eva P tm x); rw [h x (by simp [Op.operands])]
 | fieldAddr s x f => simp only [ho] at h; show rdFieldAddr P s (eva P tm' x) f = rdFieldAddr P s (eva P tm x) f; rw [h x (by simp [Op.operands])]
 | indexAddr t x ix =>
   simp only [ho] at h
   show rdIndexAddr P t (eva P tm' x) (eva P tm' ix) = rdIndexAddr P t (eva P tm x) (eva P tm ix)
   rw [h x (by simp [Op.operands]), h ix (by simp [Op.operands])]
 | extract x i => simp only [ho] at h; show rdExtract (eva P tm' x) i = rdExtract (eva P tm x) i; rw [h x (by simp [Op.operands])]
 | field t x f => simp only [ho] at h; show rdField P t (eva P tm' x) f = rdField P t (eva P tm x) f; rw [h x (by simp [Op.operands])]
 | slice t x lo hi mx =>
   have hops : o.op.operands.toList = [x] ++ lo.toList ++ hi.toList ++ mx.toList := by rw [ho]; cases lo <;> cases hi <;> cases mx <;> rfl
   rw [hops] at h
   show rdSlice P H t (eva P tm' x) (evaO P tm' lo) (evaO P tm' hi) (evaO P tm' mx) = rdSlice P H t (eva P tm x) (evaO P tm lo) (evaO P tm hi) (evaO P tm mx)
   rw [h x (by simp), evaO_congr (x := lo) (fun y hy => h y (by simp [hy])), evaO_congr (x := hi) (fun y hy => h y (by simp [hy])), evaO_congr (x := mx) (fun y hy => h y (by simp [hy]))]
 | call c =>
   show rdCall P tm' o c = rdCall P tm o c
   unfold rdCall
   split
   all_goals first
    | rfl
    | (rename_i hc
       rw [evs_congr c.args.toList (fun x hx => h x (by rw [ho]; simp [Op.operands, Call.operands, hc]; simpa using hx))])
 | makeFunc fn a b =>
   show rdFunc fn a.toList (evs P tm' b.toList) = rdFunc fn a.toList (evs P tm b.toList)
   rw [evs_congr b.toList (fun x hx => h x (by rw [ho]; simp [Op.operands]; right; simpa using hx))]
 | typeAssert x xt t ok => simp only [ho] at h; show rdAssert P (eva P tm' x) t ok = rdAssert P (eva P tm x) t ok; rw [h x (by simp [Op.operands])]
 | lookup t m k ok =>
   simp only [ho] at h
   show rdLookup P H t (eva P tm' m) (eva P tm' k) ok = rdLookup P H t (eva P tm m) (eva P tm k) ok
   rw [h m (by simp [Op.operands]), h k (by simp [Op.operands])]
 | convert s d x => simp only [ho] at h; show rdConv P H s d (eva P tm' x) = rdConv P H s d (eva P tm x); rw [h x (by simp [Op.operands])]
 | index t x ix =>
   simp only [ho] at h
   show rdIndex P t (eva P tm' x) (eva P tm' ix) = rdIndex P t (eva P tm x) (eva P tm ix)
   rw [h x (by simp [Op.operands]), h ix (by simp [Op.operands])]
 | binOp op t x y yt =>
   simp only [ho] at h
   show rdBin P H op t (isK x || isK y) (eva P tm' x) (eva P tm' y) = rdBin P H op t (isK x || isK y) (eva P tm x) (eva P tm y)
   rw [h x (by simp [Op.operands]), h y (by simp [Op.operands])]
 | build t ps =>
   simp only [ho] at h
   show rdBuild P t (parts P tm' ps.toList) = rdBuild P t (parts P tm ps.toList)
   rw [parts_congr ps.toList (fun p hp => h p.2 (by
    show p.2 ∈ ((ps.toList.map (·.2)).toArray).toList
    simp only [List.toList_toArray]
    exact List.mem_map.2 ⟨p, hp, rfl⟩))]
 | makeInterface t x => simp only [ho] at h; show rdIface P t (eva P tm' x) = rdIface P t (eva P tm x); rw [h x (by simp [Op.operands])]
 | unOp op _ x => simp only [ho] at h; show unV P op (eva P tm' x) = unV P op (eva P tm x); rw [h x (by simp [Op.operands])]
 | _ => rfl
theorem rd_heap {o : Oper} (h : isLd o.op = false) : rd P H' tm o = rd P H tm o := by
 unfold rd
 cases ho : o.op with
 | load t x => rw [ho] at h; cases h
 | slice t x lo hi mx => rw [ho] at h; cases h
 | lookup t m k ok => rw [ho] at h; cases h
 | convert s d x => rw [ho] at h; cases h
 | binOp op t x y yt => rw [ho] at h; cases h
 | _ => rfl
theorem wantedO_congr {ops : Array Oper} {o : Oper} (h : ∀ p, o.guard = some p -> ∀ d, dstOf ops p.1 = some d -> tm'.get (bits d) = tm.get (bits d)) : wantedO tm' ops o = wantedO tm ops o := by
 unfold wantedO
 split
 . rfl
 . rename_i p hp
   cases hd : dstOf ops p.1 with
   | none => rfl
   | some d =>
     show yieldO tm' d p.2 = yieldO tm d p.2
     unfold yieldO
     rw [h p hp d hd]
theorem vEqL_sound {eq : Value -> Value -> Bool} (h : ∀ a b, eq a b = true -> a = b) : ∀ (l m : List Value), vEqL eq l m = true -> l = m
 | [], [], _ => rfl
 | a :: l, b :: m, q => by
   simp only [vEqL, Bool.and_eq_true] at q
   rw [h a b q.1, vEqL_sound h l m q.2]
 | [], _ :: _, q => by cases q
 | _ :: _, [], q => by cases q
theorem vEqN_sound : ∀ (n : Nat) (v w : Value), vEqN n v w = true -> v = w
 | 0, _, _, h => by cases h
 | n + 1, v, w, h => by
   have ih := vEqN_sound n
   unfold vEqN at h
   split at h
   all_goals first
    | (cases h; done)
    | rfl
    | (simp only [Bool.and_eq_true, beq_iff_eq, decide_eq_true_eq] at h; simp_all; done)
    | (simp only [Bool.and_eq_true, beq_iff_eq] at h; rw [h.1, ih _ _ h.2]; done)
    | (rename_i a b; have := vEqL_sound ih _ _ h; rw [Array.toList_inj] at this; rw [this]; done)
theorem vEq_sound {v w : Value} (h : vEq v w = true) : v = w := by
 unfold vEq at h
 simp only [Bool.or_eq_true, decide_eq_true_eq] at h
 exact h.elim (vEqN_sound 4 v w) id
theorem vEq_self (v : Value) : vEq v v = true := by unfold vEq; simp
def LinOk (ops : Array Oper) : List Nat -> Prop
 | [] => True
 | i :: l => (∃ o, ops[i]? = some o /\ ∀ e ∈ o.after, Region.binds .any e = true -> e.on ∉ i :: l) /\ i ∉ l /\ LinOk ops l
theorem filter_lt {α : Type} (p q : α -> Bool) (hpq : ∀ x, q x = true -> p x = true) : ∀ (l : List α) (x : α), x ∈ l -> p x = true -> q x = false -> (l.filter q).length < (l.filter p).length
 | [], x, h, _, _ => by cases h
 | y :: l, x, h, hp, hq => by
   have hle : (l.filter q).length <= (l.filter p).length := by
    clear h
    induction l with
    | nil => simp
    | cons z l ih =>
      by_cases hqz : q z = true
      . rw [List.filter_cons_of_pos hqz, List.filter_cons_of_pos (hpq z hqz)]
        simp only [List.length_cons]; omega
      . rw [List.filter_cons_of_neg hqz]
        by_cases hpz : p z = true
        . rw [List.filter_cons_of_pos hpz]; simp only [List.length_cons]; omega
        . rw [List.filter_cons_of_neg hpz]; exact ih
   by_cases hyx : y = x
   . subst hyx
     simp [hp, hq]; omega
   . have hx : x ∈ l := by
      cases h with
      | head => exact absurd rfl hyx
      | tail _ h => exact h
     have ih := filter_lt p q hpq l x hx hp hq
     by_cases hqy : q y = true
     . simp [hqy, hpq y hqy]; exact ih
     . by_cases hpy : p y = true
       . simp [hqy, hpy]; omega
       . simp [hqy, hpy]; exact ih
def unl (ops : Array Oper) (listed : Array Bool) : List Nat := (List.range ops.size).filter fun i => !listed.getD i true
theorem go_lin (ops : Array Oper) (hac : acyclic ops = true) : ∀ (fuel t : Nat) (listed : Array Bool), listed.size = ops.size -> (unl ops listed).length <= fuel ->
 LinOk ops (Region.linearise.go .any ops fuel t listed []) /\ (∀ i ∈ Region.linearise.go .any ops fuel t listed [], listed.getD i true = false) /\
 (∀ i, i < ops.size -> listed.getD i true = false -> i ∈ Region.linearise.go .any ops fuel t listed []) := by
 intro fuel
 induction fuel with
 | zero =>
   intro t listed _ hu
   refine ⟨trivial, fun i hi => by simp [Region.linearise.go] at hi, fun i hi hl => ?_⟩
   have : i ∈ unl ops listed := List.mem_filter.2 ⟨List.mem_range.2 hi, by simp only [hl]; rfl⟩
   have := List.length_pos_of_mem this
   omega
 | succ fuel ih =>
   intro t listed hsz hu
   simp only [Region.linearise.go]
   change (LinOk ops (match (Region.ready .any ops listed)[t % (Region.ready .any ops listed).length]? with
    | some i => Region.linearise.go .any ops fuel (t / (Region.ready .any ops listed).length) (listed.setIfInBounds i true) [i]
    | none => [].reverse)) /\ (∀ i ∈ (match (Region.ready .any ops listed)[t % (Region.ready .any ops listed).length]? with
    | some i => Region.linearise.go .any ops fuel (t / (Region.ready .any ops listed).length) (listed.setIfInBounds i true) [i]
    | none => [].reverse), _) /\ (∀ i, _ -> _ -> i ∈ (match (Region.ready .any ops listed)[t % (Region.ready .any ops listed).length]? with
    | some i => Region.linearise.go .any ops fuel (t / (Region.ready .any ops listed).length) (listed.setIfInBounds i true) [i]
    | none => [].reverse))
   cases hi : (Region.ready .any ops listed)[t % (Region.ready .any ops listed).length]? with
   | none =>
     have hnil : Region.ready .any ops listed = [] := by
      cases hr : Region.ready .any ops listed with
      | nil => rfl
      | cons x xs =>
        rw [hr] at hi
        have hlt : t % (x :: xs).length < (x :: xs).length := Nat.mod_lt _ (by simp)
        rw [List.getElem?_eq_getElem hlt] at hi
        cases hi
     refine ⟨trivial, fun i h => by simp at h, ?_⟩
     have key : ∀ n i, i < n -> i < ops.size -> listed.getD i true = true := by
      intro n
      induction n with
      | zero => intro i h; omega
      | succ n ihn =>
        intro i h hisz
        cases hl : listed.getD i true with
        | true => rfl
        | false =>
          exfalso
          have : i ∈ Region.ready .any ops listed := mem_ready.2 ⟨hl, ops[i], Array.getElem?_eq_getElem hisz, fun e he hb => by
           have h1 := List.all_eq_true.1 hac i (List.mem_range.2 hisz)
           rw [Array.getElem?_eq_getElem hisz] at h1
           have h2 := List.all_eq_true.1 h1 e (by simpa using he)
           simp only [hb, Bool.not_true, Bool.false_or] at h2
           have h3 := blt_lt h2
           have h4 := ihn e.on (by omega) (by omega)
           simpa [Array.getD, show e.on < listed.size by omega] using h4⟩
          rw [hnil] at this
          cases this
     intro i hisz hl
     rw [key (i + 1) i (by omega) hisz] at hl
     cases hl
   | some i =>
     have hmem := List.mem_of_getElem? hi
     obtain ⟨hl, o, ho, hdeps⟩ := mem_ready.1 hmem
     have hisz : i < ops.size := (Array.getElem?_eq_some_iff.1 ho).1
     simp only []
     rw [linearise_go_acc, List.reverse_singleton, List.singleton_append]
     have hset : ∀ j, j ≠ i -> (listed.setIfInBounds i true).getD j true = listed.getD j true := fun j hj => getD_set_ne true (Ne.symm hj)
     have hseti : (listed.setIfInBounds i true).getD i true = true := by
      simp [Array.getD, show i < listed.size by omega]
     have hlt : (unl ops (listed.setIfInBounds i true)).length < (unl ops listed).length := by
      refine filter_lt _ _ (fun x hx => ?_) _ i (List.mem_range.2 hisz) (by simp only [hl]; rfl) (by simp only [hseti]; rfl)
      by_cases hxi : x = i
      . subst hxi; rw [hseti] at hx; cases hx
      . rw [hset x hxi] at hx; exact hx
     obtain ⟨h1, h2, h3⟩ := ih (t / (Region.ready .any ops listed).length) (listed.setIfInBounds i true) (by simp [hsz]) (by omega)
     have hni : i ∉ Region.linearise.go .any ops fuel (t / (Region.ready .any ops listed).length) (listed.setIfInBounds i true) [] := fun q => by
      have := h2 i q
      rw [hseti] at this
      cases this
     refine ⟨⟨⟨o, ho, fun e he hb q => ?_⟩, hni, h1⟩, fun j hj => ?_, fun j hj hlj => ?_⟩
     . have h4 := hdeps e he hb
       rcases List.mem_cons.1 q with q | q
       . rw [q] at h4
         have h5 := hl
         simp only [Array.getD] at h4 h5
         split at h4 <;> simp_all
       . have h5 := h2 e.on q
         by_cases hei : e.on = i
         . rw [hei, hseti] at h5; cases h5
         . rw [hset _ hei] at h5
           simp only [Array.getD] at h4 h5
           split at h4 <;> simp_all
     . cases hj with
       | head => exact hl
       | tail _ hj =>
         have h5 := h2 j hj
         by_cases hji : j = i
         . subst hji; exact hl
         . rw [hset _ hji] at h5; exact h5
     . by_cases hji : j = i
       . subst hji; simp
       . exact List.mem_cons_of_mem _ (h3 j hj (by rw [hset _ hji]; exact hlj))
theorem lin_start (ops : Array Oper) (hac : acyclic ops = true) (t : Nat) : LinOk ops (Region.schedule true ops t) /\ ∀ i, i < ops.size -> i ∈ Region.schedule true ops t := by
 have hrep : ∀ i, i < ops.size -> (Array.replicate ops.size false).getD i true = false := fun i hi => by simp [Array.getD, hi]
 have h := go_lin ops hac ops.size t (Array.replicate ops.size false) (by simp) (by
  unfold unl
  exact Nat.le_trans (List.length_filter_le _ _) (by simp))
 have e : Region.schedule true ops t = Region.linearise.go .any ops ops.size t (Array.replicate ops.size false) [] := rfl
 rw [e]
 exact ⟨h.1, fun i hi => h.2.2 i hi (hrep i hi)⟩
end
end Go.Ev
/- A region with a draw: our fixed order of it, and the model's. -/
namespace Go.Ev
noncomputable section
open Go.RowKit (Below)
variable {P : Program} {W w : World} {φ : Phi} {H : T OB} {tm : T Value} {tmps : Array Value} {ops : Array Oper}
structure FB where
 fn : FuncId
 kind : CallKind
 ds : List Deferred
def mkF (b : FB) (tmps : Array Value) (todo : List Item) : Frame := { fn := b.fn, tmps, todo, defers := b.ds, mode := .run, kind := b.kind }
def evalA (tmps : Array Value) : Operand -> Value := Act.eval ⟨tmps, []⟩
theorem evalA_eq (tmps : Array Value) (ds : List Deferred) : Act.eval ⟨tmps, ds⟩ = evalA tmps := by funext x; cases x <;> rfl
def putA (tmps : Array Value) (dst : Option Tmp) (v : Value) : Array Value := match dst with
 | some d => tmps.setIfInBounds d v
 | none => tmps
theorem put_mk (tmps : Array Value) (ds : List Deferred) (dst : Option Tmp) (v : Value) : (Act.put ⟨tmps, ds⟩ dst v) = ⟨putA tmps dst v, ds⟩ := by cases dst <;> rfl
theorem putA_size (tmps : Array Value) (dst : Option Tmp) (v : Value) : (putA tmps dst v).size = tmps.size := by cases dst <;> simp [putA]
section steps
variable {fn : FB} {i : Nat} {rest : List Nat} {k : List Item} {cs : List Frame} {w' : World} {o : Oper}
theorem fin_mk (ho : ops[i]? = some o) (v : Value) : (mkF fn tmps (.inRegion ops (i :: rest) :: k)).finish v = mkF fn (putA tmps o.dst v) (.inRegion ops rest :: k) := by
 have := Frame.finish_at (mkF fn #[] []) ⟨tmps, fn.ds⟩ ops i rest k v
 rw [ho] at this
 rw [show ((some o : Option Oper).bind (·.dst)) = o.dst from rfl, put_mk] at this
 exact this
theorem op_g (ho : ops[i]? = some o) (hw : Region.wanted o (yielded ops tmps) = true) :
 stepG P true { frame := mkF fn tmps (.inRegion ops (i :: rest) :: k), callers := cs, status := .running, dying := none } w =
  stepG.apply P true (mkF fn tmps (.inRegion ops (i :: rest) :: k)) cs none (execOp (evalA tmps) o) w := by
 have := stepG_op (P := P) (b := mkF fn #[] []) (a := ⟨tmps, fn.ds⟩) (cs := cs) (w := w) (k := k) (rest := rest) ho hw
 rw [evalA_eq] at this
 exact this
theorem step_value (ho : ops[i]? = some o) (hw : Region.wanted o (yielded ops tmps) = true) {v : Value} (hr : (execOp (evalA tmps) o).run P w = .ok (.value v) w') :
 step P (lone (mkF fn tmps (.inRegion ops (i :: rest) :: k)) cs w) = .next (lone (mkF fn (putA tmps o.dst v) (.inRegion ops rest :: k)) cs w') :=
 step_lone_go (by rw [op_g ho hw, <- fin_mk ho]; simp [stepG.apply, hr])
theorem step_skipv (ho : ops[i]? = some o) (hw : Region.wanted o (yielded ops tmps) = true) (hr : (execOp (evalA tmps) o).run P w = .ok .skip w') :
 step P (lone (mkF fn tmps (.inRegion ops (i :: rest) :: k)) cs w) = .next (lone (mkF fn (putA tmps o.dst undef) (.inRegion ops rest :: k)) cs w') :=
 step_lone_go (by rw [op_g ho hw, <- fin_mk ho]; simp [stepG.apply, hr])
theorem step_enter (ho : ops[i]? = some o) (hw : Region.wanted o (yielded ops tmps) = true) {f : FuncId} {args : Array Value} (hr : (execOp (evalA tmps) o).run P w = .ok (.enter f args) w') :
 step P (lone (mkF fn tmps (.inRegion ops (i :: rest) :: k)) cs w) =
  .next (lone (Frame.enter P f args .normal) (mkF fn tmps (.inRegion ops (i :: rest) :: k) :: cs) w') :=
 step_lone_go (by rw [op_g ho hw]; simp [stepG.apply, hr, mkF])
theorem step_dfr (ho : ops[i]? = some o) (hw : Region.wanted o (yielded ops tmps) = true) {d : Deferred} (hr : (execOp (evalA tmps) o).run P w = .ok (.defer d) w') :
 step P (lone (mkF fn tmps (.inRegion ops (i :: rest) :: k)) cs w) = .next (lone (mkF ⟨fn.fn, fn.kind, d :: fn.ds⟩ (putA tmps o.dst undef) (.inRegion ops rest :: k)) cs w') :=
 step_lone_go (by
  rw [op_g ho hw, <- fin_mk (fn := ⟨fn.fn, fn.kind, d :: fn.ds⟩) ho]
  simp only [stepG.apply, Sem.runT_eq, hr, GStep.bare_after]
  rfl)
theorem step_pan (ho : ops[i]? = some o) (hw : Region.wanted o (yielded ops tmps) = true) {v : Value} (hr : (execOp (evalA tmps) o).run P w = .halt (.panic v) w') :
 step P (lone (mkF fn tmps (.inRegion ops (i :: rest) :: k)) cs w) = .next (lone { mkF fn tmps (.inRegion ops (i :: rest) :: k) with mode := .panicking [{ v, recovered := false }] } cs w') :=
 step_lone_go (by
  rw [op_g ho hw]
  simp only [stepG.apply, Sem.runT_eq, hr, GStep.bare_after]
  rfl)
theorem step_rcv_none (ho : ops[i]? = some o) (hw : Region.wanted o (yielded ops tmps) = true) (hr : (execOp (evalA tmps) o).run P w = .ok .recover w')
 (ht : tryRecover (mkF fn tmps (.inRegion ops (i :: rest) :: k)) cs = none) :
 step P (lone (mkF fn tmps (.inRegion ops (i :: rest) :: k)) cs w) = .next (lone (mkF fn (putA tmps o.dst .nilIface) (.inRegion ops rest :: k)) cs w') :=
 step_lone_go (by
  rw [op_g ho hw, <- fin_mk ho]
  have ht' : tryRecover { fn := fn.fn, tmps, todo := .inRegion ops (i :: rest) :: k, defers := fn.ds, mode := .run, kind := fn.kind } cs = none := ht
  simp [stepG.apply, hr, mkF, ht'])
theorem step_rcv_some (ho : ops[i]? = some o) (hw : Region.wanted o (yielded ops tmps) = true) (hr : (execOp (evalA tmps) o).run P w = .ok .recover w') {v : Value} {cs' : List Frame}
 (ht : tryRecover (mkF fn tmps (.inRegion ops (i :: rest) :: k)) cs = some (v, cs')) :
 step P (lone (mkF fn tmps (.inRegion ops (i :: rest) :: k)) cs w) = .next (lone (mkF fn (putA tmps o.dst v) (.inRegion ops rest :: k)) cs' w') :=
 step_lone_go (by
  rw [op_g ho hw, <- fin_mk ho]
  have ht' : tryRecover { fn := fn.fn, tmps, todo := .inRegion ops (i :: rest) :: k, defers := fn.ds, mode := .run, kind := fn.kind } cs = some (v, cs') := ht
  simp [stepG.apply, hr, mkF, ht'])
theorem step_not (ho : ops[i]? = some o) (hw : Region.wanted o (yielded ops tmps) = false) :
 step P (lone (mkF fn tmps (.inRegion ops (i :: rest) :: k)) cs w) = .next (lone (mkF fn (putA tmps o.dst undef) (.inRegion ops rest :: k)) cs w) := by
 have := step_op_skip (P := P) (b := mkF fn #[] []) (a := ⟨tmps, fn.ds⟩) (k := k) (cs := cs) (w := w) (ops := ops) (i := i) (rest := rest) (by simp [ho, hw])
 rw [ho, show ((some o : Option Oper).bind (·.dst)) = o.dst from rfl, put_mk] at this
 exact this
end steps
def TRm (φ : Phi) (M : Nat -> Prop) (tm : T Value) (tmps : Array Value) : Prop := ∀ t v, tm.get (bits t) = some v -> M t \/ ∃ v', tmps[t]? = some v' /\ VR φ v v'
theorem TRm.mono {ψ : Phi} {M : Nat -> Prop} (hle : φ.le ψ) (h : TRm φ M tm tmps) : TRm ψ M tm tmps := fun t v q => (h t v q).imp id fun ⟨v', a, b⟩ => ⟨v', a, b.mono hle⟩
theorem EvR_of {M : Nat -> Prop} (hG : ∀ g, g < P.globals.size -> ∃ e : Ent, φ[g]? = some (some e) /\ e.r = g) (h : TRm φ M tm tmps) {l : List Operand} (hl : ∀ t, Operand.tmp t ∈ l -> ¬ M t) : EvR P φ tm (evalA tmps) l := by
 intro x hx v hv
 cases x with
 | tmp t =>
   rcases h t v hv with q | ⟨v', h1, h2⟩
   . exact absurd q (hl t hx)
   . have : evalA tmps (.tmp t) = v' := by
      simp only [evalA, Act.eval, Array.getD_eq_getD_getElem?, h1, Option.getD_some]
     rw [this]
     exact h2
 | const c =>
   have hv : (bif flat c then some c else none) = some v := hv
   obtain ⟨h1, h2⟩ := bif_inv hv
   cases h2
   exact .flat _ h1
 | global g =>
   obtain ⟨h1, h2⟩ := bif_inv (show (bif Nat.blt g P.globals.size then some (Value.pointer (some ⟨g, 0, none⟩)) else none) = some v from hv)
   cases h2
   obtain ⟨e, h3, h4⟩ := hG g (blt_lt h1)
   have : evalA tmps (.global g) = .pointer (some ⟨e.r, 0, none⟩) := by rw [h4]; rfl
   rw [this]
   exact .ptr h3
 | func f => cases hv; exact .flat _ rfl
theorem wanted_of {M : Nat -> Prop} (h : TRm φ M tm tmps) {o : Oper} (hl : ∀ p, o.guard = some p -> ∀ d, dstOf ops p.1 = some d -> ¬ M d) {b : Bool}
 (hw : wantedO tm ops o = some b) : Region.wanted o (yielded ops tmps) = b := by
 unfold wantedO at hw
 unfold Region.wanted
 split at hw
 . rename_i hg
   rw [hg]
   cases hw
   rfl
 . rename_i p hg
   obtain ⟨j, want⟩ := p
   rw [hg]
   obtain ⟨d, hd, hy⟩ := optK_inv hw
   have hM := hl (j, want) hg d hd
   have hd' : (ops[j]?).bind (·.dst) = some d := by
    unfold dstOf at hd
    cases hj : ops[j]? with
    | none => rw [hj] at hd; cases hd
    | some q => rw [hj] at hd; exact hd
   show (yielded ops tmps j == some want) = b
   unfold yieldO at hy
   split at hy
   . rename_i x hx
     cases hy
     rcases h d _ hx with q | ⟨v', h1, h2⟩
     . exact absurd q hM
     . have := h2.eq_of_flat rfl
       subst this
       have e : yielded ops tmps j = some x := by
        unfold yielded
        rw [hd']
        simp only [Option.bind_some, h1]
       rw [e]
       cases x <;> cases want <;> rfl
   . rename_i c hx
     cases hy
     rcases h d _ hx with q | ⟨v', h1, h2⟩
     . exact absurd q hM
     . obtain ⟨c', rfl, _⟩ := h2.tuple_inv
       have e : yielded ops tmps j = none := by
        unfold yielded
        rw [hd']
        simp only [Option.bind_some, h1]
       rw [e]
       rfl
   . cases hy
def tmPut (tm : T Value) (dst : Option Tmp) (v : Value) : T Value := match dst with
 | some d => set tm (bits d) (some v)
 | none => tm
theorem get_tmPut (tm : T Value) (dst : Option Tmp) (v : Value) (t : Nat) : (tmPut tm dst v).get (bits t) = if dst = some t then some v else tm.get (bits t) := by
 cases dst with
 | none => rfl
 | some d =>
   show (set tm (bits d) (some v)).get (bits t) = _
   rw [get_at]
   by_cases h : t = d
   . subst h; simp
   . rw [if_neg h, if_neg (by simp; exact fun q => h q.symm)]
theorem eva_tmPut (tm : T Value) (dst : Option Tmp) (v : Value) (x : Operand) (h : ∀ d, dst = some d -> x ≠ .tmp d) : eva P (tmPut tm dst v) x = eva P tm x := by
 cases x with
 | tmp t =>
   show (tmPut tm dst v).get (bits t) = tm.get (bits t)
   rw [get_tmPut, if_neg (fun q => h t q rfl)]
 | _ => rfl
theorem get_putA {tmps : Array Value} {dst : Option Tmp} {v : Value} {t : Nat} (h : ∀ d, dst = some d -> d < tmps.size) :
 (putA tmps dst v)[t]? = if dst = some t then some v else tmps[t]? := by
 cases dst with
 | none => rfl
 | some d =>
   show (tmps.setIfInBounds d v)[t]? = _
   by_cases ht : d = t
   . subst ht
     rw [Array.getElem?_setIfInBounds_self_of_lt (h d rfl)]
     simp
   . rw [Array.getElem?_setIfInBounds_ne ht, if_neg (by simpa using ht)]
theorem TRm.put {M M' : Nat -> Prop} (h : TRm φ M tm tmps) {dst : Option Tmp} {v v' : Value} (hd : ∀ d, dst = some d -> d < tmps.size) (hv : VR φ v v') (hM : ∀ t, M t -> dst ≠ some t -> M' t) :
 TRm φ M' (tmPut tm dst v) (putA tmps dst v') := by
 intro t u hu
 rw [get_tmPut] at hu
 rw [get_putA hd]
 by_cases ht : dst = some t
 . rw [if_pos ht] at hu ⊢
   cases hu
   exact .inr ⟨v', rfl, hv⟩
 . rw [if_neg ht] at hu ⊢
   exact (h t u hu).imp (fun q => hM t q ht) id
def alR (P : Program) (tm : T Value) (o : Op) (e : TypeId) (l : List Value) (mk : Nat -> Value) : Prop :=
 (o = .alloc e /\ zeroC P e = some l /\ mk = ptrAt) \/
 (∃ (t : TypeId) (len : Nat) (ps : Array (Nat × Operand)) (vs : List (Nat × Value)) (s : Nat) (z : List Value) (cells : Array Value), o = .buildSlice t len ps /\ parts P tm ps.toList = some vs /\ P.underlying t = some (.slice e) /\ szOf P e = some s /\ zeroC P e = some z /\
  (Nat.ble (len * s) 16777216 && Nat.blt 0 (len * s) && Nat.blt 0 z.length) = true /\ Instr.fill (fun i => some (i * s, s)) (zeroRow z (len * s)) vs = some cells /\ l = cells.toList /\ mk = fun nx => .slice (some ⟨nx, 0, none⟩) len len)
theorem ef_al {o : Oper} {nx : Nat} {H' : T OB} (hal : isAl o.op = true) {v : Value} {nx' : Nat} (h : ef P H nx tm o = .val v H' nx') : ∃ e l mk, alR P tm o.op e l mk /\ v = mk nx /\ H' = set H (bits nx) (some (newOB l e)) /\ nx' = nx + 1 := by
 unfold ef at h
 split at h
 . rename_i e he
   unfold efAlloc at h
   obtain ⟨l, hz, h⟩ := optK_eff h
   rw [newK_eq] at h
   cases h
   exact ⟨e, l, ptrAt, .inl ⟨he, hz, rfl⟩, rfl, rfl, rfl⟩
 . rename_i he; rw [he] at hal; cases hal
 . rename_i he; rw [he] at hal; cases hal
 . rename_i t len ps he
   unfold efBuildSlice at h
   obtain ⟨vs, hvs, h⟩ := optK_eff h
   obtain ⟨e, s, hu, hs, h⟩ := sliceTK_eff h
   obtain ⟨z, hz, h⟩ := optK_eff h
   obtain ⟨hc, h⟩ := bif_eff h
   obtain ⟨cells, hf, h⟩ := optK_eff h
   rw [newK_eq, natF_eq] at h
   cases h
   exact ⟨e, _, _, .inr ⟨t, len, ps, vs, s, z, cells, he, hvs, hu, hs, hz, hc, hf, rfl, rfl⟩, rfl, rfl, rfl⟩
 all_goals first
  | (rename_i he; rw [he] at hal; cases hal)
  | cases h
theorem al_run {o : Oper} {ρ : Operand -> Value} {e : TypeId} {l : List Value} {mk : Nat -> Value} (hE : EvR P φ tm ρ o.op.operands.toList) (h : alR P tm o.op e l mk) :
 ∃ (l' : List Value) (mk' : Addr -> Value), LR φ l l' /\ (execOp ρ o).run P w = .ok (.value (mk' ⟨w.heap.size, 0, none⟩)) (w.alloc (.cells l'.toArray e)) /\ ∀ (ψ : Phi) (k : Nat) (en : Ent), ψ[k]? = some (some en) -> VR ψ (mk k) (mk' ⟨en.r, 0, none⟩) := by
 rcases h with ⟨ho, hz, rfl⟩ | ⟨t, len, ps, vs, s, z, cells, ho, hvs, hu, hs, hz, hc, hf, rfl, rfl⟩
 . obtain ⟨i, z, hi', hz', hl, hfl⟩ := zeroC_inv hz
   refine ⟨l, fun a => .pointer (some a), LR.of_flat hfl, ?_, fun ψ k en hk => .ptr hk⟩
   have hrun : (execOp ρ o).run P w = .ok (.value (.pointer (some ⟨w.heap.size, 0, none⟩))) (w.alloc (.cells z.cells e)) := by
    simp [execOp, ho, Instr.alloc, zeroValue, typeInfo, hi', hz', newVar, newRow]
   rw [hrun, <- hl]
 . simp only [Bool.and_eq_true] at hc
   have h1 := ble_le hc.1.1
   have h2 := blt_lt hc.1.2
   obtain ⟨i, z', hi, hz', hl, hfl⟩ := zeroC_inv hz
   have hp : PR φ vs (ps.toList.map fun p => (p.1, ρ p.2)) := parts_PR ps.toList vs (fun p hp => hE p.2 (by
    rw [ho]
    show p.2 ∈ ((ps.toList.map (·.2)).toArray).toList
    exact List.mem_map.2 ⟨p, hp, rfl⟩)) hvs
   obtain ⟨cells', hf', hLR⟩ := fill_PR (fun i => some (i * s, s)) hp _ (zeroRow z (len * s)) cells (LR.of_flat (zeroRow_flat hfl _)) hf
   refine ⟨cells'.toList, fun a => .slice (some a) len len, hLR, ?_, fun ψ k en hk => .slice hk (.inl ⟨?_, rfl⟩)⟩
   . have hzc : z.toArray = z'.cells := by rw [<- hl]
     have hf'' : Instr.fill (fun i => some (i * s, s)) (Array.map (fun x => z'.cells[x % z'.cells.size]!) (Array.range (len * s))) (ps.toList.map fun p => (p.1, ρ p.2)) = some cells' := by
      rw [<- hzc]; exact hf'
     have e24 : (2 : Nat) ^ 24 = 16777216 := by decide
     have hne : ¬ (len * s > 2 ^ 24) := by rw [e24]; omega
     have hne0 : ¬ (len * s = 0) := by omega
     simp only [execOp, ho, Instr.buildSlice, Sem.run_bind, run_und hu, Result.andThen_ok, run_size hs, if_neg hne, if_neg hne0, Sem.run_pure]
     have hzr : (zeroValue e).run P w = .ok z' w := by simp [zeroValue, typeInfo, hi, hz']
     simp [hzr, hf'', newRow]
   . have : len <= len * s := Nat.le_mul_of_pos_right len (Nat.pos_of_ne_zero (fun q => by rw [q] at h2; simp at h2))
     unfold unk
     omega
theorem alR_congr {tm tm' : T Value} {o : Op} {e : TypeId} {l : List Value} {mk : Nat -> Value} (hx : ∀ x ∈ o.operands.toList, eva P tm' x = eva P tm x) (h : alR P tm o e l mk) : alR P tm' o e l mk := by
 rcases h with h | ⟨t, len, ps, vs, s, z, cells, ho, hvs, h⟩
 . exact .inl h
 . refine .inr ⟨t, len, ps, vs, s, z, cells, ho, ?_, h⟩
   rw [<- hvs]
   refine parts_congr _ fun p hp => hx p.2 ?_
   rw [ho]
   show p.2 ∈ ((ps.toList.map (·.2)).toArray).toList
   exact List.mem_map.2 ⟨p, hp, rfl⟩
def Prom (P : Program) (φ : Phi) (H : T OB) (tm : T Value) (ops : Array Oper) (κ : Nat -> Nat) (lo hi : Nat) (p : Nat) (o : Oper) : Prop :=
 (wantedO tm ops o = some false /\ ∀ d, o.dst = some d -> tm.get (bits d) = some undef) \/
 (wantedO tm ops o = some true /\ isRd o.op = true /\ ∃ u, (∀ d, o.dst = some d -> tm.get (bits d) = some u) /\ (isLd o.op = false -> rd P H tm o = some u)) \/
 (wantedO tm ops o = some true /\ isAl o.op = true /\ ∃ e l mk, alR P tm o.op e l mk /\ φ[κ p]? = some none /\ hp H (κ p) = some (newOB l e) /\ lo <= κ p /\ κ p < hi /\
  ∀ d, o.dst = some d -> tm.get (bits d) = some (mk (κ p)))
def Mask (ops : Array Oper) (done π : List Nat) (t : Nat) : Prop := ∃ p, p ∈ π /\ p ∈ done /\ dstOf ops p = some t
structure DrawC (P : Program) (φ : Phi) (H : T OB) (tm : T Value) (tmps : Array Value) (ops : Array Oper) (done lds : List Nat) (pl : List (Nat × List Nat)) (π : List Nat) (κ : Nat -> Nat) (lo hi : Nat) : Prop where
 sa : saOk ops = true
 ac : acyclic ops = true
 plan : okPlan ops (anOf ops) done lds pl = true
 lin : LinOk ops π
 todo : ∀ i, i < ops.size -> i ∉ done -> i ∈ π
 closed : ∀ i, i ∉ π -> ∀ o, ops[i]? = some o -> ∀ e ∈ o.after, Region.binds .any e = true -> e.on ∉ π
 ready : ∀ i, i ∈ done -> ∀ o, ops[i]? = some o -> readyIn ops done o = true
 tr : TRm φ (Mask ops done π) tm tmps
 dsts : ∀ i o d, ops[i]? = some o -> o.dst = some d -> i ∈ done -> d < tmps.size
 prom : ∀ p, p ∈ π -> p ∈ done -> ∀ o, ops[p]? = some o -> Prom P φ H tm ops κ lo hi p o
 lds : ∀ p, p ∈ π -> p ∈ done -> ∀ o, ops[p]? = some o -> isLd o.op = true -> p ∈ lds
 inj : ∀ p q, p ∈ π -> p ∈ done -> q ∈ π -> q ∈ done -> ∀ o o', ops[p]? = some o -> ops[q]? = some o' -> isAl o.op = true -> isAl o'.op = true ->
  wantedO tm ops o = some true -> wantedO tm ops o' = some true -> κ p = κ q -> p = q
 own : ∀ p, p ∈ π -> p ∈ done -> p ∉ antis ops
def LoadP (P : Program) (H : T OB) (tm : T Value) (ops : Array Oper) (done π : List Nat) : Prop :=
 ∀ p, p ∈ π -> p ∈ done -> ∀ o, ops[p]? = some o -> isLd o.op = true -> wantedO tm ops o = some true -> ∃ u, rd P H tm o = some u /\ ∀ d, o.dst = some d -> tm.get (bits d) = some u
theorem direct_iff {o : Oper} {j : Nat} : direct o j = true ↔ ∃ e ∈ o.after, Region.binds .any e = true /\ e.on = j := by
 unfold direct
 rw [List.any_eq_true]
 constructor
 . rintro ⟨e, he, h⟩
   simp only [Bool.and_eq_true, beq_iff_eq] at h
   exact ⟨e, by simpa using he, h.1, h.2⟩
 . rintro ⟨e, he, h1, h2⟩
   exact ⟨e, by simpa using he, by simp [h1, h2]⟩
theorem sa_reads (hs : saOk ops = true) {i j : Nat} {o q : Oper} {d : Tmp} (hi : ops[i]? = some o) (hj : ops[j]? = some q) (hd : q.dst = some d) (hl : d ∈ o.looksAt ops) : direct o j = true \/ direct q i = true := by
 have h1 := List.all_eq_true.1 hs i (List.mem_range.2 (Array.getElem?_eq_some_iff.1 hi).1)
 have h2 := List.all_eq_true.1 h1 j (List.mem_range.2 (Array.getElem?_eq_some_iff.1 hj).1)
 simp only [hi, hj, hd, Bool.and_eq_true, Bool.or_eq_true, Bool.not_eq_true'] at h2
 rcases h2.1 with (h3 | h3) | h3
 . have h4 : (o.looksAt ops).contains d = true := by simpa using hl
   rw [h3] at h4
   cases h4
 . exact .inl h3
 . exact .inr h3
theorem not_anti {i j : Nat} (hn : j ∉ antis ops) {o q : Oper} {d : Tmp} (hi : ops[i]? = some o) (hj : ops[j]? = some q) (hd : q.dst = some d) (hl : d ∈ o.looksAt ops) : direct o j = true := by
 cases h : direct o j with
 | true => rfl
 | false =>
   refine absurd ?_ hn
   unfold antis
   rw [List.mem_filter]
   refine ⟨List.mem_range.2 (Array.getElem?_eq_some_iff.1 hj).1, ?_⟩
   simp only [hj, hd]
   rw [List.any_eq_true]
   refine ⟨i, List.mem_range.2 (Array.getElem?_eq_some_iff.1 hi).1, ?_⟩
   simp only [hi, h]
   have h4 : (o.looksAt ops).contains d = true := by simpa using hl
   rw [h4]; rfl
theorem sa_dst (hs : saOk ops = true) {i j : Nat} {o q : Oper} {d : Tmp} (hi : ops[i]? = some o) (hj : ops[j]? = some q) (hd : q.dst = some d) (hne : i ≠ j) : o.dst ≠ some d := by
 have h1 := List.all_eq_true.1 hs i (List.mem_range.2 (Array.getElem?_eq_some_iff.1 hi).1)
 have h2 := List.all_eq_true.1 h1 j (List.mem_range.2 (Array.getElem?_eq_some_iff.1 hj).1)
 simp only [hi, hj, hd, Bool.and_eq_true, Bool.or_eq_true, Bool.not_eq_true', beq_iff_eq, bne_iff_ne] at h2
 exact h2.2.resolve_left hne
theorem looks_op {o : Oper} {t : Nat} (h : Operand.tmp t ∈ o.op.operands.toList) : t ∈ o.looksAt ops := by
 unfold Oper.looksAt
 exact List.mem_append_left _ (List.mem_filterMap.2 ⟨.tmp t, h, rfl⟩)
theorem looks_guard {o : Oper} {p : Nat × Bool} {d : Tmp} (hg : o.guard = some p) (hd : dstOf ops p.1 = some d) : d ∈ o.looksAt ops := by
 unfold Oper.looksAt
 refine List.mem_append_right _ ?_
 obtain ⟨j, b⟩ := p
 rw [hg]
 have hd' : (ops[j]?).bind (·.dst) = some d := by
  unfold dstOf at hd
  cases hj : ops[j]? with
  | none => rw [hj] at hd; cases hd
  | some q => rw [hj] at hd; exact hd
 simp only [hd', Option.toList_some, List.mem_singleton]
theorem dstOf_some {ops : Array Oper} {p t : Nat} (h : dstOf ops p = some t) : ∃ q, ops[p]? = some q /\ q.dst = some t := by
 unfold dstOf at h
 cases hj : ops[p]? with
 | none => rw [hj] at h; cases h
 | some q => rw [hj] at h; exact ⟨q, rfl, h⟩
theorem head_free {q : Nat} {π : List Nat} (hlin : LinOk ops (q :: π)) {done : List Nat} (hown : ∀ p, p ∈ q :: π -> p ∈ done -> p ∉ antis ops) {o : Oper} (ho : ops[q]? = some o) {t : Nat} (ht : t ∈ o.looksAt ops) : ¬ Mask ops done (q :: π) t := by
 rintro ⟨p, hp, hpd, hd⟩
 obtain ⟨oq, h1, h2⟩ := dstOf_some hd
 have h3 := direct_iff.1 (not_anti (hown p hp hpd) ho h1 h2 ht)
 obtain ⟨e, he, hb, hon⟩ := h3
 obtain ⟨⟨o', ho', hdeps⟩, _⟩ := hlin
 rw [ho] at ho'
 cases ho'
 exact hdeps e he hb (by rw [hon]; exact hp)
section
variable {done lds : List Nat} {pl : List (Nat × List Nat)} {π : List Nat} {κ : Nat -> Nat} {lo hi : Nat} {fn : FB} {k : List Item} {cs : List Frame}
theorem isAl_rd {op : Op} (h : isAl op = true) : isRd op = false := by
 cases op <;> first | rfl | cases h
theorem isAl_ld {op : Op} (h : isAl op = true) : isLd op = false := by
 cases op <;> first | rfl | cases h
theorem anOf_sub {j : Nat} (h : j ∉ anOf ops) : j ∉ antis ops := fun q => h (by
 unfold anOf
 split
 . exact List.mem_append_left _ q
 . exact q)
theorem exec_pend (hH : HR P W φ (hp H) w) {q : Nat} (hD : DrawC P φ H tm tmps ops done lds pl (q :: π) κ lo hi) (hL : LoadP P H tm ops done (q :: π)) (hq : q ∈ done) :
 ∃ φ' tmps' w', step P (lone (mkF fn tmps (.inRegion ops (q :: π) :: k)) cs w) = .next (lone (mkF fn tmps' (.inRegion ops π :: k)) cs w') /\
   φ.le φ' /\ HR P W φ' (hp H) w' /\ φ'.length = φ.length /\ (∀ j, j < lo -> φ[j]? = some none -> φ'[j]? = some none) /\
   DrawC P φ' H tm tmps' ops done lds pl π κ lo hi /\ LoadP P H tm ops done π /\ tmps'.size = tmps.size := by
 obtain ⟨⟨o, ho, hdeps⟩, hnq, hlin⟩ := hD.lin
 have hop : EvR P φ tm (evalA tmps) o.op.operands.toList := EvR_of hH.gl hD.tr fun t ht => head_free hD.lin hD.own ho (looks_op ht)
 have hgd : ∀ b, wantedO tm ops o = some b -> Region.wanted o (yielded ops tmps) = b := fun b hb => wanted_of hD.tr (fun p hp d hd => head_free hD.lin hD.own ho (looks_guard hp hd)) hb
 have hd : ∀ d, o.dst = some d -> d < tmps.size := fun d h => hD.dsts q o d ho h hq
 have rest : ∀ (ψ : Phi) (u u' : Value), φ.le ψ -> (∀ d, o.dst = some d -> tm.get (bits d) = some u) -> VR ψ u u' ->
  (∀ p, p ∈ π -> p ∈ done -> ∀ o', ops[p]? = some o' -> Prom P ψ H tm ops κ lo hi p o') -> DrawC P ψ H tm (putA tmps o.dst u') ops done lds pl π κ lo hi := by
  intro ψ u u' hle hu hv hp
  refine ⟨hD.sa, hD.ac, hD.plan, hlin, fun i hi hn => ?_, fun i hi x hx e he hb => ?_, hD.ready, fun t v hv' => ?_, fun i x d hx hxd hi => by rw [putA_size]; exact hD.dsts i x d hx hxd hi, hp,
   fun p hp => hD.lds p (List.mem_cons_of_mem _ hp), fun p p' hp hpd hp' hpd' => hD.inj p p' (List.mem_cons_of_mem _ hp) hpd (List.mem_cons_of_mem _ hp') hpd', fun p hp hpd => hD.own p (List.mem_cons_of_mem _ hp) hpd⟩
  . rcases List.mem_cons.1 (hD.todo i hi hn) with h | h
    . subst h; exact absurd hq hn
    . exact h
  . by_cases hiq : i = q
    . subst hiq
      rw [ho] at hx
      cases hx
      exact fun h => hdeps e he hb (List.mem_cons_of_mem _ h)
    . exact fun h => hD.closed i (fun h => (List.mem_cons.1 h).elim hiq hi) x hx e he hb (List.mem_cons_of_mem _ h)
  . rw [get_putA hd]
    by_cases ht : o.dst = some t
    . rw [if_pos ht]
      rw [hu t ht] at hv'
      cases hv'
      exact .inr ⟨u', rfl, hv⟩
    . rw [if_neg ht]
      rcases hD.tr t v hv' with ⟨p, hp, hpd, hpt⟩ | ⟨v', a, b⟩
      . rcases List.mem_cons.1 hp with h | h
        . subst h
          obtain ⟨x, hx, hxt⟩ := dstOf_some hpt
          rw [ho] at hx
          cases hx
          exact absurd hxt ht
        . exact .inl ⟨p, h, hpd, hpt⟩
      . exact .inr ⟨v', a, b.mono hle⟩
 have hL' : LoadP P H tm ops done π := fun p hp => hL p (List.mem_cons_of_mem _ hp)
 have hprom : ∀ p, p ∈ π -> p ∈ done -> ∀ o', ops[p]? = some o' -> Prom P φ H tm ops κ lo hi p o' := fun p hp => hD.prom p (List.mem_cons_of_mem _ hp)
 rcases hD.prom q (by simp) hq o ho with ⟨hw, hu⟩ | ⟨hw, hrd, u, hu, hnl⟩ | ⟨hw, hal, e, l, mk, hz, hk, hkb, hlo, hhi, hu⟩
 . exact ⟨φ, _, w, step_not ho (hgd _ hw), φ.le_refl, hH, rfl, fun _ _ h => h, rest φ undef undef φ.le_refl hu (.flat _ rfl) hprom, hL', putA_size _ _ _⟩
 . have hr : ∃ u, rd P H tm o = some u /\ ∀ d, o.dst = some d -> tm.get (bits d) = some u := by
    cases hl : isLd o.op with
    | false => exact ⟨u, hnl hl, hu⟩
    | true => exact hL q (by simp) hq o ho hl hw
   obtain ⟨u, hr, hu⟩ := hr
   obtain ⟨u', hv, hrun⟩ := rd_sound hH hop hr
   exact ⟨φ, _, w, step_value ho (hgd _ hw) hrun, φ.le_refl, hH, rfl, fun _ _ h => h, rest φ u u' φ.le_refl hu hv hprom, hL', putA_size _ _ _⟩
 . obtain ⟨l', mk', hLR, hrun, hmk⟩ := al_run hop hz
   have hob := newOB_R (P := P) (W := W) (w := w) hLR e e #[] (es := (szOf P e).getD 0) (fun y hy => by rw [hy]; rfl) hH.below
   rw [Array.append_empty] at hob
   have hb := hH.bind hk hkb (.cells l'.toArray e) hob
   refine ⟨_, _, _, step_value ho (hgd _ hw) hrun, set_le hk _, hb, by simp, fun j hj h => ?_, rest _ (mk (κ q)) _ (set_le hk _) hu (hmk _ _ _ (set_get hk _)) ?_, hL', putA_size _ _ _⟩
   . rw [List.getElem?_set_ne (by omega)]; exact h
   . intro p hp hpd o' ho'
     rcases hprom p hp hpd o' ho' with h | h | ⟨hw', hal', e', l', mk2, hz'', hk', hkb', hlo', hhi', hu'⟩
     . exact .inl h
     . exact .inr (.inl h)
     . refine .inr (.inr ⟨hw', hal', e', l', mk2, hz'', ?_, hkb', hlo', hhi', hu'⟩)
       rw [List.getElem?_set_ne]
       . exact hk'
       . intro heq
         have := hD.inj q p (by simp) hq (List.mem_cons_of_mem _ hp) hpd o o' ho ho' hal hal' hw hw' heq
         subst this
         exact hnq hp
theorem run_pend : ∀ (π : List Nat) (φ : Phi) (tmps : Array Value) (w : World), HR P W φ (hp H) w -> DrawC P φ H tm tmps ops done lds pl π κ lo hi -> LoadP P H tm ops done π ->
 ∃ φ' tmps' w' π', Steps P (lone (mkF fn tmps (.inRegion ops π :: k)) cs w) (lone (mkF fn tmps' (.inRegion ops π' :: k)) cs w') /\
   φ.le φ' /\ HR P W φ' (hp H) w' /\ φ'.length = φ.length /\ (∀ j, j < lo -> φ[j]? = some none -> φ'[j]? = some none) /\
   DrawC P φ' H tm tmps' ops done lds pl π' κ lo hi /\ LoadP P H tm ops done π' /\ tmps'.size = tmps.size /\ (∀ q l, π' = q :: l -> q ∉ done)
 | [], φ, tmps, w, hH, hD, hL => ⟨φ, tmps, w, [], .refl _ _, φ.le_refl, hH, rfl, fun _ _ h => h, hD, hL, rfl, fun q l h => by cases h⟩
 | q :: π, φ, tmps, w, hH, hD, hL => by
   by_cases hq : q ∈ done
   . obtain ⟨φ1, tmps1, w1, hs, hle, hH1, hl1, hk1, hD1, hL1, hz1⟩ := exec_pend (fn := fn) (k := k) (cs := cs) hH hD hL hq
     obtain ⟨φ2, tmps2, w2, π2, hs2, hle2, hH2, hl2, hk2, hD2, hL2, hz2, hn2⟩ := run_pend π φ1 tmps1 w1 hH1 hD1 hL1
     exact ⟨φ2, tmps2, w2, π2, .head hs hs2, Phi.le_trans hle hle2, hH2, hl2.trans hl1, fun j hj h => hk2 j hj (hk1 j hj h), hD2, hL2, hz2.trans hz1, hn2⟩
   . exact ⟨φ, tmps, w, q :: π, .refl _ _, φ.le_refl, hH, rfl, fun _ _ h => h, hD, hL, rfl, fun q' l h => by cases h; exact hq⟩
end
end
end Go.Ev
/- The steps of a region with a draw. -/
namespace Go.Ev
noncomputable section
open Go.RowKit (Below)
variable {P : Program} {W w : World} {φ φ' : Phi} {H H' : T OB} {tm : T Value} {tmps : Array Value} {ops : Array Oper}
variable {done lds : List Nat} {pl : List (Nat × List Nat)} {π : List Nat} {κ : Nat -> Nat} {lo hi : Nat}
theorem ext_at {β : Type} {F : Option OB -> Option β} (hF : F none = none) {b : Nat} {u : β} (hext : ∀ k ob, hp H k = some ob -> hp H' k = some ob) (h : F (H.get (bits b)) = some u) : H'.get (bits b) = H.get (bits b) := by
 cases hg : H.get (bits b) with
 | none => rw [hg, hF] at h; cases h
 | some ob => exact hext b ob hg
theorem ext_bool {F : Option OB -> Bool} (hF : F none = false) {b : Nat} (hext : ∀ k ob, hp H k = some ob -> hp H' k = some ob) (h : F (H.get (bits b)) = true) : H'.get (bits b) = H.get (bits b) := by
 cases hg : H.get (bits b) with
 | none => rw [hg, hF] at h; cases h
 | some ob => exact hext b ob hg
theorem isCells_ext {b : Nat} (hext : ∀ k ob, hp H k = some ob -> hp H' k = some ob) (h : isCells H b = true) : isCells H' b = true := by
 unfold isCells at h ⊢
 rw [ext_bool (F := fun x => cellsK x (fun _ _ _ => true) false) rfl hext h]
 exact h
theorem rd_ext {o : Oper} {u : Value} (hext : ∀ k ob, hp H k = some ob -> hp H' k = some ob) (h : rd P H tm o = some u) : rd P H' tm o = some u := by
 cases hl : isLd o.op with
 | false => rw [rd_heap hl]; exact h
 | true =>
   unfold rd at h ⊢
   cases ho : o.op with
   | load t x =>
     simp only [ho] at h ⊢
     unfold rdLoad at h ⊢
     split at h
     . rename_i b off _
       unfold loadO at h ⊢
       rw [ext_at (F := fun x => rowK x (fun n tr => loadB P n tr t off) none) rfl hext h]
       exact h
     . exact h
     . cases h
   | slice t x lo hi mx =>
     simp only [ho] at h ⊢
     unfold rdSlice at h ⊢
     split at h
     . rename_i b off len cap hx
       obtain ⟨hm, h⟩ := bif_inv h
       rw [hm]
       obtain ⟨s, hs, h3⟩ := optK_inv h
       obtain ⟨l, hl, h3⟩ := optK_inv h3
       obtain ⟨hh, hhi, h3⟩ := optK_inv h3
       simp only [cond_true, hs, optK_some, hl, hhi]
       cases hc : Nat.beq cap unk with
       | false => rw [hc] at h3; exact h3
       | true =>
         rw [hc] at h3
         have h3 : sliceU P H b off len s l hh = some u := h3
         show sliceU P H' b off len s l hh = some u
         unfold sliceU at h3 ⊢
         obtain ⟨h4, h5⟩ := bif_inv h3
         rw [h4]
         cases h6 : Nat.beq l 0 with
         | true => rw [h6] at h5; exact h5
         | false =>
           rw [h6] at h5
           obtain ⟨h7, h8⟩ := bif_inv (show (bif Nat.blt l len && esIs P H b s then natF (Nat.sub hh l) (fun n => natF (Nat.add off (Nat.mul l s)) fun o => some (Value.slice (some ⟨b, o, none⟩) n unk)) else none) = some u from h5)
           simp only [Bool.and_eq_true] at h7
           have h9 : esIs P H' b s = true := by
            have h9 := h7.2
            unfold esIs at h9 ⊢
            rw [ext_bool (F := fun x => cellsK x (fun _ _ el => optK (szOf P el) (fun z => Nat.beq z s) false) false) rfl hext h9]
            exact h9
           show (bif Nat.blt l len && esIs P H' b s then natF (Nat.sub hh l) (fun n => natF (Nat.add off (Nat.mul l s)) fun o => some (Value.slice (some ⟨b, o, none⟩) n unk)) else none) = some u
           rw [h7.1, h9]
           exact h8
     . exact h
     . exact h
     . cases h
   | lookup t m k ok =>
     simp only [ho] at h ⊢
     have h : rdLookup P H t (eva P tm m) (eva P tm k) ok = some u := h
     show rdLookup P H' t (eva P tm m) (eva P tm k) ok = some u
     have he : esOf H' (eva P tm m) = esOf H (eva P tm m) := by
      unfold rdLookup at h
      obtain ⟨kt, et, d, _, _, _, h⟩ := mapTK_inv h
      obtain ⟨es, hes, _⟩ := optK_inv h
      unfold esOf at hes ⊢
      split at hes
      . rfl
      . rename_i b
        rw [ext_at (F := fun x => match x with | some (.map es _) => some es | _ => none) rfl hext hes]
      . cases hes
     unfold rdLookup at h ⊢
     rw [he]
     exact h
   | convert s d x =>
     simp only [ho] at h ⊢
     unfold rdConv at h ⊢
     split at h
     . rename_i b off n cp hx
       obtain ⟨h1, h2⟩ := bif_inv h
       rw [h1]
       show rowK (H'.get (bits b)) _ none = some u
       rw [ext_at (F := fun x => rowK x (fun m tr => bif Nat.ble (off + n) m then optK (toL tr n off) (fun l => optK (strOf l) (fun r => some (Value.string ⟨⟨r⟩⟩)) none) none else none) none) rfl hext h2]
       exact h2
     . exact h
     . cases h
   | binOp op t x y yt =>
     simp only [ho] at h ⊢
     unfold rdBin at h ⊢
     obtain ⟨a, ha, h⟩ := optK_inv h
     obtain ⟨b, hb, h⟩ := optK_inv h
     rw [ha, hb]
     simp only [optK_some]
     have two : ∀ a b, rdBin2 P H op t (isK x || isK y) a b = some u -> rdBin2 P H' op t (isK x || isK y) a b = some u := fun a b h => by
      unfold rdBin2 at h ⊢
      cases hf : flat a && flat b with
      | true => rw [hf] at h; exact h
      | false =>
        rw [hf] at h
        have h : rdPtr P H op t a b = some u := h
        show rdPtr P H' op t a b = some u
        unfold rdPtr at h ⊢
        split at h
        . split at h
          . obtain ⟨hc, h⟩ := bif_inv h
            simp only [Bool.and_eq_true] at hc
            rw [isCells_ext hext hc.1, isCells_ext hext hc.2]
            exact h
          . cases h
        . exact h
     unfold rdBin1 at h ⊢
     split at h
     . unfold rdAgg at h ⊢
       split at h
       . exact h
       . exact two _ _ h
     . exact two _ _ h
   | _ => rw [ho] at hl; cases hl
theorem okPlan_cons {an : List Nat} {i : Nat} {chk : List Nat} {rest : List (Nat × List Nat)} (h : okPlan ops an done lds ((i, chk) :: rest) = true) :
 ∃ o, ops[i]? = some o /\ i ∉ done /\ readyIn ops done o = true /\
   (fore an i o = true -> okPlan ops an (i :: done) (if isLd o.op = true then i :: lds else lds) rest = true) /\
   (fore an i o = false -> (isRd o.op = true -> chk = []) /\ (∀ j ∈ rest, ∀ q, ops[j.1]? = some q -> readyIn ops done q = false) /\ (∀ p ∈ lds, p ∈ chk \/ p ∈ ancs ops i) /\ okPlan ops an (i :: done) chk rest = true) := by
 unfold okPlan at h
 cases ho : ops[i]? with
 | none => simp only [ho] at h; cases h
 | some o =>
   simp only [ho, Bool.and_eq_true, Bool.not_eq_true'] at h
   obtain ⟨⟨h1, h2⟩, h3⟩ := h
   refine ⟨o, rfl, fun q => ?_, h2, fun hc => ?_, fun hc => ?_⟩
   . have : done.contains i = true := by simpa using q
     rw [h1] at this
     cases this
   . rw [if_pos hc] at h3; exact h3
   . rw [if_neg (by rw [hc]; decide)] at h3
     simp only [Bool.and_eq_true] at h3
     refine ⟨fun hr => by simpa [hr] using h3.1.1.1, fun j hj q hq => ?_, fun p hp => ?_, h3.2⟩
     . have := List.all_eq_true.1 h3.1.1.2 j hj
       rw [hq] at this
       simpa using this
     . have := List.all_eq_true.1 h3.1.2 p hp
       simpa using this
theorem okPlan_all {an : List Nat} : ∀ (pl : List (Nat × List Nat)) (done lds : List Nat), okPlan ops an done lds pl = true -> ∀ i, i < ops.size -> i ∈ done \/ ∃ c, (i, c) ∈ pl
 | [], done, lds, h, i, hi => by
   unfold okPlan at h
   have := List.all_eq_true.1 h i (List.mem_range.2 hi)
   exact .inl (by simpa using this)
 | (j, chk) :: rest, done, lds, h, i, hi => by
   obtain ⟨o, _, _, _, h1, h2⟩ := okPlan_cons h
   have key : ∀ lds', okPlan ops an (j :: done) lds' rest = true -> i ∈ done \/ ∃ c, (i, c) ∈ (j, chk) :: rest := fun lds' hh => by
    rcases okPlan_all rest (j :: done) lds' hh i hi with h | ⟨c, h⟩
    . rcases List.mem_cons.1 h with h | h
      . subst h; exact .inr ⟨chk, by simp⟩
      . exact .inl h
    . exact .inr ⟨c, List.mem_cons_of_mem _ h⟩
   cases hc : fore an j o with
   | true => exact key _ (h1 hc)
   | false => exact key _ (h2 hc).2.2.2
theorem readyIn_iff {o : Oper} : readyIn ops done o = true ↔ ∀ e ∈ o.after, Region.binds .any e = true -> e.on ∈ done := by
 unfold readyIn
 rw [List.all_eq_true]
 constructor
 . intro h e he hb
   have := h e (by simpa using he)
   simpa [hb] using this
 . intro h e he
   cases hb : Region.binds .any e with
   | false => rfl
   | true => simpa using h e (by simpa using he) hb
theorem not_looked {i p : Nat} (hna : i ∉ antis ops) {o op : Oper} (ho : ops[i]? = some o) (hp : ops[p]? = some op) (hr : readyIn ops done op = true) (hi : i ∉ done) {d : Tmp} (hd : o.dst = some d) : d ∉ op.looksAt ops := fun hl => by
 obtain ⟨e, he, hb, hon⟩ := direct_iff.1 (not_anti hna hp ho hd hl)
 exact hi (hon ▸ readyIn_iff.1 hr e he hb)
theorem not_looked' (hs : saOk ops = true) {i p : Nat} {o op : Oper} (ho : ops[i]? = some o) (hp : ops[p]? = some op) (hr : readyIn ops done op = true) (hi : i ∉ done) (hdeps : ∀ e ∈ o.after, Region.binds .any e = true -> e.on ≠ p) {d : Tmp} (hd : o.dst = some d) : d ∉ op.looksAt ops := fun hl => by
 rcases sa_reads hs hp ho hd hl with h | h
 . obtain ⟨e, he, hb, hon⟩ := direct_iff.1 h
   exact hi (hon ▸ readyIn_iff.1 hr e he hb)
 . obtain ⟨e, he, hb, hon⟩ := direct_iff.1 h
   exact hdeps e he hb hon
theorem stable_w {i p : Nat} {o op : Oper} {u : Value} (hl : ∀ d, o.dst = some d -> d ∉ op.looksAt ops) : wantedO (tmPut tm o.dst u) ops op = wantedO tm ops op :=
 wantedO_congr fun g hg d hd => by
  rw [get_tmPut, if_neg]
  exact fun q => hl d q (looks_guard hg hd)
theorem stable_rd {o op : Oper} {u : Value} (hl : ∀ d, o.dst = some d -> d ∉ op.looksAt ops) : rd P H (tmPut tm o.dst u) op = rd P H tm op :=
 rd_congr fun x hx => eva_tmPut tm o.dst u x fun d hd q => by
  subst q
  exact hl d hd (looks_op hx)
theorem stable_get {i p : Nat} {o op : Oper} {u : Value} (hs : saOk ops = true) (ho : ops[i]? = some o) (hp : ops[p]? = some op) (hne : i ≠ p) {d : Tmp} (hd : op.dst = some d) :
 (tmPut tm o.dst u).get (bits d) = tm.get (bits d) := by
 rw [get_tmPut, if_neg (sa_dst hs ho hp hd hne)]
theorem Prom.next {i p : Nat} {o op : Oper} {u : Value} {κ' : Nat -> Nat} {hi' : Nat} (hs : saOk ops = true) (ho : ops[i]? = some o) (hp' : ops[p]? = some op) (hne : i ≠ p)
 (hl : ∀ d, o.dst = some d -> d ∉ op.looksAt ops) (hk : ∀ k, k < hi -> φ[k]? = some none -> φ'[k]? = some none /\ hp H' k = hp H k) (hκ : κ' p = κ p) (hhi : hi <= hi')
 (h : Prom P φ H tm ops κ lo hi p op) : Prom P φ' H' (tmPut tm o.dst u) ops κ' lo hi' p op := by
 have e1 : wantedO (tmPut tm o.dst u) ops op = wantedO tm ops op := stable_w (i := i) (p := p) hl
 have e2 : ∀ d, op.dst = some d -> (tmPut tm o.dst u).get (bits d) = tm.get (bits d) := fun d hd => stable_get hs ho hp' hne hd
 rcases h with ⟨h1, h2⟩ | ⟨h1, h2, v, h3, h4⟩ | ⟨h1, hal, e, l, mk, h3, h4, h5, h6, h7, h8⟩
 . exact .inl ⟨e1.trans h1, fun d hd => (e2 d hd).trans (h2 d hd)⟩
 . exact .inr (.inl ⟨e1.trans h1, h2, v, fun d hd => (e2 d hd).trans (h3 d hd), fun q => by rw [stable_rd hl, rd_heap q]; exact h4 q⟩)
 . refine .inr (.inr ⟨e1.trans h1, hal, e, l, mk, alR_congr (fun x hx => eva_tmPut tm o.dst u x fun d hd q => by
    subst q
    exact hl d hd (looks_op hx)) h3, ?_, ?_, ?_, ?_, fun d hd => ?_⟩)
   . rw [hκ]; exact (hk _ h7 h4).1
   . rw [hκ]; exact (hk _ h7 h4).2.trans h5
   . rw [hκ]; exact h6
   . rw [hκ]; omega
   . rw [hκ]; exact (e2 d hd).trans (h8 d hd)
theorem acyclic_self (hac : acyclic ops = true) {i : Nat} {o : Oper} (ho : ops[i]? = some o) : direct o i = false := by
 cases h : direct o i with
 | false => rfl
 | true =>
   obtain ⟨e, he, hb, hon⟩ := direct_iff.1 h
   have h1 := List.all_eq_true.1 hac i (List.mem_range.2 (Array.getElem?_eq_some_iff.1 ho).1)
   rw [ho] at h1
   have h2 := List.all_eq_true.1 h1 e (by simpa using he)
   simp only [hb, Bool.not_true, Bool.false_or] at h2
   have := blt_lt h2
   omega
theorem not_self (hs : saOk ops = true) (hac : acyclic ops = true) {i : Nat} {o : Oper} (ho : ops[i]? = some o) {d : Tmp} (hd : o.dst = some d) : d ∉ o.looksAt ops := fun hl => by
 have := (sa_reads hs ho ho hd hl).elim id id
 rw [acyclic_self hac ho] at this
 cases this
theorem DrawC.take {i : Nat} {o : Oper} {chk : List Nat} {rest : List (Nat × List Nat)} (hD : DrawC P φ H tm tmps ops done lds ((i, chk) :: rest) π κ lo hi) (ho : ops[i]? = some o)
 (hna : i ∉ antis ops) (hni : i ∉ done) (hrdy : readyIn ops done o = true) {lds' : List Nat} (hplan : okPlan ops (anOf ops) (i :: done) lds' rest = true) (hsub : ∀ p ∈ lds, p ∈ lds') (hself : isLd o.op = true -> i ∈ lds')
 {κ' : Nat -> Nat} {hi' : Nat} (hle : φ.le φ') (hk : ∀ k, k < hi -> φ[k]? = some none -> φ'[k]? = some none /\ hp H' k = hp H k) (hκ : ∀ p, p ≠ i -> κ' p = κ p) (hhi : hi <= hi') {u : Value}
 (hdst : ∀ d, o.dst = some d -> d < tmps.size) (hprom : Prom P φ' H' (tmPut tm o.dst u) ops κ' lo hi' i o) (hfresh : isAl o.op = true -> hi <= κ' i) :
 DrawC P φ' H' (tmPut tm o.dst u) tmps ops (i :: done) lds' rest π κ' lo hi' := by
 have hisz : i < ops.size := (Array.getElem?_eq_some_iff.1 ho).1
 have hiπ : i ∈ π := hD.todo i hisz hni
 have nl : ∀ p, p ∈ done -> ∀ op, ops[p]? = some op -> ∀ d, o.dst = some d -> d ∉ op.looksAt ops := fun p hpd op hp d hd => not_looked hna ho hp (hD.ready p hpd op hp) hni hd
 have hlt : ∀ q, q ∈ π -> q ∈ done -> ∀ o', ops[q]? = some o' -> isAl o'.op = true -> wantedO tm ops o' = some true -> κ q < hi := fun q hq hqd o' ho' hal hw => by
  rcases hD.prom q hq hqd o' ho' with ⟨h1, _⟩ | ⟨_, h2, _⟩ | ⟨_, _, _, _, _, _, _, _, _, h7, _⟩
  . rw [hw] at h1; cases h1
  . rw [isAl_rd hal] at h2; cases h2
  . exact h7
 refine ⟨hD.sa, hD.ac, hplan, hD.lin, fun j hj hn => hD.todo j hj (fun q => hn (List.mem_cons_of_mem _ q)), hD.closed, fun j hj x hx => ?_, fun t v hv => ?_, fun j x d hx hxd hj => ?_, fun p hp hpd op hop => ?_, fun p hp hpd op hop hl => ?_, fun p q hp hpd hq hqd x y hx hy hxa hya hxw hyw heq => ?_, fun p hp hpd => (List.mem_cons.1 hpd).elim (fun h => h ▸ hna) (hD.own p hp)⟩
 . rw [readyIn_iff]
   intro e he hb
   rcases List.mem_cons.1 hj with h | h
   . subst h
     rw [ho] at hx
     cases hx
     exact List.mem_cons_of_mem _ (readyIn_iff.1 hrdy e he hb)
   . exact List.mem_cons_of_mem _ (readyIn_iff.1 (hD.ready j h x hx) e he hb)
 . rw [get_tmPut] at hv
   by_cases ht : o.dst = some t
   . refine .inl ⟨i, hiπ, by simp, ?_⟩
     unfold dstOf
     rw [ho]
     exact ht
   . rw [if_neg ht] at hv
     rcases hD.tr t v hv with ⟨p, h1, h2, h3⟩ | ⟨v', a, b⟩
     . exact .inl ⟨p, h1, List.mem_cons_of_mem _ h2, h3⟩
     . exact .inr ⟨v', a, b.mono hle⟩
 . rcases List.mem_cons.1 hj with h | h
   . subst h; rw [ho] at hx; cases hx; exact hdst d hxd
   . exact hD.dsts j x d hx hxd h
 . rcases List.mem_cons.1 hpd with h | h
   . subst h; rw [ho] at hop; cases hop; exact hprom
   . have hne : i ≠ p := fun q => hni (q ▸ h)
     exact (hD.prom p hp h op hop).next hD.sa ho hop hne (nl p h op hop) hk (hκ p (Ne.symm hne)) hhi
 . rcases List.mem_cons.1 hpd with h | h
   . subst h; rw [ho] at hop; cases hop; exact hself hl
   . exact hsub p (hD.lds p hp h op hop hl)
 . have wst : ∀ p, p ∈ done -> ∀ x, ops[p]? = some x -> wantedO (tmPut tm o.dst u) ops x = some true -> wantedO tm ops x = some true := fun p hpd x hx h => by
    rw [stable_w (i := i) (p := p) (nl p hpd x hx)] at h; exact h
   rcases List.mem_cons.1 hpd with h | h <;> rcases List.mem_cons.1 hqd with h' | h'
   . rw [h, h']
   . have hne : q ≠ i := fun z => hni (z ▸ h')
     rw [hκ q hne, h] at heq
     rw [h] at hx
     rw [ho] at hx
     cases hx
     have := hfresh hxa
     have := hlt q hq h' y hy hya (wst q h' y hy hyw)
     omega
   . have hne : p ≠ i := fun z => hni (z ▸ h)
     rw [hκ p hne, h'] at heq
     rw [h'] at hy
     rw [ho] at hy
     cases hy
     have := hfresh hya
     have := hlt p hp h x hx hxa (wst p h x hx hxw)
     omega
   . have hne : p ≠ i := fun z => hni (z ▸ h)
     have hne' : q ≠ i := fun z => hni (z ▸ h')
     rw [hκ p hne, hκ q hne'] at heq
     exact hD.inj p q hp h hq h' x y hx hy hxa hya (wst p h x hx hxw) (wst q h' y hy hyw) heq
theorem LoadP.take {i : Nat} {o : Oper} (hs : saOk ops = true) (hready : ∀ i, i ∈ done -> ∀ o, ops[i]? = some o -> readyIn ops done o = true) (ho : ops[i]? = some o) (hna : i ∉ antis ops) (hni : i ∉ done) (hL : LoadP P H tm ops done π)
 (hext : ∀ k ob, hp H k = some ob -> hp H' k = some ob) {u : Value} (hself : isLd o.op = true -> wantedO (tmPut tm o.dst u) ops o = some true -> rd P H' (tmPut tm o.dst u) o = some u) :
 LoadP P H' (tmPut tm o.dst u) ops (i :: done) π := by
 intro p hp hpd op hop hl hw
 rcases List.mem_cons.1 hpd with h | h
 . subst h
   rw [ho] at hop
   cases hop
   refine ⟨u, hself hl hw, fun d hd => ?_⟩
   rw [get_tmPut, if_pos hd]
 . have nl : ∀ d, o.dst = some d -> d ∉ op.looksAt ops := fun d hd => not_looked hna ho hop (hready p h op hop) hni hd
   have hne : i ≠ p := fun q => hni (q ▸ h)
   rw [stable_w (i := i) (p := p) nl] at hw
   obtain ⟨v, h1, h2⟩ := hL p hp h op hop hl hw
   refine ⟨v, ?_, fun d hd => ?_⟩
   . rw [stable_rd nl]; exact rd_ext hext h1
   . rw [stable_get hs ho hop hne hd]; exact h2 d hd
theorem anc_out {L : List Nat} (hcl : ∀ i, i ∉ L -> ∀ o, ops[i]? = some o -> ∀ e ∈ o.after, Region.binds .any e = true -> e.on ∉ L) : ∀ (q : Nat) (acc : List Nat), (∀ x ∈ acc, x ∉ L) -> ∀ x ∈ ancGo ops q acc, x ∉ L
 | 0, acc, h, x, hx => h x hx
 | q + 1, acc, h, x, hx => by
   unfold ancGo at hx
   split at hx
   . rename_i hc
     split at hx
     . rename_i o ho
       refine anc_out hcl q _ ?_ x hx
       have hq : q ∉ L := h q (by simpa using hc)
       have : ∀ (es : List Edge) (acc : List Nat), (∀ e ∈ es, e ∈ o.after) -> (∀ x ∈ acc, x ∉ L) -> ∀ x ∈ es.foldl (fun l e => if Region.binds .any e = true then e.on :: l else l) acc, x ∉ L := by
        intro es
        induction es with
        | nil => exact fun acc _ h => h
        | cons e es ih =>
          intro acc hes h
          refine ih _ (fun e' he' => hes e' (List.mem_cons_of_mem _ he')) ?_
          dsimp only
          split
          . rename_i hb
            intro x hx
            rcases List.mem_cons.1 hx with hx | hx
            . subst hx; exact hcl q hq o ho e (hes e (by simp)) hb
            . exact h x hx
          . exact h
       exact this _ _ (fun e he => by simpa using he) h
     . exact anc_out hcl q _ h x hx
   . exact anc_out hcl q _ h x hx
theorem ancs_out {i : Nat} {π : List Nat} (hlin : LinOk ops (i :: π)) (hcl : ∀ j, j ∉ i :: π -> ∀ o, ops[j]? = some o -> ∀ e ∈ o.after, Region.binds .any e = true -> e.on ∉ i :: π) :
 ∀ x ∈ ancs ops i, x ∉ i :: π := by
 obtain ⟨⟨o, ho, hdeps⟩, _⟩ := hlin
 unfold ancs
 rw [ho]
 refine anc_out hcl i _ ?_
 have : ∀ (es : List Edge) (acc : List Nat), (∀ e ∈ es, e ∈ o.after) -> (∀ x ∈ acc, x ∉ i :: π) -> ∀ x ∈ es.foldl (fun l e => if Region.binds .any e = true then e.on :: l else l) acc, x ∉ i :: π := by
  intro es
  induction es with
  | nil => exact fun acc _ h => h
  | cons e es ih =>
    intro acc hes h
    refine ih _ (fun e' he' => hes e' (List.mem_cons_of_mem _ he')) ?_
    dsimp only
    split
    . rename_i hb
      intro x hx
      rcases List.mem_cons.1 hx with hx | hx
      . subst hx; exact hdeps e (hes e (by simp)) hb
      . exact h x hx
    . exact h
 exact this _ _ (fun e he => by simpa using he) (fun x hx => by cases hx)
theorem DrawC.finish {i : Nat} {o : Oper} {chk : List Nat} {rest : List (Nat × List Nat)} (hD : DrawC P φ H tm tmps ops done lds ((i, chk) :: rest) (i :: π) κ lo hi) (ho : ops[i]? = some o)
 (hE : fore (anOf ops) i o = false) {hi' : Nat} (hle : φ.le φ') (hk : ∀ k, k < hi -> φ[k]? = some none -> φ'[k]? = some none /\ hp H' k = hp H k) (hhi : hi <= hi') {u u' : Value} (hu : VR φ' u u')
 (hdst : ∀ d, o.dst = some d -> d < tmps.size) (hchk : chk.all (held P H' (tmPut tm o.dst u) ops) = true) :
 DrawC P φ' H' (tmPut tm o.dst u) (putA tmps o.dst u') ops (i :: done) chk rest π κ lo hi' /\ LoadP P H' (tmPut tm o.dst u) ops (i :: done) π := by
 obtain ⟨o', ho', hni, hrdy, _, hpl⟩ := okPlan_cons hD.plan
 rw [ho] at ho'
 cases ho'
 obtain ⟨_, _, hlds, hplan⟩ := hpl hE
 obtain ⟨⟨o', ho', hdeps⟩, hnπ, hlin⟩ := hD.lin
 rw [ho] at ho'
 cases ho'
 have hanc := ancs_out hD.lin hD.closed
 have nl : ∀ p, p ∈ π -> p ∈ done -> ∀ op, ops[p]? = some op -> ∀ d, o.dst = some d -> d ∉ op.looksAt ops := fun p hpπ hpd op hp d hd => not_looked' hD.sa ho hp (hD.ready p hpd op hp) hni (fun e he hb q => hdeps e he hb (by rw [q]; exact List.mem_cons_of_mem _ hpπ)) hd
 have pd : ∀ p, p ∈ π -> p ∈ i :: done -> p ∈ done := fun p hp hpd => (List.mem_cons.1 hpd).resolve_left (fun q => hnπ (q ▸ hp))
 have inchk : ∀ p, p ∈ π -> p ∈ done -> ∀ op, ops[p]? = some op -> isLd op.op = true -> p ∈ chk := fun p hp hpd op hop hl =>
  (hlds p (hD.lds p (List.mem_cons_of_mem _ hp) hpd op hop hl)).resolve_right (fun q => hanc p q (List.mem_cons_of_mem _ hp))
 refine ⟨⟨hD.sa, hD.ac, hplan, hlin, fun j hj hn => ?_, fun j hj x hx e he hb => ?_, fun j hj x hx => ?_, ?_, fun j x d hx hxd hj => ?_, fun p hp hpd op hop => ?_, fun p hp hpd op hop hl => inchk p hp (pd p hp hpd) op hop hl, fun p q hp hpd hq hqd x y hx hy hxa hya hxw hyw heq => ?_, fun p hp hpd => hD.own p (List.mem_cons_of_mem _ hp) (pd p hp hpd)⟩, ?_⟩
 . rcases List.mem_cons.1 (hD.todo j hj (fun q => hn (List.mem_cons_of_mem _ q))) with h | h
   . subst h; exact absurd (List.mem_cons_self ..) hn
   . exact h
 . by_cases hji : j = i
   . subst hji
     rw [ho] at hx
     cases hx
     exact fun h => hdeps e he hb (List.mem_cons_of_mem _ h)
   . exact fun h => hD.closed j (fun h => (List.mem_cons.1 h).elim hji hj) x hx e he hb (List.mem_cons_of_mem _ h)
 . rw [readyIn_iff]
   intro e he hb
   rcases List.mem_cons.1 hj with h | h
   . subst h
     rw [ho] at hx
     cases hx
     exact List.mem_cons_of_mem _ (readyIn_iff.1 hrdy e he hb)
   . exact List.mem_cons_of_mem _ (readyIn_iff.1 (hD.ready j h x hx) e he hb)
 . refine (hD.tr.mono hle).put hdst hu fun t ht hne => ?_
   obtain ⟨p, h1, h2, h3⟩ := ht
   rcases List.mem_cons.1 h1 with h | h
   . subst h; exact absurd h2 hni
   . exact ⟨p, h, List.mem_cons_of_mem _ h2, h3⟩
 . rw [putA_size]
   rcases List.mem_cons.1 hj with h | h
   . subst h; rw [ho] at hx; cases hx; exact hdst d hxd
   . exact hD.dsts j x d hx hxd h
 . have hpd := pd p hp hpd
   have hne : i ≠ p := fun q => hni (q ▸ hpd)
   exact (hD.prom p (List.mem_cons_of_mem _ hp) hpd op hop).next hD.sa ho hop hne (nl p hp hpd op hop) hk rfl hhi
 . have hpd := pd p hp hpd
   have hqd := pd q hq hqd
   have wst : ∀ p, p ∈ π -> p ∈ done -> ∀ x, ops[p]? = some x -> wantedO (tmPut tm o.dst u) ops x = some true -> wantedO tm ops x = some true := fun p hpπ hpd x hx h => by
    rw [stable_w (i := i) (p := p) (nl p hpπ hpd x hx)] at h; exact h
   exact hD.inj p q (List.mem_cons_of_mem _ hp) hpd (List.mem_cons_of_mem _ hq) hqd x y hx hy hxa hya (wst p hp hpd x hx hxw) (wst q hq hqd y hy hyw) heq
 . intro p hp hpd op hop hl hw
   have hpd := pd p hp hpd
   have h1 := List.all_eq_true.1 hchk p (inchk p hp hpd op hop hl)
   unfold held at h1
   rw [hop] at h1
   have h1 : heldW P H' (tmPut tm o.dst u) op (wantedO (tmPut tm o.dst u) ops op) = true := h1
   rw [hw] at h1
   have h1 : optK (rd P H' (tmPut tm o.dst u) op) (heldV (tmPut tm o.dst u) op.dst) false = true := h1
   cases hr : rd P H' (tmPut tm o.dst u) op with
   | none => rw [hr] at h1; cases h1
   | some v =>
     rw [hr] at h1
     have h1 : heldV (tmPut tm o.dst u) op.dst v = true := h1
     refine ⟨v, rfl, fun d hd => ?_⟩
     unfold heldV at h1
     rw [hd] at h1
     cases hg : (tmPut tm o.dst u).get (bits d) with
     | none => simp only [hg] at h1; cases h1
     | some v2 =>
       simp only [hg] at h1
       rw [vEq_sound h1]
theorem DrawC.head {i : Nat} {o : Oper} {chk : List Nat} {rest : List (Nat × List Nat)} (hD : DrawC P φ H tm tmps ops done lds ((i, chk) :: rest) π κ lo hi) (ho : ops[i]? = some o)
 (hE : fore (anOf ops) i o = false) (hn : ∀ q l, π = q :: l -> q ∉ done) : ∃ l, π = i :: l := by
 obtain ⟨o', ho', hni, hrdy, _, hpl⟩ := okPlan_cons hD.plan
 rw [ho] at ho'
 cases ho'
 obtain ⟨_, hrest, _, _⟩ := hpl hE
 have hi := hD.todo i (Array.getElem?_eq_some_iff.1 ho).1 hni
 cases π with
 | nil => cases hi
 | cons q l =>
   refine ⟨l, ?_⟩
   have hq := hn q l rfl
   obtain ⟨⟨oq, hoq, hdeps⟩, _, _⟩ := hD.lin
   have hqsz := (Array.getElem?_eq_some_iff.1 hoq).1
   have hqr : readyIn ops done oq = true := readyIn_iff.2 fun e he hb => by
    have h1 := hdeps e he hb
    have h2 : e.on < ops.size := by
     have h3 := List.all_eq_true.1 hD.ac q (List.mem_range.2 hqsz)
     rw [hoq] at h3
     have h4 := List.all_eq_true.1 h3 e (by simpa using he)
     simp only [hb, Bool.not_true, Bool.false_or] at h4
     have := blt_lt h4
     omega
    by_cases h5 : e.on ∈ done
    . exact h5
    . exact absurd (hD.todo e.on h2 h5) h1
   rcases okPlan_all _ _ _ hD.plan q hqsz with h | ⟨c, h⟩
   . exact absurd h hq
   . rcases List.mem_cons.1 h with h | h
     . cases h; rfl
     . have := hrest _ h oq hoq
       rw [hqr] at this
       cases this
theorem DrawC.last (hD : DrawC P φ H tm tmps ops done lds [] π κ lo hi) (hn : ∀ q l, π = q :: l -> q ∉ done) : π = [] := by
 cases π with
 | nil => rfl
 | cons q l =>
   obtain ⟨⟨oq, hoq, _⟩, _, _⟩ := hD.lin
   rcases okPlan_all _ _ _ hD.plan q (Array.getElem?_eq_some_iff.1 hoq).1 with h | ⟨c, h⟩
   . exact absurd h (hn q l rfl)
   . cases h
theorem planOf_inv {pl : List (Nat × List Nat)} (h : planOf ops = some pl) : saOk ops = true /\ acyclic ops = true /\ okPlan ops (anOf ops) [] [] pl = true := by
 unfold planOf at h
 split at h
 . cases h
 . split at h
   . rename_i hc
     cases h
     simp only [Bool.and_eq_true] at hc
     exact ⟨hc.1.1.1, hc.1.1.2, hc.2⟩
   . cases h
theorem DrawC.start {pl : List (Nat × List Nat)} (h : planOf ops = some pl) (t : Nat) (htr : TRm φ (fun _ => False) tm tmps) (lo hi : Nat) :
 DrawC P φ H tm tmps ops [] [] pl (Region.schedule true ops t) id lo hi /\ LoadP P H tm ops [] (Region.schedule true ops t) := by
 obtain ⟨h1, h2, h3⟩ := planOf_inv h
 obtain ⟨h4, h5⟩ := lin_start ops h2 t
 refine ⟨⟨h1, h2, h3, h4, fun i hi _ => h5 i hi, fun i hi o ho => absurd (h5 i (Array.getElem?_eq_some_iff.1 ho).1) hi, fun i hi => absurd hi List.not_mem_nil, fun t v hv => (htr t v hv).imp False.elim id,
  fun i o d _ _ hi => absurd hi List.not_mem_nil, fun p _ hp => absurd hp List.not_mem_nil, fun p _ hp => absurd hp List.not_mem_nil, fun p q _ hp => absurd hp List.not_mem_nil, fun p _ hp => absurd hp List.not_mem_nil⟩, fun p _ hp => absurd hp List.not_mem_nil⟩
end
end Go.Ev
/- The evaluator's calls and the model's: frames, what is held by value from some point on, the end of a call. -/
namespace Go.Ev
noncomputable section
open Go.RowKit (Below)
variable {P : Program}
def kindOf (kd : Bool) : CallKind := match kd with
 | true => .deferred
 | false => .normal
inductive DsR (P : Program) (φ : Phi) : List (FuncId × List Value) -> List Deferred -> Prop
 | nil : DsR P φ [] []
 | cons {d : FuncId × List Value} {d' : Deferred} {l : List (FuncId × List Value)} {l' : List Deferred} (h : DfR P φ d d') (hl : DsR P φ l l') : DsR P φ (d :: l) (d' :: l')
theorem DsR.mono {φ φ' : Phi} (hle : φ.le φ') {l : List (FuncId × List Value)} {l' : List Deferred} (h : DsR P φ l l') : DsR P φ' l l' := by
 induction h with
 | nil => exact .nil
 | cons h _ ih => exact .cons (h.mono hle) ih
def fbOf (c : Cg) (ds : List Deferred) : FB := ⟨c.fn, kindOf c.kd, ds⟩
def modeOf (m : Option Value) : FrameMode := match m with
 | none => .returning
 | some v => .panicking [{ v, recovered := false }]
def markC : List Frame -> List Frame
 | C :: r => (match C.mode with
   | .panicking ({ v, recovered := false, goexit := false } :: older) => { C with mode := .panicking ({ v, recovered := true } :: older) } :: r
   | _ => C :: r)
 | [] => []
def csAt (rc : Bool) (cs : List Frame) : List Frame := match rc with
 | true => markC cs
 | false => cs
def RcvR (φ : Phi) (kd : Bool) (rp : Option Value) (rc : Bool) (cs0 : List Frame) : Prop := kd = true -> match rp with
 | some v => rc = false /\ ∃ C r v' older, cs0 = C :: r /\ C.mode = .panicking ({ v := v', recovered := false, goexit := false } :: older) /\ VR φ v v'
 | none => ∀ F : Frame, F.kind = .deferred -> tryRecover F (csAt rc cs0) = none
theorem RcvR.mono {φ φ' : Phi} (hle : φ.le φ') {kd : Bool} {rp : Option Value} {rc : Bool} {cs0 : List Frame} (h : RcvR φ kd rp rc cs0) : RcvR φ' kd rp rc cs0 := fun q => by
 have := h q
 cases rp with
 | none => exact this
 | some v =>
   obtain ⟨a, C, r, v', older, b, c, d⟩ := this
   exact ⟨a, C, r, v', older, b, c, d.mono hle⟩
theorem rcv_normal {F : Frame} {cs : List Frame} (h : F.kind = .normal) : tryRecover F cs = none := by
 unfold tryRecover
 rw [h]
theorem rcv_deferred {F C : Frame} {cs : List Frame} (h : F.kind = .deferred) : tryRecover F (C :: cs) = (match C.mode with
 | .panicking ({ v, recovered := false, goexit := false } :: older) => some (v, { C with mode := .panicking ({ v, recovered := true } :: older) } :: cs)
 | _ => none) := by
 conv => lhs; unfold tryRecover
 rw [h]
 rfl
theorem rcv_mark {F : Frame} {cs : List Frame} (h : F.kind = .deferred) : tryRecover F (markC cs) = none := by
 cases cs with
 | nil => unfold tryRecover; rw [h]; rfl
 | cons C r =>
   show tryRecover F (match C.mode with
   | .panicking ({ v, recovered := false, goexit := false } :: older) => { C with mode := .panicking ({ v, recovered := true } :: older) } :: r
   | _ => C :: r) = none
   split
   . rw [rcv_deferred h]
   . rename_i hn
     rw [rcv_deferred h]
     split
     . rename_i v older q
       exact absurd q (hn v older)
     . rfl
theorem markC_run {C : Frame} {r : List Frame} (h : ∀ l, C.mode ≠ .panicking l) : markC (C :: r) = C :: r := by
 show (match C.mode with
  | .panicking ({ v, recovered := false, goexit := false } :: older) => { C with mode := .panicking ({ v, recovered := true } :: older) } :: r
  | _ => C :: r) = C :: r
 split
 . rename_i q; exact absurd q (h _)
 . rfl
theorem csAt_run {C : Frame} {r : List Frame} (rc : Bool) (h : ∀ l, C.mode ≠ .panicking l) : csAt rc (C :: r) = C :: r := by
 cases rc
 . rfl
 . exact markC_run h
def OutOK (P : Program) (φ : Phi) (o : Out) (fr : Frame) (w : World) : Prop := match o with
 | .ret v => ∃ v', VR φ v v' /\ fr.going P w (.returned v')
 | .pan v => ∃ v', VR φ v v' /\ fr.going P w (.panicked [{ v := v', recovered := false }])
variable {W w w' w1 : World} {f fn : FuncId} {cs cs0 : List Frame} {r : Rt} {fr fr' fr1 : Frame} {φ φ' φ1 : Phi} {H H' H1 : T OB} {nx nx' nx1 nt lo hi : Nat} {tm : T Value} {tmps : Array Value} {ops : Array Oper}
 {todo k : List Item} {c : Cg} {ds : List Deferred} {kd : Bool} {O : Cfg -> Option Rt}
def FinOK (P : Program) (W : World) (kd : Bool) (fn : FuncId) (lo : Nat) (cs0 : List Frame) (rc : Bool) (φ : Phi) (H : T OB) (r : Rt) (fr : Frame) (w : World) : Prop :=
 ∃ φ' w' frl, Steps P (lone fr (csAt rc cs0) w) (lone frl (csAt r.rc cs0) w') /\ φ.le φ' /\ HR P W φ' (hp r.H) w' /\ φ'.length = r.nx /\ (∀ k, k < lo -> φ[k]? = some none -> φ'[k]? = some none /\ hp r.H k = hp H k) /\
   frl.kind = kindOf kd /\ frl.fn = fn /\ OutOK P φ' r.o frl w'
theorem FinOK.steps {rc rc1 : Bool} (hs : Steps P (lone fr (csAt rc cs0) w) (lone fr1 (csAt rc1 cs0) w1)) (hle : φ.le φ1) (hk : ∀ k, k < lo -> φ[k]? = some none -> φ1[k]? = some none /\ hp H1 k = hp H k)
 (h : FinOK P W kd fn lo cs0 rc1 φ1 H1 r fr1 w1) : FinOK P W kd fn lo cs0 rc φ H r fr w := by
 obtain ⟨φ', w', frl, h1, h2, h3, h4, h5, h6, h7, h8⟩ := h
 exact ⟨φ', w', frl, hs.trans h1, Phi.le_trans hle h2, h3, h4, fun k hk' q => ⟨(h5 k hk' (hk k hk' q).1).1, (h5 k hk' (hk k hk' q).1).2.trans (hk k hk' q).2⟩, h6, h7, h8⟩
theorem FinOK.step1 {rc : Bool} (hs : Steps P (lone fr (csAt rc cs0) w) (lone fr1 (csAt rc cs0) w)) (h : FinOK P W kd fn lo cs0 rc φ H r fr1 w) : FinOK P W kd fn lo cs0 rc φ H r fr w :=
 h.steps hs φ.le_refl fun _ _ q => ⟨q, rfl⟩
theorem run_ret {a : Rt} (h : (Q.ret a).run O = some r) : a = r := by cases h; rfl
theorem run_bad (h : Q.bad.run O = some r) : False := by cases h
theorem run_ask {q : Cfg} {g : Rt -> Q} (h : (Q.ask q g).run O = some r) : ∃ a, O q = some a /\ (g a).run O = some r := by
 have h : optK (O q) (fun a => (g a).run O) none = some r := h
 exact optK_inv h
theorem run_jump {q : Cfg} (h : (Q.jump q).run O = some r) : O q = some r := h
theorem run_optK {α : Type} {x : Option α} {g : α -> Q} (h : (optK x g .bad).run O = some r) : ∃ a, x = some a /\ (g a).run O = some r := by
 cases x with
 | none => cases h
 | some a => exact ⟨a, rfl, h⟩
theorem run_bif {b : Bool} {x : Q} (h : (bif b then x else Q.bad).run O = some r) : b = true /\ x.run O = some r := by
 cases b
 . cases h
 . exact ⟨rfl, h⟩
theorem run_bK {b : Bool} {x y : Q} (h : (bK b x y).run O = some r) : (b = true /\ x.run O = some r) \/ (b = false /\ y.run O = some r) := by
 cases b
 . exact .inr ⟨rfl, h⟩
 . exact .inl ⟨rfl, h⟩
theorem run_putK {dst : Option Tmp} {v : Value} {g : T Value -> Q} (h : (putK nt tm dst v g .bad).run O = some r) : (∀ d, dst = some d -> d < nt) /\ (g (tmPut tm dst v)).run O = some r := by
 cases dst with
 | none => exact ⟨fun d hd => (by cases hd), h⟩
 | some d =>
   obtain ⟨h1, h2⟩ := run_bif (show (bif Nat.blt d nt then setK (bits d) tm (some v) g else Q.bad).run O = some r from h)
   rw [setK_set] at h2
   exact ⟨fun d' hd => by cases hd; exact blt_lt h1, h2⟩
theorem run_putB {t : Bool} {dst : Option Tmp} {v : Value} {g : T Value -> Q} (h : (putB P t nt tm dst v g).run O = some r) : (∀ d, dst = some d -> d < nt) /\ (g (tmPut tm dst v)).run O = some r := by
 unfold putB at h
 rcases run_bK h with ⟨_, h1⟩ | ⟨_, h1⟩
 . unfold bvK at h1
   split at h1
   . exact run_putK h1
   . cases h1
 . exact run_putK h1
theorem run_eff {e : Eff} {g : Value -> T OB -> Nat -> Q} (h : (effQ e g).run O = some r) : ∃ v H nx, e = .val v H nx /\ (g v H nx).run O = some r := by
 cases e with
 | val v H nx => exact ⟨v, H, nx, rfl, h⟩
 | _ => cases h
theorem run_ptrQ {x : Option Value} {g : Nat -> Nat -> Q} (h : (ptrQ x g).run O = some r) : ∃ b off, x = some (.pointer (some ⟨b, off, none⟩)) /\ (g b off).run O = some r := by
 unfold ptrQ at h
 split at h
 . exact ⟨_, _, rfl, h⟩
 . cases h
theorem run_cellsQ {x : Option OB} {g : Nat -> T Value -> TypeId -> Q} (h : (cellsQ x g).run O = some r) : ∃ n t e, x = some (.cells n t e) /\ (g n t e).run O = some r := by
 unfold cellsQ at h
 split at h
 . exact ⟨_, _, _, rfl, h⟩
 . cases h
theorem set_same {α : Type} (v : α) : ∀ (bs : List Bool) (t : T α), t.get bs = some v -> set t bs (some v) = t
 | [], .leaf, h => by cases h
 | [], .node x l r, h => by have h : x = some v := h; subst h; rfl
 | b :: bs, .leaf, h => by rw [get_leaf] at h; cases h
 | false :: bs, .node x l r, h => by rw [set_false_node, set_same v bs l h]
 | true :: bs, .node x l r, h => by rw [set_true_node, set_same v bs r h]
theorem run_guard {o : Oper} {yes no : T Value -> Q} (h : (guardQ tm ops o.guard yes no).run O = some r) : ∃ b, wantedO tm ops o = some b /\ (b = true -> (yes tm).run O = some r) /\ (b = false -> (no tm).run O = some r) := by
 unfold wantedO
 unfold guardQ at h
 split at h
 . rename_i hg
   exact ⟨true, (by first | rfl | rw [hg]), fun _ => h, fun q => (by cases q)⟩
 . rename_i p hg
   obtain ⟨d, hd, h1⟩ := run_optK h
   show ∃ b, optK (dstOf ops p.1) (fun d => yieldO tm d p.2) none = some b /\ _
   rw [hd]
   show ∃ b, yieldO tm d p.2 = some b /\ _
   unfold yieldO
   split at h1
   . rename_i x hx
     rw [setK_set, setK_set, setK_set, setK_set] at h1
     refine ⟨_, rfl, fun q => ?_, fun q => ?_⟩
     . have q : x = p.2 := by simpa using q
       subst q
       rcases run_bK h1 with ⟨h2, h3⟩ | ⟨h2, h3⟩
       . rw [h2] at h3 hx
         have h3 : (yes (set tm (bits d) (some (.bool true)))).run O = some r := h3
         rwa [set_same _ _ _ hx] at h3
       . rw [h2] at h3 hx
         have h3 : (yes (set tm (bits d) (some (.bool false)))).run O = some r := h3
         rwa [set_same _ _ _ hx] at h3
     . have q : x ≠ p.2 := by simpa using q
       rcases run_bK h1 with ⟨h2, h3⟩ | ⟨h2, h3⟩
       . have : x = false := by cases x <;> simp_all
         subst this
         have h3 : (no (set tm (bits d) (some (.bool false)))).run O = some r := h3
         rwa [set_same _ _ _ hx] at h3
       . have : x = true := by cases x <;> simp_all
         subst this
         have h3 : (no (set tm (bits d) (some (.bool true)))).run O = some r := h3
         rwa [set_same _ _ _ hx] at h3
   . rename_i x hx
     exact ⟨false, rfl, fun q => (by cases q), fun _ => h1⟩
   . cases h1
theorem le_len (hle : φ.le φ') (hk : Keep φ φ' (hp H) (hp H')) : φ.length <= φ'.length := by
 rcases Nat.eq_zero_or_pos φ.length with h | h
 . omega
 . have hlt : φ.length - 1 < φ.length := by omega
   have hq := List.getElem?_eq_getElem hlt
   cases hx : φ[φ.length - 1] with
   | none => rw [hx] at hq; have := (List.getElem?_eq_some_iff.1 (hk _ hq).1).1; omega
   | some e => rw [hx] at hq; have := (List.getElem?_eq_some_iff.1 (hle _ _ hq)).1; omega
theorem HR.ghost {g : Nat -> Option OB} (hH : HR P W φ g w) {e : Ent} {c : Array Value} {el : TypeId} {fz : Nat × Nat} (hf : e.fz = some c) (hr : w.heap[e.r]? = some (.cells c el fz))
 (hno : ∀ (k : Nat) (x : Ent) (ob : OB), φ[k]? = some (some x) -> g k = some ob -> live ob = true -> x.r ≠ e.r) : HR P W (φ ++ [some e]) g w where
 below := hH.below
 gl := hH.glob (le_push φ _)
 dom := fun k o h => by have := hH.dom k o h; simp; omega
 rng := fun k x h => by
  rcases push_some h with h | ⟨_, h⟩
  . exact hH.rng k x h
  . cases h; exact (Array.getElem?_eq_some_iff.1 hr).1
 inj := fun k k' o1 o2 x x' h h' hg hg' hl hl' hrr => by
  have l1 := hH.dom k _ hg
  have l2 := hH.dom k' _ hg'
  rcases push_some h with h0 | ⟨hk, _⟩
  . rcases push_some h' with h1 | ⟨hk', _⟩
    . exact hH.inj k k' o1 o2 x x' h0 h1 hg hg' hl hl' hrr
    . omega
  . omega
 obj := fun k oa x hg h => by
  have l1 := hH.dom k _ hg
  rcases push_some h with h0 | ⟨hk, _⟩
  . exact (hH.obj k oa x hg h0).mono (le_push φ _)
  . omega
 fzr := fun k x c' h hf' => by
  rcases push_some h with h1 | ⟨_, hx⟩
  . exact hH.fzr k x c' h1 hf'
  . cases hx; rw [hf] at hf'; cases hf'; exact ⟨el, fz, hr⟩
 fzl := fun k k' x x' c' o h hf' h' hg hl => by
  have l2 := hH.dom k' _ hg
  rcases push_some h' with h2 | ⟨hk', _⟩
  . rcases push_some h with h1 | ⟨_, hx⟩
    . exact hH.fzl k k' x x' c' o h1 hf' h2 hg hl
    . cases hx; exact hno k' x' o h2 hg hl
  . omega
theorem HR.grown {g : Nat -> Option OB} (hH : HR P W φ g w) (hb : Below w.heap.size w w') : HR P W φ g w' := by
 have hr : ∀ (k : Nat) (e : Ent), φ[k]? = some (some e) -> w'.heap[e.r]? = w.heap[e.r]? := fun k e h => hb.block e.r (hH.rng k e h)
 exact {
  below := hH.below.trans (hb.mono hH.below.size)
  gl := hH.gl
  dom := hH.dom
  rng := fun k e h => Nat.lt_of_lt_of_le (hH.rng k e h) hb.size
  inj := hH.inj
  obj := fun k ob e hg h => (hH.obj k ob e hg h).heap fun _ => hr k e h
  fzr := fun k e c h hf => by obtain ⟨el, fz, q⟩ := hH.fzr k e c h hf; exact ⟨el, fz, by rw [hr k e h]; exact q⟩
  fzl := hH.fzl }
theorem chunk_sound {a : Bool} {s : Nat} : ∀ (n : Nat) (l es : List Value), chunk a s n l = some es -> (a = false -> s = 1) -> (es.all fun x => bK a true (oneCell x)) = true ->
 es.length = n /\ l.length = n * s /\ (∀ x ∈ es, x.cells.toList.length = s) /\ ∀ (i j : Nat) (x v : Value), es[i]? = some x -> x.cells.toList[j]? = some v -> l[i * s + j]? = some v
 | 0, l, es, h, _, _ => by
   obtain ⟨h1, h2⟩ := bif_inv (show (bif l.isEmpty then some [] else none) = some es from h)
   cases h2
   exact ⟨rfl, by rw [List.isEmpty_iff.1 h1]; simp, fun x hx => by simp at hx, fun i j x v hi => by simp at hi⟩
 | n + 1, l, es, h, hs, hone => by
   obtain ⟨h1, h2⟩ := bif_inv (show (bif Nat.ble s l.length then optK (chunk a s n (l.drop s)) (fun r => bK a (some (.agg ⟨l.take s⟩ :: r)) (optK l.head? (fun v => some (v :: r)) none)) none else none) = some es from h)
   have h1 := ble_le h1
   obtain ⟨es', h3, h4⟩ := optK_inv h2
   have key : ∃ x, es = x :: es' /\ x.cells.toList = l.take s := by
    cases a with
    | true => have h4 : some (Value.agg ⟨l.take s⟩ :: es') = some es := h4; cases h4; exact ⟨_, rfl, rfl⟩
    | false =>
      have hs := hs rfl
      subst hs
      have h4 : optK l.head? (fun v => some (v :: es')) none = some es := h4
      cases l with
      | nil => simp at h1
      | cons v l =>
        have h4 : some (v :: es') = some es := h4
        cases h4
        refine ⟨v, rfl, ?_⟩
        have hv : oneCell v = true := by
         have := List.all_eq_true.1 hone v (by simp)
         exact this
        cases v <;> first | rfl | cases hv
   obtain ⟨x, rfl, hx⟩ := key
   have hone' : (es'.all fun x => bK a true (oneCell x)) = true := by simp only [List.all_cons, Bool.and_eq_true] at hone; exact hone.2
   obtain ⟨h5, h6, h7, h8⟩ := chunk_sound n _ _ h3 hs hone'
   refine ⟨by simp [h5], ?_, fun y hy => ?_, fun i j y v hi hj => ?_⟩
   . rw [List.length_drop] at h6; rw [Nat.succ_mul]; omega
   . rcases List.mem_cons.1 hy with rfl | hy
     . rw [hx]; simp; omega
     . exact h7 y hy
   . cases i with
     | zero =>
       simp at hi
       subst hi
       rw [hx, List.getElem?_take] at hj
       split at hj
       . simpa using hj
       . cases hj
     | succ i =>
       have hi : es'[i]? = some y := by simpa using hi
       have := h8 i j y v hi hj
       rw [List.getElem?_drop] at this
       rw [Nat.succ_mul, <- this]
       congr 1
       omega
def FrzOK (P : Program) (W : World) (φ : Phi) (H : T OB) (nx : Nat) (w : World) (φ' : Phi) (H' : T OB) (nx' : Nat) : Prop :=
 φ.le φ' /\ HR P W φ' (hp H') w /\ φ'.length = nx' /\ Keep φ φ' (hp H) (hp H') /\ nx <= nx'
theorem FrzOK.refl (hH : HR P W φ (hp H) w) (hnx : φ.length = nx) : FrzOK P W φ H nx w φ H nx := ⟨φ.le_refl, hH, hnx, Keep.refl _ _, Nat.le_refl _⟩
theorem FrzOK.trans {φ'' : Phi} {H'' : T OB} {nx'' : Nat} (h : FrzOK P W φ H nx w φ' H' nx') (h' : FrzOK P W φ' H' nx' w φ'' H'' nx'') : FrzOK P W φ H nx w φ'' H'' nx'' :=
 ⟨Phi.le_trans h.1 h'.1, h'.2.1, h'.2.2.1, h.2.2.2.1.trans h'.2.2.2.1, Nat.le_trans h.2.2.2.2 h'.2.2.2.2⟩
theorem frz1_sound (hH : HR P W φ (hp H) w) (hnx : φ.length = nx) {t : TypeId} {v v' : Value} (hv : VR φ v v') {g : Value -> T OB -> Nat -> Q} (h : (frz1 P t v H nx g).run O = some r) :
 ∃ φ' u H' nx', (g u H' nx').run O = some r /\ VR φ' u v' /\ FrzOK P W φ H nx w φ' H' nx' := by
 unfold frz1 at h
 split at h
 case h_3 => exact ⟨φ, v, H, nx, h, hv, .refl hH hnx⟩
 case h_2 =>
  rename_i e hu
  split at h
  . rename_i b
    obtain ⟨x, hx, h1⟩ := run_optK h
    rw [setK_set, natF_eq] at h1
    obtain ⟨en, hb, _, rfl⟩ := hv.ptr_inv
    unfold frzP at hx
    obtain ⟨m, tr, el, hg, h2⟩ := cellsK_inv hx
    obtain ⟨s, hs, h3⟩ := optK_inv h2
    obtain ⟨a, ha, h4⟩ := optK_inv h3
    obtain ⟨h5, h6⟩ := bif_inv h4
    obtain ⟨l, hl, h7⟩ := optK_inv h6
    have hms := beq_eq h5
    have key : ∃ u, x = eptrV u /\ u.cells.toList = l := by
     cases a with
     | true =>
       have h7 : some (eptrV (.agg ⟨l⟩)) = some x := h7
       cases h7
       exact ⟨_, rfl, rfl⟩
     | false =>
       obtain ⟨u, hu', h8⟩ := optK_inv (show optK l.head? (fun v => bif Nat.beq l.length 1 && oneCell v then some (eptrV v) else none) none = some x from h7)
       obtain ⟨h9, h10⟩ := bif_inv h8
       cases h10
       simp only [Bool.and_eq_true] at h9
       have hl1 := beq_eq h9.1
       refine ⟨u, rfl, ?_⟩
       have hcell : u.cells.toList = [u] := by cases u <;> first | rfl | cases h9.2
       rw [hcell]
       cases l with
       | nil => cases hu'
       | cons y l =>
         cases hu'
         cases l with
         | nil => rfl
         | cons _ _ => simp at hl1
    obtain ⟨u, rfl, hul⟩ := key
    have hg' : hp H b = some (.cells m tr el) := hg
    obtain ⟨c, el', hrow, hrsz, hrn, hrc⟩ := hH.cells hg' hb
    obtain ⟨q1, q2⟩ := row_LR hrc hl (by omega) (by omega)
    have hkill : HR P W φ (hp (set H (bits b) (some .dead))) w := by rw [hp_set]; exact hH.kill hg' hb
    have hgh := hkill.ghost (e := ⟨en.r, en.sz, en.es, some c⟩) rfl hrow (fun k x ob hk hgk hlk hr => by
     rw [hp_set] at hgk
     by_cases hkb : k = b
     . subst hkb; rw [upd_same] at hgk; cases hgk; cases hlk
     . rw [upd_other _ hkb] at hgk
       exact hkb (hH.inj k b _ _ x en hk hb hgk hg' hlk rfl hr))
    refine ⟨_, _, _, _, h1, ?_, le_push φ _, hgh, by simp [hnx], ?_, by omega⟩
    . refine VR.ep (e := ⟨en.r, en.sz, en.es, some c⟩) (c := c) (get_push φ _) rfl (by rw [hul, q2]; omega) (fun j a b' hja hjb => ?_)
      rw [hul] at hja
      have hjl := (List.getElem?_eq_some_iff.1 hja).1
      refine VR.mono (le_push φ _) (q1.at_ j a b' hja ?_)
      rw [List.drop_zero, List.getElem?_take, if_pos (by omega), Array.getElem?_toList]
      rw [Nat.zero_add] at hjb
      exact hjb
    . intro k hk
      refine ⟨?_, ?_⟩
      . rw [List.getElem?_append_left (List.getElem?_eq_some_iff.1 hk).1]; exact hk
      . rw [hp_set, upd_other]
        intro q; subst q; rw [hb] at hk; cases hk
  . exact ⟨φ, v, H, nx, h, hv, .refl hH hnx⟩
 rename_i e hu
 split at h
 . rename_i b off n cp
   obtain ⟨hcp, h⟩ := run_bif h
   simp only [Bool.or_eq_true] at hcp
   obtain ⟨x, hx, h1⟩ := run_optK h
   rw [setK_set, natF_eq] at h1
   obtain ⟨en, c', hb, _, rfl, hcap⟩ := hv.slice_inv
   unfold frzS at hx
   obtain ⟨m, tr, el, hg, h2⟩ := cellsK_inv hx
   obtain ⟨s, hs, h3⟩ := optK_inv h2
   obtain ⟨a, ha, h4⟩ := optK_inv h3
   obtain ⟨h5, h6⟩ := bif_inv h4
   obtain ⟨l, hl, h7⟩ := optK_inv h6
   obtain ⟨es, hes, h8⟩ := optK_inv h7
   obtain ⟨h9, h10⟩ := bif_inv h8
   cases h10
   simp only [Bool.and_eq_true, Bool.or_eq_true] at h5
   have hle := ble_le h5.1.1
   have hs1 : a = false -> s = 1 := fun q => by
    rcases h5.2 with q' | q'
    . rw [q] at q'; cases q'
    . exact beq_eq q'
   obtain ⟨g1, g2, g3, g4⟩ := chunk_sound n l es hes hs1 h9
   have hg' : hp H b = some (.cells m tr el) := hg
   obtain ⟨c, el', hrow, hrsz, hrn, hrc⟩ := hH.cells hg' hb
   obtain ⟨q1, q2⟩ := row_LR hrc hl hle (by omega)
   have hcl : n <= c' := by
    rcases hcap with ⟨q, rfl⟩ | ⟨_, q, _⟩
    . rcases hcp with h' | h'
      . exact absurd (beq_eq h') q
      . exact ble_le h'
    . exact q
   have hkill : HR P W φ (hp (set H (bits b) (some .dead))) w := by rw [hp_set]; exact hH.kill hg' hb
   have hgh := hkill.ghost (e := ⟨en.r, en.sz, en.es, some c⟩) rfl hrow (fun k x ob hk hgk hlk hr => by
    rw [hp_set] at hgk
    by_cases hkb : k = b
    . subst hkb; rw [upd_same] at hgk; cases hgk; cases hlk
    . rw [upd_other _ hkb] at hgk
      exact hkb (hH.inj k b _ _ x en hk hb hgk hg' hlk rfl hr))
   refine ⟨_, _, _, _, h1, ?_, le_push φ _, hgh, by simp [hnx], ?_, by omega⟩
   . rw [<- g1]
     have hlen : es.length * s = n * s := by rw [g1]
     refine VR.row (e := ⟨en.r, en.sz, en.es, some c⟩) (c := c) (get_push φ _) rfl g3 (fun _ => ?_) (by omega) (fun i j x u u' hi hj hc => ?_)
     . rw [hlen]; omega
     . have h11 := g4 i j x u hi hj
       have hlt := (List.getElem?_eq_some_iff.1 h11).1
       refine VR.mono (le_push φ _) (q1.at_ (i * s + j) u u' h11 ?_)
       rw [List.getElem?_take, if_pos (by omega), List.getElem?_drop, Array.getElem?_toList, <- Nat.add_assoc]
       exact hc
   . intro k hk
     refine ⟨?_, ?_⟩
     . rw [List.getElem?_append_left (List.getElem?_eq_some_iff.1 hk).1]; exact hk
     . rw [hp_set, upd_other]
       intro q; subst q; rw [hb] at hk; cases hk
 . rename_i n c
   obtain ⟨h1, h2⟩ := run_bif h
   simp only [Bool.and_eq_true] at h1
   obtain ⟨s, hs, h3⟩ := run_optK h2
   have e1 := beq_eq h1.1
   have e2 := beq_eq h1.2
   subst e1 e2
   have := hv.eq_of_flat rfl
   subst this
   exact ⟨φ, _, H, nx, h3, .row0 s, .refl hH hnx⟩
 . exact ⟨φ, v, H, nx, h, hv, .refl hH hnx⟩
theorem frzF_sound : ∀ (fs : List Field) (cs cs' : List Value) (φ : Phi) (H : T OB) (nx : Nat), HR P W φ (hp H) w -> φ.length = nx -> LR φ cs cs' -> ∀ {g : List Value -> T OB -> Nat -> Q}, (frzF P fs cs H nx g).run O = some r ->
 ∃ φ' us H' nx', (g us H' nx').run O = some r /\ LR φ' us cs' /\ FrzOK P W φ H nx w φ' H' nx'
 | [], cs, cs', φ, H, nx, hH, hnx, hl, g, h => ⟨φ, cs, H, nx, h, hl, .refl hH hnx⟩
 | f :: fs, cs, cs', φ, H, nx, hH, hnx, hl, g, h => by
   obtain ⟨v, hv, h1⟩ := run_optK (show (optK cs[f.offset]? (fun v => frz1 P f.type v H nx fun v H nx => frzF P fs (cs.set f.offset v) H nx g) .bad).run O = some r from h)
   obtain ⟨v', hv', hvr⟩ := hl.get hv
   obtain ⟨φ1, u, H1, nx1, h2, h3, h4⟩ := frz1_sound hH hnx hvr h1
   have hl1 : LR φ1 (cs.set f.offset u) cs' := by
    have := (hl.mono h4.1).set f.offset h3
    have e : cs'.set f.offset v' = cs' := by
     refine List.ext_getElem? fun i => ?_
     rw [List.getElem?_set]
     by_cases hi : f.offset = i
     . subst hi; rw [if_pos rfl, hv', if_pos (List.getElem?_eq_some_iff.1 hv').1]
     . rw [if_neg hi]
    rw [e] at this
    exact this
   obtain ⟨φ2, us, H2, nx2, h5, h6, h7⟩ := frzF_sound fs _ cs' φ1 H1 nx1 h4.2.1 h4.2.2.1 hl1 h2
   exact ⟨φ2, us, H2, nx2, h5, h6, h4.trans h7⟩
theorem frzV_sound (hH : HR P W φ (hp H) w) (hnx : φ.length = nx) {t : TypeId} {v v' : Value} (hv : VR φ v v') {g : Value -> T OB -> Nat -> Q} (h : (frzV P t v H nx g).run O = some r) :
 ∃ φ' u H' nx', (g u H' nx').run O = some r /\ VR φ' u v' /\ FrzOK P W φ H nx w φ' H' nx' := by
 unfold frzV at h
 split at h
 . split at h
   . obtain ⟨c', rfl, h1⟩ := hv.agg_inv
     obtain ⟨φ', us, H', nx', h2, h3, h4⟩ := frzF_sound _ _ _ _ _ _ hH hnx h1 h
     exact ⟨φ', _, H', nx', h2, h3.agg, h4⟩
   . cases h
 . exact frz1_sound hH hnx hv h
theorem frzL_sound (ts : Array TypeId) : ∀ (l : List Nat) (vs vs' : List Value) (φ : Phi) (H : T OB) (nx : Nat), HR P W φ (hp H) w -> φ.length = nx -> LR φ vs vs' -> ∀ {g : List Value -> T OB -> Nat -> Q}, (frzL P ts l vs H nx g).run O = some r ->
 ∃ φ' us H' nx', (g us H' nx').run O = some r /\ LR φ' us vs' /\ FrzOK P W φ H nx w φ' H' nx'
 | [], cs, cs', φ, H, nx, hH, hnx, hl, g, h => ⟨φ, cs, H, nx, h, hl, .refl hH hnx⟩
 | i :: l, cs, cs', φ, H, nx, hH, hnx, hl, g, h => by
   obtain ⟨t, _, h0⟩ := run_optK (show (optK ts[i]? (fun t => optK cs[i]? (fun v => frzV P t v H nx fun v H nx => frzL P ts l (cs.set i v) H nx g) .bad) .bad).run O = some r from h)
   obtain ⟨v, hv, h1⟩ := run_optK h0
   obtain ⟨v', hv', hvr⟩ := hl.get hv
   obtain ⟨φ1, u, H1, nx1, h2, h3, h4⟩ := frzV_sound hH hnx hvr h1
   have hl1 : LR φ1 (cs.set i u) cs' := by
    have := (hl.mono h4.1).set i h3
    have e : cs'.set i v' = cs' := by
     refine List.ext_getElem? fun j => ?_
     rw [List.getElem?_set]
     by_cases hi : i = j
     . subst hi; rw [if_pos rfl, hv', if_pos (List.getElem?_eq_some_iff.1 hv').1]
     . rw [if_neg hi]
    rw [e] at this
    exact this
   obtain ⟨φ2, us, H2, nx2, h5, h6, h7⟩ := frzL_sound ts l _ cs' φ1 H1 nx1 h4.2.1 h4.2.2.1 hl1 h2
   exact ⟨φ2, us, H2, nx2, h5, h6, h4.trans h7⟩
def rvF (tmps : Array Value) : ResultVar -> Sem Value
 | .tmp t => pure (tmps.getD t undef)
 | .cell a t => do loadVar t (<- asAddr (tmps.getD a undef))
theorem resQ_sound (hH : HR P W φ (hp H) w) (htr : TRm φ (fun _ => False) tm tmps) : ∀ (l : List ResultVar) {g : List Value -> Q}, (resQ P H tm l g).run O = some r ->
 ∃ vs vs', (g vs).run O = some r /\ LR φ vs vs' /\ (l.mapM (rvF tmps)).run P w = .ok vs' w
 | [], g, h => ⟨[], [], h, .nil, rfl⟩
 | .tmp t :: l, g, h => by
   obtain ⟨v, hv, h1⟩ := run_optK (show (optK (tm.get (bits t)) (fun v => resQ P H tm l fun vs => g (v :: vs)) .bad).run O = some r from h)
   obtain ⟨us, us', h2, h3, h4⟩ := resQ_sound hH htr l h1
   obtain ⟨v', h5, h6⟩ := (htr t v hv).resolve_left id
   refine ⟨v :: us, v' :: us', h2, .cons h6 h3, ?_⟩
   have e : tmps.getD t undef = v' := by simp [Array.getD_eq_getD_getElem?, h5]
   simp only [List.mapM_cons, rvF, Sem.run_bind, Sem.run_pure, Result.andThen_ok, e, h4]
 | .cell a t :: l, g, h => by
   obtain ⟨v, hv, h1⟩ := run_optK (show (optK (rdLoad P H t (tm.get (bits a))) (fun v => resQ P H tm l fun vs => g (v :: vs)) .bad).run O = some r from h)
   obtain ⟨us, us', h2, h3, h4⟩ := resQ_sound hH htr l h1
   cases ha : tm.get (bits a) with
   | none => rw [ha] at hv; cases hv
   | some pv =>
     rw [ha] at hv
     obtain ⟨pv', h5, h6⟩ := (htr a pv ha).resolve_left id
     obtain ⟨v', ad, h7, h8, h9⟩ := rdLoad_sound hH (y := pv') (fun u hu => by cases hu; exact h6) hv
     subst h7
     refine ⟨v :: us, v' :: us', h2, .cons h8 h3, ?_⟩
     have e1 : tmps.getD a undef = .pointer (some ad) := by simp [Array.getD_eq_getD_getElem?, h5]
     simp only [List.mapM_cons, rvF, Sem.run_bind, e1, asAddr, Sem.run_pure, Result.andThen_ok, h9, h4]
theorem tupV_VR {vs vs' : List Value} (h : LR φ vs vs') : VR φ (tupV vs) (if h : vs'.toArray.size = 1 then vs'.toArray[0] else .tuple vs'.toArray) := by
 cases vs with
 | nil => cases h.nil_inv; exact .flat _ rfl
 | cons a l =>
   obtain ⟨a', l', rfl, h4, h5⟩ := h.inv
   cases l with
   | nil => cases h5.nil_inv; exact h4
   | cons b m =>
     obtain ⟨b', m', rfl, _, _⟩ := h5.inv
     rw [dif_neg (by simp)]
     exact h.tuple
theorem FrzOK.fin (h : FrzOK P W φ H nx w φ' H' nx') {rc : Bool} (h' : FinOK P W kd fn lo cs0 rc φ' H' r fr w) : FinOK P W kd fn lo cs0 rc φ H r fr w :=
 h'.steps (.refl _ _) h.1 fun k _ q => h.2.2.2.1 k q
theorem outQ_ok {pl : Pol} (hH : HR P W φ (hp H) w) (hnx : φ.length = nx) (hkd : c.kd = kd) (hfn : c.fn = fn) (htr : TRm φ (fun _ => False) tm tmps) (h : (outQ P pl c tm H nx).run O = some r) :
 FinOK P W kd fn lo cs0 c.rc φ H r { mkF (fbOf c []) tmps todo with mode := .returning } w := by
 unfold outQ at h
 obtain ⟨fd, hfd, h1⟩ := run_optK h
 obtain ⟨vs, vs', h2, h3, h4⟩ := resQ_sound hH htr _ h1
 obtain ⟨φ', us, H', nx', h5, h6, h7⟩ := frzL_sound fd.resultTypes _ _ _ φ H nx hH hnx h3 h2
 have h5 := run_ret h5
 subst h5
 have h8 : (results fd tmps).run P w = .ok (if h : vs'.toArray.size = 1 then vs'.toArray[0] else .tuple vs'.toArray) w := by
  have e : results fd tmps = (do let vs <- fd.results.mapM (rvF tmps); pure (if h : vs.size = 1 then vs[0] else .tuple vs)) := rfl
  rw [e, Sem.run_bind, Array.mapM_eq_mapM_toList, Sem.run_map, h4]
  rfl
 refine h7.fin ⟨φ', w, _, .refl _ _, φ'.le_refl, h7.2.1, h7.2.2.1, fun k _ q => ⟨q, rfl⟩, ?_, ?_, _, tupV_VR h6, rfl, rfl, fd, ?_, h8⟩
 . show kindOf c.kd = kindOf kd; rw [hkd]
 . exact hfn
 . exact hfd
end
end Go.Ev
/- The evaluator's code and the model's: deferred calls, operations, regions. -/
namespace Go.Ev
noncomputable section
open Go.RowKit (Below)
variable {P : Program} {W w w' w1 : World} {f fn : FuncId} {cs cs0 : List Frame} {r r1 : Rt} {fr fr' fr1 : Frame} {φ φ' φ1 : Phi} {H H' H1 : T OB} {nx nx' nx1 nt lo hi : Nat} {tm : T Value} {tmps : Array Value} {ops : Array Oper}
 {todo k : List Item} {c : Cg} {ds : List Deferred} {kd : Bool} {O : Cfg -> Option Rt} {pl : Pol}
structure Fx (P : Program) (W : World) (lo : Nat) (cs0 : List Frame) (c : Cg) (φ : Phi) (H : T OB) (nx : Nat) (tmps : Array Value) (ds : List Deferred) (w : World) : Prop where
 hH : HR P W φ (hp H) w
 hnx : φ.length = nx
 hlo : lo <= nx
 hsz : tmps.size = c.nt
 hds : DsR P φ c.df ds
 hrc : RcvR φ c.kd c.rp c.rc cs0
def AtOK (P : Program) (W : World) (c : Cg) (tm : T Value) (todo : List Item) (H : T OB) (nx : Nat) (r : Rt) : Prop :=
 ∀ φ w lo tmps ds cs0, Fx P W lo cs0 c φ H nx tmps ds w -> TRm φ (fun _ => False) tm tmps -> FinOK P W c.kd c.fn lo cs0 c.rc φ H r (mkF (fbOf c ds) tmps todo) w
def CallOK (P : Program) (W : World) (f : FuncId) (args : List Value) (kd : Bool) (rp : Option Value) (H : T OB) (nx : Nat) (r : Rt) : Prop :=
 ∀ φ w args' cs0, HR P W φ (hp H) w -> φ.length = nx -> LR φ args args' -> RcvR φ kd rp false cs0 -> FinOK P W kd f nx cs0 false φ H r (Frame.enter P f args'.toArray (kindOf kd)) w
def CfgOK (P : Program) (W : World) (q : Cfg) (r : Rt) : Prop := match q with
 | .call f args kd rp H nx => CallOK P W f args kd rp H nx r
 | .at c tm todo H nx => AtOK P W c tm todo H nx r
def OrcOK (P : Program) (W : World) (O : Cfg -> Option Rt) : Prop := ∀ q r, O q = some r -> CfgOK P W q r
def KOK (P : Program) (W : World) (O : Cfg -> Option Rt) (K : Kt) (todo : List Item) : Prop := ∀ c tm H nx r, (K c tm H nx).run O = some r -> AtOK P W c tm todo H nx r
theorem AtOK.step1 {todo' : List Item} (hs : ∀ (ds : List Deferred) (tmps : Array Value) (cs : List Frame) (w : World), Steps P (lone (mkF (fbOf c ds) tmps todo) cs w) (lone (mkF (fbOf c ds) tmps todo') cs w)) (h : AtOK P W c tm todo' H nx r) :
 AtOK P W c tm todo H nx r := fun φ w lo tmps ds cs0 x htr => (h φ w lo tmps ds cs0 x htr).step1 (hs _ _ _ _)
theorem keep_all (hk : ∀ k, k < φ.length -> φ[k]? = some none -> φ'[k]? = some none /\ hp H' k = hp H k) : Keep φ φ' (hp H) (hp H') := fun k q => hk k (List.getElem?_eq_some_iff.1 q).1 q
inductive MdR (φ : Phi) : Mq -> Option Value -> Prop
 | ret : MdR φ .ret none
 | pan {v v' : Value} (h : VR φ v v') : MdR φ (.pan v) (some v')
theorem modeOf_ne (m : Option Value) : modeOf m ≠ .run := by cases m <;> simp [modeOf]
theorem unwQ_ok (hO : OrcOK P W O) : ∀ (l : List (FuncId × List Value)) (m : Mq) (mv : Option Value) (φ : Phi) (H : T OB) (nx : Nat) (ds : List Deferred) (w : World), HR P W φ (hp H) w -> φ.length = nx -> lo <= nx -> DsR P φ l ds -> MdR φ m mv ->
 TRm φ (fun _ => False) tm tmps -> (unwQ P pl c tm l m H nx).run O = some r -> FinOK P W c.kd c.fn lo cs0 c.rc φ H r { mkF (fbOf c ds) tmps todo with mode := modeOf mv } w
 | [], m, mv, φ, H, nx, ds, w, hH, hnx, hlo, hds, hm, htr, h => by
   cases hds
   have h : (endQ P pl c tm m H nx).run O = some r := h
   unfold endQ at h
   cases hm with
   | ret => exact outQ_ok hH hnx rfl rfl htr h
   | @pan v v' hv =>
     obtain ⟨fd, hfd, h⟩ := run_optK h
     have h := run_ret h
     subst h
     exact ⟨φ, w, _, .refl _ _, φ.le_refl, hH, hnx, fun k _ q => ⟨q, rfl⟩, rfl, rfl, v', hv, rfl, rfl, fd, hfd⟩
 | (g, args) :: l, m, mv, φ, H, nx, ds, w, hH, hnx, hlo, hds, hm, htr, h => by
   cases hds with
   | @cons _ d' _ ds' hd hl =>
     obtain ⟨a', cap', rfl, hLR, hok⟩ := hd
     obtain ⟨r1, h1, h2⟩ := run_ask (show (Q.ask (.call g args true (rpOf m) H nx) fun r => bkQ m r (unwQ P pl c tm l)).run O = some r from h)
     have hinv : (invoke (.fn (.func g) ⟨cap'⟩) a').run P w = .ok (.enter g (a' ++ ⟨cap'⟩)) w := run_callFunc hok _ _
     have e : (a' ++ ⟨cap'⟩ : Array Value) = (a'.toList ++ cap').toArray := Array.ext' (by simp)
     have hst := step_defer (P := P) (fr := { mkF (fbOf c ({ target := .fn (.func g) ⟨cap'⟩, args := a' } :: ds')) tmps todo with mode := modeOf mv }) (cs := csAt c.rc cs0) (modeOf_ne mv) rfl rfl hinv
     rw [e] at hst
     have hrcv : RcvR φ true (rpOf m) false ({ mkF (fbOf c ds') tmps todo with mode := modeOf mv } :: csAt c.rc cs0) := fun _ => by
      cases hm with
      | ret => exact fun F hF => (rcv_deferred (C := { mkF (fbOf c ds') tmps todo with mode := modeOf none }) (cs := csAt c.rc cs0) hF).trans rfl
      | pan hv => exact ⟨rfl, _, _, _, [], rfl, rfl, hv⟩
     obtain ⟨φ1, w1, frl, s1, hle, hH1, hl1, hk1, hkk, hff, ho1⟩ := hO _ _ h1 φ w _ _ hH hnx hLR hrcv
     unfold bkQ at h2
     cases hr1 : r1.o with
     | pan v => rw [hr1] at h2; cases h2
     | ret v =>
       rw [hr1] at h2 ho1
       obtain ⟨v', hv', hgo⟩ := ho1
       have h2 : (unwQ P pl c tm l (bK r1.rc .ret m) r1.H r1.nx).run O = some r := h2
       have hlen := le_len hle (keep_all (fun k hk q => hk1 k (by rw [<- hnx]; exact hk) q))
       have back : ∃ mv1, MdR φ1 (bK r1.rc .ret m) mv1 /\ Steps P (lone frl (csAt r1.rc ({ mkF (fbOf c ds') tmps todo with mode := modeOf mv } :: csAt c.rc cs0)) w1) (lone { mkF (fbOf c ds') tmps todo with mode := modeOf mv1 } (csAt c.rc cs0) w1) := by
        cases hrc : r1.rc with
        | false =>
          cases hm with
          | ret => exact ⟨none, .ret, .one (step_going_returned (c := { mkF (fbOf c ds') tmps todo with mode := modeOf none }) hkk hgo)⟩
          | pan hv => exact ⟨some _, .pan (hv.mono hle), .one (step_going_returned (c := { mkF (fbOf c ds') tmps todo with mode := modeOf (some _) }) hkk hgo)⟩
        | true =>
          refine ⟨none, .ret, ?_⟩
          cases hm with
          | ret => exact .one (step_going_returned (c := { mkF (fbOf c ds') tmps todo with mode := modeOf none }) hkk hgo)
          | @pan u u' hv => exact .one (step_going_returned (c := { mkF (fbOf c ds') tmps todo with mode := .panicking [{ v := u', recovered := true }] }) hkk hgo)
       obtain ⟨mv1, hm1, hs1⟩ := back
       have ih := unwQ_ok hO l (bK r1.rc .ret m) mv1 φ1 r1.H r1.nx ds' w1 hH1 hl1 (by omega) (hl.mono hle) hm1 (htr.mono hle) h2
       exact ih.steps (.head hst (s1.trans hs1)) hle fun k hk q => hk1 k (by omega) q
theorem leaveQ_ok (hO : OrcOK P W O) (ht : todo = [] \/ ∃ k, todo = .code .ret :: k) : KOK P W O (leaveQ P pl) todo := fun c tm H nx r h φ w lo tmps ds cs0 x htr => by
 have hs : Steps P (lone (mkF (fbOf c ds) tmps todo) (csAt c.rc cs0) w) (lone { mkF (fbOf c ds) tmps todo with mode := modeOf none } (csAt c.rc cs0) w) := by
  rcases ht with rfl | ⟨k, rfl⟩
  . exact .one (step_end (b := mkF (fbOf c ds) #[] []) (a := ⟨tmps, ds⟩))
  . exact .one (step_ret (b := mkF (fbOf c ds) #[] []) (a := ⟨tmps, ds⟩))
 exact (unwQ_ok hO c.df .ret none φ H nx ds w x.hH x.hnx x.hlo x.hds .ret htr h).step1 hs
theorem call_ok (hO : OrcOK P W O) {g : FuncId} {args args' : List Value} (h1 : O (.call g args false none H nx) = some r1) (hH : HR P W φ (hp H) w) (hnx : φ.length = nx) (hLR : LR φ args args') {C : Frame} (hC : C.mode = .run) (cs : List Frame) :
 ∃ φ1 w1, φ.le φ1 /\ HR P W φ1 (hp r1.H) w1 /\ φ1.length = r1.nx /\ Keep φ φ1 (hp H) (hp r1.H) /\ nx <= r1.nx /\ (match r1.o with
   | .ret v => ∃ v', VR φ1 v v' /\ Steps P (lone (Frame.enter P g args'.toArray .normal) (C :: cs) w) (lone (C.finish v') cs w1)
   | .pan v => ∃ v', VR φ1 v v' /\ Steps P (lone (Frame.enter P g args'.toArray .normal) (C :: cs) w) (lone { C with mode := modeOf (some v') } cs w1)) := by
 have hC' : ∀ l, C.mode ≠ .panicking l := fun l q => by rw [hC] at q; cases q
 obtain ⟨φ1, w1, frl, s1, hle, hH1, hl1, hk1, hkk, hff, ho1⟩ := hO _ _ h1 φ w _ (C :: cs) hH hnx hLR (fun q => by cases q)
 have hkeep : Keep φ φ1 (hp H) (hp r1.H) := keep_all (fun k hk q => hk1 k (by rw [<- hnx]; exact hk) q)
 rw [csAt_run _ hC', csAt_run _ hC'] at s1
 refine ⟨φ1, w1, hle, hH1, hl1, hkeep, by have := le_len hle hkeep; omega, ?_⟩
 cases hr1 : r1.o with
 | ret v =>
   rw [hr1] at ho1
   obtain ⟨v', hv', hgo⟩ := ho1
   refine ⟨v', hv', s1.trans (.one (step_leave_returned ?_))⟩
   obtain ⟨a, b, c⟩ := hgo
   exact ⟨a, b, hkk, c⟩
 | pan v =>
   rw [hr1] at ho1
   obtain ⟨v', hv', hgo⟩ := ho1
   refine ⟨v', hv', s1.trans (.one ?_)⟩
   have := step_going_panicked (c := C) (cs := cs) hgo
   rw [show raised C.mode [{ v := v', recovered := false }] = modeOf (some v') from by rw [hC]; rfl] at this
   exact this
theorem eff_run {fb : FB} {o : Oper} {i : Nat} {rest : List Nat} {v : Value} (ho : ops[i]? = some o) (hw : Region.wanted o (yielded ops tmps) = true)
 (he : EfOk P W φ H w ((execOp (evalA tmps) o).run P w) v H' nx') :
 ∃ φ' v' w', step P (lone (mkF fb tmps (.inRegion ops (i :: rest) :: k)) cs w) = .next (lone (mkF fb (putA tmps o.dst v') (.inRegion ops rest :: k)) cs w') /\
   VR φ' v v' /\ φ.le φ' /\ HR P W φ' (hp H') w' /\ φ'.length = nx' /\ Keep φ φ' (hp H) (hp H') := by
 obtain ⟨φ', v', w', x, hr, hx, h1, h2, h3, h4, h5⟩ := he
 refine ⟨φ', v', w', ?_, h1, h2, h3, h4, h5⟩
 rcases hx with rfl | ⟨rfl, rfl⟩
 . exact step_value ho hw hr
 . exact step_skipv ho hw hr
theorem noMask {l : List Operand} : ∀ t, Operand.tmp t ∈ l -> ¬ (fun (_ : Nat) => False) t := fun _ _ h => h
theorem Fx.next (x : Fx P W lo cs0 c φ H nx tmps ds w) (hle : φ.le φ') (hH : HR P W φ' (hp H') w') (hl : φ'.length = nx') (hn : nx <= nx') {tmps' : Array Value} (hsz : tmps'.size = tmps.size) : Fx P W lo cs0 c φ' H' nx' tmps' ds w' :=
 ⟨hH, hl, Nat.le_trans x.hlo hn, hsz.trans x.hsz, x.hds.mono hle, x.hrc.mono hle⟩
theorem TRm.refine {M : Nat -> Prop} (h : TRm φ M tm tmps) {d : Tmp} {v v' : Value} (hd : tmps[d]? = some v') (hv : VR φ v v') : TRm φ M (tmPut tm (some d) v) tmps := fun t u q => by
 rw [get_tmPut] at q
 split at q
 . rename_i e
   cases e
   cases q
   exact .inr ⟨v', hd, hv⟩
 . exact h t u q
theorem box_ok (hH : HR P W φ (hp H) w) (hnx : φ.length = nx) {o : Oper} {e : TypeId} {x : Operand} (ho : o.op = .box e x) (hE : ∀ v, eva P tm x = some v -> VR φ v (evalA tmps x)) {u : Value} (hu : eva P tm x = some u) :
 ∃ φ' v' w', (execOp (evalA tmps) o).run P w = .ok (.value v') w' /\ VR φ' (eptrV u) v' /\ φ.le φ' /\ HR P W φ' (hp H) w' /\ φ'.length = nx + 1 /\ Keep φ φ' (hp H) (hp H) := by
 have hc := (hE u hu).cells
 have hb : Below w.heap.size w (w.alloc (.cells (evalA tmps x).cells e)) := (Below.refl w.heap.size w).alloc (Nat.le_refl _) _
 refine ⟨φ ++ [some ⟨w.heap.size, 0, 0, some (evalA tmps x).cells⟩], .pointer (some ⟨w.heap.size, 0, none⟩), w.alloc (.cells (evalA tmps x).cells e), ?_, ?_, le_push φ _, ?_, by simp [hnx], ?_⟩
 . simp [execOp, ho, Instr.box, newVar, newRow]
 . refine VR.ep (e := ⟨w.heap.size, 0, 0, some (evalA tmps x).cells⟩) (get_push φ _) rfl (by rw [hc.len]; simp) (fun j a b ha hb => ?_)
   rw [Nat.zero_add] at hb
   exact (hc.at_ j a b ha (by simpa using hb)).mono (le_push φ _)
 . refine (hH.grown hb).ghost (el := e) (fz := (0, 0)) rfl (Go.heap_alloc_new w _) (fun k y ob hk _ _ q => ?_)
   have := hH.rng k y hk
   have q : y.r = w.heap.size := q
   omega
 . intro k hk
   refine ⟨?_, rfl⟩
   rw [List.getElem?_append_left (List.getElem?_eq_some_iff.1 hk).1]; exact hk
theorem frStore_ok (hH : HR P W φ (hp H) w) (hnx : φ.length = nx) {o : Oper} {t : TypeId} {d : Tmp} {x : Operand} (ho : o.op = .store t (.tmp d) x) (hE : EvR P φ tm (evalA tmps) [.tmp d, x]) {b n s : Nat} {tr : T Value} {el : TypeId} {u : Value}
 (ha : eva P tm (.tmp d) = some (.pointer (some ⟨b, 0, none⟩))) (hu : eva P tm x = some u) (hg : H.get (bits b) = some (.cells n tr el)) (hs : szOf P t = some s) (hn : n = s) (hl : u.cells.toList.length = s) (hone : u.cells.toList.all oneCell = true) :
 ∃ φ' v' w' y, (execOp (evalA tmps) o).run P w = .ok y w' /\ (y = .value v' \/ (y = .skip /\ v' = undef)) /\ v' = undef /\ VR φ' (eptrV u) (evalA tmps (.tmp d)) /\ φ.le φ' /\ HR P W φ' (hp (set H (bits b) (some .dead))) w' /\ φ'.length = nx + 1 /\ Keep φ φ' (hp H) (hp (set H (bits b) (some .dead))) := by
 subst hn
 have hef : efStore P H nx t (eva P tm (.tmp d)) (eva P tm x) = .val undef (set H (bits b) (some (.cells n (fromL u.cells.toList 0 tr) el))) nx := by
  rw [ha, hu]
  show cellsK (H.get (bits b)) (fun n tr e => optK (szOf P t) (fun s => bif Nat.beq u.cells.toList.length s && Nat.ble (0 + s) n && u.cells.toList.all oneCell then
   fromLK u.cells.toList 0 tr fun tr => setK (bits b) H (some (.cells n tr e)) fun H => Eff.val undef H nx else .bad) .bad) .bad = _
  rw [hg]
  show optK (szOf P t) (fun s => bif Nat.beq u.cells.toList.length s && Nat.ble (0 + s) n && u.cells.toList.all oneCell then
   fromLK u.cells.toList 0 tr fun tr => setK (bits b) H (some (.cells n tr el)) fun H => Eff.val undef H nx else .bad) .bad = _
  rw [hs, optK_some, hl, hone, fromLK_fromL, setK_set]
  have e1 : Nat.beq n n = true := Nat.beq_refl n
  have e2 : Nat.ble (0 + n) n = true := by rw [Nat.zero_add]; exact Nat.ble_eq_true_of_le (Nat.le_refl n)
  rw [e1, e2]
  rfl
 obtain ⟨φ1, v', w1, y, hr, hy, h1, h2, h3, h4, h5⟩ := ef_store hH hnx ho hE hef
 obtain ⟨en, hb, _, hp1⟩ := (hE (.tmp d) (by simp) _ ha).ptr_inv
 have hb1 := h2 b en hb
 have hg1 : hp (set H (bits b) (some (.cells n (fromL u.cells.toList 0 tr) el))) b = some (.cells n (fromL u.cells.toList 0 tr) el) := by rw [hp_set, upd_same]
 obtain ⟨c, el', hrow, hrsz, hrn, hrc⟩ := h3.cells hg1 hb1
 have hk := h3.kill hg1 hb1
 rw [hp_set, upd_upd, <- hp_set] at hk
 have hgh := hk.ghost (e := ⟨en.r, en.sz, en.es, some c⟩) rfl hrow (fun k x ob hk' hgk hlk hr => by
  rw [hp_set] at hgk
  by_cases hkb : k = b
  . subst hkb; rw [upd_same] at hgk; cases hgk; cases hlk
  . rw [upd_other _ hkb] at hgk
    exact hkb (h3.inj k b _ _ x en hk' hb1 (by rw [hp_set, upd_other _ hkb]; exact hgk) hg1 hlk rfl hr))
 refine ⟨_, v', w1, y, hr, hy, h1.eq_of_flat rfl, ?_, Phi.le_trans h2 (le_push φ1 _), hgh, by simp [h4], ?_⟩
 . rw [hp1]
   refine VR.ep (e := ⟨en.r, en.sz, en.es, some c⟩) (c := c) (get_push φ1 _) rfl (by rw [hl]; omega) (fun j a b' hja hjb => ?_)
   have hjl : j < u.cells.toList.length := (List.getElem?_eq_some_iff.1 hja).1
   obtain ⟨a', g1, g2⟩ := hrc j (by omega) a (by rw [get_fromL, if_pos (by omega), Nat.sub_zero]; exact hja)
   rw [Nat.zero_add, g1] at hjb
   cases hjb
   exact g2.mono (le_push φ1 _)
 . intro k hk'
   obtain ⟨q1, q2⟩ := h5 k hk'
   refine ⟨?_, ?_⟩
   . rw [List.getElem?_append_left (List.getElem?_eq_some_iff.1 q1).1]; exact q1
   . rw [hp_set, upd_other]
     intro q; subst q; rw [hb] at hk'; cases hk'
theorem isFr_inv {o : Oper} (h : isFr pl fn o = true) : (∃ e x, o.op = .box e x) \/ ∃ t d x, o.op = .store t (.tmp d) x := by
 unfold isFr at h
 split at h
 . rename_i e x ho; exact .inl ⟨e, x, ho⟩
 . rename_i t d x ho; exact .inr ⟨t, d, x, ho⟩
 . cases h
theorem stepR_ok (hO : OrcOK P W O) {K : Kt} (hK : KOK P W O K k) : ∀ l : List Nat, KOK P W O (stepR P pl ops K l) (.inRegion ops l :: k)
 | [], c, tm, H, nx, r, h => (hK c tm H nx r h).step1 fun ds tmps cs w => .one (step_region_end (b := mkF (fbOf c ds) #[] []) (a := ⟨tmps, ds⟩))
 | i :: rest, c, tm, H, nx, r, h => fun φ w lo tmps ds cs0 x htr => by
   obtain ⟨o, ho, h⟩ := run_optK (show (Ev.optK ops[i]? (opR P pl ops c tm H nx (stepR P pl ops K rest)) .bad).run O = some r from h)
   unfold opR at h
   obtain ⟨b, hb, hy, hn⟩ := run_guard h
   have hw : Region.wanted o (yielded ops tmps) = b := wanted_of htr (fun _ _ _ _ h => h) hb
   have hE : EvR P φ tm (evalA tmps) o.op.operands.toList := EvR_of x.hH.gl htr noMask
   have next : ∀ {φ' : Phi} {H' : T OB} {nx' : Nat} {w' : World} {v v' : Value},
    Steps P (lone (mkF (fbOf c ds) tmps (.inRegion ops (i :: rest) :: k)) (csAt c.rc cs0) w) (lone (mkF (fbOf c ds) (putA tmps o.dst v') (.inRegion ops rest :: k)) (csAt c.rc cs0) w') ->
    φ.le φ' -> HR P W φ' (hp H') w' -> φ'.length = nx' -> nx <= nx' -> Keep φ φ' (hp H) (hp H') -> VR φ' v v' -> ((∀ d, o.dst = some d -> d < c.nt) /\ (stepR P pl ops K rest c (tmPut tm o.dst v) H' nx').run O = some r) ->
    FinOK P W c.kd c.fn lo cs0 c.rc φ H r (mkF (fbOf c ds) tmps (.inRegion ops (i :: rest) :: k)) w := fun hs hle hH' hl hn hkp hv hq => by
    obtain ⟨hd, hq⟩ := hq
    have hd' : ∀ d, o.dst = some d -> d < tmps.size := fun d h => by rw [x.hsz]; exact hd d h
    exact FinOK.steps hs hle (fun k _ q => hkp k q) (stepR_ok hO hK rest _ _ _ _ _ hq _ _ _ _ ds cs0 (x.next hle hH' hl hn (putA_size ..)) ((htr.mono hle).put hd' hv fun t h _ => h))
   cases b with
   | false => exact next (.one (step_not ho hw)) φ.le_refl x.hH x.hnx (Nat.le_refl _) (Keep.refl _ _) (.flat undef rfl) (run_putK (hn rfl))
   | true =>
     have h := hy rfl
     unfold doR at h
     rcases run_bK h with ⟨hrd, h⟩ | ⟨hrd, h⟩
     . obtain ⟨v, hv, h⟩ := run_optK h
       obtain ⟨v', h1, h2⟩ := rd_sound x.hH hE hv
       exact next (.one (step_value ho hw h2)) φ.le_refl x.hH x.hnx (Nat.le_refl _) (Keep.refl _ _) h1 (run_putB h)
     . rcases run_bK h with ⟨hct, h⟩ | ⟨hct, h⟩
       . cases he : ef P H nx tm o with
         | bad => rw [he] at h; cases h
         | val v H' nx' => rw [he] at h; cases h
         | call g args =>
           rw [he] at h
           obtain ⟨args', h1, hok, h2⟩ := ef_call hE he
           obtain ⟨r1, h3, h4⟩ := run_ask (show (Q.ask (.call g args false none H nx) _).run O = some r from h)
           obtain ⟨φ1, w1, hle, hH1, hl1, hkp, hn1, ho1⟩ := call_ok hO h3 x.hH x.hnx h1 (C := mkF (fbOf c ds) tmps (.inRegion ops (i :: rest) :: k)) rfl (csAt c.rc cs0)
           cases hr1 : r1.o with
           | ret v =>
             rw [hr1] at ho1
             simp only [hr1] at h4
             obtain ⟨v', hv', hs⟩ := ho1
             rw [fin_mk ho] at hs
             exact next (.head (step_enter ho hw (h2 w)) hs) hle hH1 hl1 hn1 hkp hv' (run_putB h4)
           | pan v =>
             rw [hr1] at ho1
             simp only [hr1] at h4
             obtain ⟨v', hv', hs⟩ := ho1
             exact (unwQ_ok hO c.df (.pan v) (some v') φ1 r1.H r1.nx ds w1 hH1 hl1 (by have := x.hlo; omega) (x.hds.mono hle) (.pan hv') (htr.mono hle) h4).steps (.head (step_enter ho hw (h2 w)) hs) hle fun k _ q => hkp k q
         | dfr g args =>
           rw [he] at h
           obtain ⟨d', h1, h2⟩ := ef_dfr hE he
           obtain ⟨hd, hq⟩ := run_putK (show (putK c.nt tm o.dst undef (fun tm => stepR P pl ops K rest ⟨c.fn, c.nt, c.kd, (g, args) :: c.df, c.rp, c.rc⟩ tm H nx) .bad).run O = some r from h)
           have hd' : ∀ d, o.dst = some d -> d < tmps.size := fun d h => by rw [x.hsz]; exact hd d h
           have hx : Fx P W lo cs0 ⟨c.fn, c.nt, c.kd, (g, args) :: c.df, c.rp, c.rc⟩ φ H nx (putA tmps o.dst undef) (d' :: ds) w := ⟨x.hH, x.hnx, x.hlo, (putA_size ..).trans x.hsz, .cons h1 x.hds, x.hrc⟩
           exact FinOK.step1 (.one (step_dfr ho hw (h2 w))) (stepR_ok hO hK rest _ _ _ _ _ hq _ _ _ _ _ _ hx (htr.put hd' (.flat _ rfl) fun t h _ => h))
         | pan v =>
           rw [he] at h
           obtain ⟨v', h1, h2⟩ := ef_pan hE he
           exact (unwQ_ok hO c.df (.pan v) (some v') φ H nx ds w x.hH x.hnx x.hlo x.hds (.pan h1) htr h).step1 (.one (step_pan ho hw (h2 w)))
         | rcv =>
           rw [he] at h
           have h : (rcvQ c fun c v => putK c.nt tm o.dst v (fun tm => stepR P pl ops K rest c tm H nx) .bad).run O = some r := h
           have h2 := ef_rcv (ρ := evalA tmps) he w
           have none' : tryRecover (mkF (fbOf c ds) tmps (.inRegion ops (i :: rest) :: k)) (csAt c.rc cs0) = none -> (putK c.nt tm o.dst .nilIface (fun tm => stepR P pl ops K rest c tm H nx) .bad).run O = some r ->
            FinOK P W c.kd c.fn lo cs0 c.rc φ H r (mkF (fbOf c ds) tmps (.inRegion ops (i :: rest) :: k)) w := fun ht hq =>
            next (.one (step_rcv_none ho hw h2 ht)) φ.le_refl x.hH x.hnx (Nat.le_refl _) (Keep.refl _ _) (.flat .nilIface rfl) (run_putK hq)
           obtain ⟨cfn, cnt, ckd, cdf, crp, crc⟩ := c
           have hrc : RcvR φ ckd crp crc cs0 := x.hrc
           cases ckd with
           | false => exact none' (rcv_normal rfl) h
           | true =>
             have hk2 : (mkF (fbOf ⟨cfn, cnt, true, cdf, crp, crc⟩ ds) tmps (.inRegion ops (i :: rest) :: k)).kind = .deferred := rfl
             have hrc := hrc rfl
             cases crp with
             | none => exact none' (hrc _ hk2) h
             | some v =>
               obtain ⟨q, C, rs, v', older, hcs, hC, hv⟩ := hrc
               subst q hcs
               obtain ⟨hd, hq⟩ := run_putK (show (putK cnt tm o.dst v (fun tm => stepR P pl ops K rest ⟨cfn, cnt, true, cdf, none, true⟩ tm H nx) .bad).run O = some r from h)
               have hsz : tmps.size = cnt := x.hsz
               have hd' : ∀ d, o.dst = some d -> d < tmps.size := fun d h => by rw [hsz]; exact hd d h
               have ht : tryRecover (mkF (fbOf ⟨cfn, cnt, true, cdf, some v, false⟩ ds) tmps (.inRegion ops (i :: rest) :: k)) (C :: rs) = some (v', markC (C :: rs)) := by
                rw [rcv_deferred hk2]
                unfold markC
                simp only [hC]
               have hx : Fx P W lo (C :: rs) ⟨cfn, cnt, true, cdf, none, true⟩ φ H nx (putA tmps o.dst v') ds w := ⟨x.hH, x.hnx, x.hlo, (putA_size ..).trans hsz, x.hds, fun _ F hF => rcv_mark (cs := C :: rs) hF⟩
               exact FinOK.steps (rc1 := true) (.one (step_rcv_some ho hw h2 ht)) φ.le_refl (fun _ _ q => ⟨q, rfl⟩) (stepR_ok hO hK rest _ _ _ _ _ hq _ _ _ _ _ _ hx (htr.put hd' hv fun t h _ => h))
       . rcases run_bK h with ⟨hfr, h⟩ | ⟨hfr, h⟩
         . rcases isFr_inv hfr with ⟨e, y, hop⟩ | ⟨t, d, y, hop⟩
           . unfold frQ at h
             simp only [hop] at h
             obtain ⟨u, hu, h⟩ := run_optK (show (optK (eva P tm y) (fun v => natF (Nat.succ nx) fun n => putK c.nt tm o.dst (eptrV v) (fun tm => stepR P pl ops K rest c tm H n) .bad) .bad).run O = some r from h)
             rw [natF_eq] at h
             obtain ⟨φ', v', w', hs, h1, h2, h3, h4, h5⟩ := box_ok x.hH x.hnx hop (fun v hv => hE y (by rw [hop]; simp [Op.operands]) v hv) hu
             exact next (.one (step_value ho hw hs)) h2 h3 h4 (Nat.le_succ _) h5 h1 (run_putK h)
           . unfold frQ at h
             simp only [hop] at h
             obtain ⟨b, off, ha, h⟩ := run_ptrQ (show (frStore P c.nt tm H nx t d o.dst (eva P tm (.tmp d)) (eva P tm y) fun tm H nx => stepR P pl ops K rest c tm H nx).run O = some r from h)
             obtain ⟨u, hu, h⟩ := run_optK h
             obtain ⟨n, tr, el, hg, h⟩ := run_cellsQ h
             obtain ⟨s, hs, h⟩ := run_optK h
             obtain ⟨hc, hq⟩ := run_bif h
             rw [setK_set, natF_eq] at hq
             simp only [Bool.and_eq_true] at hc
             have hn := beq_eq hc.2.1
             have hl := beq_eq hc.2.2.1
             obtain ⟨hd, hq1⟩ := run_putK hq
             obtain ⟨hd2, hq2⟩ := run_putK hq1
             have hoff := beq_eq hc.1
             clear h hq hq1
             subst hoff
             obtain ⟨φ', v', w', y', hr, hy', hv', h1, h2, h3, h4, h5⟩ := frStore_ok x.hH x.hnx hop (by rw [hop] at hE; exact hE) ha hu hg hs hn hl hc.2.2.2
             have hst : step P (lone (mkF (fbOf c ds) tmps (.inRegion ops (i :: rest) :: k)) (csAt c.rc cs0) w) = .next (lone (mkF (fbOf c ds) (putA tmps o.dst v') (.inRegion ops rest :: k)) (csAt c.rc cs0) w') := by
              rcases hy' with rfl | ⟨rfl, rfl⟩
              . exact step_value ho hw hr
              . exact step_skipv ho hw hr
             have hdd : d < tmps.size := by rw [x.hsz]; exact hd d rfl
             have hd2' : ∀ e, o.dst = some e -> e < tmps.size := fun e q => by rw [x.hsz]; exact hd2 e q
             have htd : tmps[d]? = some (evalA tmps (.tmp d)) := by
              rw [Array.getElem?_eq_getElem hdd]
              show _ = some (tmps.getD d undef)
              simp [Array.getD, hdd]
             have ht1 := (htr.mono h2).refine htd h1
             refine FinOK.steps (.one hst) h2 (fun k _ q => h5 k q) (stepR_ok hO hK rest _ _ _ _ _ hq2 _ _ _ _ ds cs0 (x.next h2 h3 h4 (Nat.le_succ _) (putA_size ..)) ?_)
             exact ht1.put hd2' (by rw [hv']; exact .flat undef rfl) fun t h _ => h
         . obtain ⟨v, H', nx', he, h⟩ := run_eff h
           obtain ⟨φ', v', w', hs, h1, h2, h3, h4, h5⟩ := eff_run (fb := fbOf c ds) (k := k) (cs := csAt c.rc cs0) (rest := rest) ho hw (ef_sound x.hH x.hnx hE he)
           have hn : nx <= nx' := by have := le_len h2 h5; rw [x.hnx, h4] at this; exact this
           exact next (.one hs) h2 h3 h4 hn h5 h1 (run_putK h)
theorem stepD_ok (hO : OrcOK P W O) {K : Kt} (hK : KOK P W O K k) : ∀ (l : List (Nat × List Nat)) (tm : T Value) (H : T OB) (nx : Nat) (φ : Phi) (tmps : Array Value) (w : World) (π done lds : List Nat) (κ : Nat -> Nat),
 (stepD P pl ops K l c tm H nx).run O = some r -> Fx P W lo cs0 c φ H nx tmps ds w -> DrawC P φ H tm tmps ops done lds l π κ lo nx -> LoadP P H tm ops done π -> FinOK P W c.kd c.fn lo cs0 c.rc φ H r (mkF (fbOf c ds) tmps (.inRegion ops π :: k)) w
 | [], tm, H, nx, φ, tmps, w, π, done, lds, κ, h, x, hD, hL => by
   obtain ⟨φ', tmps', w', π', hs, hle, hH', hlen, hk, hD', _, hz, hn⟩ := run_pend (fn := fbOf c ds) (k := k) (cs := csAt c.rc cs0) π φ tmps w x.hH hD hL
   have := hD'.last hn
   subst this
   refine FinOK.steps (hs.trans (.one (step_region_end (b := mkF (fbOf c ds) #[] []) (a := ⟨tmps', ds⟩)))) hle (fun k hk' q => ⟨hk k hk' q, rfl⟩) (hK c tm H nx r h _ _ _ _ ds cs0 (x.next hle hH' (hlen.trans x.hnx) (Nat.le_refl _) hz) ?_)
   exact fun t v hv => (hD'.tr t v hv).imp (fun ⟨p, hp, _⟩ => absurd hp List.not_mem_nil) id
 | (i, chk) :: rest, tm, H, nx, φ, tmps, w, π, done, lds, κ, h, x, hD, hL => by
   obtain ⟨o, ho, hni, hrdy, hpr, hpe⟩ := okPlan_cons hD.plan
   obtain ⟨o', ho', h⟩ := run_optK (show (Ev.optK ops[i]? (opD P pl ops chk c tm H nx (stepD P pl ops K rest)) .bad).run O = some r from h)
   rw [ho] at ho'
   cases ho'
   unfold opD at h
   obtain ⟨b, hb, hy, hn0⟩ := run_guard h
   have hsz := x.hsz
   have ahead : ∀ {φ' : Phi} {H' : T OB} {nx' : Nat} {κ' : Nat -> Nat} {u : Value}, fore (anOf ops) i o = true -> (∀ d, o.dst = some d -> d < c.nt) -> φ.le φ' ->
    (∀ k, k < nx -> φ[k]? = some none -> φ'[k]? = some none /\ hp H' k = hp H k) -> (∀ p, p ≠ i -> κ' p = κ p) -> nx <= nx' -> HR P W φ' (hp H') w -> φ'.length = nx' ->
    Prom P φ' H' (tmPut tm o.dst u) ops κ' lo nx' i o -> (isAl o.op = true -> nx <= κ' i) -> (∀ k ob, hp H k = some ob -> hp H' k = some ob) ->
    (isLd o.op = true -> wantedO (tmPut tm o.dst u) ops o = some true -> rd P H' (tmPut tm o.dst u) o = some u) ->
    (stepD P pl ops K rest c (tmPut tm o.dst u) H' nx').run O = some r -> FinOK P W c.kd c.fn lo cs0 c.rc φ H r (mkF (fbOf c ds) tmps (.inRegion ops π :: k)) w := by
    intro φ' H' nx' κ' u hc hd hle hk hκ hn hH' hl hprom hfresh hext hself hq
    have hna : i ∉ antis ops := anOf_sub fun hm => by
     have hm' : (anOf ops).contains i = true := by simpa using hm
     unfold fore at hc
     rw [hm', Bool.not_true, Bool.and_false] at hc
     cases hc
    refine FinOK.steps (.refl _ _) hle (fun k hk' q => hk k (by have := x.hlo; omega) q) (stepD_ok hO hK rest _ H' nx' φ' tmps w π (i :: done) _ κ' hq (x.next hle hH' hl hn rfl)
     (hD.take ho hna hni hrdy (hpr hc) (fun p hp => ?_) (fun hl => ?_) hle hk hκ hn (fun d h => by rw [hsz]; exact hd d h) hprom hfresh) (hL.take hD.sa hD.ready ho hna hni hext hself))
    . split
      . exact List.mem_cons_of_mem _ hp
      . exact hp
    . rw [if_pos hl]; simp
   have hself : ∀ {d : Tmp}, o.dst = some d -> d ∉ o.looksAt ops := fun hd => not_self hD.sa hD.ac ho hd
   have e1 : ∀ u, wantedO (tmPut tm o.dst u) ops o = wantedO tm ops o := fun u => stable_w (i := i) (p := i) fun d hd => hself hd
   have e2 : ∀ u H, rd P H (tmPut tm o.dst u) o = rd P H tm o := fun u H => stable_rd fun d hd => hself hd
   have e3 : ∀ u d, o.dst = some d -> (tmPut tm o.dst u).get (bits d) = some u := fun u d hd => by rw [get_tmPut, if_pos hd]
   have turn : fore (anOf ops) i o = false -> ∃ φ1 tmps1 w1 l, Steps P (lone (mkF (fbOf c ds) tmps (.inRegion ops π :: k)) (csAt c.rc cs0) w) (lone (mkF (fbOf c ds) tmps1 (.inRegion ops (i :: l) :: k)) (csAt c.rc cs0) w1) /\
    φ.le φ1 /\ (∀ k, k < lo -> φ[k]? = some none -> φ1[k]? = some none /\ hp H k = hp H k) /\ Fx P W lo cs0 c φ1 H nx tmps1 ds w1 /\ DrawC P φ1 H tm tmps1 ops done lds ((i, chk) :: rest) (i :: l) κ lo nx /\
    Region.wanted o (yielded ops tmps1) = b /\ EvR P φ1 tm (evalA tmps1) o.op.operands.toList := by
    intro hc
    obtain ⟨φ1, tmps1, w1, π', hs, hle, hH1, hlen, hk, hD1, _, hz, hn⟩ := run_pend (fn := fbOf c ds) (k := k) (cs := csAt c.rc cs0) π φ tmps w x.hH hD hL
    obtain ⟨l, rfl⟩ := hD1.head ho hc hn
    exact ⟨φ1, tmps1, w1, l, hs, hle, fun j hj q => ⟨hk j hj q, rfl⟩, x.next hle hH1 (hlen.trans x.hnx) (Nat.le_refl _) hz, hD1,
     wanted_of hD1.tr (fun p hp d hd => head_free hD1.lin hD1.own ho (looks_guard hp hd)) hb, EvR_of hH1.gl hD1.tr fun t ht => head_free hD1.lin hD1.own ho (looks_op ht)⟩
   have fin : ∀ {φ1 φ2 : Phi} {H' : T OB} {nx' : Nat} {tmps1 : Array Value} {w1 w2 : World} {l : List Nat} {v v' : Value}, fore (anOf ops) i o = false -> Fx P W lo cs0 c φ1 H nx tmps1 ds w1 -> DrawC P φ1 H tm tmps1 ops done lds ((i, chk) :: rest) (i :: l) κ lo nx ->
    Steps P (lone (mkF (fbOf c ds) tmps1 (.inRegion ops (i :: l) :: k)) (csAt c.rc cs0) w1) (lone (mkF (fbOf c ds) (putA tmps1 o.dst v') (.inRegion ops l :: k)) (csAt c.rc cs0) w2) ->
    φ1.le φ2 -> HR P W φ2 (hp H') w2 -> φ2.length = nx' -> nx <= nx' -> Keep φ1 φ2 (hp H) (hp H') -> VR φ2 v v' -> ((∀ d, o.dst = some d -> d < c.nt) /\ (chkQ P H' (tmPut tm o.dst v) ops chk (stepD P pl ops K rest c (tmPut tm o.dst v) H' nx')).run O = some r) ->
    FinOK P W c.kd c.fn lo cs0 c.rc φ1 H r (mkF (fbOf c ds) tmps1 (.inRegion ops (i :: l) :: k)) w1 := by
    intro φ1 φ2 H' nx' tmps1 w1 w2 l v v' hc x1 hD1 hs hle hH2 hl hn hkp hv hq
    obtain ⟨hd, hq⟩ := hq
    unfold chkQ at hq
    rcases run_bK hq with ⟨hchk, hq⟩ | ⟨_, hq⟩
    . obtain ⟨h6, h7⟩ := hD1.finish (H' := H') ho hc hle (fun j _ q => hkp j q) hn hv (fun d h => by rw [x1.hsz]; exact hd d h) hchk
      exact FinOK.steps hs hle (fun k _ q => hkp k q) (stepD_ok hO hK rest _ _ _ _ _ _ _ _ _ _ hq (x1.next hle hH2 hl hn (putA_size ..)) h6 h7)
    . exact (run_bad hq).elim
   cases b with
   | true =>
     have h := hy rfl
     unfold doD at h
     rcases run_bK h with ⟨hrd, h⟩ | ⟨hrd, h⟩
     . obtain ⟨v, hv, h⟩ := run_optK h
       obtain ⟨hd, hq⟩ := run_putB h
       cases hf : fore (anOf ops) i o with
       | false =>
         obtain rfl : chk = [] := (hpe hf).1 hrd
         obtain ⟨φ1, tmps1, w1, l, hs, hle1, hk1, x1, hD1, hw1, hE1⟩ := turn hf
         obtain ⟨v', hvr, hrun⟩ := rd_sound x1.hH hE1 hv
         exact FinOK.steps hs hle1 hk1 (fin hf x1 hD1 (.one (step_value ho hw1 hrun)) φ1.le_refl x1.hH x1.hnx (Nat.le_refl _) (Keep.refl _ _) hvr ⟨hd, by unfold chkQ; exact hq⟩)
       | true =>
       exact ahead (u := v) (κ' := κ) hf hd φ.le_refl (fun k _ q => ⟨q, rfl⟩) (fun _ _ => rfl) (Nat.le_refl _) x.hH x.hnx
        (.inr (.inl ⟨(e1 v).trans hb, hrd, v, e3 v, fun _ => (e2 v H).trans hv⟩)) (fun hal => by
         rw [isAl_rd hal] at hrd
         cases hrd) (fun _ _ h => h) (fun _ _ => (e2 v H).trans hv) hq
     . rcases run_bK h with ⟨hal, h⟩ | ⟨hal, h⟩
       . cases hf : fore (anOf ops) i o with
         | false =>
           obtain ⟨φ1, tmps1, w1, l, hs, hle1, hk1, x1, hD1, hw1, hE1⟩ := turn hf
           refine FinOK.steps hs hle1 hk1 ?_
           obtain ⟨v, H', nx', he, h⟩ := run_eff h
           obtain ⟨φ2, v', w2, hs2, h1, h2, h3, h4, h5⟩ := eff_run (fb := fbOf c ds) (k := k) (cs := csAt c.rc cs0) (rest := l) ho hw1 (ef_sound x1.hH x1.hnx hE1 he)
           have hn : nx <= nx' := by have := le_len h2 h5; rw [x1.hnx, h4] at this; exact this
           exact fin hf x1 hD1 (.one hs2) h2 h3 h4 hn h5 h1 (run_putK h)
         | true =>
         obtain ⟨v, H', nx', he2, h⟩ := run_eff h
         obtain ⟨e, l, mk, hz, rfl, rfl, rfl⟩ := ef_al hal he2
         obtain ⟨hd, hq⟩ := run_putK h
         unfold chkQ at hq
         have hq := (run_bK hq).elim (fun q => q.2) (fun q => (run_bad q.2).elim)
         have hnone : hp H nx = none := by
          cases hx : hp H nx with
          | none => rfl
          | some ob => have := x.hH.dom nx ob hx; have := x.hnx; omega
         have hnx := x.hnx
         subst hnx
         refine ahead (u := mk φ.length) (κ' := fun p => if p = i then φ.length else κ p) (φ' := φ ++ [none]) hf hd (le_push φ _) (fun j hj q => ⟨?_, ?_⟩) (fun p hp => if_neg hp) (Nat.le_succ _) ?_ (by simp)
          (.inr (.inr ⟨(e1 _).trans hb, hal, e, l, mk, alR_congr (fun y hy => eva_tmPut tm o.dst _ y fun d hd q => by
           subst q
           exact hself hd (looks_op hy)) hz, ?_, ?_, ?_, ?_, fun d hd => ?_⟩)) (fun _ => ?_) (fun j ob hj => ?_) (fun hl => ?_) hq
         . rw [List.getElem?_append_left hj]; exact q
         . rw [hp_set, upd_other _ (by omega)]
         . rw [hp_set]; exact x.hH.pend _
         . dsimp only; rw [if_pos rfl]; exact get_push φ _
         . dsimp only; rw [if_pos rfl, hp_set, upd_same]
         . dsimp only; rw [if_pos rfl]; exact x.hlo
         . dsimp only; rw [if_pos rfl]; omega
         . dsimp only; rw [if_pos rfl]; exact e3 _ d hd
         . rw [if_pos rfl]; exact Nat.le_refl _
         . rw [hp_set]
           by_cases hjn : j = φ.length
           . subst hjn; rw [hnone] at hj; cases hj
           . rw [upd_other _ hjn]; exact hj
         . rw [isAl_ld hal] at hl; cases hl
       . have hc : fore (anOf ops) i o = false := by unfold fore; rw [hrd, hal]; rfl
         obtain ⟨φ1, tmps1, w1, l, hs, hle1, hk1, x1, hD1, hw1, hE1⟩ := turn hc
         refine FinOK.steps hs hle1 hk1 ?_
         rcases run_bK h with ⟨hct, h⟩ | ⟨hct, h⟩
         . cases he : ef P H nx tm o with
           | bad => rw [he] at h; cases h
           | val v H' nx' => rw [he] at h; cases h
           | dfr g args => rw [he] at h; cases h
           | rcv => rw [he] at h; cases h
           | call g args =>
             rw [he] at h
             obtain ⟨args', h1, hok, h2⟩ := ef_call hE1 he
             obtain ⟨r1, h3, h4⟩ := run_ask (show (Q.ask (.call g args false none H nx) _).run O = some r from h)
             obtain ⟨φ2, w2, hle, hH2, hl2, hkp, hn1, ho1⟩ := call_ok hO h3 x1.hH x1.hnx h1 (C := mkF (fbOf c ds) tmps1 (.inRegion ops (i :: l) :: k)) rfl (csAt c.rc cs0)
             cases hr1 : r1.o with
             | ret v =>
               rw [hr1] at ho1
               simp only [hr1] at h4
               obtain ⟨v', hv', hs2⟩ := ho1
               rw [fin_mk ho] at hs2
               exact fin hc x1 hD1 (.head (step_enter ho hw1 (h2 w1)) hs2) hle hH2 hl2 hn1 hkp hv' (run_putB h4)
             | pan v =>
               rw [hr1] at ho1
               simp only [hr1] at h4
               obtain ⟨v', hv', hs2⟩ := ho1
               rcases run_bK h4 with ⟨hdf, h4⟩ | ⟨_, h4⟩
               . have hdf := List.isEmpty_iff.1 hdf
                 obtain ⟨fd, hfd, h4⟩ := run_optK (show (optK P.funcs[c.fn]? (fun _ => Q.ret ⟨.pan v, c.rc, r1.H, r1.nx⟩) .bad).run O = some r from h4)
                 have h4 := run_ret h4
                 subst h4
                 have hds := x1.hds
                 rw [hdf] at hds
                 cases hds
                 exact ⟨φ2, w2, _, .head (step_enter ho hw1 (h2 w1)) hs2, hle, hH2, hl2, fun k _ q => hkp k q, rfl, rfl, v', hv', rfl, rfl, fd, hfd⟩
               . exact (run_bad h4).elim
           | pan v =>
             rw [he] at h
             obtain ⟨v', h1, h2⟩ := ef_pan hE1 he
             rcases run_bK h with ⟨hdf, h4⟩ | ⟨_, h4⟩
             . have hdf := List.isEmpty_iff.1 hdf
               obtain ⟨fd, hfd, h4⟩ := run_optK (show (optK P.funcs[c.fn]? (fun _ => Q.ret ⟨.pan v, c.rc, H, nx⟩) .bad).run O = some r from h4)
               have h4 := run_ret h4
               subst h4
               have hds := x1.hds
               rw [hdf] at hds
               cases hds
               exact ⟨φ1, w1, _, .one (step_pan ho hw1 (h2 w1)), φ1.le_refl, x1.hH, x1.hnx, fun k _ q => ⟨q, rfl⟩, rfl, rfl, v', h1, rfl, rfl, fd, hfd⟩
             . exact (run_bad h4).elim
         . rcases run_bK h with ⟨hfr, h⟩ | ⟨hfr, h⟩
           . simp only [Bool.and_eq_true] at hfr
             obtain ⟨e, y, hop⟩ : ∃ e y, o.op = .box e y := by
              have hb := hfr.2
              unfold isBox at hb
              split at hb
              . rename_i e y hop; exact ⟨e, y, hop⟩
              . cases hb
             unfold frQ at h
             simp only [hop] at h
             obtain ⟨u, hu, h⟩ := run_optK (show (optK (eva P tm y) (fun v => natF (Nat.succ nx) fun n => putK c.nt tm o.dst (eptrV v) (fun tm => chkQ P H tm ops chk (stepD P pl ops K rest c tm H n)) .bad) .bad).run O = some r from h)
             rw [natF_eq] at h
             obtain ⟨φ2, v', w2, hs2, h1, h2, h3, h4, h5⟩ := box_ok x1.hH x1.hnx hop (fun v hv => hE1 y (by rw [hop]; simp [Op.operands]) v hv) hu
             exact fin hc x1 hD1 (.one (step_value ho hw1 hs2)) h2 h3 h4 (Nat.le_succ _) h5 h1 (run_putK h)
           . obtain ⟨v, H', nx', he, h⟩ := run_eff h
             obtain ⟨φ2, v', w2, hs2, h1, h2, h3, h4, h5⟩ := eff_run (fb := fbOf c ds) (k := k) (cs := csAt c.rc cs0) (rest := l) ho hw1 (ef_sound x1.hH x1.hnx hE1 he)
             have hn : nx <= nx' := by have := le_len h2 h5; rw [x1.hnx, h4] at this; exact this
             exact fin hc x1 hD1 (.one hs2) h2 h3 h4 hn h5 h1 (run_putK h)
   | false =>
     obtain ⟨hd, hq⟩ := run_putK (hn0 rfl)
     cases hc : fore (anOf ops) i o with
     | true =>
       unfold chkQ at hq
       rcases run_bK hq with ⟨hchk, hq⟩ | ⟨_, hq⟩
       . refine ahead (u := undef) (κ' := fun p => if p = i then nx else κ p) hc hd φ.le_refl (fun k _ q => ⟨q, rfl⟩) (fun p hp => if_neg hp) (Nat.le_refl _) x.hH x.hnx
          (.inl ⟨(e1 _).trans hb, e3 _⟩) (fun _ => ?_) (fun _ _ h => h) (fun _ hw => ?_) hq
         . rw [if_pos rfl]; exact Nat.le_refl _
         . rw [e1, hb] at hw; cases hw
       . exact (run_bad hq).elim
     | false =>
       obtain ⟨φ1, tmps1, w1, l, hs, hle1, hk1, x1, hD1, hw1, _⟩ := turn hc
       exact FinOK.steps hs hle1 hk1 (fin hc x1 hD1 (.one (step_not ho hw1)) φ1.le_refl x1.hH x1.hnx (Nat.le_refl _) (Keep.refl _ _) (.flat undef rfl) (run_putK (hn0 rfl)))
end
end Go.Ev
/- The evaluator is right: what a call comes to in it, the model's call comes to. -/
namespace Go.Ev
noncomputable section
set_option linter.unusedVariables false
open Go.RowKit (Below)
variable {P : Program} {W w w' w1 : World} {f fn : FuncId} {cs cs0 : List Frame} {r r1 : Rt} {fr fr' fr1 : Frame} {φ φ' φ1 : Phi} {H H' H1 : T OB} {nx nx' nx1 nt lo hi : Nat} {tm : T Value} {tmps : Array Value} {ops : Array Oper}
 {todo k : List Item} {c : Cg} {ds : List Deferred} {kd : Bool} {O : Cfg -> Option Rt} {pl : Pol}
theorem FinOK.peel {rc : Bool} {fr1 : Frame} (hm : fr.mode = .run) (hs : step P (lone fr (csAt rc cs0) w) = .next (lone fr1 (csAt rc cs0) w)) (h : FinOK P W kd fn lo cs0 rc φ H r fr w) : FinOK P W kd fn lo cs0 rc φ H r fr1 w := by
 obtain ⟨φ', w', frl, ⟨n, hn⟩, h2, h3, h4, h5, h6, h7, h8⟩ := h
 refine ⟨φ', w', frl, ?_, h2, h3, h4, h5, h6, h7, h8⟩
 cases n with
 | zero =>
   exfalso
   have hn : Stepped.next (lone fr (csAt rc cs0) w) = .next (lone frl (csAt r.rc cs0) w') := hn
   have e : fr.mode = frl.mode := by
    injection hn with hn
    simp only [lone] at hn
    simp_all
   rw [hm] at e
   cases hr : r.o with
   | ret v => rw [hr] at h8; obtain ⟨v', _, hg⟩ := h8; rw [hg.1] at e; cases e
   | pan v => rw [hr] at h8; obtain ⟨v', _, hg⟩ := h8; rw [hg.1] at e; cases e
 | succ n =>
   refine ⟨n, ?_⟩
   simp only [runN, hs] at hn
   exact hn
theorem pickT_get (t : Nat) (v : Value) : ∀ l : List Nat, (pickT tm l).get (bits t) = some v -> tm.get (bits t) = some v
 | [], h => by rw [show pickT tm [] = .leaf from rfl, get_leaf] at h; cases h
 | s :: l, h => by
   have h : (optK (tm.get (bits s)) (fun v => setK (bits s) (pickT tm l) (some v) id) (pickT tm l)).get (bits t) = some v := h
   cases hs : tm.get (bits s) with
   | none => rw [hs] at h; exact pickT_get t v l h
   | some u =>
     have h2 : (set (pickT tm l) (bits s) (some u)).get (bits t) = some v := by
      rw [hs, optK_some, setK_set] at h
      exact h
     clear h
     rw [get_at] at h2
     split at h2
     . rename_i q; subst q; exact hs.trans h2
     . exact pickT_get t v l h2
theorem maskT_get {key : Nat} {t : Nat} {v : Value} (h : (maskT pl fn key tm).get (bits t) = some v) : tm.get (bits t) = some v := by
 unfold maskT at h
 split at h
 . exact h
 . cases hl : lookP fn key _ with
   | none => rw [hl] at h; exact h
   | some l => rw [hl] at h; exact pickT_get t v l h
theorem AtOK.mask {key : Nat} (h : AtOK P W c (maskT pl fn key tm) todo H nx r) : AtOK P W c tm todo H nx r := fun φ w lo tmps ds cs0 x htr =>
 h φ w lo tmps ds cs0 x fun t v hv => htr t v (maskT_get hv)
theorem jumpQ_ok (hO : OrcOK P W O) (todo : List Item) : KOK P W O (jumpQ pl todo) todo := fun c tm H nx r h =>
 AtOK.mask (show AtOK P W c (maskT pl c.fn (keyI todo) tm) todo H nx r from hO _ _ (run_jump h))
theorem badK_ok (todo : List Item) : KOK P W O badK todo := fun c tm H nx r h => (run_bad h).elim
def EOK (P : Program) (W : World) (O : Cfg -> Option Rt) (E : List (Nat × Kt)) (k : List Item) : Prop := ∀ id, lookE id E = badK \/ ∃ k', exitTo id k = some k' /\ KOK P W O (lookE id E) k'
theorem EOK.skip {E : List (Nat × Kt)} {it : Item} (h : EOK P W O E k) (hit : ∀ id, exitTo id (it :: k) = exitTo id k) : EOK P W O E (it :: k) := fun j => (h j).imp (fun q => q) fun ⟨k', a, b⟩ => ⟨k', (hit j).trans a, b⟩
theorem EOK.block {E : List (Nat × Kt)} {K : Kt} {id : Nat} (h : EOK P W O E k) (hK : KOK P W O K k) : EOK P W O ((id, K) :: E) (.inBlock id :: k) := fun j => by
 have e : lookE j ((id, K) :: E) = bif Nat.beq id j then K else lookE j E := rfl
 have e2 : exitTo j (.inBlock id :: k) = if id == j then some k else exitTo j k := rfl
 rw [e, e2]
 cases hb : Nat.beq id j with
 | true =>
   have := beq_eq hb
   subst this
   exact .inr ⟨k, by simp, hK⟩
 | false =>
   have hne : (id == j) = false := by
    cases hq : id == j with
    | false => rfl
    | true => have : id = j := by simpa using hq
              subst this; rw [Nat.beq_refl] at hb; cases hb
   rw [hne]
   exact h j
theorem regQ_ok (hO : OrcOK P W O) {K : Kt} (hK : KOK P W O K k) (id : Nat) (ops : Array Oper) (draw : Bool) : KOK P W O (regQ P pl ops draw K) (.code (.region id ops draw) :: k) := fun c tm H nx r h => by
 unfold regQ at h
 rcases run_bK h with ⟨hd, h1⟩ | ⟨hd, h1⟩
 . rcases run_bK h1 with ⟨hm, h2⟩ | ⟨_, h2⟩
   . obtain ⟨p, hp, h3⟩ := run_optK h2
     subst hd
     intro φ w lo tmps ds cs0 x htr
     have hs := step_region_draw (P := P) (b := mkF (fbOf c ds) #[] []) (a := ⟨tmps, ds⟩) (k := k) (cs := csAt c.rc cs0) (w := w) (ops := ops) (id := id)
     rw [hm] at hs
     have x' : Fx P W lo cs0 c φ H nx tmps ds w.drew := ⟨x.hH.drew, x.hnx, x.hlo, x.hsz, x.hds, x.hrc⟩
     obtain ⟨h1, h2⟩ := DrawC.start (P := P) (φ := φ) (H := H) hp (w.tape w.drawn (.order (mkF (fbOf c ds) #[] []).fn id)) htr lo nx
     exact FinOK.steps (.one hs) φ.le_refl (fun _ _ q => ⟨q, rfl⟩) (stepD_ok hO hK p tm H nx φ tmps _ _ _ _ _ h3 x' h1 h2)
   . exact (run_bad h2).elim
 . subst hd
   exact (stepR_ok hO hK _ c tm H nx r h1).step1 fun ds tmps cs w => .one (step_region (b := mkF (fbOf c ds) #[] []) (a := ⟨tmps, ds⟩))
theorem stepC_ok (hO : OrcOK P W O) (cd : Code) : ∀ (k : List Item) (K : Kt) (E : List (Nat × Kt)), KOK P W O K k -> EOK P W O E k -> KOK P W O (stepC P pl cd k K E) (.code cd :: k) := by
 induction cd with
 | skip => exact fun k K E hK hE c tm H nx r h => (hK c tm H nx r h).step1 fun ds tmps cs w => .one (step_skip (b := mkF (fbOf c ds) #[] []) (a := ⟨tmps, ds⟩))
 | label l => exact fun k K E hK hE c tm H nx r h => (hK c tm H nx r h).step1 fun ds tmps cs w => .one (step_label (b := mkF (fbOf c ds) #[] []) (a := ⟨tmps, ds⟩))
 | ret => exact fun k K E hK hE => leaveQ_ok hO (.inr ⟨k, rfl⟩)
 | region id ops draw => exact fun k K E hK hE => regQ_ok hO hK id ops draw
 | seq a b iha ihb =>
   intro k K E hK hE c tm H nx r h
   refine AtOK.step1 (fun ds tmps cs w => .one (step_seq (b := mkF (fbOf c ds) #[] []) (a := ⟨tmps, ds⟩))) (iha (.code b :: k) _ E ?_ (hE.skip fun _ => rfl) c tm H nx r h)
   cases hq : cutQ pl a b with
   | true => exact jumpQ_ok hO _
   | false => exact ihb k K E hK hE
 | cond q a b iha ihb =>
   intro k K E hK hE c tm H nx r h φ w lo tmps ds cs0 x htr
   have h : (boolQ (eva P tm q) (stepC P pl a k K E c tm H nx) (stepC P pl b k K E c tm H nx)).run O = some r := h
   unfold boolQ at h
   split at h
   . rename_i t hx
     have he : Act.eval ⟨tmps, ds⟩ q = .bool t := by
      rw [evalA_eq]
      exact ((EvR_of x.hH.gl htr (l := [q]) noMask) q (by simp) _ hx).eq_of_flat rfl
     have hs := step_cond (P := P) (b := mkF (fbOf c ds) #[] []) (a := ⟨tmps, ds⟩) (k := k) (cs := csAt c.rc cs0) (w := w) (x := a) (y := b) he
     rcases run_bK h with ⟨rfl, h⟩ | ⟨rfl, h⟩
     . exact (iha k K E hK hE c tm H nx r h φ w lo tmps ds cs0 x htr).step1 (.one hs)
     . exact (ihb k K E hK hE c tm H nx r h φ w lo tmps ds cs0 x htr).step1 (.one hs)
   . exact (run_bad h).elim
 | block id body ih =>
   intro k K E hK hE c tm H nx r h
   refine AtOK.step1 (fun ds tmps cs w => .one (step_block (b := mkF (fbOf c ds) #[] []) (a := ⟨tmps, ds⟩))) (ih (.inBlock id :: k) K ((id, K) :: E) (fun c tm H nx r h => ?_) (hE.block hK) c tm H nx r h)
   exact (hK c tm H nx r h).step1 fun ds tmps cs w => .one (step_inBlock (b := mkF (fbOf c ds) #[] []) (a := ⟨tmps, ds⟩))
 | loop body ih =>
   intro k K E hK hE c tm H nx r h φ w lo tmps ds cs0 x htr
   have h1 := jumpQ_ok (pl := pl) hO (.inLoop body :: k) c tm H nx r h φ w lo tmps ds cs0 x htr
   exact (h1.peel rfl (step_inLoop (b := mkF (fbOf c ds) #[] []) (a := ⟨tmps, ds⟩))).step1 (.one (step_loop (b := mkF (fbOf c ds) #[] []) (a := ⟨tmps, ds⟩)))
 | scope body ih =>
   intro k K E hK hE c tm H nx r h
   refine AtOK.step1 (fun ds tmps cs w => .one (step_scope (b := mkF (fbOf c ds) #[] []) (a := ⟨tmps, ds⟩))) (ih (.inScope body :: k) K E (fun c tm H nx r h => ?_) (hE.skip fun _ => rfl) c tm H nx r h)
   exact (hK c tm H nx r h).step1 fun ds tmps cs w => .one (step_inScope (b := mkF (fbOf c ds) #[] []) (a := ⟨tmps, ds⟩))
 | exit id =>
   intro k K E hK hE c tm H nx r h
   have h : (lookE id E c tm H nx).run O = some r := h
   rcases hE id with q | ⟨k', hk', hK'⟩
   . rw [q] at h; exact (run_bad h).elim
   . exact (hK' c tm H nx r h).step1 fun ds tmps cs w => .one (step_exit (b := mkF (fbOf c ds) #[] []) (a := ⟨tmps, ds⟩) hk')
 | _ => exact fun k K E hK hE => badK_ok _
theorem evI_ok (hO : OrcOK P W O) : ∀ todo : List Item, KOK P W O (evI P pl todo).1 todo /\ EOK P W O (evI P pl todo).2 todo
 | [] => ⟨leaveQ_ok hO (.inl rfl), fun id => .inl rfl⟩
 | it :: k => by
   obtain ⟨h1, h2⟩ := evI_ok hO k
   cases it with
   | code cd => exact ⟨stepC_ok hO cd k _ _ h1 h2, h2.skip fun _ => rfl⟩
   | inBlock id => exact ⟨fun c tm H nx r h => (h1 c tm H nx r h).step1 fun ds tmps cs w => .one (step_inBlock (b := mkF (fbOf c ds) #[] []) (a := ⟨tmps, ds⟩)), h2.block h1⟩
   | inScope b => exact ⟨fun c tm H nx r h => (h1 c tm H nx r h).step1 fun ds tmps cs w => .one (step_inScope (b := mkF (fbOf c ds) #[] []) (a := ⟨tmps, ds⟩)), h2.skip fun _ => rfl⟩
   | inLoop body => exact ⟨jumpQ_ok hO _, h2.skip fun _ => rfl⟩
   | _ => exact ⟨badK_ok _, fun id => .inl rfl⟩
theorem evAt_ok (hO : OrcOK P W O) (todo : List Item) : KOK P W O (evAt P pl todo) todo := by
 unfold evAt
 split
 . rename_i body k
   intro c tm H nx r h
   exact AtOK.step1 (fun ds tmps cs w => .one (step_inLoop (b := mkF (fbOf c ds) #[] []) (a := ⟨tmps, ds⟩))) (stepC_ok hO body _ _ _ (jumpQ_ok hO _) ((evI_ok hO k).2.skip fun _ => rfl) c tm H nx r h)
 . exact (evI_ok hO todo).1
theorem evT_ok (hO : OrcOK P W O) : ∀ q r, (evT P pl q).run O = some r -> CfgOK P W q r
 | .at c tm todo H nx, r, h => evAt_ok hO todo c tm H nx r h
 | .call f args kd rp H nx, r, h => fun φ w args' cs0 hH hnx hl hrc => by
   obtain ⟨fd, hf, h⟩ := run_optK (show (optK P.funcs[f]? (fun fn => optK fn.body (fun cd => evF P pl f kd rp fn cd args H nx) .bad) .bad).run O = some r from h)
   obtain ⟨cd, hb, h⟩ := run_optK h
   unfold evF at h
   obtain ⟨hn, h⟩ := run_bif h
   have hn := ble_le hn
   obtain ⟨φ1, us, H1, nx1, h, hl1, hz⟩ := frzL_sound fd.params _ _ _ φ H nx hH hnx hl h
   rw [fromLK_fromL] at h
   have hlen := hl.len
   have hlen1 := hl1.len
   have e : Frame.enter P f args'.toArray (kindOf kd) = mkF (fbOf ⟨f, fd.ntmps, kd, [], rp, false⟩ []) (args'.toArray ++ Array.replicate (fd.ntmps - args'.toArray.size) undef) [.code cd] := by
    simp [Frame.enter, hf, hb, mkF, fbOf]
   rw [e]
   have hx : Fx P W nx cs0 ⟨f, fd.ntmps, kd, [], rp, false⟩ φ1 H1 nx1 (args'.toArray ++ Array.replicate (fd.ntmps - args'.toArray.size) undef) [] w := ⟨hz.2.1, hz.2.2.1, hz.2.2.2.2, by
    show (args'.toArray ++ Array.replicate (fd.ntmps - args'.toArray.size) undef).size = fd.ntmps
    simp only [Array.size_append, List.size_toArray, Array.size_replicate]
    omega, .nil, hrc.mono hz.1⟩
   refine hz.fin (stepC_ok hO cd [] _ [] (leaveQ_ok hO (.inl rfl)) (fun id => .inl rfl) _ _ _ _ r h φ1 w nx _ [] cs0 hx ?_)
   intro t v hv
   rw [get_fromL] at hv
   split at hv
   . rename_i ht
     rw [Nat.sub_zero] at hv
     obtain ⟨v', h1, h2⟩ := hl1.get hv
     refine .inr ⟨v', ?_, h2⟩
     have : t < args'.toArray.size := by simp; omega
     rw [Array.getElem?_append_left this]
     simpa using h1
   . rw [get_leaf] at hv; cases hv
def ExtOK (P : Program) (W : World) (X : Ext) : Prop := ∀ f args v, X f args = some v -> (∀ x ∈ args, flat x = true) /\ flat v = true /\
 ∀ w, Below W.heap.size W w -> Calls P f args.toArray w fun e w' => e = .returned v /\ Below w.heap.size w w'
theorem LR.eq_of_flat {l l' : List Value} (h : LR φ l l') (hf : ∀ x ∈ l, flat x = true) : l' = l := by
 refine List.ext_getElem? fun i => ?_
 by_cases hi : i < l.length
 . have h5 := List.getElem?_eq_getElem hi
   have h6 := List.getElem?_eq_getElem (h.len ▸ hi : i < l'.length)
   rw [h5, h6, (h.at_ i _ _ h5 h6).eq_of_flat (hf _ (List.getElem_mem hi))]
 . rw [List.getElem?_eq_none (by have := h.len; omega), List.getElem?_eq_none (by omega)]
theorem ext_ok {X : Ext} (hX : ExtOK P W X) {f : FuncId} {args : List Value} {v : Value} (h : X f args = some v) (rp : Option Value) (H : T OB) (nx : Nat) : CfgOK P W (.call f args false rp H nx) ⟨.ret v, false, H, nx⟩ := fun φ w args' cs0 hH hnx hl _ => by
 obtain ⟨h1, h2, h3⟩ := hX f args v h
 have := hl.eq_of_flat h1
 subst this
 obtain ⟨e, w', fr, ⟨he, hb⟩, hc, hfn, hlv⟩ := h3 w hH.below cs0
 subst he
 obtain ⟨a, b, hk, d⟩ := hlv
 exact ⟨φ, w', fr, hc, φ.le_refl, hH.grown hb, hnx, fun k _ q => ⟨q, rfl⟩, hk, hfn, v, .flat v h2, a, b, d⟩
theorem extQ_inv {X : Ext} {q : Cfg} {k : Option Rt} (h : extQ X q k = some r) : k = some r \/ ∃ f args rp H nx v, q = .call f args false rp H nx /\ X f args = some v /\ r = ⟨.ret v, false, H, nx⟩ := by
 cases q with
 | «at» c tm todo H nx => exact .inl h
 | call f args kd rp H nx =>
   cases kd with
   | true => exact .inl h
   | false =>
     have h : @Option.rec Value (fun _ => Option Rt) k (fun v => some ⟨.ret v, false, H, nx⟩) (X f args) = some r := h
     cases hx : X f args with
     | none => rw [hx] at h; exact .inl h
     | some v => rw [hx] at h; cases h; exact .inr ⟨f, args, rp, H, nx, v, rfl, hx, rfl⟩
theorem FD_succ (pl : Pol) (X : Ext) (n : Nat) (q : Cfg) : FD P pl X (n + 1) q = extQ X q ((evT P pl q).run (FD P pl X n)) := rfl
theorem FD_ok {X : Ext} (hX : ExtOK P W X) : ∀ n, OrcOK P W (FD P pl X n)
 | 0, q, r, h => by cases h
 | n + 1, q, r, h => by
   rw [FD_succ] at h
   rcases extQ_inv h with h | ⟨f, args, rp, H, nx, v, rfl, hx, rfl⟩
   . exact evT_ok (FD_ok hX n) q r h
   . exact ext_ok hX hx rp H nx
theorem Q.run_mono {O O' : Cfg -> Option Rt} (hO : ∀ q r, O q = some r -> O' q = some r) : ∀ (q : Q) (r : Rt), q.run O = some r -> q.run O' = some r := by
 intro q
 induction q with
 | ret a => exact fun r h => h
 | bad => exact fun r h => h
 | jump c => exact fun r h => hO c r h
 | ask c k ih =>
   intro r h
   obtain ⟨a, h1, h2⟩ := run_ask h
   show optK (O' c) (fun a => (k a).run O') none = some r
   rw [hO c a h1]
   exact ih a r h2
theorem extQ_mono {X : Ext} {q : Cfg} {k k' : Option Rt} (hk : ∀ r, k = some r -> k' = some r) (h : extQ X q k = some r) : extQ X q k' = some r := by
 cases q with
 | «at» c tm todo H nx => exact hk r h
 | call f args kd rp H nx =>
   cases kd with
   | true => exact hk r h
   | false =>
     have h : @Option.rec Value (fun _ => Option Rt) k (fun v => some ⟨.ret v, false, H, nx⟩) (X f args) = some r := h
     show @Option.rec Value (fun _ => Option Rt) k' (fun v => some ⟨.ret v, false, H, nx⟩) (X f args) = some r
     cases hx : X f args with
     | none => rw [hx] at h; exact hk r h
     | some v => rw [hx] at h; exact h
theorem FD_mono1 {X : Ext} : ∀ (n : Nat) (q : Cfg) (r : Rt), FD P pl X n q = some r -> FD P pl X (n + 1) q = some r
 | 0, q, r, h => by cases h
 | n + 1, q, r, h => by
   rw [FD_succ] at h ⊢
   exact extQ_mono (fun r h => Q.run_mono (FD_mono1 n) _ r h) h
theorem FD_mono {X : Ext} {n m : Nat} (hn : n <= m) {q : Cfg} {r : Rt} (h : FD P pl X n q = some r) : FD P pl X m q = some r := by
 induction hn with
 | refl => exact h
 | step _ ih => exact FD_mono1 _ q r ih
open Classical in
def F (P : Program) (pl : Pol) (X : Ext) (q : Cfg) : Option Rt := if h : ∃ r n, FD P pl X n q = some r then some h.choose else none
theorem F_iff {X : Ext} {q : Cfg} : F P pl X q = some r ↔ ∃ n, FD P pl X n q = some r := by
 unfold F
 constructor
 . intro h
   split at h
   . rename_i hx
     cases h
     exact hx.choose_spec
   . cases h
 . rintro ⟨n, hn⟩
   have hx : ∃ r n, FD P pl X n q = some r := ⟨r, n, hn⟩
   rw [dif_pos hx]
   obtain ⟨m, hm⟩ := hx.choose_spec
   have h1 := FD_mono (Nat.le_max_left n m) hn
   have h2 := FD_mono (Nat.le_max_right n m) hm
   rw [h1] at h2
   cases h2
   rfl
theorem Q.run_lim {X : Ext} : ∀ (q : Q) (r : Rt), q.run (F P pl X) = some r -> ∃ n, q.run (FD P pl X n) = some r := by
 intro q
 induction q with
 | ret a => exact fun r h => ⟨0, h⟩
 | bad => exact fun r h => (run_bad h).elim
 | jump c => exact fun r h => F_iff.1 h
 | ask c k ih =>
   intro r h
   obtain ⟨a, h1, h2⟩ := run_ask h
   obtain ⟨n, hn⟩ := F_iff.1 h1
   obtain ⟨m, hm⟩ := ih a r h2
   refine ⟨max n m, ?_⟩
   show optK (FD P pl X (max n m) c) (fun a => (k a).run (FD P pl X (max n m))) none = some r
   rw [FD_mono (Nat.le_max_left n m) hn]
   exact Q.run_mono (fun q r h => FD_mono (Nat.le_max_right n m) h) _ r hm
theorem F_eq {X : Ext} (q : Cfg) : F P pl X q = extQ X q ((evT P pl q).run (F P pl X)) := by
 have up : ∀ r, F P pl X q = some r -> extQ X q ((evT P pl q).run (F P pl X)) = some r := fun r h => by
  obtain ⟨n, hn⟩ := F_iff.1 h
  cases n with
  | zero => cases hn
  | succ n =>
    rw [FD_succ] at hn
    exact extQ_mono (fun r h => Q.run_mono (fun q r h => F_iff.2 ⟨n, h⟩) _ r h) hn
 have down : ∀ r, extQ X q ((evT P pl q).run (F P pl X)) = some r -> F P pl X q = some r := fun r h => by
  rcases extQ_inv h with h | ⟨f, args, rp, H, nx, v, rfl, hx, rfl⟩
  . obtain ⟨n, hn⟩ := Q.run_lim _ r h
    cases hF : extQ X q ((evT P pl q).run (FD P pl X n)) with
    | none =>
      exfalso
      rw [hn] at hF
      cases q with
      | «at» c tm todo H nx => cases hF
      | call f args kd rp H nx =>
        cases kd with
        | true => cases hF
        | false =>
          have hF : @Option.rec Value (fun _ => Option Rt) (some r) (fun v => some ⟨.ret v, false, H, nx⟩) (X f args) = none := hF
          cases hx : X f args <;> rw [hx] at hF <;> cases hF
    | some r' =>
      have h1 : F P pl X q = some r' := F_iff.2 ⟨n + 1, by rw [FD_succ]; exact hF⟩
      have h2 := up r' h1
      have h3 : extQ X q ((evT P pl q).run (F P pl X)) = some r := by assumption
      rw [h2] at h3
      cases h3
      exact h1
  . refine F_iff.2 ⟨1, ?_⟩
    rw [FD_succ]
    show @Option.rec Value (fun _ => Option Rt) _ (fun v => some ⟨.ret v, false, H, nx⟩) (X f args) = _
    rw [hx]
 cases h : F P pl X q with
 | some r => exact (up r h).symm
 | none =>
   cases h2 : extQ X q ((evT P pl q).run (F P pl X)) with
   | none => rfl
   | some r => rw [down r h2] at h; cases h
theorem F_of {X : Ext} {n : Nat} {q : Cfg} (h : FD P pl X n q = some r) : F P pl X q = some r := F_iff.2 ⟨n, h⟩
theorem calls_of_F {X : Ext} (hX : ExtOK P W X) {f : FuncId} {args args' : List Value} {v : Value} {H' : T OB} {nx' : Nat} (hH : HR P W φ (hp H) W) (hnx : φ.length = nx) (hl : LR φ args args') (hv : flat v = true)
 (h : F P pl X (.call f args false none H nx) = some ⟨.ret v, false, H', nx'⟩) : Calls P f args'.toArray W fun e w' => e = .returned v /\ Below W.heap.size W w' := by
 intro cs
 obtain ⟨n, hn⟩ := F_iff.1 h
 obtain ⟨φ1, w1, frl, s1, hle, hH1, hl1, hk1, hkk, hff, v', hv', hg⟩ := FD_ok hX n _ _ hn φ W args' cs hH hnx hl (fun q => by cases q)
 have := hv'.eq_of_flat hv
 subst this
 obtain ⟨a, b, d⟩ := hg
 exact ⟨.returned v', w1, frl, ⟨rfl, hH1.below⟩, s1, hff, a, b, hkk, d⟩
end
end Go.Ev
