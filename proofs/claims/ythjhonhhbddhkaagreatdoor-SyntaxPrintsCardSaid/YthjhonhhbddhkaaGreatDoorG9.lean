/- The tables; what is known: a fixed run; the laws' calls. -/
import Derived.Test.YthjhonhhbddhkaaGreatDoorG8
import Derived.Test.YthjhonhhbddhkaaGreatDoorG7
import Derived.Test.YthjhonhhbddhkaaGreatDoorRows
import Derived.LaidMore
import Derived.Stop.LaidErr
import Derived.Lib.AppendIntMem
namespace Go.Proofs.YthjhonhhbddhkaaGreatDoor
open Go.Ev Go.RowKit Go.ChangeShapes Go.WideShapes Go.ChangeAt
noncomputable section
set_option maxRecDepth 100000
set_option linter.unusedVariables false
set_option linter.unusedSimpArgs false
variable {W : World}
theorem isTrue_inv {r : Option Rt} (h : isTrue r = true) : ∃ H nx, r = some ⟨.ret (.bool true), false, H, nx⟩ := by
 unfold isTrue at h
 split at h
 . exact ⟨_, _, rfl⟩
 . cases h
theorem ext_none (w : World) : ExtOK P w (fun _ _ => none) := fun f args v h => by cases h
theorem globals_4 : P.globals.size = 4 := by kernel_rfl
structure TabsW (w : World) : Prop where
 size : P.globals.size <= w.heap.size
 tab : ∀ x, x ∈ tabs -> x.1 < P.globals.size /\ ∃ c el fz, w.heap[x.1]? = some (.cells c el fz) /\ x.2.length <= c.size /\ ∀ (i : Nat) (v v' : Value), x.2[i]? = some v -> c[i]? = some v' -> VR (phiW w) v v'
theorem phiW_le {w w' : World} (hb : Below w.heap.size w w') : (phiW w).le (phiW w') := fun k e h => by
 obtain ⟨h1, rfl⟩ := phiW_get h
 have : fzOf w' k = fzOf w k := by
  unfold fzOf
  rw [hb.block k h1]
 rw [phiW_at (Nat.lt_of_lt_of_le h1 hb.size), this]
theorem TabsW.below {w : World} (h : TabsW W) (hb : Below W.heap.size W w) : TabsW w where
 size := Nat.le_trans h.size hb.size
 tab := fun x hx => by
  obtain ⟨h0, c, el, fz, h1, h2, h3⟩ := h.tab x hx
  exact ⟨h0, c, el, fz, by rw [hb.block _ (Nat.lt_of_lt_of_le h0 h.size)]; exact h1, h2, fun i v v' a b => (h3 i v v' a b).mono (phiW_le hb)⟩
theorem HR_WM {w : World} (ht : TabsW w) : HR P w (phiW w) (hp (memOf tabs .leaf)) w := by
 have inv : ∀ k ob, hp (memOf tabs .leaf) k = some ob -> ∃ x ∈ tabs, x.1 = k /\ ob = .ro x.2.length (fromL x.2 0 .leaf) := fun k ob h => by
  rcases hp_memOf tabs .leaf k ob h with h | h
  . exact h
  . rw [hp_leaf] at h; cases h
 have hW := HR_W (P := P) ht.size
 exact {
  below := .refl _ _
  dom := fun k ob h => by
   obtain ⟨x, hx, rfl, _⟩ := inv k ob h
   rw [phiW_length]; exact Nat.lt_of_lt_of_le (ht.tab x hx).1 ht.size
  rng := hW.rng
  inj := fun k k' ob ob' e e' _ _ h _ hl => by
   obtain ⟨x, hx, rfl, rfl⟩ := inv k ob h
   cases hl
  obj := fun k ob e h he => by
   obtain ⟨x, hx, rfl, rfl⟩ := inv k ob h
   obtain ⟨h0, c, el, fz, h1, h2, h3⟩ := ht.tab x hx
   obtain ⟨h4, rfl⟩ := phiW_get he
   refine ⟨h4, c, el, fz, h1, h2, fun i hi v hv => ?_⟩
   rw [get_fromL, if_pos (by omega), Nat.sub_zero] at hv
   have hlt : i < c.size := by omega
   exact ⟨c[i], Array.getElem?_eq_getElem hlt, h3 i v _ hv (Array.getElem?_eq_getElem hlt)⟩
  gl := hW.gl
  fzr := hW.fzr
  fzl := fun k k' e e' c ob _ _ _ h hl => by
   obtain ⟨x, hx, rfl, rfl⟩ := inv k' ob h
   cases hl }
theorem tabIn_mem {n : Nat} (hn : 4 <= n) : TabIn n (memOf tabs .leaf) := by
 refine ⟨hn, fun x hx => ?_⟩
 have key : ∀ (l : List Value) (i : Nat), i < l.length -> (fromL l 0 (.leaf : T Value)).get (Ev.bits i) = l[i]? := fun l i hi => by
  rw [get_fromL, if_pos (by omega), Nat.sub_zero]
 have e : ∀ (b : Nat), (memOf tabs .leaf).get (Ev.bits b) = if b = 3 then some (.ro (wordsL.map txt).length (fromL (wordsL.map txt) 0 .leaf)) else if b = 2 then some (.ro (levelsL.map lvl).length (fromL (levelsL.map lvl) 0 .leaf)) else if b = 1 then some (.ro (keysL.map txt).length (fromL (keysL.map txt) 0 .leaf)) else if b = 0 then some (.ro (signsL.map txt).length (fromL (signsL.map txt) 0 .leaf)) else none := fun b => by
  show (Ev.set (Ev.set (Ev.set (Ev.set (.leaf : T OB) (Ev.bits 0) _) (Ev.bits 1) _) (Ev.bits 2) _) (Ev.bits 3) _).get (Ev.bits b) = _
  rw [Ev.get_at, Ev.get_at, Ev.get_at, Ev.get_at]
  have : (T.leaf : T OB).get (Ev.bits b) = none := hp_leaf b
  rw [this]
 simp only [tabs, List.mem_cons, List.not_mem_nil, or_false] at hx
 rcases hx with rfl | rfl | rfl | rfl
 . exact ⟨_, by rw [e]; rfl, key _⟩
 . exact ⟨_, by rw [e]; rfl, key _⟩
 . exact ⟨_, by rw [e]; rfl, key _⟩
 . exact ⟨_, by rw [e]; rfl, key _⟩
theorem inv_row {w : World} {l : List (List UInt8)} {v' : Value} (hl : l ≠ []) (h : VR (phiW w) (lvl l) v') : ∃ k, k < w.heap.size /\ ∀ (φ : Phi) (j : Nat), φ[j]? = some (some ⟨k, 0, 0, fzOf w k⟩) -> VR φ (lvl l) v' := by
 obtain ⟨a0, r0, rfl⟩ : ∃ a r, l = a :: r := by
  cases l with
  | nil => exact absurd rfl hl
  | cons a r => exact ⟨a, r, rfl⟩
 have hl' : (a0 :: r0).map txt ≠ [] := by simp
 have key : ∀ x, x = lvl (a0 :: r0) -> VR (phiW w) x v' -> ∃ k, k < w.heap.size /\ ∀ (φ : Phi) (j : Nat), φ[j]? = some (some ⟨k, 0, 0, fzOf w k⟩) -> VR φ (lvl (a0 :: r0)) v' := by
  intro x hx h
  cases h with
  | flat v h => subst hx; cases h
  | row0 s => injection hx with _ h1 _; injection h1 with h1; exact absurd h1.symm hl'
  | rowE s a c => injection hx with _ h1 _; injection h1 with h1; exact absurd h1.symm hl'
  | row h1 hf hs hn hc hx' =>
    injection hx with h2 h3 _
    injection h2 with h2
    injection h3 with h3
    subst h2 h3
    obtain ⟨hk, rfl⟩ := phiW_get h1
    refine ⟨_, hk, fun φ j hj => VR.row (o := _) hj hf hs hn hc fun i j x v v' a b c => ?_⟩
    have h4 := hx' i j x v v' a b c
    obtain ⟨s, _, rfl⟩ := List.mem_map.1 (List.mem_of_getElem? a)
    have hfl : Ev.flat v = true := by
     have : v ∈ [txt s] := List.mem_of_getElem? b
     rw [List.mem_singleton.1 this]; rfl
    rw [h4.eq_of_flat hfl]
    exact .flat _ hfl
  | ep h1 hf hn hx' =>
    injection hx with _ _ h3
    injection h3 with h3
    injection h3 with h3
    cases h3
  | _ => cases hx
 exact key _ rfl h
def phiK (w : World) (f : Nat -> Nat) : Phi := (List.range 11).map fun k => if k < 4 then some ⟨k, 0, 0, none⟩ else some ⟨f k, 0, 0, fzOf w (f k)⟩
theorem phiK_length (w : World) (f : Nat -> Nat) : (phiK w f).length = 11 := by simp [phiK]
theorem phiK_get {w : World} {f : Nat -> Nat} {k : Nat} {e : Ent} (h : (phiK w f)[k]? = some (some e)) : k < 11 /\ ((k < 4 /\ e = ⟨k, 0, 0, none⟩) \/ (4 <= k /\ e = ⟨f k, 0, 0, fzOf w (f k)⟩)) := by
 unfold phiK at h
 rw [List.getElem?_map] at h
 by_cases hk : k < 11
 . rw [List.getElem?_range hk] at h
   simp only [Option.map_some, Option.some.injEq] at h
   refine ⟨hk, ?_⟩
   by_cases h4 : k < 4
   . rw [if_pos h4] at h; exact .inl ⟨h4, (Option.some.inj h).symm⟩
   . rw [if_neg h4] at h; exact .inr ⟨by omega, (Option.some.inj h).symm⟩
 . rw [List.getElem?_eq_none (by simp; omega)] at h
   cases h
theorem phiK_lo {w : World} {f : Nat -> Nat} {k : Nat} (h : k < 4) : (phiK w f)[k]? = some (some ⟨k, 0, 0, none⟩) := by
 unfold phiK
 rw [List.getElem?_map, List.getElem?_range (by omega)]
 simp [h]
theorem phiK_hi {w : World} {f : Nat -> Nat} {k : Nat} (h : 4 <= k) (h' : k < 11) : (phiK w f)[k]? = some (some ⟨f k, 0, 0, fzOf w (f k)⟩) := by
 unfold phiK
 rw [List.getElem?_map, List.getElem?_range h']
 simp only [Option.map_some]
 rw [if_neg (by omega)]
theorem fz_at {w : World} {k : Nat} {c : Array Value} (h : fzOf w k = some c) : ∃ el fz, w.heap[k]? = some (.cells c el fz) := by
 unfold fzOf at h
 split at h
 . rename_i c' el fz hc; cases h; exact ⟨el, fz, hc⟩
 . cases h
theorem HR_K {w : World} (ht : TabsW w) : ∃ f, HR P w (phiK w f) (hp (memOf tabs .leaf)) w := by
 obtain ⟨_, c2, el2, fz2, hc2, hs2, hv2⟩ := ht.tab (2, levelsL.map lvl) (by simp [tabs])
 have hlen : (levelsL.map lvl).length = 7 := rfl
 have hex : ∀ i : Fin 7, ∃ k, k < w.heap.size /\ ∀ (φ : Phi) (j : Nat), φ[j]? = some (some ⟨k, 0, 0, fzOf w k⟩) -> ∀ v v', (levelsL.map lvl)[i.val]? = some v -> c2[i.val]? = some v' -> VR φ v v' := by
  intro i
  have hi : i.val < levelsL.length := i.isLt
  have h1 : (levelsL.map lvl)[i.val]? = some (lvl levelsL[i.val]) := by rw [List.getElem?_map, List.getElem?_eq_getElem hi]; rfl
  have hlt : i.val < c2.size := by have := i.isLt; simp only [hlen] at hs2; omega
  have h2 : c2[i.val]? = some c2[i.val] := Array.getElem?_eq_getElem hlt
  have hne : levelsL[i.val] ≠ [] := by
   have : ∀ x ∈ levelsL, x ≠ [] := by decide
   exact this _ (List.getElem_mem _)
  obtain ⟨k, hk, hφ⟩ := inv_row hne (hv2 i.val _ _ h1 h2)
  refine ⟨k, hk, fun φ j hj v v' a b => ?_⟩
  rw [h1] at a
  rw [h2] at b
  cases a; cases b
  exact hφ φ j hj
 obtain ⟨A, hA⟩ := Classical.axiomOfChoice hex
 refine ⟨fun k => A ⟨(k - 4) % 7, Nat.mod_lt _ (by omega)⟩, ?_⟩
 have inv : ∀ k ob, hp (memOf tabs .leaf) k = some ob -> ∃ x ∈ tabs, x.1 = k /\ ob = .ro x.2.length (fromL x.2 0 .leaf) := fun k ob h => by
  rcases hp_memOf tabs .leaf k ob h with h | h
  . exact h
  . rw [hp_leaf] at h; cases h
 have hg := ht.size
 rw [globals_4] at hg
 have h4 : ∀ x, x ∈ tabs -> x.1 < 4 := fun x hx => by have := (ht.tab x hx).1; rw [globals_4] at this; exact this
 exact {
  below := .refl _ _
  dom := fun k ob h => by
   obtain ⟨x, hx, rfl, _⟩ := inv k ob h
   rw [phiK_length]; exact Nat.lt_trans (h4 x hx) (by omega)
  rng := fun k e h => by
   obtain ⟨h1, ⟨h2, rfl⟩ | ⟨h2, rfl⟩⟩ := phiK_get h
   . exact Nat.lt_of_lt_of_le h2 hg
   . exact (hA _).1
  inj := fun k k' ob ob' e e' _ _ h _ hl => by
   obtain ⟨x, hx, rfl, rfl⟩ := inv k ob h
   cases hl
  obj := fun k ob e h he => by
   obtain ⟨x, hx, rfl, rfl⟩ := inv k ob h
   obtain ⟨h0, c, el, fz, h1, h2, h3⟩ := ht.tab x hx
   obtain ⟨_, ⟨h5, rfl⟩ | ⟨h5, rfl⟩⟩ := phiK_get he
   . refine ⟨Nat.lt_of_lt_of_le h5 hg, c, el, fz, h1, h2, fun i hi v hv => ?_⟩
     rw [get_fromL, if_pos (by omega), Nat.sub_zero] at hv
     have hlt : i < c.size := by omega
     have hci : c[i]? = some c[i] := Array.getElem?_eq_getElem hlt
     refine ⟨c[i], hci, ?_⟩
     have h6 := h3 i v _ hv hci
     have flatK : ∀ l : List (List UInt8), x.2 = l.map txt -> VR (phiK w fun k => A ⟨(k - 4) % 7, Nat.mod_lt _ (by omega)⟩) v c[i] := fun l hl => by
      have hfl : Ev.flat v = true := by
       rw [hl] at hv
       obtain ⟨s, _, rfl⟩ := List.mem_map.1 (List.mem_of_getElem? hv)
       rfl
      rw [h6.eq_of_flat hfl]
      exact .flat _ hfl
     simp only [tabs, List.mem_cons, List.not_mem_nil, or_false] at hx
     rcases hx with rfl | rfl | rfl | rfl
     . exact flatK _ rfl
     . exact flatK _ rfl
     . have hcc : c = c2 := by
        have := h1.symm.trans hc2
        injection this with this
        injection this
       subst hcc
       have hi7 : i < 7 := hi
       refine (hA ⟨i, hi7⟩).2 _ (4 + i) ?_ v _ hv hci
       rw [phiK_hi (by omega) (by omega)]
       have : (4 + i - 4) % 7 = i := by omega
       simp only [this]
     . exact flatK _ rfl
   . exact absurd (h4 x hx) (by omega)
  gl := fun k hk => ⟨_, phiK_lo (by rw [globals_4] at hk; exact hk), rfl⟩
  fzr := fun k e c h hf => by
   obtain ⟨_, ⟨h5, rfl⟩ | ⟨h5, rfl⟩⟩ := phiK_get h
   . cases hf
   . exact fz_at hf
  fzl := fun k k' e e' c ob _ _ _ h hl => by
   obtain ⟨x, hx, rfl, rfl⟩ := inv k' ob h
   cases hl }
theorem X_ok (hT : TabsW W) : ExtOK P W X0 := by
 intro f args v h
 have hf : f = 11 /\ args = [] /\ v = .bool true := by
  have h' : (bif Nat.beq f 11 then (match args with | [] => some (Value.bool true) | _ => none) else none) = some v := h
  cases hb : Nat.beq f 11 with
  | true =>
    rw [hb] at h'
    cases args with
    | nil => exact ⟨Nat.eq_of_beq_eq_true hb, rfl, (Option.some.inj h').symm⟩
    | cons a l => cases h'
  | false =>
    rw [hb] at h'
    cases h'
 obtain ⟨rfl, rfl, rfl⟩ := hf
 refine ⟨fun x hx => (nomatch hx), rfl, fun w hb => ?_⟩
 have hw := hT.below hb
 have hk := known_run
 rw [memK_eq] at hk
 obtain ⟨H', nx', hr⟩ := isTrue_inv hk
 obtain ⟨f, hf⟩ := HR_K hw
 refine (calls_of_F (pl := pl0) (ext_none w) hf (phiK_length _ _) .nil rfl (F_of hr)).mono fun e w' ⟨he, hb'⟩ => ⟨he, hb'⟩
theorem row_of_strs {fuel : Nat} {cs : List Value} {l : List (List UInt8)} {p : List MemPlace} (h : DataW.trod (fun _ => ()) P W 0 (fun _ => true) false fuel 49 cs = some (.slice (l.map fun s => .lit (.string s)) [], p)) : ∃ v, cs = [v] /\ VR (phiW W) (lvl l) v := by
 obtain ⟨a, cap, rfl, hcap, hel⟩ := open_row Tryz.underlying49 c9 h
 refine ⟨_, rfl, ?_⟩
 rw [List.length_map] at hcap ⊢
 refine VR_row (by simp) (fun x hx => ?_) (by omega) hcap (fun i x hx => ?_)
 . obtain ⟨s, _, rfl⟩ := List.mem_map.1 hx
   rfl
 . rw [List.getElem?_map] at hx
   cases hs : l[i]? with
   | none => rw [hs] at hx; cases hx
   | some s =>
     rw [hs] at hx
     cases hx
     obtain ⟨v, n, q, h1, h2⟩ := hel i (.lit (.string s)) (by rw [List.getElem?_map, hs]; rfl)
     obtain ⟨z, hz, hq, _⟩ := DataW.trod_string Tryz.underlying9 h2
     cases hz
     have e : s = z.data.toList := by
      have := congrArg Prod.fst hq
      simpa using this
     subst e
     refine ⟨[.string z], ?_, ?_⟩
     . unfold World.cells?
       rw [if_pos (Nat.zero_le _)]
       have e0 : (a.add (i * 1)).add 0 = a.add i := by simp [Addr.add]
       simp only [List.range_succ, List.range_zero, List.nil_append, List.mapM_cons, List.mapM_nil, e0, h1]
       rfl
     . exact .cons (vrs z) .nil
abbrev bas (l : List (List UInt8)) : List ByteArray := l.map fun s => ⟨⟨s⟩⟩
theorem bas_txt (l : List (List UInt8)) : (bas l).map Value.string = l.map txt := by rw [List.map_map]; rfl
theorem tab_str {c : Array Value} {l : List (List UInt8)} (h : c.toList = (bas l).map Value.string) : (l.map txt).length <= c.size /\ ∀ (i : Nat) (v v' : Value), (l.map txt)[i]? = some v -> c[i]? = some v' -> VR (phiW W) v v' := by
 rw [bas_txt] at h
 refine ⟨by rw [<- h, Array.length_toList]; exact Nat.le_refl _, fun i v v' a b => ?_⟩
 have : c.toList[i]? = some v' := by rw [<- b]; simp
 rw [h, a] at this
 cases this
 obtain ⟨s, _, rfl⟩ := List.mem_map.1 (List.mem_of_getElem? a)
 exact .flat _ rfl
theorem levels_of {rest : List (String × DataW Unit)} (h : laidMet P (("kindling/syntax.levels", Rows.laid_kindling_syntax_levels) :: rest) W) : ∃ c el fz, W.heap[2]? = some (.cells c el fz) /\ (levelsL.map lvl).length <= c.size /\ ∀ (i : Nat) (v v' : Value), (levelsL.map lvl)[i]? = some v -> c[i]? = some v' -> VR (phiW W) v v' := by
 obtain ⟨ps, ⟨g', t', cs, fuel, p, q, hg', ht', hvar, hd, _, _⟩, _⟩ := h
 obtain rfl : g' = 2 := (Option.some.inj ((show P.globalNamed "kindling/syntax.levels" = some 2 by kernel_rfl).symm.trans hg')).symm
 obtain rfl : t' = 182 := (Option.some.inj ((show (P.globals[2]?).map (·.type) = some 182 by kernel_rfl).symm.trans ht')).symm
 unfold World.var? at hvar
 rw [show P.globalNamed "kindling/syntax.levels" = some 2 by kernel_rfl] at hvar
 simp only [Option.bind_some] at hvar
 split at hvar
 . rename_i c el fz hb
   cases hvar
   obtain ⟨xs, n, rfl, hx, hl, hlen, hf⟩ := DataW.trod_array Tryz.underlying182 hd
   have hcs : P.cellsOf 182 = 7 := by kernel_rfl
   have hc49 : P.cellsOf 49 = 1 := by kernel_rfl
   rw [hcs] at hl
   rw [Array.length_toList] at hl
   refine ⟨_, _, _, hb, by show 7 <= _; omega, fun i v v' a b => ?_⟩
   have hi : i < 7 := by
    have := (List.getElem?_eq_some_iff.1 a).1
    exact this
   have h1 := hf i hi
   have hc49' : Program.cellsOf Tryz.prog 49 = 1 := hc49
   rw [hc49', Nat.mul_one, List.getElem?_eq_getElem (by omega)] at h1
   have hxs : xs.map (·.1) = levelsL.map fun l => (DataW.slice (l.map fun s => .lit (.string s)) [] : DataW Unit) := by
    have h2 : Rows.laid_kindling_syntax_levels = DataW.agg (xs.map (·.1)) := congrArg Prod.fst hx
    exact (DataW.agg.inj h2).symm
   obtain ⟨l, hl1, hl2⟩ : ∃ l, levelsL[i]? = some l /\ v = lvl l := by
    rw [List.getElem?_map] at a
    cases hq : levelsL[i]? with
    | none => rw [hq] at a; cases a
    | some l => rw [hq] at a; cases a; exact ⟨l, rfl, rfl⟩
   have h3 : (xs[i]'(by omega)).1 = DataW.slice (l.map fun s => .lit (.string s)) [] := by
    have h4 : (xs.map (·.1))[i]? = some ((xs[i]'(by omega)).1) := by rw [List.getElem?_map, List.getElem?_eq_getElem (by omega)]; rfl
    rw [hxs, List.getElem?_map, hl1] at h4
    exact (Option.some.inj h4).symm
   have h5 : (cs.toList.drop i).take 1 = [v'] := by
    have h6 : cs.toList[i]? = some v' := by rw [<- b]; simp
    have h7 : i < cs.toList.length := (List.getElem?_eq_some_iff.1 h6).1
    rw [List.drop_eq_getElem_cons h7]
    rw [List.getElem?_eq_getElem h7] at h6
    rw [Option.some.inj h6]
    rfl
   rw [h5] at h1
   have h8 : DataW.trod (fun _ => ()) P W 0 (fun _ => true) false n 49 [v'] = some (.slice (l.map fun s => .lit (.string s)) [], (xs[i]'(by omega)).2) := by
    rw [<- h3]; exact h1
   obtain ⟨v2, e2, h9⟩ := row_of_strs h8
   cases e2
   rw [hl2]
   exact h9
 . cases hvar
theorem tabs_of (hL : laidMet P [("kindling/lex.keys", Rows.laid_kindling_lex_keys), ("kindling/lex.signs", Rows.laid_kindling_lex_signs), ("kindling/syntax.levels", Rows.laid_kindling_syntax_levels), ("kindling/syntax.words", Rows.laid_kindling_syntax_words)] W) (hsh : W.ShapedOpen P) : TabsW W := by
 refine ⟨Ev.globals_le hsh (of_decide_eq_true (by kernel_rfl)), fun x hx => ?_⟩
 rw [globals_4]
 simp only [tabs, List.mem_cons, List.not_mem_nil, or_false] at hx
 have hk : laidMet P (("kindling/lex.keys", Ev.strData (bas keysL)) :: [("kindling/lex.signs", Ev.strData (bas signsL)), ("kindling/syntax.levels", Rows.laid_kindling_syntax_levels), ("kindling/syntax.words", Ev.strData (bas wordsL))]) W := hL
 rcases hx with rfl | rfl | rfl | rfl
 . obtain ⟨c, el, fz, h1, h2⟩ := Ev.tab_of_head (g := 0) (by kernel_rfl) (by kernel_rfl) Tryz.underlying99 Tryz.underlying9 (by kernel_rfl) (by kernel_rfl) hk.tail
   exact ⟨by show 0 < 4; omega, c, el, fz, h1, tab_str h2⟩
 . obtain ⟨c, el, fz, h1, h2⟩ := Ev.tab_of_head (g := 1) (by kernel_rfl) (by kernel_rfl) Tryz.underlying144 Tryz.underlying9 (by kernel_rfl) (by kernel_rfl) hk
   exact ⟨by show 1 < 4; omega, c, el, fz, h1, tab_str h2⟩
 . obtain ⟨c, el, fz, h1, h2⟩ := levels_of hk.tail.tail
   exact ⟨by show 2 < 4; omega, c, el, fz, h1, h2⟩
 . obtain ⟨c, el, fz, h1, h2⟩ := Ev.tab_of_head (g := 3) (by kernel_rfl) (by kernel_rfl) Tryz.underlying188 Tryz.underlying9 (by kernel_rfl) (by kernel_rfl) hk.tail.tail.tail
   exact ⟨by show 3 < 4; omega, c, el, fz, h1, tab_str h2⟩
theorem law_of (hT : TabsW W) {f : FuncId} {args args' : List Value} (hp : PT f args (.bool true)) (hv : LR (phiW W) args args') :
 Calls P f args'.toArray W fun e w' => e = .returned (.bool true) /\ Below W.heap.size W w' := by
 have hs := hT.size
 rw [globals_4] at hs
 obtain ⟨H', nx', _, h⟩ := hp (memOf tabs .leaf) W.heap.size (tabIn_mem hs)
 exact calls_of_F (X_ok hT) (HR_WM hT) (phiW_length W) hv rfl h
end
end Go.Proofs.YthjhonhhbddhkaaGreatDoor
/- SyntaxRights: the law's call. -/
namespace Go.Proofs.YthjhonhhbddhkaaGreatDoor
open Go.Ev Go.RowKit Go.ChangeShapes Go.WideShapes Go.ChangeAt
noncomputable section
set_option maxRecDepth 100000
set_option linter.unusedVariables false
set_option linter.unusedSimpArgs false
variable {nx0 : Nat} {H0 : T OB}
theorem w_18 (l : List Dec) (hl : l.length < big) (hok : ∀ d, d ∈ l -> d.ok) (H : T OB) (nx : Nat) (hA : Ag nx0 H0 nx H) : WqR P pl X0 (evT P pl (.call 18 [decsR l] false none H nx)) nx0 H0 (fun v _ _ => ∃ b : Bool, v = .bool b /\ (b = false -> decsZ l <= 500)) := by
 rw [q18]
 refine Wq.callR rfl (cntD l hl hok 500 (by omega) nx0 H0 H nx hA) fun u H1 nx1 hA1 hu => ?_
 obtain ⟨r, rfl, _, _, _, h4⟩ := hu
 simp only [stpF]
 refine Wq.retR hA1 ⟨_, rfl, fun h => ?_⟩
 have h5 := of_decide_eq_false h
 have := h4 (by omega)
 omega
end
end Go.Proofs.YthjhonhhbddhkaaGreatDoor
/- Numbers and quotes as texts. -/
namespace Go.Proofs.YthjhonhhbddhkaaGreatDoor
open Go.Ev Go.RowKit
noncomputable section
set_option maxRecDepth 100000
set_option linter.unusedVariables false
set_option linter.unusedSimpArgs false
def dgA (u : Nat) (s : List UInt8) : List UInt8 := if u < 10 then (48 + u).toUInt8 :: s else dgA (u / 10) ((48 + u % 10).toUInt8 :: s)
termination_by u
decreasing_by omega
theorem dgA_length (k : Nat) : ∀ (u : Nat) (s : List UInt8), u < 10 ^ (k + 1) -> (dgA u s).length <= s.length + k + 1 /\ s.length < (dgA u s).length := by
 induction k with
 | zero =>
   intro u s h
   rw [dgA, if_pos (by simpa using h)]
   simp
 | succ k ih =>
   intro u s h
   rw [dgA]
   split
   . simp
   . have := ih (u / 10) ((48 + u % 10).toUInt8 :: s) (by rw [Nat.div_lt_iff_lt_mul (by omega)]; rw [Nat.pow_succ] at h; omega)
     simp only [List.length_cons] at this ⊢
     omega
def dig (n : Int) : List UInt8 := if n < 0 then 45 :: dgA n.natAbs [] else dgA n.natAbs []
theorem dig_length (n : Int) (h : -9223372036854775808 <= n /\ n < 9223372036854775808) : (dig n).length <= 20 := by
 have := (dgA_length 18 n.natAbs [] (by have : (10:Nat) ^ (18 + 1) = 10000000000000000000 := by decide
                                        omega)).1
 unfold dig
 split <;> simp only [List.length_cons, List.length_nil] at this ⊢ <;> omega
theorem p19 : (10:Nat) ^ (18 + 1) = 10000000000000000000 := by decide
theorem p19' : (10:Nat) ^ 19 = 10000000000000000000 := by decide
theorem fb1 (a0 : Int) : Instr.fill (fun i => some (i * 1, 1)) (zeroRow [.int .u8 0] (1 * 1)) [(0, .int .u8 a0)] = some ⟨[.int .u8 a0]⟩ := by kernel_rfl
theorem fb2 (a0 a1 : Int) : Instr.fill (fun i => some (i * 1, 1)) (zeroRow [.int .u8 0] (2 * 1)) [(0, .int .u8 a0), (1, .int .u8 a1)] = some ⟨[.int .u8 a0, .int .u8 a1]⟩ := by kernel_rfl
theorem fb4 (a0 a1 a2 a3 : Int) : Instr.fill (fun i => some (i * 1, 1)) (zeroRow [.int .u8 0] (4 * 1)) [(0, .int .u8 a0), (1, .int .u8 a1), (2, .int .u8 a2), (3, .int .u8 a3)] = some ⟨[.int .u8 a0, .int .u8 a1, .int .u8 a2, .int .u8 a3]⟩ := by kernel_rfl
theorem und_167 : P.underlying 167 = some (.int .u64) := by kernel_rfl
theorem und_168 : P.underlying 168 = some (.array 20 5) := by kernel_rfl
theorem bytes_120 : isBytesT P 120 9 = true := by kernel_rfl
theorem cv_2_167 (H : T OB) (n : Int) : rdConv P H 2 167 (some (i64 n)) = some (.int .u64 (IntKind.u64.wrap n)) := rdConv_int und_2 und_167
theorem cv_167_5 (H : T OB) (n : Int) : rdConv P H 167 5 (some (.int .u64 n)) = some (.int .u8 (IntKind.u8.wrap n)) := rdConv_int und_167 und_5
theorem cv_2_5 (H : T OB) (n : Int) : rdConv P H 2 5 (some (i64 n)) = some (.int .u8 (IntKind.u8.wrap n)) := rdConv_int und_2 und_5
theorem wrap_u64 (n : Int) : IntKind.u64.wrap n = n % 18446744073709551616 := by
 unfold IntKind.wrap
 simp [IntKind.bits, IntKind.signed]
theorem ix_168 {b off i : Nat} (h : i < 20) (k : IntKind) : rdIndexAddr P 168 (some (.pointer (some ⟨b, off, none⟩))) (some (.int k (i : Int))) = some (.pointer (some ⟨b, off + i, none⟩)) := by
 have := rdIndex_arr (P := P) (b := b) (off := off) und_168 sz_5 h k
 rwa [Nat.mul_one] at this
theorem sl_168 {H : T OB} {b off i : Nat} (h : i < 20) (k : IntKind) : rdSlice P H 168 (some (.pointer (some ⟨b, off, none⟩))) (some (some (.int k (i : Int)))) (some none) (some none) = some (.slice (some ⟨b, off + i, none⟩) (20 - i) (20 - i)) := by
 have := rdSlice_arr (P := P) (H := H) (b := b) (off := off) und_168 sz_5 h (by omega) k
 rwa [Nat.mul_one] at this
def b20 (r : List UInt8) : List Value := List.replicate (20 - r.length) (.int .u8 0) ++ bys r
theorem b20_set (d : UInt8) (r : List UInt8) (h : r.length < 20) : (b20 r).set (19 - r.length) (.int .u8 d.toNat) = b20 (d :: r) := by
 unfold b20
 rw [List.set_append_left _ _ (by simp; omega)]
 have e1 : 20 - r.length = (19 - r.length) + 1 := by omega
 rw [e1, List.replicate_succ', List.set_append_right _ _ (by simp)]
 simp only [List.length_replicate, Nat.sub_self, List.set_cons_zero, List.length_cons]
 rw [show 20 - (r.length + 1) = 19 - r.length from by omega]
 simp [bys]
theorem b20_length (r : List UInt8) (h : r.length <= 20) : (b20 r).length = 20 := by simp [b20]; omega
theorem w_78_28 {nx0 : Nat} {H0 : T OB} {nx b : Nat} {H : T OB} (r : List UInt8) (hr : 0 < r.length /\ r.length <= 20) (hA : Ag nx0 H0 nx H) (hb : IsB H b (b20 r) 168) :
 Wq P pl X0 (.jump (l78_28 (.pointer (some ⟨b, 0, none⟩)) (i64 ((20 - r.length : Nat) : Int)) H nx)) nx0 H0 (txt r) := by
 refine Wq.jmp (q78_28 ..) (fun _ => rfl) ?_
 rw [sl_168 (by omega), optK_some, rdConv_sl bytes_120 hb (by rw [b20_length r hr.2]; omega) (r := r), optK_some]
 . exact Wq.ret hA
 . unfold b20
   rw [Nat.zero_add, List.drop_left' (by simp)]
   rw [List.take_of_length_le (by simp; omega)]
def sgn (n : Int) : List UInt8 := if n < 0 then [45] else []
theorem dig_eq (n : Int) : dig n = sgn n ++ dgA n.natAbs [] := by
 unfold dig sgn
 split <;> rfl
theorem byte_of (d : Nat) (h : d < 10) : IntKind.u8.wrap (48 + (d : Int)) = (((48 + d).toUInt8).toNat : Int) := by
 rw [wrap_u8]
 have : ((48 + d).toUInt8).toNat = 48 + d := by simp; omega
 rw [this]; omega
theorem w_78_15 {nx0 : Nat} {H0 : T OB} {b : Nat} (hbn : nx0 <= b) (n : Int) (k : Nat) : ∀ (u : Nat) (s : List UInt8) (H : T OB) (nx : Nat), u < 10 ^ (k + 1) -> s.length + k = 18 -> Ag nx0 H0 nx H -> IsB H b (b20 s) 168 ->
 Wq P pl X0 (.jump (l78_15 (i64 n) (.int .u64 (u : Int)) (.pointer (some ⟨b, 0, none⟩)) (i64 ((20 - s.length : Nat) : Int)) H nx)) nx0 H0 (txt (sgn n ++ dgA u s)) := by
 induction k with
 | zero =>
   intro u s H nx hu hs hA hb
   have hu : u < 10 := by simpa using hu
   refine Wq.jmp (q78_15 ..) (fun _ => rfl) ?_
   have e0 : IntKind.i64.wrap (((20 - s.length : Nat) : Int) - 1) = ((19 - s.length : Nat) : Int) := by rw [wrap_id (by omega)]; omega
   have e1 : (u : Int).tmod 10 = ((u % 10 : Nat) : Int) := by rw [Int.tmod_eq_emod_of_nonneg (by omega)]; omega
   have e2 : IntKind.u64.wrap (48 + ((u % 10 : Nat) : Int)) = 48 + ((u % 10 : Nat) : Int) := by rw [wrap_u64]; omega
   have e3 : IntKind.u64.wrap ((u : Int).tdiv 10) = 0 := by rw [Int.tdiv_eq_ediv_of_nonneg (by omega), wrap_u64]; omega
   rw [dgA, if_pos hu]
   simp only [stpF, e0, rdBin_rem 167 true .u64 u 10 (by omega), rdBin_quo 167 true .u64 u 10 (by omega), e1, e2, cv_167_5, byte_of _ (Nat.mod_lt u (by omega : 0 < 10)), ix_168 (show 19 - s.length < 20 by omega), e3, Nat.zero_add]
   refine Wq.put hb sz_5 rfl rfl (by rw [b20_length s (by omega)]; omega) (b20_set _ s (by omega)) hA hbn fun H1 hb1 _ hA1 => ?_
   rw [show u % 10 = u from Nat.mod_eq_of_lt hu] at hb1
   refine Wq.ite (fun hn => ?_) (fun hn => ?_)
   . have e4 : IntKind.i64.wrap (((19 - s.length : Nat) : Int) - 1) = ((18 - s.length : Nat) : Int) := by rw [wrap_id (by omega)]; omega
     simp only [stpF, e4, ix_168 (show 18 - s.length < 20 by omega), Nat.zero_add]
     have := b20_set 45 ((48 + u).toUInt8 :: s) (by simp; omega)
     rw [List.length_cons, show 19 - (s.length + 1) = 18 - s.length from by omega] at this
     refine Wq.put hb1 sz_5 rfl rfl (by rw [b20_length _ (by simp; omega)]; omega) this hA1 hbn fun H2 hb2 _ hA2 => ?_
     have := w_78_28 _ (by simp; omega) hA2 hb2
     simp only [List.length_cons, show 20 - (s.length + 1 + 1) = 18 - s.length from by omega] at this
     unfold sgn; rw [if_pos hn]
     exact this
   . have := w_78_28 _ (by simp; omega) hA1 hb1
     simp only [List.length_cons, show 20 - (s.length + 1) = 19 - s.length from by omega] at this
     unfold sgn; rw [if_neg hn]
     exact this
 | succ k ih =>
   intro u s H nx hu hs hA hb
   refine Wq.jmp (q78_15 ..) (fun _ => rfl) ?_
   have hpow : (10 : Nat) ^ (k + 1 + 1) <= 10 ^ 19 := Nat.pow_le_pow_right (by omega) (by omega)
   have h19 : (10 : Nat) ^ 19 = 10000000000000000000 := by decide
   have hdiv : u / 10 < 10 ^ (k + 1) := by rw [Nat.div_lt_iff_lt_mul (by omega)]; rw [Nat.pow_succ] at hu; omega
   have e0 : IntKind.i64.wrap (((20 - s.length : Nat) : Int) - 1) = ((19 - s.length : Nat) : Int) := by rw [wrap_id (by omega)]; omega
   have e1 : (u : Int).tmod 10 = ((u % 10 : Nat) : Int) := by rw [Int.tmod_eq_emod_of_nonneg (by omega)]; omega
   have e2 : IntKind.u64.wrap (48 + ((u % 10 : Nat) : Int)) = 48 + ((u % 10 : Nat) : Int) := by rw [wrap_u64]; omega
   have e3 : IntKind.u64.wrap ((u : Int).tdiv 10) = ((u / 10 : Nat) : Int) := by rw [Int.tdiv_eq_ediv_of_nonneg (by omega), wrap_u64]; omega
   simp only [stpF, e0, rdBin_rem 167 true .u64 u 10 (by omega), rdBin_quo 167 true .u64 u 10 (by omega), e1, e2, cv_167_5, byte_of _ (Nat.mod_lt u (by omega : 0 < 10)), ix_168 (show 19 - s.length < 20 by omega), e3, Nat.zero_add]
   refine Wq.put hb sz_5 rfl rfl (by rw [b20_length s (by omega)]; omega) (b20_set _ s (by omega)) hA hbn fun H1 hb1 _ hA1 => ?_
   refine Wq.ite (fun h0 => ?_) (fun h0 => ?_)
   . have hu10 : u < 10 := by omega
     rw [dgA, if_pos hu10]
     rw [show u % 10 = u from Nat.mod_eq_of_lt hu10] at hb1
     refine Wq.ite (fun hn => ?_) (fun hn => ?_)
     . have e4 : IntKind.i64.wrap (((19 - s.length : Nat) : Int) - 1) = ((18 - s.length : Nat) : Int) := by rw [wrap_id (by omega)]; omega
       simp only [stpF, e4, ix_168 (show 18 - s.length < 20 by omega), Nat.zero_add]
       have := b20_set 45 ((48 + u).toUInt8 :: s) (by simp; omega)
       rw [List.length_cons, show 19 - (s.length + 1) = 18 - s.length from by omega] at this
       refine Wq.put hb1 sz_5 rfl rfl (by rw [b20_length _ (by simp; omega)]; omega) this hA1 hbn fun H2 hb2 _ hA2 => ?_
       have := w_78_28 _ (by simp; omega) hA2 hb2
       simp only [List.length_cons, show 20 - (s.length + 1 + 1) = 18 - s.length from by omega] at this
       unfold sgn; rw [if_pos hn]
       exact this
     . have := w_78_28 _ (by simp; omega) hA1 hb1
       simp only [List.length_cons, show 20 - (s.length + 1) = 19 - s.length from by omega] at this
       unfold sgn; rw [if_neg hn]
       exact this
   . have := ih (u / 10) ((48 + u % 10).toUInt8 :: s) H1 nx hdiv (by simp; omega) hA1 hb1
     rw [dgA, if_neg (by omega)]
     simp only [List.length_cons, show 20 - (s.length + 1) = 19 - s.length from by omega] at this
     exact this
theorem pu_78 (n : Int) (h : -9223372036854775808 <= n /\ n < 9223372036854775808) : P0 78 [i64 n] (txt (dig n)) := Pure.of rfl fun H nx => by
 rw [q78]
 have L10 : Wq P pl X0 (.jump (l78_10 (i64 n) (.int .u64 ((n.natAbs : Nat) : Int)) H nx)) nx H (txt (dig n)) := by
  refine Wq.jmp (q78_10 ..) (fun _ => rfl) ?_
  refine Wq.alloc zero_168 (.refl _ _) fun H1 hb1 _ hA1 => ?_
  rw [dig_eq]
  exact w_78_15 (Nat.le_refl _) n 18 n.natAbs [] H1 _ (by rw [p19]; omega) rfl hA1 hb1
 simp only [stpF, cv_2_167, unV_neg]
 refine Wq.ite (fun hn => ?_) (fun hn => ?_)
 . have e : IntKind.u64.wrap (0 - IntKind.u64.wrap n) = ((n.natAbs : Nat) : Int) := by rw [wrap_u64, wrap_u64]; omega
   rw [e]; exact L10
 . have e : IntKind.u64.wrap n = ((n.natAbs : Nat) : Int) := by rw [wrap_u64]; omega
   rw [e]; exact L10
theorem natAbs_w (left : Int) (h : -9223372036854775808 <= left /\ left < 9223372036854775808) : w (left.tdiv 10) = left.tdiv 10 /\ (left.tdiv 10).natAbs = left.natAbs / 10 /\ (left.tmod 10).natAbs = left.natAbs % 10 := by
 have h2 : (left.tdiv 10).natAbs = left.natAbs / 10 := by rw [Int.natAbs_tdiv]; rfl
 refine ⟨wrap_id (by omega), h2, by rw [Int.natAbs_tmod]; rfl⟩
theorem w_117_9 {nx0 : Nat} {H0 : T OB} (n : Int) (k : Nat) : ∀ (left : Int) (s : List UInt8) (H : T OB) (nx : Nat), left.natAbs < 10 ^ k -> k <= 19 -> -9223372036854775808 <= left -> left < 9223372036854775808 -> s.length + k <= 120 -> (k = 0 -> s ≠ []) -> Ag nx0 H0 nx H ->
 Wq P pl X0 (.jump (l117_9 (i64 n) (txt s) (i64 left) H nx)) nx0 H0 (txt (sgn n ++ (if left = 0 /\ s ≠ [] then s else dgA left.natAbs s))) := by
 induction k with
 | zero =>
   intro left s H nx hl hk19 h1 h2 hk hs hA
   have : left = 0 := by have : (10 : Nat) ^ 0 = 1 := rfl
                         omega
   subst this
   rw [if_pos ⟨rfl, hs rfl⟩]
   refine Wq.jmp (q117_9 ..) (fun _ => rfl) ?_
   simp only [stpF, decide_true, Bool.not_true, cond_false, show decide ((⟨⟨s⟩⟩ : ByteArray) = ⟨⟨[]⟩⟩) = false from by simp; exact hs rfl]
   refine Wq.ite (fun hn => ?_) (fun hn => ?_)
   . rw [rdAdd_txt 9 true [45] s (by simp; omega)]
     refine Wq.retE ?_ hA
     unfold sgn; rw [if_pos hn]
   . refine Wq.retE ?_ hA
     unfold sgn; rw [if_neg hn]; rfl
 | succ k ih =>
   intro left s H nx hl hk19 h1 h2 hk hs hA
   obtain ⟨e1, e2, e3⟩ := natAbs_w left ⟨h1, h2⟩
   have L16 : ∀ d : Nat, d = left.natAbs % 10 -> (¬ (left = 0 /\ s ≠ [])) -> Wq P pl X0 (.jump (l117_16 (i64 n) (txt s) (i64 left) (i64 (d : Int)) H nx)) nx0 H0 (txt (sgn n ++ (if left = 0 /\ s ≠ [] then s else dgA left.natAbs s))) := by
    intro d hd hno
    rw [if_neg hno]
    refine Wq.jmp (q117_16 ..) (fun _ => rfl) ?_
    have hd10 : d < 10 := by rw [hd]; exact Nat.mod_lt _ (by omega)
    have e5 : IntKind.i64.wrap (48 + (d : Int)) = 48 + (d : Int) := wrap_id (by omega)
    simp only [stpF, e5, cv_2_5, byte_of d hd10]
    refine Wq.row und_120 sz_5 zero_5 rfl (fb1 _) hA fun H1 hb1 _ hA1 => ?_
    rw [rdConv_sl bytes_120 hb1 (r := [(48 + d).toUInt8]) (by simp) (by simp [bys]), optK_some, rdAdd_txt 9 false [(48 + d).toUInt8] s (by simp; omega)]
    simp only [stpF, rdBin_quo 2 true .i64 left 10 (by omega), e1]
    have := ih (left.tdiv 10) ((48 + d).toUInt8 :: s) H1 _ (by rw [e2, Nat.div_lt_iff_lt_mul (by omega)]; rw [Nat.pow_succ] at hl; omega) (by omega) (by omega) (by omega) (by simp; omega) (fun _ => by simp) hA1
    have e6 : (if left.tdiv 10 = 0 /\ (48 + d).toUInt8 :: s ≠ [] then (48 + d).toUInt8 :: s else dgA (left.tdiv 10).natAbs ((48 + d).toUInt8 :: s)) = dgA left.natAbs s := by
     rw [dgA.eq_def left.natAbs s, e2, hd]
     by_cases hlt : left.natAbs < 10
     . rw [if_pos ⟨by omega, by simp⟩, if_pos hlt, Nat.mod_eq_of_lt hlt]
     . rw [if_neg (fun q => by omega), if_neg hlt]
    rw [e6] at this
    exact this
   have hm : ∀ (q : Int), q = left.tmod 10 -> ¬ q < 0 -> q = ((left.natAbs % 10 : Nat) : Int) := fun q hq h => by rw [<- e3, <- hq]; omega
   have hm2 : ∀ (q : Int), q = left.tmod 10 -> q < 0 -> IntKind.i64.wrap (0 - q) = ((left.natAbs % 10 : Nat) : Int) := fun q hq h => by
    have : q.natAbs < 10 := by rw [hq, e3]; exact Nat.mod_lt _ (by omega)
    rw [wrap_id (by omega), <- e3, <- hq]; omega
   refine Wq.jmp (q117_9 ..) (fun _ => rfl) ?_
   simp only [stpF, rdBin_rem 2 true .i64 left 10 (by omega), unV_neg]
   refine Wq.bK (fun h => ?_) (fun h => ?_)
   . have hne : left ≠ 0 := by simpa using h
     refine Wq.ite (fun hn => ?_) (fun hn => ?_)
     . rw [hm2 _ rfl hn]; exact L16 _ rfl (fun q => hne q.1)
     . have := L16 _ rfl (fun q => hne q.1)
       rw [<- hm _ rfl hn] at this; exact this
   . have h0 : left = 0 := by simpa using h
     refine Wq.ite (fun hs0 => ?_) (fun hs0 => ?_)
     . have hs1 : s = [] := by simpa using hs0
       refine Wq.ite (fun hn => ?_) (fun hn => ?_)
       . rw [hm2 _ rfl hn]; exact L16 _ rfl (fun q => q.2 hs1)
       . have := L16 _ rfl (fun q => q.2 hs1)
         rw [<- hm _ rfl hn] at this; exact this
     . have hs1 : s ≠ [] := by simpa using hs0
       rw [if_pos ⟨h0, hs1⟩]
       refine Wq.ite (fun hn => ?_) (fun hn => ?_)
       . rw [rdAdd_txt 9 true [45] s (by simp; omega)]
         refine Wq.retE ?_ hA
         unfold sgn; rw [if_pos hn]
       . refine Wq.retE ?_ hA
         unfold sgn; rw [if_neg hn]; rfl
theorem pu_117 (n : Int) (h : -9223372036854775808 <= n /\ n < 9223372036854775808) : P0 117 [i64 n] (txt (dig n)) := Pure.of rfl fun H nx => by
 rw [q117, dig_eq]
 have := w_117_9 (H0 := H) (nx0 := nx) n 19 n [] H nx (by rw [p19']; omega) (by omega) h.1 h.2 (by simp) (by omega) (.refl _ _)
 simpa using this
def hex : List UInt8 := [48, 49, 50, 51, 52, 53, 54, 55, 56, 57, 65, 66, 67, 68, 69, 70]
def hx (n : Nat) : UInt8 := hex.getD n 0
def qc (c : UInt8) : List UInt8 := if c.toNat = 34 \/ c.toNat = 92 then [92, c] else if c.toNat = 10 then [92, 110] else if c.toNat = 9 then [92, 116] else if c.toNat < 32 \/ 126 < c.toNat then [92, 120, hx (c.toNat / 16), hx (c.toNat % 16)] else [c]
def qs (l : List UInt8) : List UInt8 := l.flatMap qc
theorem qc_length (c : UInt8) : (qc c).length <= 4 := by unfold qc; split <;> (try split) <;> (try split) <;> (try split) <;> simp
theorem qs_length (l : List UInt8) : (qs l).length <= 4 * l.length := by
 induction l with
 | nil => simp [qs]
 | cons a l ih => have := qc_length a; simp only [qs, List.flatMap_cons, List.length_append, List.length_cons] at ih ⊢; omega
def quote (l : List UInt8) : List UInt8 := 34 :: (qs l ++ [34])
theorem hex_get {n : Nat} (h : n < 16) : hex[n]? = some (hx n) := by
 unfold hx
 rw [List.getD_eq_getElem?_getD, List.getElem?_eq_getElem (by simpa [hex] using h)]; rfl
theorem ix_hex {n : Nat} (h : n < 16) (k : IntKind) : rdIndex P 9 (some (.string ⟨⟨[48, 49, 50, 51, 52, 53, 54, 55, 56, 57, 65, 66, 67, 68, 69, 70]⟩⟩)) (some (.int k (n : Int))) = some (.int .u8 ((hx n).toNat : Int)) := rdIndex_txt und_9 (hex_get h) k
theorem u8_shr (H : T OB) (c : UInt8) : rdBin P H .shr 5 true (some (.int .u8 (c.toNat : Int))) (some (.int .u64 4)) = some (.int .u8 ((c.toNat / 16 : Nat) : Int)) := by
 have := rdBin_shr (P := P) (H := H) 5 true .u8 .u64 (c.toNat : Int) 4 (by decide)
 rw [show ((4 : Nat) : Int) = 4 from rfl] at this
 rw [this]
 congr 2
 rw [Int.fdiv_eq_ediv_of_nonneg _ (by omega)]
 rw [show (2 : Int) ^ 4 = 16 from by decide]; omega
theorem u8_and (H : T OB) (c : UInt8) : rdBin P H .and 5 true (some (.int .u8 (c.toNat : Int))) (some (.int .u8 15)) = some (.int .u8 ((c.toNat % 16 : Nat) : Int)) := by
 rw [rdBin_and]
 congr 2
 have hc : c.toNat < 256 := c.toNat_lt
 have e1 : (BitVec.ofInt IntKind.u8.bits (c.toNat : Int) &&& BitVec.ofInt IntKind.u8.bits 15).toNat = c.toNat % 16 := by
  rw [BitVec.toNat_and, BitVec.toNat_ofInt, BitVec.toNat_ofInt]
  have hb : IntKind.u8.bits = 8 := rfl
  rw [hb]
  have h1 : ((c.toNat : Int) % ((2 ^ 8 : Nat) : Int)).toNat = c.toNat := by
   rw [show (2 : Nat) ^ 8 = 256 from by decide]; omega
  have h2 : ((15 : Int) % ((2 ^ 8 : Nat) : Int)).toNat = 15 := by decide
  rw [h1, h2]
  exact Nat.and_two_pow_sub_one_eq_mod c.toNat 4
 rw [e1, wrap_u8]; omega
theorem u8_quo (H : T OB) (c : UInt8) : rdBin P H .quo 5 true (some (.int .u8 (c.toNat : Int))) (some (.int .u8 16)) = some (.int .u8 ((c.toNat / 16 : Nat) : Int)) := by
 rw [rdBin_quo _ _ _ _ _ (by omega)]
 congr 2
 have hc : c.toNat < 256 := c.toNat_lt
 rw [Int.tdiv_eq_ediv_of_nonneg (by omega), wrap_u8]; omega
theorem u8_rem (H : T OB) (c : UInt8) : rdBin P H .rem 5 true (some (.int .u8 (c.toNat : Int))) (some (.int .u8 16)) = some (.int .u8 ((c.toNat % 16 : Nat) : Int)) := by
 rw [rdBin_rem _ _ _ _ _ (by omega)]
 congr 2
theorem Wq.frzBS {nx0 : Nat} {H0 : T OB} {nx : Nat} {H : T OB} {R : Value -> T OB -> Nat -> Prop} {r : List UInt8} {sl : Value} {k : Value -> T OB -> Nat -> Q} (hB : BS 5 nx0 H nx r sl) (hr : r ≠ []) (hA : Ag nx0 H0 nx H) (hk : ∀ H', Ag nx0 H0 (nx + 1) H' -> WqR P pl X0 (k (rowV 1 (bys r)) H' (nx + 1)) nx0 H0 R) : WqR P pl X0 (frzV P 120 sl H nx k) nx0 H0 R := by
 rcases hB with ⟨rfl, _⟩ | ⟨b, c, hb0, hbx, hb, hc, rfl⟩
 . exact absurd rfl hr
 . have hch : chunk false 1 r.length (bys r) = some (bys r) := by
    have := chunk_cells (bys r)
    simpa using this
   refine Wq.frz und_120 sz_5 agg_5 rfl hb (by simp) ?_ hch ?_ hA hb0 fun H' _ hA' => hk H' hA'
   . rcases hc with rfl | rfl
     . simp
     . rw [Nat.ble_eq_true_of_le (Nat.le_refl _), Bool.or_true]
   . simp [bys]
theorem w_79_9 {nx0 : Nat} {H0 : T OB} (l : List UInt8) (hl : l.length < 9223372036854775807) : ∀ (t : List UInt8) (i : Nat) (r : List UInt8) (sl : Value) (H : T OB) (nx : Nat), l.drop i = t -> i <= l.length -> r.length + (qs t).length + 1 <= 1048576 -> BS 5 nx0 H nx r sl -> Ag nx0 H0 nx H ->
 WqR P pl X0 (.jump (l79_9 (txt l) sl (i64 (i : Int)) H nx)) nx0 H0 (fun u H nx => u = rowV 1 (bys (r ++ (qs t ++ [34])))) := by
 intro t
 induction t with
 | nil =>
   intro i r sl H nx hd hi hlen hB hA
   have hil := drop_nil hd hi
   refine Wq.jmp (q79_9 ..) (fun _ => rfl) ?_
   simp only [stpF, rdLen_str _ und_9, txt_size, hil, not_lt_len]
   refine Wq.addB und_120 sz_5 zero_5 hB (x := [34]) rfl rfl (fb1 34) (fun m hm => sm_5' (by simp at hm; simp at hlen; omega)) hA fun H1 sl1 nx1 hB1 hA1 _ => ?_
   refine Wq.frzBS hB1 (by simp) hA1 fun H2 hA2 => ?_
   exact Wq.retR hA2 (by simp [qs])
 | cons c t ih =>
   intro i r sl H nx hd hi hlen hB hA
   obtain ⟨hg, hlt, hd'⟩ := drop_cons hd
   have hqs : qs (c :: t) = qc c ++ qs t := rfl
   rw [hqs, List.length_append] at hlen
   have fin : ∀ (x : List UInt8) (sl1 : Value) H1 nx1, Ag nx0 H0 nx1 H1 -> BS 5 nx0 H1 nx1 (r ++ x) sl1 -> qc c = x -> WqR P pl X0 (.jump (l79_9 (txt l) sl1 (i64 ((i + 1 : Nat) : Int)) H1 nx1)) nx0 H0 (fun u H nx => u = rowV 1 (bys (r ++ (qs (c :: t) ++ [34])))) := by
    intro x sl1 H1 nx1 hA1 hB1 hx
    have := ih (i + 1) (r ++ x) sl1 H1 nx1 hd' (by omega) (by rw [List.length_append, <- hx]; omega) hB1 hA1
    rw [hqs, hx]
    simpa [List.append_assoc] using this
   have hc8 : c.toNat < 256 := c.toNat_lt
   have L30 : ∀ b : Bool, (b = true ↔ (c.toNat < 32 \/ 126 < c.toNat)) -> ¬ (c.toNat = 34 \/ c.toNat = 92) -> c.toNat ≠ 10 -> c.toNat ≠ 9 -> WqR P pl X0 (.jump (l79_30 (txt l) sl (i64 (i : Int)) (b8 c) b H nx)) nx0 H0 (fun u H nx => u = rowV 1 (bys (r ++ (qs (c :: t) ++ [34])))) := by
    intro b hb h1 h2 h3
    refine Wq.jmp (q79_30 ..) (fun _ => rfl) ?_
    refine Wq.bK (fun h => ?_) (fun h => ?_)
    . have hq : qc c = [92, 120, hx (c.toNat / 16), hx (c.toNat % 16)] := by unfold qc; rw [if_neg h1, if_neg h2, if_neg h3, if_pos (hb.1 h)]
      rw [hq] at hlen
      simp only [stpF, u8_shr, u8_and, ix_hex (show c.toNat / 16 < 16 by omega), ix_hex (show c.toNat % 16 < 16 by omega)]
      refine Wq.addB und_120 sz_5 zero_5 hB (x := [92, 120, hx (c.toNat / 16), hx (c.toNat % 16)]) rfl rfl (fb4 92 120 _ _) (fun m hm => sm_5' (by simp at hm; simp at hlen; omega)) hA fun H1 sl1 nx1 hB1 hA1 _ => ?_
      simp only [stpF, wrap_succ (show i < 9223372036854775807 by omega)]
      exact fin _ _ _ _ hA1 hB1 hq
    . have hq : qc c = [c] := by unfold qc; rw [if_neg h1, if_neg h2, if_neg h3, if_neg (fun q => by rw [hb.2 q] at h; cases h)]
      rw [hq] at hlen
      refine Wq.addB und_120 sz_5 zero_5 hB (x := [c]) rfl rfl (fb1 _) (fun m hm => sm_5' (by simp at hm; simp at hlen; omega)) hA fun H1 sl1 nx1 hB1 hA1 _ => ?_
      simp only [stpF, wrap_succ (show i < 9223372036854775807 by omega)]
      exact fin _ _ _ _ hA1 hB1 hq
   have L18 : ∀ b : Bool, (b = true ↔ (c.toNat = 34 \/ c.toNat = 92)) -> WqR P pl X0 (.jump (l79_18 (txt l) sl (i64 (i : Int)) (b8 c) b H nx)) nx0 H0 (fun u H nx => u = rowV 1 (bys (r ++ (qs (c :: t) ++ [34])))) := by
    intro b hb
    refine Wq.jmp (q79_18 ..) (fun _ => rfl) ?_
    refine Wq.bK (fun h => ?_) (fun h => ?_)
    . have hq : qc c = [92, c] := by unfold qc; rw [if_pos (hb.1 h)]
      rw [hq] at hlen
      refine Wq.addB und_120 sz_5 zero_5 hB (x := [92, c]) rfl rfl (fb2 92 _) (fun m hm => sm_5' (by simp at hm; simp at hlen; omega)) hA fun H1 sl1 nx1 hB1 hA1 _ => ?_
      simp only [stpF, wrap_succ (show i < 9223372036854775807 by omega)]
      exact fin _ _ _ _ hA1 hB1 hq
    have h1 : ¬ (c.toNat = 34 \/ c.toNat = 92) := fun q => by rw [hb.2 q] at h; cases h
    simp only [stpF]
    refine Wq.ite (fun h2 => ?_) (fun h2 => ?_)
    . have h2 : c.toNat = 10 := by omega
      have hq : qc c = [92, 110] := by unfold qc; rw [if_neg h1, if_pos h2]
      rw [hq] at hlen
      refine Wq.addB und_120 sz_5 zero_5 hB (x := [92, 110]) rfl rfl (fb2 92 110) (fun m hm => sm_5' (by simp at hm; simp at hlen; omega)) hA fun H1 sl1 nx1 hB1 hA1 _ => ?_
      simp only [stpF, wrap_succ (show i < 9223372036854775807 by omega)]
      exact fin _ _ _ _ hA1 hB1 hq
    have h2 : c.toNat ≠ 10 := by omega
    refine Wq.ite (fun h3 => ?_) (fun h3 => ?_)
    . have h3 : c.toNat = 9 := by omega
      have hq : qc c = [92, 116] := by unfold qc; rw [if_neg h1, if_neg h2, if_pos h3]
      rw [hq] at hlen
      refine Wq.addB und_120 sz_5 zero_5 hB (x := [92, 116]) rfl rfl (fb2 92 116) (fun m hm => sm_5' (by simp at hm; simp at hlen; omega)) hA fun H1 sl1 nx1 hB1 hA1 _ => ?_
      simp only [stpF, wrap_succ (show i < 9223372036854775807 by omega)]
      exact fin _ _ _ _ hA1 hB1 hq
    have h3 : c.toNat ≠ 9 := by omega
    refine Wq.ite (fun h4 => L30 true (by simp; omega) h1 h2 h3) (fun h4 => L30 _ (by rw [decide_eq_true_eq]; omega) h1 h2 h3)
   refine Wq.jmp (q79_9 ..) (fun _ => rfl) ?_
   simp only [stpF, rdLen_str _ und_9, txt_size, is_lt_len hlt, rdIndex_txt und_9 hg]
   refine Wq.ite (fun h1 => L18 true (by simp; omega)) (fun h1 => L18 _ (by rw [decide_eq_true_eq]; omega))
theorem w_79 {nx0 : Nat} {H0 : T OB} {nx : Nat} {H : T OB} (l : List UInt8) (hl : (qs l).length <= 1000000) (hl2 : l.length < 9223372036854775807) (hA : Ag nx0 H0 nx H) :
 WqR P pl X0 (evT P pl (.call 79 [txt l] false none H nx)) nx0 H0 (fun u H nx => u = rowV 1 (bys (quote l))) := by
 rw [q79]
 refine Wq.row und_120 sz_5 zero_5 rfl (fb1 34) hA fun H1 hb1 _ hA1 => ?_
 exact w_79_9 l hl2 l 0 [34] _ H1 _ rfl (Nat.zero_le _) (by simp; omega) (.inr ⟨nx, 1, hA.1, by omega, hb1, .inr rfl, rfl⟩) hA1
theorem w_118_9 {nx0 : Nat} {H0 : T OB} (l : List UInt8) (hl : l.length < 9223372036854775807) : ∀ (t : List UInt8) (i : Nat) (r : List UInt8) (sl : Value) (H : T OB) (nx : Nat), l.drop i = t -> i <= l.length -> r.length + (qs t).length + 1 <= 1048576 -> BS 5 nx0 H nx r sl -> Ag nx0 H0 nx H ->
 WqR P pl X0 (.jump (l118_9 (txt l) sl (i64 (i : Int)) H nx)) nx0 H0 (fun u _ _ => u = txt (r ++ (qs t ++ [34]))) := by
 intro t
 induction t with
 | nil =>
   intro i r sl H nx hd hi hlen hB hA
   have hil := drop_nil hd hi
   refine Wq.jmp (q118_9 ..) (fun _ => rfl) ?_
   simp only [stpF, rdLen_str _ und_9, txt_size, hil, not_lt_len]
   refine Wq.addB und_120 sz_5 zero_5 hB (x := [34]) rfl rfl (fb1 34) (fun m hm => sm_5' (by simp at hm; simp at hlen; omega)) hA fun H1 sl1 nx1 hB1 hA1 _ => ?_
   rw [rdConv_BS und_120 und_5 und_9 bytes_120 hB1, optK_some]; exact Wq.ret hA1
 | cons c t ih =>
   intro i r sl H nx hd hi hlen hB hA
   obtain ⟨hg, hlt, hd'⟩ := drop_cons hd
   have hqs : qs (c :: t) = qc c ++ qs t := rfl
   rw [hqs, List.length_append] at hlen
   have fin : ∀ (x : List UInt8) (sl1 : Value) H1 nx1, Ag nx0 H0 nx1 H1 -> BS 5 nx0 H1 nx1 (r ++ x) sl1 -> qc c = x -> WqR P pl X0 (.jump (l118_9 (txt l) sl1 (i64 ((i + 1 : Nat) : Int)) H1 nx1)) nx0 H0 (fun u _ _ => u = txt (r ++ (qs (c :: t) ++ [34]))) := by
    intro x sl1 H1 nx1 hA1 hB1 hx
    have := ih (i + 1) (r ++ x) sl1 H1 nx1 hd' (by omega) (by rw [List.length_append, <- hx]; omega) hB1 hA1
    rw [hqs, hx]
    simpa [List.append_assoc] using this
   have hc8 : c.toNat < 256 := c.toNat_lt
   have L30 : ∀ b : Bool, (b = true ↔ (c.toNat < 32 \/ 126 < c.toNat)) -> ¬ (c.toNat = 34 \/ c.toNat = 92) -> c.toNat ≠ 10 -> c.toNat ≠ 9 -> WqR P pl X0 (.jump (l118_30 (txt l) sl (i64 (i : Int)) (b8 c) b H nx)) nx0 H0 (fun u _ _ => u = txt (r ++ (qs (c :: t) ++ [34]))) := by
    intro b hb h1 h2 h3
    refine Wq.jmp (q118_30 ..) (fun _ => rfl) ?_
    refine Wq.bK (fun h => ?_) (fun h => ?_)
    . have hq : qc c = [92, 120, hx (c.toNat / 16), hx (c.toNat % 16)] := by unfold qc; rw [if_neg h1, if_neg h2, if_neg h3, if_pos (hb.1 h)]
      rw [hq] at hlen
      simp only [stpF, u8_quo, u8_rem, ix_hex (show c.toNat / 16 < 16 by omega), ix_hex (show c.toNat % 16 < 16 by omega)]
      refine Wq.addB und_120 sz_5 zero_5 hB (x := [92, 120, hx (c.toNat / 16), hx (c.toNat % 16)]) rfl rfl (fb4 92 120 _ _) (fun m hm => sm_5' (by simp at hm; simp at hlen; omega)) hA fun H1 sl1 nx1 hB1 hA1 _ => ?_
      simp only [stpF, wrap_succ (show i < 9223372036854775807 by omega)]
      exact fin _ _ _ _ hA1 hB1 hq
    . have hq : qc c = [c] := by unfold qc; rw [if_neg h1, if_neg h2, if_neg h3, if_neg (fun q => by rw [hb.2 q] at h; cases h)]
      rw [hq] at hlen
      refine Wq.addB und_120 sz_5 zero_5 hB (x := [c]) rfl rfl (fb1 _) (fun m hm => sm_5' (by simp at hm; simp at hlen; omega)) hA fun H1 sl1 nx1 hB1 hA1 _ => ?_
      simp only [stpF, wrap_succ (show i < 9223372036854775807 by omega)]
      exact fin _ _ _ _ hA1 hB1 hq
   have L18 : ∀ b : Bool, (b = true ↔ (c.toNat = 34 \/ c.toNat = 92)) -> WqR P pl X0 (.jump (l118_18 (txt l) sl (i64 (i : Int)) (b8 c) b H nx)) nx0 H0 (fun u _ _ => u = txt (r ++ (qs (c :: t) ++ [34]))) := by
    intro b hb
    refine Wq.jmp (q118_18 ..) (fun _ => rfl) ?_
    refine Wq.bK (fun h => ?_) (fun h => ?_)
    . have hq : qc c = [92, c] := by unfold qc; rw [if_pos (hb.1 h)]
      rw [hq] at hlen
      refine Wq.addB und_120 sz_5 zero_5 hB (x := [92, c]) rfl rfl (fb2 92 _) (fun m hm => sm_5' (by simp at hm; simp at hlen; omega)) hA fun H1 sl1 nx1 hB1 hA1 _ => ?_
      simp only [stpF, wrap_succ (show i < 9223372036854775807 by omega)]
      exact fin _ _ _ _ hA1 hB1 hq
    have h1 : ¬ (c.toNat = 34 \/ c.toNat = 92) := fun q => by rw [hb.2 q] at h; cases h
    simp only [stpF]
    refine Wq.ite (fun h2 => ?_) (fun h2 => ?_)
    . have h2 : c.toNat = 10 := by omega
      have hq : qc c = [92, 110] := by unfold qc; rw [if_neg h1, if_pos h2]
      rw [hq] at hlen
      refine Wq.addB und_120 sz_5 zero_5 hB (x := [92, 110]) rfl rfl (fb2 92 110) (fun m hm => sm_5' (by simp at hm; simp at hlen; omega)) hA fun H1 sl1 nx1 hB1 hA1 _ => ?_
      simp only [stpF, wrap_succ (show i < 9223372036854775807 by omega)]
      exact fin _ _ _ _ hA1 hB1 hq
    have h2 : c.toNat ≠ 10 := by omega
    refine Wq.ite (fun h3 => ?_) (fun h3 => ?_)
    . have h3 : c.toNat = 9 := by omega
      have hq : qc c = [92, 116] := by unfold qc; rw [if_neg h1, if_neg h2, if_pos h3]
      rw [hq] at hlen
      refine Wq.addB und_120 sz_5 zero_5 hB (x := [92, 116]) rfl rfl (fb2 92 116) (fun m hm => sm_5' (by simp at hm; simp at hlen; omega)) hA fun H1 sl1 nx1 hB1 hA1 _ => ?_
      simp only [stpF, wrap_succ (show i < 9223372036854775807 by omega)]
      exact fin _ _ _ _ hA1 hB1 hq
    have h3 : c.toNat ≠ 9 := by omega
    refine Wq.ite (fun h4 => L30 true (by simp; omega) h1 h2 h3) (fun h4 => L30 _ (by rw [decide_eq_true_eq]; omega) h1 h2 h3)
   refine Wq.jmp (q118_9 ..) (fun _ => rfl) ?_
   simp only [stpF, rdLen_str _ und_9, txt_size, is_lt_len hlt, rdIndex_txt und_9 hg]
   refine Wq.ite (fun h1 => L18 true (by simp; omega)) (fun h1 => L18 _ (by rw [decide_eq_true_eq]; omega))
theorem pu_118 (l : List UInt8) (hl : (qs l).length <= 1000000) (hl2 : l.length < 9223372036854775807) : P0 118 [txt l] (txt (quote l)) := Pure.of rfl fun H nx => by
 rw [q118]
 refine Wq.row und_120 sz_5 zero_5 rfl (fb1 34) (.refl _ _) fun H1 hb1 _ hA1 => ?_
 exact w_118_9 l hl2 l 0 [34] _ H1 _ rfl (Nat.zero_le _) (by simp; omega) (.inr ⟨nx, 1, Nat.le_refl _, by omega, hb1, .inr rfl, rfl⟩) hA1
end
end Go.Proofs.YthjhonhhbddhkaaGreatDoor
/- Tokens as a text: the program's answer. -/
namespace Go.Proofs.YthjhonhhbddhkaaGreatDoor
open Go.Ev Go.RowKit
noncomputable section
set_option maxRecDepth 100000
set_option linter.unusedVariables false
set_option linter.unusedSimpArgs false
variable {nx0 nx : Nat} {H0 H : T OB} {R : Value -> T OB -> Nat -> Prop}
theorem pu_79 (l : List UInt8) (hl : (qs l).length <= 1000000) (hl2 : l.length < 9223372036854775807) : P0 79 [txt l] (rowV 1 (bys (quote l))) := Pure.of rfl fun H nx => w_79 l hl hl2 (.refl _ _)
def BU (nx0 : Nat) (H : T OB) (nx : Nat) (r : List UInt8) (sl : Value) : Prop := (r = [] /\ sl = .slice none 0 0) \/ ∃ b, nx0 <= b /\ b < nx /\ IsB H b (bys r) 5 /\ sl = .slice (some ⟨b, 0, none⟩) r.length unk
theorem BU.keep {r : List UInt8} {sl : Value} {nx' : Nat} {H' : T OB} (h : BU nx0 H nx r sl) (hA : Ag nx H nx' H') : BU nx0 H' nx' r sl := by
 rcases h with h | ⟨b, h1, h2, h3, h4⟩
 . exact .inl h
 . exact .inr ⟨b, h1, by have := hA.1; omega, h3.ag hA h2, h4⟩
theorem BU.conv {r : List UInt8} {sl : Value} (h : BU nx0 H nx r sl) : rdConv P H 120 9 (some sl) = some (txt r) := by
 have : BS 5 nx0 H nx r sl := by
  rcases h with h | ⟨b, h1, h2, h3, h4⟩
  . exact .inl h
  . exact .inr ⟨b, unk, h1, h2, h3, .inl rfl, h4⟩
 exact rdConv_BS und_120 und_5 und_9 bytes_120 this
theorem BU.len {r : List UInt8} {sl : Value} (h : BU nx0 H nx r sl) : rdLen P #[120] 3 (some [sl]) = some (i64 (r.length : Int)) := by
 rcases h with ⟨rfl, rfl⟩ | ⟨b, h1, h2, h3, rfl⟩
 . exact lenN_120 3
 . exact lenS_120 3 _ _ _
theorem bys_flat (x : List UInt8) : ((bys x).flatMap fun u => u.cells.toList) = bys x := by
 induction x with
 | nil => rfl
 | cons a l ih =>
   show (Value.int .u8 (Int.ofNat a.toNat)).cells.toList ++ (bys l).flatMap (fun u => u.cells.toList) = _
   rw [ih]; rfl
theorem Wq.callTB {f : FuncId} {args : List Value} {u : Value} {k p : Value -> T OB -> Nat -> Q} (hT : TabIn nx0 H0) (hp : PT f args u) (h : Ag nx0 H0 nx H)
 (hk : ∀ H' nx', Ag nx0 H0 nx' H' -> Ag nx H nx' H' -> WqR P pl X0 (k u H' nx') nx0 H0 R) : WqR P pl X0 (callQ (.call f args false none H nx) k p) nx0 H0 R := by
 obtain ⟨H1, nx1, h1, h2⟩ := hp H nx (hT.ag h)
 obtain ⟨v, H2, nx2, h3, hR, h4⟩ := hk H1 nx1 (h.trans h1) h1
 refine ⟨v, H2, nx2, h3, hR, ?_⟩
 show optK (F P pl X0 (.call f args false none H nx)) (fun r => (match r.o with | .ret v => k v r.H r.nx | .pan v => p v r.H r.nx : Q).run (F P pl X0)) none = _
 rw [h2]
 exact h4
theorem Wq.callPB {f : FuncId} {args : List Value} {u : Value} {k p : Value -> T OB -> Nat -> Q} (hp : P0 f args u) (h : Ag nx0 H0 nx H)
 (hk : ∀ H' nx', Ag nx0 H0 nx' H' -> Ag nx H nx' H' -> WqR P pl X0 (k u H' nx') nx0 H0 R) : WqR P pl X0 (callQ (.call f args false none H nx) k p) nx0 H0 R := by
 obtain ⟨H1, nx1, h1, h2⟩ := hp H nx
 obtain ⟨v, H2, nx2, h3, hR, h4⟩ := hk H1 nx1 (h.trans h1) h1
 refine ⟨v, H2, nx2, h3, hR, ?_⟩
 show optK (F P pl X0 (.call f args false none H nx)) (fun r => (match r.o with | .ret v => k v r.H r.nx | .pan v => p v r.H r.nx : Q).run (F P pl X0)) none = _
 rw [h2]
 exact h4
theorem Wq.addR {r x : List UInt8} {sl : Value} {k : Value -> T OB -> Nat -> Q} (hsl : BU nx0 H nx r sl) (hx : x ≠ []) (hsm : r.length + x.length <= 1048576) (h : Ag nx0 H0 nx H)
 (hk : ∀ H' sl' nx', BU nx0 H' nx' (r ++ x) sl' -> Ag nx0 H0 nx' H' -> WqR P pl X0 (k sl' H' nx') nx0 H0 R) : WqR P pl X0 (effQ (efAppS P H nx [120, 120] (some [sl, rowV 1 (bys x)])) k) nx0 H0 R := by
 have hxs : xsOf H 1 (rowV 1 (bys x)) = some (x.length, bys x) := by
  rw [xsOf_row]
  have := bys_flat x
  rw [this]; simp
 have hx0 : 0 < x.length := List.length_pos_iff.2 hx
 rcases hsl with ⟨rfl, rfl⟩ | ⟨b, hb0, hbx, hb, rfl⟩
 . refine Wq.app0 und_120 sz_5 rfl hxs (sm_5' (by simp at hsm; omega)) h (fun q => by omega) fun H2 _ hb2 _ hA2 => ?_
   exact hk _ _ _ (.inr ⟨nx, h.1, by omega, by simpa using hb2, by simp⟩) hA2
 . refine Wq.app und_120 sz_5 hb sz_5 (by simp) rfl hxs (bys_all x) (sm_5' hsm) h hb0 hbx fun H2 hb2 _ hA2 => ?_
   exact hk _ _ _ (.inr ⟨nx, h.1, by omega, by rw [bys_append]; exact hb2, by rw [List.length_append]⟩) hA2
theorem Wq.addU {r x : List UInt8} {sl : Value} {k : Value -> T OB -> Nat -> Q} (hsl : BU nx0 H nx r sl) (hsm : r.length + x.length <= 1048576) (h : Ag nx0 H0 nx H)
 (hk : ∀ H' sl' nx', BU nx0 H' nx' (r ++ x) sl' -> Ag nx0 H0 nx' H' -> WqR P pl X0 (k sl' H' nx') nx0 H0 R) : WqR P pl X0 (effQ (efAppS P H nx [120, 9] (some [sl, txt x])) k) nx0 H0 R := by
 have hq : isStrT P 9 = true := by kernel_rfl
 rcases hsl with ⟨rfl, rfl⟩ | ⟨b, hb0, hbx, hb, rfl⟩
 . refine Wq.appT0 und_120 sz_5 hq (sm_5' (by simp at hsm; omega)) h (fun h0 => ?_) fun H2 h0 hb2 keep hA2 => ?_
   . subst h0
     exact hk _ _ _ (.inl ⟨rfl, rfl⟩) h
   . exact hk _ _ _ (.inr ⟨_, h.1, by omega, by simpa using hb2, by simp⟩) hA2
 . refine Wq.appT und_120 sz_5 hq hb sz_5 (by simp) (sm_5' hsm) h hb0 hbx fun H2 hb2 keep hA2 => ?_
   exact hk _ _ _ (.inr ⟨_, h.1, by omega, by rw [bys_append]; exact hb2, by simp⟩) hA2
theorem Wq.addC {r : List UInt8} {sl : Value} {k : Value -> T OB -> Nat -> Q} (hsl : BU nx0 H nx r sl) (hr : r ≠ []) (hsm : r.length + 1 <= 1048576) (h : Ag nx0 H0 nx H)
 (hk : ∀ H' sl' nx', BU nx0 H' nx' (r ++ [32]) sl' -> Ag nx0 H0 nx' H' -> WqR P pl X0 (k sl' H' nx') nx0 H0 R) :
 WqR P pl X0 (effQ (efBuildSlice P H nx 120 1 (some [(0, .int .u8 32)])) fun v H nx => effQ (efAppS P H nx [120, 120] (some [sl, v])) k) nx0 H0 R := by
 refine Wq.row und_120 sz_5 zero_5 rfl (fb1 32) h fun H1 hb1 keep hA1 => ?_
 have hx1 : xsOf H1 1 (.slice (some ⟨nx, 0, none⟩) 1 1) = some (1, bys [32]) := xsOf_b (l := bys [32]) hb1 rfl
 rcases hsl with ⟨rfl, rfl⟩ | ⟨b, hb0, hbx, hb, rfl⟩
 . exact absurd rfl hr
 . have hn0 := h.1
   refine Wq.app und_120 sz_5 (keep _ _ _ hbx hb) sz_5 (by simp) rfl hx1 (bys_all [32]) (sm_5' hsm) hA1 hb0 (by omega) fun H2 hb2 _ hA2 => ?_
   exact hk _ _ _ (.inr ⟨nx + 1, by omega, by omega, by rw [bys_append]; exact hb2, by rw [List.length_append]; rfl⟩) hA2
def tokText (t : Tok) : List UInt8 := if t.k = 1 then dig t.n else if t.k = 2 then quote t.s else t.s
def pr (out : List UInt8) : List Tok -> List UInt8
 | [] => out
 | t :: ts => pr ((if out = [] then out else out ++ [32]) ++ tokText t) ts
def tw : List Tok -> Nat
 | [] => 0
 | t :: ts => (tokText t).length + 1 + tw ts
def good (t : Tok) : Prop := tokOk t = true /\ t.k ≠ 0 /\ rg t.n /\ sOk t.s
theorem quote_len (l : List UInt8) : (qs l).length <= (quote l).length := by simp [quote]; omega
theorem nTok (t : Tok) : t.v.cells.toList.length = 4 := rfl
theorem oTok (t : Tok) : t.v.cells.toList.all oneCell = true := rfl
theorem w_43_9 (hT : TabIn nx0 H0) (l : List Tok) (hl : l.length < big) (hg : ∀ t, t ∈ l -> good t) : ∀ (r : List Tok) (i : Nat) (out : List UInt8) (sl : Value) (H : T OB) (nx : Nat), l.drop i = r -> i <= l.length -> out.length + tw r <= 1000000 -> BU nx0 H nx out sl -> Ag nx0 H0 nx H ->
 WqR P pl X0 (.jump (l43_9 sl (rowV 4 (l.map Tok.v)) (i64 (l.length : Int)) (i64 (i : Int)) H nx)) nx0 H0 (fun u _ _ => u = .tuple ⟨[txt (pr out r), i64 0]⟩) := by
 intro r
 induction r with
 | nil =>
   intro i out sl H nx hd hi hw hB hA
   have hil := drop_nil hd hi
   refine Wq.jmp (q43_9 ..) (fun _ => rfl) ?_
   simp only [stpF, hil, not_lt_len, hB.conv]
   exact Wq.retR hA rfl
 | cons t r ih =>
   intro i out sl H nx hd hi hw hB hA
   obtain ⟨hgt, hlt, hd'⟩ := drop_cons hd
   have hx : (l.map Tok.v)[i]? = some t.v := by simp [hgt]
   obtain ⟨g1, g2, g3, g4⟩ := hg t (List.mem_of_getElem? hgt)
   rw [tw] at hw
   refine Wq.jmp (q43_9 ..) (fun _ => rfl) ?_
   simp only [stpF, is_lt_len hlt, ix_29 hx]
   refine Wq.varB zero_31 sz_31 rfl (nTok _) (oTok _) hA fun H1 nx1 hA1 hn1 hk1 => ?_
   have hB1 : BU nx0 H1 nx1 out sl := by
    rcases hB with h | ⟨b, h1, h2, h3, h4⟩
    . exact .inl h
    . exact .inr ⟨b, h1, by omega, hk1 _ _ _ h2 h3, h4⟩
   refine Wq.callTB hT (pt_33 t (sLt g4)) hA1 fun H2 nx2 hA2 hB2 => ?_
   rw [g1]
   have hB2 := hB1.keep hB2
   simp only [stpF]
   refine Wq.ite (fun h => absurd h g2) (fun _ => ?_)
   simp only [stpF, hB2.len, nat_gt0]
   have fin : ∀ (out' : List UInt8) (sl' : Value) H3 nx3, out' = (if out = [] then out else out ++ [32]) -> BU nx0 H3 nx3 out' sl' -> Ag nx0 H0 nx3 H3 -> WqR P pl X0 (.jump (l43_22 sl' (eptrV t.v) (rowV 4 (l.map Tok.v)) (i64 (l.length : Int)) (i64 (i : Int)) H3 nx3)) nx0 H0 (fun u _ _ => u = .tuple ⟨[txt (pr out (t :: r)), i64 0]⟩) := by
    intro out' sl' H3 nx3 ho hB3 hA3
    have hlen : out'.length <= out.length + 1 := by
     rw [ho]; split
     . omega
     . rw [List.length_append, List.length_singleton]; omega
    have hwi : i < 9223372036854775807 := by have := sm_lt hl; omega
    have e1 : pr out (t :: r) = pr (out' ++ tokText t) r := by rw [ho]; rfl
    have nxt : ∀ sl4 H4 nx4, BU nx0 H4 nx4 (out' ++ tokText t) sl4 -> Ag nx0 H0 nx4 H4 -> WqR P pl X0 (.jump (l43_9 sl4 (rowV 4 (l.map Tok.v)) (i64 (l.length : Int)) (i64 ((i + 1 : Nat) : Int)) H4 nx4)) nx0 H0 (fun u _ _ => u = .tuple ⟨[txt (pr out (t :: r)), i64 0]⟩) := by
     intro sl4 H4 nx4 hB4 hA4
     rw [e1]
     exact ih (i + 1) _ sl4 H4 nx4 hd' (by omega) (by rw [List.length_append]; omega) hB4 hA4
    refine Wq.jmp (q43_22 ..) (fun _ => rfl) ?_
    simp only [stpF]
    refine Wq.ite (fun hk => ?_) (fun hk1 => ?_)
    . have et : tokText t = dig t.n := by unfold tokText; rw [if_pos hk]
      refine Wq.callPB (pu_78 t.n g3) hA3 fun H4 nx4 hA4 hB4 => ?_
      refine Wq.addU (hB3.keep hB4) (by rw [<- et]; omega) hA4 fun H5 sl5 nx5 hB5 hA5 => ?_
      simp only [stpF, wrap_succ hwi]
      rw [<- et] at hB5
      exact nxt _ _ _ hB5 hA5
    refine Wq.ite (fun hk => ?_) (fun hk2 => ?_)
    . have et : tokText t = quote t.s := by unfold tokText; rw [if_neg hk1, if_pos hk]
      have hq := quote_len t.s
      refine Wq.callPB (pu_79 t.s (by rw [<- et] at hq; omega) (sLt g4)) hA3 fun H4 nx4 hA4 hB4 => ?_
      refine Wq.addR (hB3.keep hB4) (by simp [quote]) (by rw [<- et]; omega) hA4 fun H5 sl5 nx5 hB5 hA5 => ?_
      simp only [stpF, wrap_succ hwi]
      rw [<- et] at hB5
      exact nxt _ _ _ hB5 hA5
    . have et : tokText t = t.s := by unfold tokText; rw [if_neg hk1, if_neg hk2]
      refine Wq.addU hB3 (by rw [<- et]; omega) hA3 fun H5 sl5 nx5 hB5 hA5 => ?_
      simp only [stpF, wrap_succ hwi]
      rw [<- et] at hB5
      exact nxt _ _ _ hB5 hA5
   refine Wq.ite (fun h => ?_) (fun h => ?_)
   . have hne : out ≠ [] := fun q => by subst q; simp at h
     refine Wq.addC hB2 hne (by omega) hA2 fun H3 sl3 nx3 hB3 hA3 => ?_
     exact fin _ _ _ _ (by rw [if_neg hne]) hB3 hA3
   . have he : out = [] := by cases out with
      | nil => rfl
      | cons a l => simp at h
     exact fin _ _ _ _ (by rw [if_pos he]) hB2 hA2
theorem w_43 (hT : TabIn nx0 H0) (l : List Tok) (hl : l.length < big) (hg : ∀ t, t ∈ l -> good t) (hw : tw l <= 1000000) {sl : Value} (hS : TS nx0 H nx l sl) (hA : Ag nx0 H0 nx H) : WqR P pl X0 (evT P pl (.call 43 [sl] false none H nx)) nx0 H0 (fun u _ _ => u = .tuple ⟨[txt (pr [] l), i64 0]⟩) := by
 rw [q43]
 rcases hS with ⟨rfl, rfl⟩ | ⟨b, hb0, hbx, hb, rfl⟩
 . have e1 : ∀ k, frzV P 29 (.slice none 0 0) H nx k = k (rowV 4 []) H nx := fun k => by kernel_rfl
   rw [e1]
   simp only [stpF]
   exact w_43_9 hT [] hl hg [] 0 [] _ H nx rfl (Nat.zero_le _) (by simpa using hw) (.inl ⟨rfl, rfl⟩) hA
 . have hch : chunk true 4 l.length (tokC l) = some (l.map Tok.v) := by
    have h1 := chunk_aggs 4 (l.map Tok.c) (fun x hx => by obtain ⟨t, _, rfl⟩ := List.mem_map.1 hx; rfl)
    rw [List.length_map, List.map_map] at h1
    unfold tokC
    rw [List.flatMap_def]
    exact h1
   refine Wq.frz und_29 sz_31 agg_31 rfl hb (tokC_len l) (by simp) hch (by simp) hA hb0 fun H' _ hA' => ?_
   simp only [stpF, List.length_map]
   exact w_43_9 hT l hl hg l 0 [] _ H' _ rfl (Nat.zero_le _) (by simpa using hw) (.inl ⟨rfl, rfl⟩) hA'
end
end Go.Proofs.YthjhonhhbddhkaaGreatDoor
/- The tokens of trees that are right: each is right, and they are not long. -/
namespace Go.Proofs.YthjhonhhbddhkaaGreatDoor
open Go.Ev Go.RowKit
noncomputable section
set_option maxRecDepth 100000
set_option linter.unusedVariables false
set_option linter.unusedSimpArgs false
theorem tw_append (a b : List Tok) : tw (a ++ b) = tw a + tw b := by
 induction a with
 | nil => simp [tw]
 | cons t a ih => rw [List.cons_append, tw, tw, ih]; omega
def GT (ts : List Tok) (m : Nat) : Prop := (∀ t, t ∈ ts -> good t) /\ tw ts <= m
theorem GT.nil (m : Nat) : GT [] m := ⟨(fun t h => nomatch h), Nat.zero_le _⟩
theorem GT.mono {ts : List Tok} {m n : Nat} (h : GT ts m) (hn : m <= n) : GT ts n := ⟨h.1, Nat.le_trans h.2 hn⟩
theorem GT.append {a b : List Tok} {m n : Nat} (h : GT a m) (h' : GT b n) : GT (a ++ b) (m + n) := ⟨fun t ht => (List.mem_append.1 ht).elim (h.1 t) (h'.1 t), by rw [tw_append]; exact Nat.add_le_add h.2 h'.2⟩
theorem GT.cons {t : Tok} {b : List Tok} {m n : Nat} (h : GT [t] m) (h' : GT b n) : GT (t :: b) (m + n) := h.append h'
theorem GT.one {t : Tok} {m : Nat} (h : good t) (hm : (tokText t).length + 1 <= m) : GT [t] m := ⟨fun x hx => by rw [List.mem_singleton.1 hx]; exact h, by simpa [tw] using hm⟩
theorem GT.list {α : Type} {tf : Bool -> α -> List Tok} {w : α -> Nat} : ∀ {l : List α}, (∀ a, a ∈ l -> ∀ b, GT (tf b a) (w a)) -> ∀ b, GT (tokL tf b l) (sumN w l)
 | [], _, b => GT.nil _
 | a :: l, h, b => (h a (by simp) b).append (GT.list (fun c hc => h c (by simp [hc])) false)
theorem rg0 : rg 0 := by unfold rg; omega
theorem GT.sg {s : List UInt8} (h : signsL.contains s = true) : GT [sgT s] 3 := by
 have hs : s.length <= 2 := by
  have : ∀ x ∈ signsL, x.length <= 2 := by decide
  exact this s (by simpa using h)
 exact GT.one ⟨by show (decide ((0 : Int) = 0) && signsL.contains s) = true; rw [h]; rfl, by simp, rg0, by show s.length < _; omega⟩ (by show s.length + 1 <= 3; omega)
theorem GT.ky {s : List UInt8} (h : tokOk (kyT s) = true) (hs : s.length <= 9) : GT [kyT s] 10 := GT.one ⟨h, by simp, rg0, by show s.length < _; omega⟩ (by show s.length + 1 <= 10; omega)
theorem GT.wd {k : Int} {s : List UInt8} (hk : k = 3 \/ k = 4 \/ k = 5) (h : wordOk k s = true) (hs : sOk s) : GT [⟨k, s, 0, 0⟩] (s.length + 1) :=
 GT.one ⟨h, by rcases hk with rfl | rfl | rfl <;> simp, rg0, hs⟩ (by
  have : tokText ⟨k, s, 0, 0⟩ = s := by rcases hk with rfl | rfl | rfl <;> rfl
  rw [this]; exact Nat.le_refl _)
theorem GT.num {n : Int} (h0 : 0 <= n) (h1 : n <= 4611686018427387903) : GT [⟨1, [], n, 0⟩] 21 :=
 GT.one ⟨by simp [tokOk, h0, h1], by simp, by show rg n; unfold rg; omega, by show 0 < _; omega⟩ (by
  have := dig_length n (by omega)
  show (dig n).length + 1 <= 21
  omega)
theorem GT.txt {s : List UInt8} (hs : sOk s) : GT [⟨2, s, 0, 0⟩] (4 * s.length + 3) :=
 GT.one ⟨by simp [tokOk], by simp, rg0, hs⟩ (by
  have := qs_length s
  show (quote s).length + 1 <= _
  simp [quote]; omega)
theorem sumN_mul {α : Type} (z : α -> Nat) (k : Nat) : ∀ l : List α, sumN (fun a => k * z a) l = k * sumN z l
 | [] => by simp [sumN]
 | a :: l => by rw [sumN, sumN, sumN_mul z k l, Nat.mul_add]
theorem sumZ_pats : ∀ l : List Pat, sumN Pat.z l = patsZ l
 | [] => rfl
 | a :: l => by rw [sumN, patsZ, sumZ_pats l]
theorem sumZ_tys : ∀ l : List TyS, sumN TyS.z l = tysZ l
 | [] => rfl
 | a :: l => by rw [sumN, tysZ, sumZ_tys l]
theorem sumZ_cons : ∀ l : List Con, sumN Con.z l = consZ l
 | [] => rfl
 | a :: l => by rw [sumN, consZ, sumZ_cons l]
theorem sumZ_exps : ∀ l : List Exp, sumN Exp.z l = expsZ l
 | [] => rfl
 | a :: l => by rw [sumN, expsZ, sumZ_exps l]
theorem sumZ_decs : ∀ l : List Dec, sumN Dec.z l = decsZ l
 | [] => rfl
 | a :: l => by rw [sumN, decsZ, sumZ_decs l]
theorem sumZ_fns : ∀ l : List Fn, sumN Fn.z l = fnsZ l
 | [] => rfl
 | a :: l => by rw [sumN, fnsZ, sumZ_fns l]
theorem GT.sep {α : Type} {s : List UInt8} {f : α -> List Tok} {w : α -> Nat} (hs : signsL.contains s = true) {a : α} (h : GT (f a) (w a)) (b : Bool) : GT (sepF s f b a) (w a + 3) := by
 unfold sepF
 cases b with
 | true => exact (h.mono (by omega) : GT (f a) (w a + 3))
 | false => exact ((GT.sg hs).append h).mono (by omega)
theorem all_mem' {α : Type} {l : List α} {p : α -> Bool} (h : l.all p = true) {a : α} (ha : a ∈ l) : p a = true := List.all_eq_true.1 h a ha
def PatG (p : Pat) : Prop := patR p = true -> p.ok -> GT (patT p) (100 * p.z - 20) /\ GT (patPT p) (100 * p.z - 10) /\ ∀ a, a ∈ p.l -> GT (patPT a) (100 * a.z - 10)
theorem gt_pat (p : Pat) : PatG p := Pat.ind (p := PatG) (fun p ih hr hp => by
 rw [Pat.ok_iff] at hp
 obtain ⟨hn, hs, hl, hok⟩ := hp
 have hz := p.z_eq
 have e0 := patR_eq p
 rw [hr] at e0
 have e1 := e0.symm
 rw [Bool.and_eq_true, patsRt_all] at e1
 obtain ⟨hrl, hd⟩ := e1
 have hE : ∀ a, a ∈ p.l -> GT (patPT a) (100 * a.z - 10) := fun a ha => (ih a ha (all_mem' hrl ha) (hok a ha)).2.1
 have hE2 : ∀ q, q ∈ p.l -> ∀ a, a ∈ q.l -> GT (patPT a) (100 * a.z - 10) := fun q hq => (ih q hq (all_mem' hrl hq) (hok q hq)).2.2
 have hrow : ∀ b, GT (tokL (sepF [44] patPT) b p.l) (100 * patsZ p.l) := fun b => by
  rw [<- sumZ_pats, <- sumN_mul]
  exact GT.list (fun a ha b => (GT.sep (f := patPT) (a := a) (w := fun a => 100 * a.z - 10) (by decide +kernel) (hE a ha) b).mono (by have := a.z_pos; omega)) b
 have hrow2 : ∀ b, GT (tokL (fun _ => patPT) b p.l) (100 * patsZ p.l) := fun b => by
  rw [<- sumZ_pats, <- sumN_mul]
  exact GT.list (fun a ha b => (hE a ha).mono (by omega)) b
 have hlen := Nat.div_add_mod p.s.length 8
 have hmod := Nat.mod_lt p.s.length (show 0 < 8 by omega)
 have hT : GT (patT p) (100 * p.z - 20) := by
  rw [patT_eq]
  unfold patTH
  unfold patHd at hd
  rw [Bool.and_eq_true] at hd
  obtain ⟨_, hd⟩ := hd
  by_cases h1 : p.k = 1
  . rw [if_pos h1]; exact (GT.sg (by decide +kernel)).mono (by omega)
  rw [if_neg h1] at hd ⊢
  by_cases h2 : p.k = 2
  . rw [if_pos h2] at hd ⊢
    rw [Bool.and_eq_true] at hd
    exact (GT.wd (.inl rfl) hd.1 hs).mono (by omega)
  rw [if_neg h2] at hd ⊢
  by_cases h3 : p.k = 3
  . rw [if_pos h3] at hd ⊢
    simp only [Bool.and_eq_true, decide_eq_true_eq] at hd
    split
    . exact ((GT.sg (by decide +kernel)).cons (GT.num (by omega) (by omega))).mono (by omega)
    . exact (GT.num (by omega) (by omega)).mono (by omega)
  rw [if_neg h3] at hd ⊢
  by_cases h4 : p.k = 4
  . rw [if_pos h4]; exact (GT.txt hs).mono (by omega)
  rw [if_neg h4] at hd ⊢
  by_cases h5 : p.k = 5
  . rw [if_pos h5, tokL_map]
    exact ((GT.sg (by decide +kernel)).cons ((hrow true).append (GT.sg (by decide +kernel)))).mono (by omega)
  rw [if_neg h5] at hd ⊢
  by_cases h6 : p.k = 6
  . rw [if_pos h6] at hd ⊢
    by_cases hc : p.s = [58, 58]
    . rw [if_pos hc] at hd ⊢
      match hpl : p.l with
      | [] => exact GT.nil _
      | q :: q' :: r => exact GT.nil _
      | [q] =>
        have hq : q ∈ p.l := by rw [hpl]; simp
        have hz1 : patsZ p.l = q.z + 0 := by rw [hpl]; rfl
        have hz2 := q.z_eq
        simp only [List.map_cons, List.map_nil]
        rw [patI_eq q]
        match hql : q.l with
        | [] => exact GT.nil _
        | [a] => exact GT.nil _
        | a :: b :: c :: r => exact GT.nil _
        | [a, b] =>
          have hz3 : patsZ q.l = a.z + (b.z + 0) := by rw [hql]; rfl
          exact ((hE2 q hq a (by rw [hql]; simp)).append ((GT.sg (by decide +kernel)).cons (hE2 q hq b (by rw [hql]; simp)))).mono (by have := a.z_pos; have := b.z_pos; omega)
    . rw [if_neg hc] at hd ⊢
      rw [Bool.and_eq_true] at hd
      rw [tokL_map]
      exact ((GT.wd (.inr (.inl rfl)) hd.1 hs).cons (hrow2 true)).mono (by omega)
  . rw [if_neg h6]; exact GT.nil _
 refine ⟨hT, ?_, hE⟩
 rw [patPT_eq]
 split
 . exact ((GT.sg (by decide +kernel)).cons (hT.append (GT.sg (by decide +kernel)))).mono (by omega)
 . exact hT.mono (by omega)) p
def TyG (t : TyS) : Prop := tyR t = true -> t.ok -> GT (tyT t) (100 * t.z - 20) /\ GT (tyPT t) (100 * t.z - 10)
theorem gt_name {s : List UInt8} (h : (decide (s = [114, 101, 102]) || wordOk 3 s) = true) (hs : sOk s) : GT (nameT s) (s.length + 10) := by
 unfold nameT
 split
 . rename_i h1; subst h1; exact (GT.ky (by decide +kernel) (by decide +kernel)).mono (by omega)
 . rename_i h1
   rw [decide_eq_false h1, Bool.false_or] at h
   exact (GT.wd (.inl rfl) h hs).mono (by omega)
theorem gt_ty (t : TyS) : TyG t := TyS.ind (p := TyG) (fun t ih hr hp => by
 rw [TyS.ok_iff] at hp
 obtain ⟨hs, hl, hok⟩ := hp
 have hz := t.z_eq
 have e0 := tyR_eq t
 rw [hr] at e0
 have e1 := e0.symm
 rw [Bool.and_eq_true, tysRt_all] at e1
 obtain ⟨hrl, hd⟩ := e1
 have hE : ∀ a, a ∈ t.l -> GT (tyPT a) (100 * a.z - 10) := fun a ha => (ih a ha (all_mem' hrl ha) (hok a ha)).2
 have hrow : ∀ s, signsL.contains s = true -> GT (tokL (sepF s tyPT) true t.l) (100 * tysZ t.l) := fun s hsg => by
  rw [<- sumZ_tys, <- sumN_mul]
  exact GT.list (fun a ha b => (GT.sep (f := tyPT) (a := a) (w := fun a => 100 * a.z - 10) hsg (hE a ha) b).mono (by have := a.z_pos; omega)) true
 have hlen := Nat.div_add_mod t.s.length 8
 have hmod := Nat.mod_lt t.s.length (show 0 < 8 by omega)
 have hrow' : ∀ s, signsL.contains s = true -> GT (tokL (sepF s partY) true (t.l.map tyI)) (100 * tysZ t.l) := fun s hsg => by
  rw [tokL_map]; exact hrow s hsg
 have hT : GT (tyT t) (100 * t.z - 20) := by
  rw [tyT_eq]
  unfold tyTH
  unfold tyHd at hd
  by_cases h1 : t.k = 1
  . rw [if_pos h1] at hd ⊢
    rw [Bool.and_eq_true] at hd
    exact (GT.wd (.inr (.inr rfl)) hd.2 hs).mono (by omega)
  rw [if_neg h1] at hd ⊢
  by_cases h3 : t.k = 3
  . rw [if_pos h3]; exact (hrow' _ (by decide +kernel)).mono (by omega)
  rw [if_neg h3] at hd ⊢
  by_cases h4 : t.k = 4
  . rw [if_pos h4]; exact (hrow' _ (by decide +kernel)).mono (by omega)
  rw [if_neg h4] at hd ⊢
  by_cases h2 : t.k = 2
  . rw [if_pos h2] at hd ⊢
    split
    . exact ((GT.sg (by decide +kernel)).cons ((hrow' _ (by decide +kernel)).append ((GT.sg (by decide +kernel)).cons (gt_name hd hs)))).mono (by omega)
    . exact ((hrow' _ (by decide +kernel)).append (gt_name hd hs)).mono (by omega)
  . rw [if_neg h2]; exact GT.nil _
 refine ⟨hT, ?_⟩
 rw [tyPT_eq]
 split
 . exact hT.mono (by omega)
 . exact ((GT.sg (by decide +kernel)).cons (hT.append (GT.sg (by decide +kernel)))).mono (by omega)) t
theorem gt_con (c : Con) (hr : conR c = true) (hc : c.ok) : GT (conT c) (100 * c.z - 20) := by
 obtain ⟨h1, h2, h3⟩ := hc
 unfold conR at hr
 rw [Bool.and_eq_true, Bool.and_eq_true, tysRt_all] at hr
 have hz : c.z = 1 + c.s.length / 8 + tysZ c.arg := rfl
 have hlen := Nat.div_add_mod c.s.length 8
 have hmod := Nat.mod_lt c.s.length (show 0 < 8 by omega)
 have hrow : GT (tokL (fun _ t => kyT [111, 102] :: tyT t) true c.arg) (100 * tysZ c.arg) := by
  rw [<- sumZ_tys, <- sumN_mul]
  exact GT.list (fun a ha b => ((GT.ky (by decide +kernel) (by decide +kernel)).cons (gt_ty a (all_mem' hr.2.2 ha) (h3 a ha)).1).mono (by have := a.z_pos; omega)) true
 exact ((GT.wd (.inr (.inl rfl)) hr.1 h1).cons hrow).mono (by omega)
theorem gt_data (x : Data) (hr : dataR x = true) (hx : x.ok) : GT (dataT x) (100 * x.z + 40) := by
 obtain ⟨⟨h1, h2⟩, h3, h4, h5⟩ := hx
 unfold dataR at hr
 rw [Bool.and_eq_true, Bool.and_eq_true, Bool.and_eq_true, varsRt_all, consRt_all] at hr
 have hz : x.z = strsZ x.vars + x.s.length / 8 + consZ x.cons := rfl
 have hlen := Nat.div_add_mod x.s.length 8
 have hmod := Nat.mod_lt x.s.length (show 0 < 8 by omega)
 have hv : GT (tokL (sepF [44] fun s => [(⟨5, s, 0, 0⟩ : Tok)]) true x.vars) (100 * strsZ x.vars) := by
  have hsum : ∀ l : List (List UInt8), sumN (fun s => 100 * (1 + s.length / 8)) l = 100 * strsZ l := by
   intro l
   induction l with
   | nil => rfl
   | cons a l ih => rw [sumN, ih, strsZ]; omega
  rw [<- hsum]
  exact GT.list (fun a ha b => (GT.sep (f := fun s => [(⟨5, s, 0, 0⟩ : Tok)]) (a := a) (w := fun s => s.length + 1) (by decide +kernel) (GT.wd (.inr (.inr rfl)) (all_mem' hr.1 ha) (h2 a ha)) b).mono (by
   have := Nat.div_add_mod a.length 8
   have := Nat.mod_lt a.length (show 0 < 8 by omega)
   omega)) true
 have hc : GT (tokL (fun b c => sgT (if b = true then [61] else [124]) :: conT c) true x.cons) (100 * consZ x.cons) := by
  rw [<- sumZ_cons, <- sumN_mul]
  exact GT.list (fun a ha b => ((GT.sg (by cases b <;> decide +kernel)).cons (gt_con a (all_mem' hr.2.1 ha) (h5 a ha))).mono (by have := a.z_pos; omega)) true
 have b1 : GT (if 1 < x.vars.length then [sgT [40]] else []) 3 := by split; exact GT.sg (by decide +kernel); exact GT.nil _
 have b2 : GT (if 1 < x.vars.length then [sgT [41]] else []) 3 := by split; exact GT.sg (by decide +kernel); exact GT.nil _
 exact ((GT.ky (by decide +kernel) (by decide +kernel)).cons (b1.append (hv.append (b2.append ((GT.wd (.inl rfl) hr.2.2.1 h3).cons hc))))).mono (by omega)
end
end Go.Proofs.YthjhonhhbddhkaaGreatDoor
/- The tokens of expressions and declarations that are right: each is right, and they are not long. -/
namespace Go.Proofs.YthjhonhhbddhkaaGreatDoor
open Go.Ev Go.RowKit
noncomputable section
set_option maxRecDepth 100000
set_option linter.unusedVariables false
set_option linter.unusedSimpArgs false
theorem gt_op {s : List UInt8} (h : binsL.contains s = true \/ wordsL.contains s = true) : GT [opT s] 10 := by
 have key : ∀ x ∈ binsL ++ wordsL, ((match x with | [] => false | c :: _ => isLow c) = true /\ tokOk (kyT x) = true /\ x.length <= 9) \/ ((match x with | [] => false | c :: _ => isLow c) = false /\ signsL.contains x = true) := by decide +kernel
 have hm : s ∈ binsL ++ wordsL := by
  rw [List.mem_append]
  rcases h with h | h
  . exact .inl (by simpa using h)
  . exact .inr (by simpa using h)
 rcases key s hm with ⟨h1, h2, h3⟩ | ⟨h1, h2⟩
 . have e : opT s = kyT s := by
    unfold opT
    exact if_pos h1
   rw [e]; exact GT.ky h2 h3
 . have e : opT s = sgT s := by
    unfold opT
    exact if_neg (fun q => by have q' := h1.symm.trans q; cases q')
   rw [e]; exact (GT.sg h2).mono (by omega)
theorem gt_arms (ps : List Pat) : ∀ (l : List Exp) (b : Bool), (∀ p, p ∈ ps -> GT (patPT p) (100 * p.z - 10)) -> (∀ e, e ∈ l -> GT (expPT e) (100 * e.z - 10)) -> GT (armsT b (ps.map patPT) (l.map expPT)) (100 * patsZ ps + 100 * expsZ l) := by
 induction ps with
 | nil => intro l b _ _; exact GT.nil _
 | cons p ps ih =>
   intro l b hp hl
   cases l with
   | nil => exact GT.nil _
   | cons e l =>
     rw [List.map_cons, List.map_cons, armsT, patsZ, expsZ]
     have h1 := hp p (by simp)
     have h2 := hl e (by simp)
     have h3 := ih l false (fun q hq => hp q (by simp [hq])) (fun q hq => hl q (by simp [hq]))
     have b1 : GT (if b = true then [] else [sgT [124]]) 3 := by split; exact GT.nil _; exact GT.sg (by decide +kernel)
     exact (b1.append (h1.append ((GT.sg (by decide +kernel)).cons (h2.append h3)))).mono (by have := p.z_pos; have := e.z_pos; omega)
def ExpG (e : Exp) : Prop := expR e = true -> e.ok -> GT (expT e) (100 * e.z - 20) /\ GT (expPT e) (100 * e.z - 10) /\ ∀ a, a ∈ e.l -> GT (expPT a) (100 * a.z - 10)
def DecG (d : Dec) : Prop := decR d = true -> d.ok -> GT (decT d) (100 * d.z - 10)
theorem gt_exp1 (e : Exp) (ihE : ∀ c, c ∈ e.l -> ExpG c) (ihD : ∀ d, d ∈ e.d -> DecG d) : ExpG e := fun hr he => by
 rw [Exp.ok_iff] at he
 obtain ⟨hn, hs, ⟨hl1, hl2⟩, ⟨hp1, hp2⟩, hd1, hd2⟩ := he
 have hz := e.z_eq
 have e0 := expR_k e
 rw [hr] at e0
 have e1 := e0.symm
 simp only [Bool.and_eq_true] at e1
 obtain ⟨_, hrl, hrp, hrd, hlf, hd⟩ := e1
 rw [expsRt_all] at hrl
 have hE : ∀ a, a ∈ e.l -> GT (expPT a) (100 * a.z - 10) := fun a ha => (ihE a ha (all_mem' hrl ha) (hl2 a ha)).2.1
 have hE2 : ∀ q, q ∈ e.l -> ∀ a, a ∈ q.l -> GT (expPT a) (100 * a.z - 10) := fun q hq => (ihE q hq (all_mem' hrl hq) (hl2 q hq)).2.2
 have hrowG : ∀ (l : List Exp) s, signsL.contains s = true -> (∀ a, a ∈ l -> GT (expPT a) (100 * a.z - 10)) -> GT (tokL (sepF s expPT) true l) (100 * expsZ l) := fun l s hsg h => by
  rw [<- sumZ_exps, <- sumN_mul]
  exact GT.list (fun a ha b => (GT.sep (f := expPT) (a := a) (w := fun a => 100 * a.z - 10) hsg (h a ha) b).mono (by have := a.z_pos; omega)) true
 have hrow : ∀ s, signsL.contains s = true -> GT (rowL s ((e.l.map fun e => (e.k, expI e)).map partE)) (100 * expsZ e.l) := fun s hsg => by
  rw [rowL_map']; exact hrowG e.l s hsg hE
 have hP : (decide (e.k = 7 \/ e.k = 9 \/ e.k = 12)) = true -> ∀ p, p ∈ e.p -> GT (patPT p) (100 * p.z - 10) := fun hk p hp => by
  rw [hk] at hrp
  have hrp' : patsRt e.p = true := by simpa using hrp
  rw [patsRt_all] at hrp'
  exact (gt_pat p (all_mem' hrp' hp) (hp2 p hp)).2.1
 have hD : e.k = 10 -> GT ((e.d.map decT).flatMap fun d => d ++ [sgT [59]]) (100 * decsZ e.d) := fun hk => by
  rw [hk] at hrd
  have hrd' : decsRt e.d = true := by simpa using hrd
  rw [decsRt_all] at hrd'
  rw [List.flatMap_map, <- tokL_const (fun d => decT d ++ [sgT [59]]) e.d true, <- sumZ_decs, <- sumN_mul]
  exact GT.list (fun a ha b => ((ihD a ha (all_mem' hrd' ha) (hd2 a ha)).append (GT.sg (by decide +kernel))).mono (by have := a.z_pos; omega)) true
 have hlen := Nat.div_add_mod e.s.length 8
 have hmod := Nat.mod_lt e.s.length (show 0 < 8 by omega)
 have hT : GT (expT e) (100 * e.z - 20) := by
  rw [expT_eq]
  unfold expTH
  unfold expHd at hd
  by_cases h1 : e.k = 1
  . rw [if_pos h1] at hd ⊢
    simp only [Bool.and_eq_true, decide_eq_true_eq] at hd
    exact (GT.num hd.1 hd.2).mono (by omega)
  rw [if_neg h1] at hd ⊢
  by_cases h2 : e.k = 2
  . rw [if_pos (.inl h2), h2]; exact (GT.txt hs).mono (by omega)
  rw [if_neg h2] at hd
  by_cases h3 : e.k = 3
  . rw [if_pos h3] at hd
    rw [if_pos (.inr (.inl h3)), h3]; exact (GT.wd (.inl rfl) hd hs).mono (by omega)
  rw [if_neg h3] at hd
  by_cases h4 : e.k = 4
  . rw [if_pos h4] at hd
    rw [if_pos (.inr (.inr h4)), h4]; exact (GT.wd (.inr (.inl rfl)) hd hs).mono (by omega)
  rw [if_neg (show ¬(e.k = 2 \/ e.k = 3 \/ e.k = 4) by omega)]
  rw [if_neg h4] at hd
  by_cases h5 : e.k = 5
  . rw [if_pos h5]; exact ((GT.sg (by decide +kernel)).cons ((hrow _ (by decide +kernel)).append (GT.sg (by decide +kernel)))).mono (by omega)
  rw [if_neg h5] at hd ⊢
  by_cases h13 : e.k = 13
  . rw [if_pos h13]; exact ((GT.sg (by decide +kernel)).cons ((hrow _ (by decide +kernel)).append (GT.sg (by decide +kernel)))).mono (by omega)
  rw [if_neg h13] at hd ⊢
  by_cases h10 : e.k = 10
  . rw [if_pos h10]
    match hel : e.l with
    | [] => exact GT.nil _
    | x :: y :: r => exact GT.nil _
    | [x] =>
      have hx : x ∈ e.l := by rw [hel]; simp
      have hz1 : expsZ e.l = x.z + 0 := by rw [hel]; rfl
      have hxz := x.z_eq
      simp only [List.map_cons, List.map_nil]
      have hb : GT (if x.k = 13 then rowL [59] (expI x).2 else partE (x.k, expI x)) (100 * x.z) := by
       split
       . rw [expI_eq x]
         show GT (rowL [59] (x.l.map expPT)) _
         rw [rowL_map]
         exact (hrowG x.l _ (by decide +kernel) (hE2 x hx)).mono (by omega)
       . exact (hE x hx).mono (by omega)
      exact ((GT.ky (by decide +kernel) (by decide +kernel)).cons ((hD h10).append ((GT.ky (by decide +kernel) (by decide +kernel)).cons (hb.append (GT.ky (by decide +kernel) (by decide +kernel)))))).mono (by omega)
  rw [if_neg h10]
  by_cases h6 : e.k = 6
  . rw [if_neg (by omega), if_neg (by omega), if_pos h6]
    rw [List.map_map]
    show GT (e.l.map expPT).flatten _
    rw [<- List.flatMap_def, <- tokL_const expPT e.l true]
    have : GT (tokL (fun _ => expPT) true e.l) (100 * expsZ e.l) := by
     rw [<- sumZ_exps, <- sumN_mul]
     exact GT.list (fun a ha b => (hE a ha).mono (by omega)) true
    exact this.mono (by omega)
  rw [if_neg h6] at hd
  by_cases h14 : e.k = 14
  . rw [if_pos h14]
    rw [if_neg (by omega), if_neg (by omega), if_neg (by omega), if_neg (by omega), if_pos h14, Bool.and_eq_true] at hd
    match hel : e.l with
    | [] => exact GT.nil _
    | [x] => exact GT.nil _
    | x :: y :: w :: r => exact GT.nil _
    | [x, y] =>
      have hz1 : expsZ e.l = x.z + (y.z + 0) := by rw [hel]; rfl
      simp only [List.map_cons, List.map_nil]
      exact ((hE x (by rw [hel]; simp)).append ((gt_op (.inl hd.2)).cons (hE y (by rw [hel]; simp)))).mono (by have := x.z_pos; have := y.z_pos; omega)
  rw [if_neg h14]
  by_cases h15 : e.k = 15
  . rw [if_pos h15]
    rw [if_neg (by omega), if_neg (by omega), if_neg (by omega), if_neg (by omega), if_neg h14, if_pos h15, Bool.and_eq_true] at hd
    match hel : e.l with
    | [] => exact GT.nil _
    | x :: y :: r => exact GT.nil _
    | [x] =>
      have hz1 : expsZ e.l = x.z + 0 := by rw [hel]; rfl
      simp only [List.map_cons, List.map_nil]
      exact ((gt_op (.inr hd.2)).cons (hE x (by rw [hel]; simp))).mono (by have := x.z_pos; omega)
  rw [if_neg h15, if_neg h6]
  by_cases h8 : e.k = 8
  . rw [if_pos h8]
    match hel : e.l with
    | [] => exact GT.nil _
    | [x] => exact GT.nil _
    | [x, y] => exact GT.nil _
    | x :: y :: w :: v :: r => exact GT.nil _
    | [x, y, w] =>
      have hz1 : expsZ e.l = x.z + (y.z + (w.z + 0)) := by rw [hel]; rfl
      simp only [List.map_cons, List.map_nil]
      exact ((GT.ky (by decide +kernel) (by decide +kernel)).cons ((hE x (by rw [hel]; simp)).append ((GT.ky (by decide +kernel) (by decide +kernel)).cons ((hE y (by rw [hel]; simp)).append ((GT.ky (by decide +kernel) (by decide +kernel)).cons (hE w (by rw [hel]; simp))))))).mono (by have := x.z_pos; have := y.z_pos; have := w.z_pos; omega)
  rw [if_neg h8]
  by_cases h11 : e.k = 11
  . rw [if_pos h11]; exact ((GT.ky (by decide +kernel) (by decide +kernel)).cons (hrow _ (by decide +kernel))).mono (by omega)
  rw [if_neg h11]
  by_cases h7 : e.k = 7
  . rw [if_pos h7, List.map_map]
    exact ((GT.ky (by decide +kernel) (by decide +kernel)).cons (gt_arms e.p e.l true (hP (by simp [h7])) hE)).mono (by omega)
  rw [if_neg h7]
  by_cases h9 : e.k = 9
  . rw [if_pos h9]
    match hel : e.l with
    | [] => exact GT.nil _
    | x :: r =>
      have hz1 : expsZ e.l = x.z + expsZ r := by rw [hel]; rfl
      simp only [List.map_cons, List.map_map]
      exact ((GT.ky (by decide +kernel) (by decide +kernel)).cons ((hE x (by rw [hel]; simp)).append ((GT.ky (by decide +kernel) (by decide +kernel)).cons (gt_arms e.p r true (hP (by simp [h9])) (fun a ha => hE a (by rw [hel]; simp [ha])))))).mono (by have := x.z_pos; omega)
  rw [if_neg h9]
  by_cases h12 : e.k = 12
  . rw [if_pos h12]
    match hel : e.l with
    | [] => exact GT.nil _
    | x :: r =>
      have hz1 : expsZ e.l = x.z + expsZ r := by rw [hel]; rfl
      simp only [List.map_cons, List.map_map]
      exact ((hE x (by rw [hel]; simp)).append ((GT.ky (by decide +kernel) (by decide +kernel)).cons (gt_arms e.p r true (hP (by simp [h12])) (fun a ha => hE a (by rw [hel]; simp [ha]))))).mono (by have := x.z_pos; omega)
  rw [if_neg h12]; exact GT.nil _
 refine ⟨hT, ?_, hE⟩
 rw [expPT_eq]
 split
 . exact hT.mono (by omega)
 . exact ((GT.sg (by decide +kernel)).cons (hT.append (GT.sg (by decide +kernel)))).mono (by omega)
theorem gt_dec1 (d : Dec) (ihE : ExpG d.e) (ihF : ∀ f, f ∈ d.f -> ExpG f.b) : DecG d := fun hr hok => by
 rw [Dec.ok_iff] at hok
 obtain ⟨hp, he, ⟨hf1, hf2⟩, hx, hc⟩ := hok
 have hz := d.z_eq
 have z1 := d.p.z_pos
 have z2 := d.e.z_pos
 have z3 := d.c.z_pos
 have e0 := decR_eq d
 rw [hr] at e0
 rw [decT_eq]
 by_cases h1 : d.k = 1
 . rw [if_pos h1] at e0 ⊢
   have e1 := e0.symm
   rw [Bool.and_eq_true, Bool.and_eq_true] at e1
   exact ((GT.ky (by decide +kernel) (by decide +kernel)).cons ((gt_pat d.p e1.2.1 hp).1.append ((GT.sg (by decide +kernel)).cons (ihE e1.2.2 he).1))).mono (by omega)
 rw [if_neg h1] at e0 ⊢
 by_cases h5 : d.k = 5
 . rw [if_pos h5] at e0
   rw [if_neg (by omega), if_neg (by omega), if_neg (by omega), if_pos h5]
   have e1 := e0.symm
   rw [Bool.and_eq_true] at e1
   exact (ihE e1.2 he).1.mono (by omega)
 rw [if_neg h5] at e0
 by_cases h2 : d.k = 2
 . rw [if_pos h2] at e0 ⊢
   have e1 := e0.symm
   rw [Bool.and_eq_true, fnsRt_all] at e1
   rw [fnsT_eq]
   have : GT (tokL (fun b f => kyT (if b = true then [102, 117, 110] else [97, 110, 100]) :: fnT f) true d.f) (100 * fnsZ d.f) := by
    rw [<- sumZ_fns, <- sumN_mul]
    refine GT.list (fun f hf b => ?_) true
    have hfo := (Fn.ok_iff f).1 (hf2 f hf)
    have hfr := all_mem' e1.1 hf
    rw [fnR_eq, Bool.and_eq_true, Bool.and_eq_true, Bool.and_eq_true, patsRt_all] at hfr
    have hfz := f.z_eq
    have hbz := f.b.z_pos
    have hlen := Nat.div_add_mod f.s.length 8
    have hmod := Nat.mod_lt f.s.length (show 0 < 8 by omega)
    have hps : GT (f.p.flatMap patPT) (100 * patsZ f.p) := by
     rw [<- tokL_const patPT f.p true, <- sumZ_pats, <- sumN_mul]
     exact GT.list (fun a ha b => (gt_pat a (all_mem' hfr.2.2.1 ha) (hfo.2.1.2 a ha)).2.1.mono (by omega)) true
    rw [fnT_eq]
    exact ((GT.ky (by cases b <;> decide +kernel) (by cases b <;> decide +kernel)).cons ((GT.wd (.inl rfl) hfr.1 hfo.1).cons (hps.append ((GT.sg (by decide +kernel)).cons (ihF f hf hfr.2.2.2 hfo.2.2).1)))).mono (by omega)
   exact this.mono (by omega)
 rw [if_neg h2] at e0 ⊢
 by_cases h3 : d.k = 3
 . rw [if_pos h3] at e0 ⊢
   have e1 : dataR d.x = true := by
    have e1 := e0.symm
    unfold dataR
    simp only [Bool.and_eq_true] at e1 ⊢
    exact ⟨e1.1, e1.2.1, e1.2.2.1, e1.2.2.2.1⟩
   exact (gt_data d.x e1 hx).mono (by omega)
 rw [if_neg h3] at e0 ⊢
 by_cases h4 : d.k = 4
 . rw [if_pos h4] at e0 ⊢
   have e1 := e0.symm
   rw [Bool.and_eq_true] at e1
   exact ((GT.ky (by decide +kernel) (by decide +kernel)).cons (gt_con d.c e1.1 hc)).mono (by omega)
 rw [if_neg h4] at e0
 cases e0
theorem gt_exp (e : Exp) : ExpG e := Exp.ind (p := ExpG) (q := DecG) gt_exp1 (fun d h1 h2 => gt_dec1 d h1 h2) e
theorem gt_dec (d : Dec) : DecG d := Dec.ind (p := ExpG) (q := DecG) gt_exp1 (fun d h1 h2 => gt_dec1 d h1 h2) d
theorem gt_decs (l : List Dec) (hr : decsRt l = true) (hok : ∀ d, d ∈ l -> d.ok) : GT (decsT l) (100 * decsZ l) := by
 rw [decsRt_all] at hr
 unfold decsT
 rw [<- tokL_const (fun d => decT d ++ [sgT [59]]) l true, <- sumZ_decs, <- sumN_mul]
 exact GT.list (fun a ha b => ((gt_dec a (all_mem' hr ha) (hok a ha)).append (GT.sg (by decide +kernel))).mono (by have := a.z_pos; omega)) true
end
end Go.Proofs.YthjhonhhbddhkaaGreatDoor
/- Texts of tokens; rows of texts; texts joined. -/
namespace Go.Proofs.YthjhonhhbddhkaaGreatDoor
open Go.Ev Go.RowKit
noncomputable section
set_option maxRecDepth 100000
set_option linter.unusedVariables false
set_option linter.unusedSimpArgs false
variable {nx0 nx : Nat} {H0 H : T OB} {R : Value -> T OB -> Nat -> Prop}
theorem sadd (q : Bool) (a b : List UInt8) (h : a.length + b.length <= 9223372036854775807) : rdBin P H .add 9 q (some (txt a)) (some (txt b)) = some (txt (a ++ b)) := by
 have e : (⟨⟨a⟩⟩ : ByteArray) ++ ⟨⟨b⟩⟩ = ⟨⟨a ++ b⟩⟩ := by
  apply ByteArray.ext
  simp
 rw [rdBin_sadd _ _ _ _ (by rw [txt_size, txt_size]; exact h), e]
def ren : List Tok -> List UInt8
 | [] => []
 | [t] => tokText t
 | t :: ts => tokText t ++ 32 :: ren ts
theorem ren_cons {t : Tok} {ts : List Tok} (h : ts ≠ []) : ren (t :: ts) = tokText t ++ 32 :: ren ts := by
 cases ts with
 | nil => exact absurd rfl h
 | cons a l => rfl
theorem ren_append {a b : List Tok} (ha : a ≠ []) (hb : b ≠ []) : ren (a ++ b) = ren a ++ 32 :: ren b := by
 induction a with
 | nil => exact absurd rfl ha
 | cons t a ih =>
   cases a with
   | nil => exact ren_cons hb
   | cons u a =>
     rw [List.cons_append, ren_cons (t := t) (ts := u :: a ++ b) (by simp), ih (by simp), ren_cons (t := t) (ts := u :: a) (by simp), List.append_assoc, List.cons_append]
theorem ren_len (ts : List Tok) : (ren ts).length <= tw ts := by
 induction ts with
 | nil => simp [ren, tw]
 | cons t ts ih =>
   cases ts with
   | nil => simp [ren, tw]
   | cons u ts => rw [ren_cons (by simp), List.length_append, List.length_cons, tw]; omega
theorem dig_ne (n : Int) : dig n ≠ [] := by
 intro h
 have := (dgA_length n.natAbs n.natAbs [] (Nat.lt_of_lt_of_le (Nat.lt_pow_self (by omega)) (Nat.pow_le_pow_right (by omega) (by omega)))).2
 unfold dig at h
 split at h
 . cases h
 . rw [h] at this; simp at this
theorem good_ne {t : Tok} (h : good t) : tokText t ≠ [] := by
 unfold tokText
 obtain ⟨h1, h2, _, _⟩ := h
 split
 . exact dig_ne _
 . split
   . simp [quote]
   . rename_i h3 h4
     intro hs
     unfold tokOk at h1
     rw [if_neg h2, if_neg h3, if_neg h4] at h1
     split at h1
     . rw [hs] at h1
       have : signsL.contains ([] : List UInt8) = false := by decide +kernel
       rw [this, Bool.and_false] at h1; cases h1
     . split at h1
       . rw [hs] at h1; cases h1
       . split at h1
         . rw [hs] at h1; cases h1
         . cases h1
theorem pr_out {ts : List Tok} (hg : ∀ t, t ∈ ts -> good t) : ∀ {out : List UInt8}, out ≠ [] -> ts ≠ [] -> pr out ts = out ++ 32 :: ren ts := by
 induction ts with
 | nil => intro out _ h; exact absurd rfl h
 | cons t ts ih =>
   intro out ho _
   rw [pr, if_neg ho]
   cases ts with
   | nil => simp [pr, ren]
   | cons u ts =>
     rw [ih (fun x hx => hg x (by simp [hx])) (by simp) (by simp), ren_cons (t := t) (ts := u :: ts) (by simp)]
     simp
theorem pr_ren {ts : List Tok} (hg : ∀ t, t ∈ ts -> good t) : pr [] ts = ren ts := by
 cases ts with
 | nil => rfl
 | cons t ts =>
   rw [pr, if_pos rfl, List.nil_append]
   cases ts with
   | nil => rfl
   | cons u ts => rw [pr_out (fun x hx => hg x (by simp [hx])) (good_ne (hg t (by simp))) (by simp), ren_cons (t := t) (ts := u :: ts) (by simp)]
def joinT (s : List UInt8) : List (List UInt8) -> List UInt8
 | [] => []
 | x :: l => 32 :: (s ++ 32 :: (x ++ joinT s l))
def joinB (s : List UInt8) : List (List UInt8) -> List UInt8
 | [] => []
 | x :: l => x ++ joinT s l
theorem ren_sepT {α : Type} (s : List UInt8) (f : α -> List Tok) (hs : tokText (sgT s) = s) : ∀ (l : List α) (a : List Tok), a ≠ [] -> (∀ x, x ∈ l -> f x ≠ []) -> ren (a ++ tokL (sepF s f) false l) = ren a ++ joinT s (l.map fun x => ren (f x))
 | [], a, ha, _ => by simp [tokL, joinT]
 | x :: l, a, ha, h => by
   have hx := h x (by simp)
   rw [tokL, <- List.append_assoc, ren_sepT s f hs l (a ++ sepF s f false x) (by simp [ha]) (fun y hy => h y (by simp [hy]))]
   have : sepF s f false x = sgT s :: f x := rfl
   rw [this, ren_append ha (by simp), ren_cons hx, hs, List.map_cons, joinT]
   simp
theorem ren_sep {α : Type} (s : List UInt8) (f : α -> List Tok) (hs : tokText (sgT s) = s) (l : List α) (h : ∀ x, x ∈ l -> f x ≠ []) : ren (tokL (sepF s f) true l) = joinB s (l.map fun x => ren (f x)) := by
 cases l with
 | nil => rfl
 | cons x l =>
   rw [tokL]
   have : sepF s f true x = f x := rfl
   rw [this, ren_sepT s f hs l _ (h x (by simp)) (fun y hy => h y (by simp [hy]))]
   rfl
theorem sgText (s : List UInt8) : tokText (sgT s) = s := rfl
def SS (nx0 : Nat) (H : T OB) (nx : Nat) (r : List (List UInt8)) (sl : Value) : Prop := (r = [] /\ sl = .slice none 0 0) \/ ∃ b, nx0 <= b /\ b < nx /\ IsB H b (r.map txt) 9 /\ sl = .slice (some ⟨b, 0, none⟩) r.length unk
theorem SS.nil (nx0 : Nat) (H : T OB) (nx : Nat) : SS nx0 H nx [] (.slice none 0 0) := .inl ⟨rfl, rfl⟩
theorem SS.keep {r : List (List UInt8)} {sl : Value} {nx' : Nat} {H' : T OB} (h : SS nx0 H nx r sl) (hA : Ag nx H nx' H') : SS nx0 H' nx' r sl := by
 rcases h with h | ⟨b, h1, h2, h3, h4⟩
 . exact .inl h
 . exact .inr ⟨b, h1, by have := hA.1; omega, h3.ag hA h2, h4⟩
theorem SS.keep' {r : List (List UInt8)} {sl : Value} {nx' : Nat} {H' : T OB} (h : SS nx0 H nx r sl) (hn : nx <= nx') (hk : ∀ b l e, b < nx -> IsB H b l e -> IsB H' b l e) : SS nx0 H' nx' r sl := by
 rcases h with h | ⟨b, h1, h2, h3, h4⟩
 . exact .inl h
 . exact .inr ⟨b, h1, by omega, hk _ _ _ h2 h3, h4⟩
theorem sm_9 {n : Nat} (h : n <= 1048576) : apSmall P 9 1 n = true := by
 have : apSmall P 9 1 n = (Nat.ble n 1048576 && true) := by kernel_rfl
 rw [this, Nat.ble_eq_true_of_le h]; rfl
theorem fl_9 (a : ByteArray) : Instr.fill (fun i => some (i * 1, 1)) (zeroRow [Value.string ⟨⟨[]⟩⟩] (1 * 1)) [(0, .string a)] = some ⟨[.string a]⟩ := by kernel_rfl
theorem Wq.addS {r : List (List UInt8)} {x : List UInt8} {sl : Value} {k : Value -> T OB -> Nat -> Q} (hsl : SS nx0 H nx r sl) (hsm : r.length + 1 <= 1048576) (h : Ag nx0 H0 nx H)
 (hk : ∀ H' sl' nx', SS nx0 H' nx' (r ++ [x]) sl' -> Ag nx0 H0 nx' H' -> WqR P pl X0 (k sl' H' nx') nx0 H0 R) :
 WqR P pl X0 (effQ (efBuildSlice P H nx 49 1 (some [(0, txt x)])) fun v H nx => effQ (efAppS P H nx [49, 49] (some [sl, v])) k) nx0 H0 R := by
 refine Wq.row und_49 sz_9 zero_9' rfl (fl_9 _) h fun H1 hb1 keep hA1 => ?_
 have hx1 : xsOf H1 1 (.slice (some ⟨nx, 0, none⟩) 1 1) = some (1, [txt x]) := xsOf_b (l := [txt x]) hb1 rfl
 have hn0 := h.1
 rcases hsl with ⟨rfl, rfl⟩ | ⟨b, hb0, hbx, hb, rfl⟩
 . refine Wq.app0 und_49 sz_9 rfl hx1 (sm_9 (by omega)) hA1 (fun q => by cases q) fun H2 _ hb2 _ hA2 => ?_
   exact hk _ _ _ (.inr ⟨nx + 1, by omega, by omega, by simpa using hb2, by simp⟩) hA2
 . refine Wq.app und_49 sz_9 (keep _ _ _ hbx hb) sz_9 (by simp) rfl hx1 rfl (sm_9 hsm) hA1 hb0 (by omega) fun H2 hb2 _ hA2 => ?_
   exact hk _ _ _ (.inr ⟨nx + 1, by omega, by omega, by simpa using hb2, by simp⟩) hA2
theorem frz_nil49 (H : T OB) (nx : Nat) (k : Value -> T OB -> Nat -> Q) : frzV P 49 (.slice none 0 0) H nx k = k (strsR []) H nx := by kernel_rfl
theorem Wq.frzS {r : List (List UInt8)} {sl : Value} {k : Value -> T OB -> Nat -> Q} (hsl : SS nx0 H nx r sl) (hA : Ag nx0 H0 nx H) (hk : ∀ H' nx', Ag nx0 H0 nx' H' -> WqR P pl X0 (k (strsR r) H' nx') nx0 H0 R) : WqR P pl X0 (frzV P 49 sl H nx k) nx0 H0 R := by
 rcases hsl with ⟨rfl, rfl⟩ | ⟨b, hb0, hbx, hb, rfl⟩
 . rw [frz_nil49]
   exact hk H nx hA
 . have hch : chunk false 1 r.length (r.map txt) = some (r.map txt) := by
    have := chunk_cells (r.map txt)
    simpa using this
   refine Wq.frz und_49 sz_9 agg_9 rfl hb (by simp) (by simp) hch (by simp) hA hb0 fun H' _ hA' => ?_
   exact hk H' _ hA'
theorem w_83_9 (s : List UInt8) (l : List (List UInt8)) (hl : l.length < big) : ∀ (r : List (List UInt8)) (i : Nat) (out : List UInt8) (H : T OB) (nx : Nat), l.drop i = r -> i <= l.length -> (i = 0 -> out = []) -> out.length + (joinT s r).length <= 1000000 -> Ag nx0 H0 nx H ->
 Wq P pl X0 (.jump (l83_9 (strsR l) (txt s) (txt out) (i64 (i : Int)) H nx)) nx0 H0 (txt (out ++ if i = 0 then joinB s r else joinT s r)) := by
 intro r
 induction r with
 | nil =>
   intro i out H nx hd hi ho hw hA
   have hil := drop_nil hd hi
   refine Wq.jmp (q83_9 ..) (fun _ => rfl) ?_
   simp only [stpF, sttF, List.length_map, hil, not_lt_len]
   refine Wq.retE ?_ hA
   split <;> simp [joinB, joinT]
 | cons x r ih =>
   intro i out H nx hd hi ho hw hA
   obtain ⟨hg, hlt, hd'⟩ := drop_cons hd
   have hx : (l.map txt)[i]? = some (txt x) := by simp [hg]
   have hwi : i < 9223372036854775807 := by have := sm_lt hl; omega
   rw [joinT] at hw
   simp only [List.length_cons, List.length_append] at hw
   have L16 : ∀ (out' : List UInt8), out'.length <= out.length + s.length + 2 -> out' ++ (x ++ joinT s r) = out ++ (if i = 0 then joinB s (x :: r) else joinT s (x :: r)) -> Wq P pl X0 (.jump (l83_16 (strsR l) (txt s) (txt out') (i64 (i : Int)) H nx)) nx0 H0 (txt (out ++ if i = 0 then joinB s (x :: r) else joinT s (x :: r))) := by
    intro out' hle he
    refine Wq.jmp (q83_16 ..) (fun _ => rfl) ?_
    simp (disch := ((try simp only [List.length_append, List.length_cons, List.length_nil]); omega)) only [stpF, sttF, List.length_map, sadd, ix_49 hx, wrap_succ hwi]
    have := ih (i + 1) (out' ++ x) H nx hd' (by omega) (fun q => by omega) (by rw [List.length_append]; omega) hA
    rw [if_neg (by omega), List.append_assoc, he] at this
    exact this
   refine Wq.jmp (q83_9 ..) (fun _ => rfl) ?_
   simp (disch := ((try simp only [List.length_append, List.length_cons, List.length_nil]); omega)) only [stpF, sttF, List.length_map, sadd, is_lt_len hlt, nat_gt0]
   refine Wq.ite (fun h => ?_) (fun h => ?_)
   . refine L16 _ (by simp only [List.length_append, List.length_cons, List.length_nil]; omega) ?_
     rw [if_neg (by omega), joinT]
     simp
   . have h0 : i = 0 := by omega
     refine L16 _ (by omega) ?_
     rw [if_pos h0, ho h0]
     rfl
theorem pu_83 (s : List UInt8) (l : List (List UInt8)) (hl : l.length < big) (hw : (joinT s l).length <= 1000000) : P0 83 [strsR l, txt s] (txt (joinB s l)) := Pure.of rfl fun H nx => by
 rw [q83, fr_49]
 have := w_83_9 s l hl l 0 [] H nx rfl (Nat.zero_le _) (fun _ => rfl) (by simpa using hw) (.refl nx H)
 simpa using this
theorem Wq.joinS {s : List UInt8} {l : List (List UInt8)} {sl : Value} {k p : Value -> T OB -> Nat -> Q} (hsl : SS nx0 H nx l sl) (hl : l.length < big) (hw : (joinT s l).length <= 1000000) (hA : Ag nx0 H0 nx H) (hk : ∀ H' nx', Ag nx0 H0 nx' H' -> WqR P pl X0 (k (txt (joinB s l)) H' nx') nx0 H0 R) : WqR P pl X0 (callQ (.call 83 [sl, txt s] false none H nx) k p) nx0 H0 R := by
 refine Wq.callAt rfl ?_ hk
 rw [q83]
 refine Wq.frzS hsl hA fun H' nx' hA' => ?_
 have := w_83_9 s l hl l 0 [] H' nx' rfl (Nat.zero_le _) (fun _ => rfl) (by simpa using hw) hA'
 simpa using this
theorem pu_85 (s : List UInt8) (hs : s.length <= 1000000) : P0 85 [txt s] (txt (40 :: 32 :: (s ++ [32, 41]))) := Pure.of rfl fun H nx => by
 rw [q85]
 simp (disch := ((try simp only [List.length_append, List.length_cons, List.length_nil]); omega)) only [stpF, sttF, List.length_map, sadd]
 exact Wq.retE (by simp) (.refl _ _)
theorem pu_64n (n : Int) (h : rg n) : P0 64 [Tok.v ⟨1, [], n, 0⟩] (txt (dig n)) := Pure.of rfl fun H nx => by
 rw [q64]
 refine Wq.natF' (.refl _ _) fun hA => ?_
 simp only [stpF, Int.reduceEq]
 refine Wq.call (pu_117 n h) hA fun H1 nx1 hA1 => ?_
 exact Wq.ret hA1
theorem pu_136 (n : Int) (h : rg n) : P0 136 [i64 n] (txt (dig n)) := Pure.of rfl fun H nx => by
 rw [q136]
 simp only [stpF, bd_31_n]
 refine Wq.call (pu_64n n h) (.refl _ _) fun H1 nx1 hA1 => ?_
 exact Wq.ret hA1
end
end Go.Proofs.YthjhonhhbddhkaaGreatDoor
/- Patterns as texts: the document's answer. -/
namespace Go.Proofs.YthjhonhhbddhkaaGreatDoor
open Go.Ev Go.RowKit
noncomputable section
set_option maxRecDepth 100000
set_option linter.unusedVariables false
set_option linter.unusedSimpArgs false
variable {nx0 nx : Nat} {H0 H : T OB} {R : Value -> T OB -> Nat -> Prop}
theorem joinT_le {α : Type} (s : List UInt8) (g : α -> List UInt8) (z : α -> Nat) : ∀ (l : List α), (∀ a, a ∈ l -> (g a).length + s.length + 2 <= 100 * z a) -> (joinT s (l.map g)).length <= 100 * sumN z l
 | [], _ => by simp [joinT, sumN]
 | a :: l, h => by
   have h1 := h a (by simp)
   have h2 := joinT_le s g z l fun b hb => h b (by simp [hb])
   rw [List.map_cons, joinT, sumN]
   simp only [List.length_cons, List.length_append]
   omega
theorem GT.len {ts : List Tok} {m : Nat} (h : GT ts m) : (ren ts).length <= m := Nat.le_trans (ren_len ts) h.2
theorem ne_patPT {p : Pat} (h : patT p ≠ []) : patPT p ≠ [] := by
 rw [patPT_eq]; split <;> simp [h]
theorem ne_pat (p : Pat) (hr : patR p = true) : patT p ≠ [] := by
 rw [patR_eq, Bool.and_eq_true] at hr
 obtain ⟨_, hd⟩ := hr
 unfold patHd at hd
 rw [Bool.and_eq_true] at hd
 obtain ⟨_, hd⟩ := hd
 rw [patT_eq]
 unfold patTH
 by_cases h1 : p.k = 1
 . rw [if_pos h1]; simp
 rw [if_neg h1] at hd ⊢
 by_cases h2 : p.k = 2
 . rw [if_pos h2]; simp
 rw [if_neg h2] at hd ⊢
 by_cases h3 : p.k = 3
 . rw [if_pos h3]; split <;> simp
 rw [if_neg h3] at hd ⊢
 by_cases h4 : p.k = 4
 . rw [if_pos h4]; simp
 rw [if_neg h4] at hd ⊢
 by_cases h5 : p.k = 5
 . rw [if_pos h5]; simp
 rw [if_neg h5] at hd ⊢
 by_cases h6 : p.k = 6
 . rw [if_pos h6] at hd ⊢
   by_cases hc : p.s = [58, 58]
   . rw [if_pos hc] at hd ⊢
     match hpl : p.l with
     | [] => rw [hpl] at hd; cases hd
     | q :: q' :: r => rw [hpl] at hd; cases hd
     | [q] =>
       rw [hpl] at hd
       simp only [Bool.and_eq_true, decide_eq_true_eq] at hd
       simp only [List.map_cons, List.map_nil]
       rw [patI_eq q]
       match hql : q.l with
       | [] => rw [hql] at hd; exact absurd hd.2 (by simp)
       | [a] => rw [hql] at hd; exact absurd hd.2 (by simp)
       | a :: b :: c :: r => rw [hql] at hd; exact absurd hd.2 (by simp)
       | [a, b] => simp
   . rw [if_neg hc]; simp
 . rw [if_neg h6] at hd; cases hd
def PatX (p : Pat) : Prop := patR p = true -> p.ok -> p.z <= 500 -> P0 80 [p.v] (txt (ren (patT p))) /\ P0 137 [p.v] (txt (ren (patPT p))) /\ ∀ a, a ∈ p.l -> P0 137 [a.v] (txt (ren (patPT a)))
theorem ren_br {ts : List Tok} (h : ts ≠ []) : ren (sgT [40] :: (ts ++ [sgT [41]])) = 40 :: 32 :: (ren ts ++ [32, 41]) := by
 rw [ren_cons (by simp), ren_append h (by simp)]
 simp [ren, sgText]
theorem pu_137 (p : Pat) (hr : patR p = true) (hp : p.ok) (hz : p.z <= 500) (ih : P0 80 [p.v] (txt (ren (patT p)))) : P0 137 [p.v] (txt (ren (patPT p))) := Pure.of rfl fun H nx => by
 have hlen := (gt_pat p hr hp).1.len
 rw [q137]
 refine Wq.natF' (.refl _ _) fun hA => ?_
 simp only [stpF, sttF, List.length_map, nat_gt0]
 have L : ∀ b : Bool, b = decide (p.k = 6 /\ p.l.length ≠ 0) -> Wq P pl X0 (.jump (l137_6 (eptrV p.v) b H (nx + 1))) nx H (txt (ren (patPT p))) := by
  intro b hb
  refine Wq.jmp (q137_6 ..) (fun _ => rfl) ?_
  rw [patPT_eq]
  cases b with
  | true =>
    simp only [stpF, sttF, List.length_map]
    rw [if_pos (of_decide_eq_true hb.symm), ren_br (ne_pat p hr)]
    refine Wq.call ih hA fun H1 nx1 hA1 => ?_
    refine Wq.call (pu_85 _ (by omega)) hA1 fun H2 nx2 hA2 => ?_
    exact Wq.ret hA2
  | false =>
    simp only [stpF, sttF, List.length_map]
    rw [if_neg (of_decide_eq_false hb.symm)]
    refine Wq.call ih hA fun H1 nx1 hA1 => ?_
    exact Wq.ret hA1
 refine Wq.ite (fun h => ?_) (fun h => L _ (by simp [h]))
 exact L _ (by rw [decide_eq_decide]; omega)
theorem pu_82 (l : List Pat) (hl : l.length < 1000000) (ih : ∀ a, a ∈ l -> P0 137 [a.v] (txt (ren (patPT a)))) : P0 82 [patsR l] (strsR (l.map fun a => ren (patPT a))) := Pure.of rfl fun H nx => by
 rw [q82]
 have key : ∀ (r : List Pat) (i : Nat) (sl : Value) (H1 : T OB) (nx1 : Nat), l.drop i = r -> i <= l.length -> SS nx H1 nx1 ((l.take i).map fun a => ren (patPT a)) sl -> Ag nx H nx1 H1 -> Wq P pl X0 (.jump (l82_9 (patsR l) sl (i64 (i : Int)) H1 nx1)) nx H (strsR (l.map fun a => ren (patPT a))) := by
  intro r
  induction r with
  | nil =>
    intro i sl H1 nx1 hd hi hS hA
    have hil := drop_nil hd hi
    refine Wq.jmp (q82_9 ..) (fun _ => rfl) ?_
    simp only [stpF, sttF, List.length_map, hil, not_lt_len]
    rw [hil, List.take_length] at hS
    refine Wq.frzS hS hA fun H2 nx2 hA2 => ?_
    exact Wq.ret hA2
  | cons a r ih' =>
    intro i sl H1 nx1 hd hi hS hA
    obtain ⟨hg, hlt, hd'⟩ := drop_cons hd
    have hx : (l.map Pat.v)[i]? = some a.v := by simp [hg]
    have hm := List.mem_of_getElem? hg
    refine Wq.jmp (q82_9 ..) (fun _ => rfl) ?_
    simp only [stpF, sttF, List.length_map, is_lt_len hlt, ix_42 hx]
    refine Wq.callPB (ih a hm) hA fun H2 nx2 hA2 hB2 => ?_
    refine Wq.addS (x := ren (patPT a)) (hS.keep hB2) (by simp; omega) hA2 fun H3 sl3 nx3 hS3 hA3 => ?_
    simp only [stpF, wrap_succ (show i < 9223372036854775807 by omega)]
    refine ih' (i + 1) sl3 H3 nx3 hd' (by omega) ?_ hA3
    have e : l.take (i + 1) = l.take i ++ [a] := by
     rw [List.take_add_one, hg]; rfl
    rw [e, List.map_append]
    exact hS3
 exact key l 0 _ H nx rfl (Nat.zero_le _) (by simpa using SS.nil nx H nx) (.refl _ _)
theorem joinB_two (s a b : List UInt8) : joinB s [a, b] = a ++ 32 :: (s ++ 32 :: b) := by simp [joinB, joinT]
theorem pu_80 (p : Pat) : PatX p := Pat.ind (p := PatX) (fun p ih hr hp hz => by
 have hr0 := hr
 have hp0 := hp
 rw [Pat.ok_iff] at hp
 obtain ⟨hn, hs, hl, hok⟩ := hp
 have hze := p.z_eq
 have hlen := patsZ_len p.l
 have e0 := patR_eq p
 rw [hr] at e0
 have e1 := e0.symm
 rw [Bool.and_eq_true, patsRt_all] at e1
 obtain ⟨hrl, hd⟩ := e1
 have hzm : ∀ a, a ∈ p.l -> a.z <= 500 := fun a ha => by have := patsZ_mem ha; omega
 have hE : ∀ a, a ∈ p.l -> P0 137 [a.v] (txt (ren (patPT a))) := fun a ha => (ih a ha (all_mem' hrl ha) (hok a ha) (hzm a ha)).2.1
 have hE2 : ∀ q, q ∈ p.l -> ∀ a, a ∈ q.l -> P0 137 [a.v] (txt (ren (patPT a))) := fun q hq => (ih q hq (all_mem' hrl hq) (hok q hq) (hzm q hq)).2.2
 have hG : ∀ a, a ∈ p.l -> (ren (patPT a)).length <= 100 * a.z - 10 := fun a ha => (gt_pat a (all_mem' hrl ha) (hok a ha)).2.1.len
 have hN : ∀ a, a ∈ p.l -> patPT a ≠ [] := fun a ha => ne_patPT (ne_pat a (all_mem' hrl ha))
 have hT : P0 80 [p.v] (txt (ren (patT p))) := Pure.of rfl fun H nx => by
  rw [q80]
  refine Wq.natF' (.refl _ _) fun hA => ?_
  simp only [stpF, sttF, List.length_map, nat_eq0, nat_eq1, txt_dec, unV_neg]
  rw [patT_eq]
  unfold patTH
  unfold patHd at hd
  rw [Bool.and_eq_true] at hd
  obtain ⟨_, hd⟩ := hd
  refine Wq.ite (fun h1 => ?_) (fun h1 => ?_)
  . rw [if_pos h1]; exact Wq.ret hA
  rw [if_neg h1] at hd ⊢
  refine Wq.ite (fun h3 => ?_) (fun h3 => ?_)
  . rw [if_neg (by omega), if_pos h3] at hd ⊢
    simp only [Bool.and_eq_true, decide_eq_true_eq] at hd
    refine Wq.ite (fun h => ?_) (fun h => ?_)
    . rw [if_pos h, wrap_id (show -9223372036854775808 <= 0 - p.n /\ 0 - p.n < 9223372036854775808 by omega)]
      have hrg : rg (0 - p.n) := by unfold rg; omega
      have := dig_length (0 - p.n) hrg
      refine Wq.call (pu_136 (0 - p.n) hrg) hA fun H1 nx1 hA1 => ?_
      simp (disch := ((try simp only [List.length_append, List.length_cons, List.length_nil]); omega)) only [stpF, sttF, List.length_map, sadd]
      refine Wq.retE ?_ hA1
      have e : (0 - p.n) = -p.n := by omega
      rw [e]; rfl
    . rw [if_neg h]
      refine Wq.call (pu_136 p.n hn) hA fun H1 nx1 hA1 => ?_
      exact Wq.ret hA1
  refine Wq.ite (fun h4 => ?_) (fun h4 => ?_)
  . rw [if_neg (by omega), if_neg h3, if_pos h4]
    refine Wq.call (pu_118 p.s (by have := qs_length p.s; omega) (sLt hs)) hA fun H1 nx1 hA1 => ?_
    exact Wq.ret hA1
  refine Wq.ite (fun h5 => ?_) (fun h5 => ?_)
  . rw [if_neg (by omega), if_neg h3, if_neg h4, if_pos h5, tokL_map]
    refine Wq.ite (fun h => ?_) (fun h => ?_)
    . rw [List.eq_nil_of_length_eq_zero h]; exact Wq.ret hA
    . refine Wq.call (pu_82 p.l (by omega) hE) hA fun H1 nx1 hA1 => ?_
      have hj := joinT_le [44] (fun a => ren (patPT a)) Pat.z p.l (fun a ha => by have := hG a ha; have := a.z_pos; simp only [List.length_cons, List.length_nil]; omega)
      rw [sumZ_pats] at hj
      refine Wq.call (pu_83 [44] _ (by rw [List.length_map]; omega) (by omega)) hA1 fun H2 nx2 hA2 => ?_
      have hb : (joinB [44] (p.l.map fun a => ren (patPT a))).length <= 1000000 := by
       have hsep := ren_sep [44] patPT rfl p.l hN
       rw [<- hsep]
       have := (GT.list (tf := sepF [44] patPT) (w := fun a => 100 * a.z) (l := p.l) (fun a ha b => (GT.sep (f := patPT) (a := a) (w := fun a => 100 * a.z - 10) (by decide +kernel) (gt_pat a (all_mem' hrl ha) (hok a ha)).2.1 b).mono (by have := a.z_pos; omega)) true).len
       rw [sumN_mul, sumZ_pats] at this
       omega
      refine Wq.call (pu_85 _ hb) hA2 fun H3 nx3 hA3 => ?_
      refine Wq.retE ?_ hA3
      have hne : tokL (sepF [44] patPT) true p.l ≠ [] := by
       cases hpl : p.l with
       | nil => rw [hpl] at h; simp at h
       | cons a l =>
         have := hN a (by rw [hpl]; simp)
         rw [tokL]
         show patPT a ++ _ ≠ []
         simp [this]
      show _ = txt (ren (sgT [40] :: (tokL (sepF [44] patPT) true p.l ++ [sgT [41]])))
      rw [ren_br hne, ren_sep [44] patPT rfl p.l hN]
  refine Wq.ite (fun h6 => ?_) (fun h6 => ?_)
  . rw [if_neg (by omega), if_neg h3, if_neg h4, if_neg h5, if_pos h6] at hd ⊢
    refine Wq.ite (fun hc => ?_) (fun hc => ?_)
    . rw [if_pos hc] at hd ⊢
      match hpl : p.l with
      | [] => rw [hpl] at hd; cases hd
      | q :: q' :: r => rw [hpl] at hd; cases hd
      | [q] =>
        rw [hpl] at hd
        simp only [Bool.and_eq_true, decide_eq_true_eq] at hd
        have hq : q ∈ p.l := by rw [hpl]; simp
        have hz1 : patsZ p.l = q.z + 0 := by rw [hpl]; rfl
        have hqz := q.z_eq
        have hx : ([q].map Pat.v)[0]? = some q.v := rfl
        have hx' := ix_42 hx .i64
        rw [show ((0 : Nat) : Int) = 0 from rfl] at hx'
        simp only [stpF, sttF, List.length_map, hx']
        have hql2 := patsZ_len q.l
        refine Wq.call (pu_82 q.l (by omega) (hE2 q hq)) hA fun H1 nx1 hA1 => ?_
        match hql : q.l with
        | [] => rw [hql] at hd; exact absurd hd.2 (by simp)
        | [a] => rw [hql] at hd; exact absurd hd.2 (by simp)
        | a :: b :: c :: r => rw [hql] at hd; exact absurd hd.2 (by simp)
        | [a, b] =>
          have hqr : patR q = true := all_mem' hrl hq
          rw [patR_eq, Bool.and_eq_true, patsRt_all] at hqr
          have hqo := (Pat.ok_iff q).1 (hok q hq)
          have ha : a ∈ q.l := by rw [hql]; simp
          have hb : b ∈ q.l := by rw [hql]; simp
          have g1 := (gt_pat a (all_mem' hqr.1 ha) (hqo.2.2.2 a ha)).2.1.len
          have g2 := (gt_pat b (all_mem' hqr.1 hb) (hqo.2.2.2 b hb)).2.1.len
          have n1 := ne_patPT (ne_pat a (all_mem' hqr.1 ha))
          have n2 := ne_patPT (ne_pat b (all_mem' hqr.1 hb))
          have hz3 : patsZ q.l = a.z + (b.z + 0) := by rw [hql]; rfl
          refine Wq.call (pu_83 [58, 58] _ (by simp [big]) (by simp [joinT]; omega)) hA1 fun H2 nx2 hA2 => ?_
          refine Wq.retE ?_ hA2
          simp only [List.map_cons, List.map_nil]
          rw [joinB_two, patI_eq q, hql]
          show _ = txt (ren (patPT a ++ sgT [58, 58] :: patPT b))
          rw [ren_append n1 (by simp), ren_cons n2]
          rfl
    . rw [if_neg hc] at hd ⊢
      rw [Bool.and_eq_true, decide_eq_true_eq] at hd
      rw [tokL_map]
      have h4t : tokText ⟨4, p.s, 0, 0⟩ = p.s := rfl
      refine Wq.ite (fun h => ?_) (fun h => ?_)
      . obtain ⟨q, hpl⟩ : ∃ q, p.l = [q] := List.length_eq_one_iff.1 h
        have hq : q ∈ p.l := by rw [hpl]; simp
        have hx : (p.l.map Pat.v)[0]? = some q.v := by rw [hpl]; rfl
        have hx' := ix_42 hx .i64
        rw [show ((0 : Nat) : Int) = 0 from rfl] at hx'
        have g1 := hG q hq
        have hz1 : patsZ p.l = q.z + 0 := by rw [hpl]; rfl
        have hsl := hs
        unfold sOk at hsl
        simp (disch := ((try simp only [List.length_append, List.length_cons, List.length_nil]); omega)) only [stpF, sttF, List.length_map, sadd, hx']
        refine Wq.call (hE q hq) hA fun H1 nx1 hA1 => ?_
        simp (disch := ((try simp only [List.length_append, List.length_cons, List.length_nil]); omega)) only [stpF, sttF, List.length_map, sadd]
        refine Wq.retE ?_ hA1
        rw [hpl]
        show _ = txt (ren (⟨4, p.s, 0, 0⟩ :: (patPT q ++ [])))
        rw [List.append_nil, ren_cons (hN q hq), h4t]
        simp
      . refine Wq.jmp (q80_40 ..) (fun _ => rfl) ?_
        simp only [stpF, sttF, List.length_map]
        have hpl : p.l = [] := List.eq_nil_of_length_eq_zero (by omega)
        refine Wq.retE ?_ hA
        rw [hpl]; rfl
  . refine Wq.jmp (q80_40 ..) (fun _ => rfl) ?_
    simp only [stpF, sttF, List.length_map]
    by_cases h2 : p.k = 2
    . rw [if_pos h2]; exact Wq.retE rfl hA
    . rw [if_neg h2, if_neg h3, if_neg h4, if_neg h5, if_neg h6] at hd; cases hd
 exact ⟨hT, pu_137 p hr0 hp0 hz hT, hE⟩) p
end
end Go.Proofs.YthjhonhhbddhkaaGreatDoor
/- Types, constructors as texts: the document's answer. -/
namespace Go.Proofs.YthjhonhhbddhkaaGreatDoor
open Go.Ev Go.RowKit
noncomputable section
set_option maxRecDepth 100000
set_option linter.unusedVariables false
set_option linter.unusedSimpArgs false
variable {nx0 nx : Nat} {H0 H : T OB} {R : Value -> T OB -> Nat -> Prop}
theorem ne_name (s : List UInt8) : nameT s ≠ [] := by unfold nameT; split <;> simp
theorem ren_name (s : List UInt8) : ren (nameT s) = s := by
 unfold nameT
 split <;> rfl
theorem ne_tyPT {t : TyS} (h : tyT t ≠ []) : tyPT t ≠ [] := by
 rw [tyPT_eq]; split <;> simp [h]
theorem ne_ty (t : TyS) (hr : tyR t = true) : tyT t ≠ [] := TyS.ind (p := fun t => tyR t = true -> tyT t ≠ []) (fun t ih hr => by
 rw [tyR_eq, Bool.and_eq_true, tysRt_all] at hr
 obtain ⟨hrl, hd⟩ := hr
 unfold tyHd at hd
 rw [tyT_eq]
 unfold tyTH
 have hrow : ∀ s, 2 <= t.l.length -> tokL (sepF s partY) true (t.l.map tyI) ≠ [] := fun s h => by
  rw [tokL_map]
  cases htl : t.l with
  | nil => rw [htl] at h; simp at h
  | cons a l =>
    have ha : a ∈ t.l := by rw [htl]; simp
    have := ne_tyPT (ih a ha (all_mem' hrl ha))
    rw [tokL]
    show tyPT a ++ _ ≠ []
    simp [this]
 by_cases h1 : t.k = 1
 . rw [if_pos h1]; simp
 rw [if_neg h1] at hd ⊢
 by_cases h2 : t.k = 2
 . rw [if_neg (by omega), if_neg (by omega), if_pos h2]
   split <;> simp [ne_name]
 rw [if_neg h2] at hd
 by_cases h3 : t.k = 3
 . rw [if_pos h3] at hd ⊢
   rw [Bool.and_eq_true, decide_eq_true_eq] at hd
   exact hrow _ (by omega)
 rw [if_neg h3] at hd ⊢
 by_cases h4 : t.k = 4
 . rw [if_pos h4] at hd ⊢
   rw [Bool.and_eq_true, decide_eq_true_eq] at hd
   exact hrow _ hd.1
 rw [if_neg h4] at hd
 cases hd) t hr
def TyX (t : TyS) : Prop := tyR t = true -> t.ok -> t.z <= 500 -> P0 140 [t.v] (txt (ren (tyT t)))
theorem pu_173 (l : List TyS) (hl : l.length < 1000000) (hG : ∀ a, a ∈ l -> (ren (tyT a)).length <= 1000000) (hN : ∀ a, a ∈ l -> tyT a ≠ []) (ih : ∀ a, a ∈ l -> P0 140 [a.v] (txt (ren (tyT a)))) : P0 173 [tysR l] (strsR (l.map fun a => ren (tyPT a))) := Pure.of rfl fun H nx => by
 rw [q173]
 have key : ∀ (r : List TyS) (i : Nat) (sl : Value) (H1 : T OB) (nx1 : Nat), l.drop i = r -> i <= l.length -> SS nx H1 nx1 ((l.take i).map fun a => ren (tyPT a)) sl -> Ag nx H nx1 H1 -> Wq P pl X0 (.jump (l173_9 (tysR l) sl (i64 (i : Int)) H1 nx1)) nx H (strsR (l.map fun a => ren (tyPT a))) := by
  intro r
  induction r with
  | nil =>
    intro i sl H1 nx1 hd hi hS hA
    have hil := drop_nil hd hi
    refine Wq.jmp (q173_9 ..) (fun _ => rfl) ?_
    simp only [stpF, sttF, List.length_map, hil, not_lt_len]
    rw [hil, List.take_length] at hS
    refine Wq.frzS hS hA fun H2 nx2 hA2 => ?_
    exact Wq.ret hA2
  | cons a r ih' =>
    intro i sl H1 nx1 hd hi hS hA
    obtain ⟨hg, hlt, hd'⟩ := drop_cons hd
    have hx : (l.map TyS.v)[i]? = some a.v := by simp [hg]
    have hm := List.mem_of_getElem? hg
    have e : l.take (i + 1) = l.take i ++ [a] := by
     rw [List.take_add_one, hg]; rfl
    refine Wq.jmp (q173_9 ..) (fun _ => rfl) ?_
    simp only [stpF, sttF, List.length_map, is_lt_len hlt, ix_53 hx, nat_gt0]
    refine Wq.callPB (ih a hm) hA fun H2 nx2 hA2 hB2 => ?_
    have hS2 := hS.keep hB2
    have L : ∀ b : Bool, b = decide ¬(a.k = 1 \/ (a.k = 2 /\ a.l.length = 0)) -> Wq P pl X0 (.jump (l173_16 (tysR l) sl (i64 (i : Int)) (txt (ren (tyT a))) b H2 nx2)) nx H (strsR (l.map fun a => ren (tyPT a))) := by
     intro b hb
     refine Wq.jmp (q173_16 ..) (fun _ => rfl) ?_
     have fin : ∀ x sl3 H3 nx3, x = ren (tyPT a) -> SS nx H3 nx3 ((l.take i).map (fun a => ren (tyPT a)) ++ [x]) sl3 -> Ag nx H nx3 H3 -> Wq P pl X0 (.jump (l173_9 (tysR l) sl3 (i64 ((i + 1 : Nat) : Int)) H3 nx3)) nx H (strsR (l.map fun a => ren (tyPT a))) := by
      intro x sl3 H3 nx3 hx hS3 hA3
      refine ih' (i + 1) sl3 H3 nx3 hd' (by omega) ?_ hA3
      rw [e, List.map_append, List.map_singleton, <- hx]
      exact hS3
     have hpt := tyPT_eq a
     cases b with
     | true =>
       simp only [stpF, sttF, List.length_map]
       rw [if_neg (of_decide_eq_true hb.symm)] at hpt
       refine Wq.callPB (pu_85 _ (hG a hm)) hA2 fun H3 nx3 hA3 hB3 => ?_
       refine Wq.addS (x := 40 :: 32 :: (ren (tyT a) ++ [32, 41])) (hS2.keep hB3) (by simp; omega) hA3 fun H4 sl4 nx4 hS4 hA4 => ?_
       simp only [stpF, wrap_succ (show i < 9223372036854775807 by omega)]
       exact fin _ _ _ _ (by rw [hpt, ren_br (hN a hm)]) hS4 hA4
     | false =>
       simp only [stpF, sttF, List.length_map]
       rw [if_pos (Decidable.not_not.1 (of_decide_eq_false hb.symm))] at hpt
       refine Wq.addS (x := ren (tyT a)) hS2 (by simp; omega) hA2 fun H4 sl4 nx4 hS4 hA4 => ?_
       simp only [stpF, wrap_succ (show i < 9223372036854775807 by omega)]
       exact fin _ _ _ _ (by rw [hpt]) hS4 hA4
    refine Wq.nite (fun h => ?_) (fun h => L _ (by simp [h]))
    refine Wq.nite (fun h2 => L _ (by simp [h, h2])) (fun h2 => ?_)
    exact L _ (by rw [decide_eq_decide]; omega)
 exact key l 0 _ H nx rfl (Nat.zero_le _) (by simpa using SS.nil nx H nx) (.refl _ _)
theorem pu_140 (t : TyS) : TyX t := TyS.ind (p := TyX) (fun t ih hr hp hz => Pure.of rfl fun H nx => by
 have hr0 := hr
 rw [TyS.ok_iff] at hp
 obtain ⟨hs, hl, hok⟩ := hp
 have hze := t.z_eq
 have hlen := tysZ_len t.l
 rw [tyR_eq, Bool.and_eq_true, tysRt_all] at hr
 obtain ⟨hrl, hd⟩ := hr
 have hzm : ∀ a, a ∈ t.l -> a.z <= 500 := fun a ha => by have := tysZ_mem ha; omega
 have hGT : ∀ a, a ∈ t.l -> GT (tyPT a) (100 * a.z - 10) := fun a ha => (gt_ty a (all_mem' hrl ha) (hok a ha)).2
 have hG : ∀ a, a ∈ t.l -> (ren (tyPT a)).length <= 100 * a.z - 10 := fun a ha => (hGT a ha).len
 have hN : ∀ a, a ∈ t.l -> tyPT a ≠ [] := fun a ha => ne_tyPT (ne_ty a (all_mem' hrl ha))
 have h173 := pu_173 t.l (by omega) (fun a ha => by have := (gt_ty a (all_mem' hrl ha) (hok a ha)).1.len; have := hzm a ha; omega) (fun a ha => ne_ty a (all_mem' hrl ha)) (fun a ha => ih a ha (all_mem' hrl ha) (hok a ha) (hzm a ha))
 have hsl := hs
 unfold sOk at hsl
 have hj : ∀ s : List UInt8, s.length <= 2 -> (joinT s (t.l.map fun a => ren (tyPT a))).length <= 1000000 := fun s hs2 => by
  have := joinT_le s (fun a => ren (tyPT a)) TyS.z t.l (fun a ha => by have := hG a ha; have := a.z_pos; omega)
  rw [sumZ_tys] at this
  omega
 have h83 : ∀ s : List UInt8, s.length <= 2 -> P0 83 [strsR (t.l.map fun a => ren (tyPT a)), txt s] (txt (joinB s (t.l.map fun a => ren (tyPT a)))) := fun s hs2 => pu_83 s _ (by rw [List.length_map]; omega) (hj s hs2)
 have hsep : ∀ s : List UInt8, ren (tokL (sepF s partY) true (t.l.map tyI)) = joinB s (t.l.map fun a => ren (tyPT a)) := fun s => by
  rw [tokL_map]
  exact ren_sep s tyPT rfl t.l hN
 have hlenB : (joinB [44] (t.l.map fun a => ren (tyPT a))).length <= 1000000 := by
  have hs2 := hj [44] (by simp)
  cases hm : t.l.map fun a => ren (tyPT a) with
  | nil => simp [joinB]
  | cons x l =>
    rw [hm, joinT] at hs2
    simp only [List.length_cons, List.length_append] at hs2
    rw [joinB, List.length_append]
    omega
 rw [q140]
 refine Wq.natF' (.refl _ _) fun hA => ?_
 simp only [stpF, sttF, List.length_map]
 refine Wq.call h173 hA fun H1 nx1 hA1 => ?_
 rw [tyT_eq]
 unfold tyTH
 unfold tyHd at hd
 rw [List.length_map]
 refine Wq.ite (fun h3 => ?_) (fun h3 => ?_)
 . rw [if_neg (by omega), if_pos h3]
   refine Wq.call (h83 [45, 62] (by simp)) hA1 fun H2 nx2 hA2 => ?_
   exact Wq.retE (by rw [hsep]) hA2
 rw [if_neg h3]
 refine Wq.ite (fun h4 => ?_) (fun h4 => ?_)
 . rw [if_neg (by omega), if_pos h4]
   refine Wq.call (h83 [42] (by simp)) hA1 fun H2 nx2 hA2 => ?_
   exact Wq.retE (by rw [hsep]) hA2
 rw [if_neg h4]
 try simp only [stpF, sttF, List.length_map, nat_eq1, nat_gt1]
 have h1n : t.k = 1 -> t.l.length = 0 := fun h1 => by
  rw [if_pos h1, Bool.and_eq_true, decide_eq_true_eq] at hd
  exact hd.1
 refine Wq.ite (fun hl1 => ?_) (fun hl1 => ?_)
 . have h1 : t.k ≠ 1 := fun q => by have := h1n q; omega
   rw [if_neg h1]
   have h2 : t.k = 2 := by
    rw [if_neg h1, if_neg h3, if_neg h4] at hd
    by_cases h2 : t.k = 2
    . exact h2
    . rw [if_neg h2] at hd; cases hd
   rw [if_pos h2, if_neg (by omega)]
   obtain ⟨q, hpl⟩ : ∃ q, t.l = [q] := List.length_eq_one_iff.1 hl1
   have hq : q ∈ t.l := by rw [hpl]; simp
   have hx : ((t.l.map fun a => ren (tyPT a)).map txt)[0]? = some (txt (ren (tyPT q))) := by rw [hpl]; rfl
   have hx' := ix_49 hx .i64
   rw [show ((0 : Nat) : Int) = 0 from rfl] at hx'
   have := hG q hq
   have := hzm q hq
   simp (disch := ((try simp only [List.length_append, List.length_cons, List.length_nil]); omega)) only [stpF, sttF, List.length_map, sadd, hx']
   refine Wq.retE ?_ hA1
   rw [tokL_map, hpl]
   show _ = txt (ren ((tyPT q ++ []) ++ nameT t.s))
   rw [List.append_nil, ren_append (hN q hq) (ne_name _), ren_name]
   simp
 refine Wq.ite (fun hl2 => ?_) (fun hl2 => ?_)
 . have h1 : t.k ≠ 1 := fun q => by have := h1n q; omega
   rw [if_neg h1]
   have h2 : t.k = 2 := by
    rw [if_neg h1, if_neg h3, if_neg h4] at hd
    by_cases h2 : t.k = 2
    . exact h2
    . rw [if_neg h2] at hd; cases hd
   rw [if_pos h2, if_pos hl2]
   refine Wq.call (h83 [44] (by simp)) hA1 fun H2 nx2 hA2 => ?_
   try simp only [stpF, sttF, List.length_map]
   refine Wq.call (pu_85 _ hlenB) hA2 fun H3 nx3 hA3 => ?_
   simp (disch := ((try simp only [List.length_append, List.length_cons, List.length_nil]); omega)) only [stpF, sttF, List.length_map, sadd]
   refine Wq.retE ?_ hA3
   have hne : tokL (sepF [44] partY) true (t.l.map tyI) ≠ [] := by
    rw [tokL_map]
    cases htl : t.l with
    | nil => rw [htl] at hl2; simp at hl2
    | cons a l =>
      have := hN a (by rw [htl]; simp)
      rw [tokL]
      show tyPT a ++ _ ≠ []
      simp [this]
   rw [ren_cons (by simp), ren_append hne (by simp), ren_cons (ne_name _), ren_name, hsep, sgText, sgText]
   simp
 . try simp only [stpF, sttF, List.length_map]
   have hl0 : t.l = [] := List.eq_nil_of_length_eq_zero (by omega)
   refine Wq.retE ?_ hA1
   by_cases h1 : t.k = 1
   . rw [if_pos h1]; rfl
   . rw [if_neg h1] at hd ⊢
     by_cases h2 : t.k = 2
     . rw [if_pos h2, if_neg (by omega), hl0]
       show _ = txt (ren ([] ++ nameT t.s))
       rw [List.nil_append, ren_name]
     . rw [if_neg h2, if_neg h3, if_neg h4] at hd; cases hd) t
theorem pu_84 (c : Con) (hr : conR c = true) (hc : c.ok) (hz : c.z <= 500) : P0 84 [c.v] (txt (ren (conT c))) := Pure.of rfl fun H nx => by
 obtain ⟨h1, h2, h3⟩ := hc
 unfold conR at hr
 rw [Bool.and_eq_true, Bool.and_eq_true, decide_eq_true_eq, tysRt_all] at hr
 have hze : c.z = 1 + c.s.length / 8 + tysZ c.arg := rfl
 have hsl := h1
 unfold sOk at hsl
 have h4t : tokText ⟨4, c.s, 0, 0⟩ = c.s := rfl
 rw [q84]
 refine Wq.natF' (.refl _ _) fun hA => ?_
 match hca : c.arg with
 | [] =>
   simp only [stpF, sttF, List.length_map, hca]
   refine Wq.retE ?_ hA
   unfold conT
   rw [hca]; rfl
 | a :: b :: r => rw [hca] at hr; exact absurd hr.2.1 (by simp)
 | [a] =>
   have ha : a ∈ c.arg := by rw [hca]; simp
   have hx : (([a] : List TyS).map TyS.v)[0]? = some a.v := rfl
   have hx' := ix_53 hx .i64
   rw [show ((0 : Nat) : Int) = 0 from rfl] at hx'
   have haz := tysZ_mem ha
   have g := (gt_ty a (all_mem' hr.2.2 ha) (h3 a ha)).1.len
   simp (disch := ((try simp only [List.length_append, List.length_cons, List.length_nil]); omega)) only [stpF, sttF, List.length_map, sadd, hca, nat_eq0, hx', show decide (([a] : List TyS).length = 0) = false from rfl]
   refine Wq.call (pu_140 a (all_mem' hr.2.2 ha) (h3 a ha) (by omega)) hA fun H1 nx1 hA1 => ?_
   simp (disch := ((try simp only [List.length_append, List.length_cons, List.length_nil]); omega)) only [stpF, sttF, List.length_map, sadd]
   refine Wq.retE ?_ hA1
   unfold conT
   rw [hca]
   show _ = txt (ren (⟨4, c.s, 0, 0⟩ :: (kyT [111, 102] :: tyT a ++ [])))
   rw [List.append_nil, ren_cons (by simp), ren_cons (ne_ty a (all_mem' hr.2.2 ha)), h4t]
   show _ = txt (c.s ++ 32 :: ([111, 102] ++ 32 :: ren (tyT a)))
   simp
end
end Go.Proofs.YthjhonhhbddhkaaGreatDoor
/- Expressions as texts: the document's answer (parts). -/
namespace Go.Proofs.YthjhonhhbddhkaaGreatDoor
open Go.Ev Go.RowKit
noncomputable section
set_option maxRecDepth 100000
set_option linter.unusedVariables false
set_option linter.unusedSimpArgs false
variable {nx0 nx : Nat} {H0 H : T OB} {R : Value -> T OB -> Nat -> Prop}
theorem ne_expPT {e : Exp} (h : expT e ≠ []) : expPT e ≠ [] := by
 rw [expPT_eq]; split <;> simp [h]
theorem ne_decT {d : Dec} (hE : expR d.e = true -> expT d.e ≠ []) (hr : decR d = true) : decT d ≠ [] := by
 rw [decR_eq] at hr
 rw [decT_eq]
 by_cases h1 : d.k = 1
 . rw [if_pos h1]; simp
 rw [if_neg h1] at hr ⊢
 by_cases h5 : d.k = 5
 . rw [if_pos h5, Bool.and_eq_true] at hr
   rw [if_neg (by omega), if_neg (by omega), if_neg (by omega), if_pos h5]
   exact hE hr.2
 rw [if_neg h5] at hr
 by_cases h2 : d.k = 2
 . rw [if_pos h2] at hr ⊢
   rw [Bool.and_eq_true, Bool.and_eq_true, decide_eq_true_eq] at hr
   rw [fnsT_eq]
   cases hf : d.f with
   | nil => rw [hf] at hr; exact absurd hr.2.1 (by simp)
   | cons a l => rw [tokL]; simp
 rw [if_neg h2] at hr ⊢
 by_cases h3 : d.k = 3
 . rw [if_pos h3]; unfold dataT; simp
 rw [if_neg h3] at hr ⊢
 by_cases h4 : d.k = 4
 . rw [if_pos h4]; simp
 rw [if_neg h4] at hr; cases hr
theorem ne_exp (e : Exp) (hr : expR e = true) : expT e ≠ [] := Exp.ind (p := fun e => expR e = true -> expT e ≠ []) (q := fun _ => True) (fun e ih _ hr => by
 rw [expR_k] at hr
 simp only [Bool.and_eq_true] at hr
 obtain ⟨_, hrl, _, _, _, hd⟩ := hr
 rw [expsRt_all] at hrl
 have hN : ∀ a, a ∈ e.l -> expPT a ≠ [] := fun a ha => ne_expPT (ih a ha (all_mem' hrl ha))
 rw [expT_eq]
 unfold expTH
 unfold expHd at hd
 by_cases h1 : e.k = 1
 . rw [if_pos h1]; simp
 rw [if_neg h1] at hd ⊢
 by_cases h234 : e.k = 2 \/ e.k = 3 \/ e.k = 4
 . rw [if_pos h234]; simp
 rw [if_neg h234]
 rw [if_neg (by omega), if_neg (by omega), if_neg (by omega)] at hd
 by_cases h5 : e.k = 5
 . rw [if_pos h5]; simp
 rw [if_neg h5] at hd ⊢
 by_cases h13 : e.k = 13
 . rw [if_pos h13]; simp
 rw [if_neg h13] at hd ⊢
 by_cases h6 : e.k = 6
 . rw [if_pos h6, decide_eq_true_eq] at hd
   rw [if_neg (by omega), if_neg (by omega), if_neg (by omega), if_pos h6]
   match hel : e.l, hd with
   | [x, y], _ =>
     have := hN x (by rw [hel]; simp)
     show (expPT x ++ _) ≠ []
     simp [this]
 rw [if_neg h6] at hd
 by_cases h7 : e.k = 7
 . rw [if_neg (by omega), if_neg (by omega), if_neg (by omega), if_neg (by omega), if_neg (by omega), if_neg (by omega), if_pos h7]; simp
 rw [if_neg h7] at hd
 by_cases h8 : e.k = 8
 . rw [if_pos h8, decide_eq_true_eq] at hd
   rw [if_neg (by omega), if_neg (by omega), if_neg (by omega), if_neg (by omega), if_pos h8]
   match hel : e.l, hd with
   | [x, y, w], _ => simp
 rw [if_neg h8] at hd
 by_cases h912 : e.k = 9 \/ e.k = 12
 . rw [if_pos h912, Bool.and_eq_true, decide_eq_true_eq] at hd
   rw [if_neg (by omega), if_neg (by omega), if_neg (by omega), if_neg (by omega), if_neg (by omega), if_neg (by omega), if_neg (by omega)]
   match hel : e.l, hd with
   | x :: r, _ =>
     by_cases h9 : e.k = 9
     . rw [if_pos h9]; simp
     . rw [if_neg h9, if_pos (by omega)]; simp
 rw [if_neg h912] at hd
 by_cases h11 : e.k = 11
 . rw [if_neg (by omega), if_neg (by omega), if_neg (by omega), if_neg (by omega), if_neg (by omega), if_pos h11]; simp
 rw [if_neg h11] at hd
 by_cases h14 : e.k = 14
 . rw [if_pos h14, Bool.and_eq_true, decide_eq_true_eq] at hd
   rw [if_neg (by omega), if_pos h14]
   match hel : e.l, hd with
   | [x, y], _ => simp
 rw [if_neg h14] at hd
 by_cases h15 : e.k = 15
 . rw [if_pos h15, Bool.and_eq_true, decide_eq_true_eq] at hd
   rw [if_neg (by omega), if_neg (by omega), if_pos h15]
   match hel : e.l, hd with
   | [x], _ => simp
 rw [if_neg h15] at hd
 by_cases h10 : e.k = 10
 . rw [if_pos h10, Bool.and_eq_true, decide_eq_true_eq] at hd
   rw [if_pos h10]
   match hel : e.l, hd with
   | [x], _ => simp
 rw [if_neg h10] at hd; cases hd) (fun _ _ _ => trivial) e hr
theorem ne_dec (d : Dec) (hr : decR d = true) : decT d ≠ [] := ne_decT (ne_exp d.e) hr
theorem pu_172 (e : Exp) (hr : expR e = true) (he : e.ok) (hz : e.z <= 500) (ih : P0 81 [e.v] (txt (ren (expT e)))) : P0 172 [e.v] (txt (ren (expPT e))) := Pure.of rfl fun H nx => by
 have hlen := (gt_exp e hr he).1.len
 rw [q172]
 refine Wq.natF' (.refl _ _) fun hA => ?_
 have L : ∀ b, b = isAt e.k -> Wq P pl X0 (.jump (l172_20 (eptrV e.v) b H (nx + 1))) nx H (txt (ren (expPT e))) := by
  intro b hb
  refine Wq.jmp (q172_20 ..) (fun _ => rfl) ?_
  rw [expPT_eq, <- hb]
  cases b with
  | true =>
    simp only [stpF, sttF, List.length_map]
    refine Wq.call ih hA fun H1 nx1 hA1 => ?_
    exact Wq.ret hA1
  | false =>
    simp only [stpF, sttF, List.length_map]
    refine Wq.call ih hA fun H1 nx1 hA1 => ?_
    refine Wq.call (pu_85 _ (by omega)) hA1 fun H2 nx2 hA2 => ?_
    refine Wq.retE ?_ hA2
    rw [if_neg (by decide), ren_br (ne_exp e hr)]
 simp only [stpF, sttF, List.length_map]
 unfold isAt at L
 refine Wq.ite (fun g => L _ (by simp [g])) (fun g1 => ?_)
 refine Wq.ite (fun g => L _ (by simp [g])) (fun g2 => ?_)
 refine Wq.ite (fun g => L _ (by simp [g])) (fun g3 => ?_)
 refine Wq.ite (fun g => L _ (by simp [g])) (fun g4 => ?_)
 refine Wq.ite (fun g => L _ (by simp [g])) (fun g5 => ?_)
 refine Wq.ite (fun g => L _ (by simp [g])) (fun g6 => ?_)
 exact L _ (by simp [g1, g2, g3, g4, g5, g6])
theorem pu_138 (l : List Exp) (hl : l.length < 1000000) (ih : ∀ a, a ∈ l -> P0 172 [a.v] (txt (ren (expPT a)))) : P0 138 [expsR l] (strsR (l.map fun a => ren (expPT a))) := Pure.of rfl fun H nx => by
 rw [q138]
 have key : ∀ (r : List Exp) (i : Nat) (sl : Value) (H1 : T OB) (nx1 : Nat), l.drop i = r -> i <= l.length -> SS nx H1 nx1 ((l.take i).map fun a => ren (expPT a)) sl -> Ag nx H nx1 H1 -> Wq P pl X0 (.jump (l138_9 (expsR l) sl (i64 (i : Int)) H1 nx1)) nx H (strsR (l.map fun a => ren (expPT a))) := by
  intro r
  induction r with
  | nil =>
    intro i sl H1 nx1 hd hi hS hA
    have hil := drop_nil hd hi
    refine Wq.jmp (q138_9 ..) (fun _ => rfl) ?_
    simp only [stpF, sttF, List.length_map, hil, not_lt_len]
    rw [hil, List.take_length] at hS
    refine Wq.frzS hS hA fun H2 nx2 hA2 => ?_
    exact Wq.ret hA2
  | cons a r ih' =>
    intro i sl H1 nx1 hd hi hS hA
    obtain ⟨hg, hlt, hd'⟩ := drop_cons hd
    have hx : (l.map Exp.v)[i]? = some a.v := by simp [hg]
    have hm := List.mem_of_getElem? hg
    refine Wq.jmp (q138_9 ..) (fun _ => rfl) ?_
    simp only [stpF, sttF, List.length_map, is_lt_len hlt, ix_41 hx]
    refine Wq.callPB (ih a hm) hA fun H2 nx2 hA2 hB2 => ?_
    refine Wq.addS (x := ren (expPT a)) (hS.keep hB2) (by simp; omega) hA2 fun H3 sl3 nx3 hS3 hA3 => ?_
    simp only [stpF, wrap_succ (show i < 9223372036854775807 by omega)]
    refine ih' (i + 1) sl3 H3 nx3 hd' (by omega) ?_ hA3
    have e : l.take (i + 1) = l.take i ++ [a] := by
     rw [List.take_add_one, hg]; rfl
    rw [e, List.map_append]
    exact hS3
 exact key l 0 _ H nx rfl (Nat.zero_le _) (by simpa using SS.nil nx H nx) (.refl _ _)
abbrev armT (x : Pat × Exp) : List Tok := patPT x.1 ++ sgT [61, 62] :: expPT x.2
theorem armsT_zip (ps : List Pat) : ∀ (l : List Exp) (b : Bool), armsT b (ps.map patPT) (l.map expPT) = tokL (sepF [124] armT) b (ps.zip l) := by
 induction ps with
 | nil => intro l b; rfl
 | cons p ps ih =>
   intro l b
   cases l with
   | nil => rfl
   | cons x l =>
     rw [List.map_cons, List.map_cons, armsT, ih, List.zip_cons_cons, tokL]
     unfold sepF
     simp
theorem pu_139 (ps : List Pat) (l : List Exp) (hpl : ps.length = l.length) (hz : patsZ ps + expsZ l <= 500) (hP : ∀ p, p ∈ ps -> P0 137 [p.v] (txt (ren (patPT p))) /\ GT (patPT p) (100 * p.z - 10) /\ patPT p ≠ []) (hE : ∀ a, a ∈ l -> P0 172 [a.v] (txt (ren (expPT a))) /\ GT (expPT a) (100 * a.z - 10) /\ expPT a ≠ []) :
 P0 139 [patsR ps, expsR l] (txt (ren (armsT true (ps.map patPT) (l.map expPT)))) := Pure.of rfl fun H nx => by
 have hlen1 := patsZ_len ps
 have hlen2 := expsZ_len l
 have hzl : (ps.zip l).length = l.length := by rw [List.length_zip]; omega
 have hmem : ∀ x, x ∈ ps.zip l -> x.1 ∈ ps /\ x.2 ∈ l := fun x hx => ⟨(List.of_mem_zip hx).1, (List.of_mem_zip hx).2⟩
 have hT : ∀ x, x ∈ ps.zip l -> ren (armT x) = ren (patPT x.1) ++ 32 :: 61 :: 62 :: 32 :: ren (expPT x.2) := fun x hx => by
  obtain ⟨h1, h2⟩ := hmem x hx
  unfold armT
  rw [ren_append (hP _ h1).2.2 (by simp), ren_cons (hE _ h2).2.2]
  rfl
 have hsumz : ∀ (ps : List Pat) (l : List Exp), sumN (fun x : Pat × Exp => x.1.z + x.2.z) (ps.zip l) <= patsZ ps + expsZ l := by
  intro ps
  induction ps with
  | nil => intro l; simp [sumN]
  | cons p ps ih =>
    intro l
    cases l with
    | nil => simp [sumN]
    | cons x l => rw [List.zip_cons_cons, sumN, patsZ, expsZ]; have := ih l; show p.z + x.z + _ <= _; omega
 have hj : (joinT [124] ((ps.zip l).map fun x => ren (armT x))).length <= 1000000 := by
  have h1 := joinT_le [124] (fun x => ren (armT x)) (fun x : Pat × Exp => x.1.z + x.2.z) (ps.zip l) (fun x hx => by
   obtain ⟨h1, h2⟩ := hmem x hx
   have g1 := (hP _ h1).2.1.len
   have g2 := (hE _ h2).2.1.len
   have z1 := x.1.z_pos
   have z2 := x.2.z_pos
   rw [hT x hx]
   simp only [List.length_append, List.length_cons, List.length_nil]
   omega)
  have h2 := hsumz ps l
  omega
 rw [armsT_zip, ren_sep [124] armT rfl _ (fun x hx => by unfold armT; simp), q139]
 have key : ∀ (r : List (Pat × Exp)) (i : Nat) (sl : Value) (H1 : T OB) (nx1 : Nat), (ps.zip l).drop i = r -> i <= (ps.zip l).length -> SS nx H1 nx1 (((ps.zip l).take i).map fun x => ren (armT x)) sl -> Ag nx H nx1 H1 -> Wq P pl X0 (.jump (l139_9 (patsR ps) (expsR l) sl (i64 (i : Int)) H1 nx1)) nx H (txt (joinB [124] ((ps.zip l).map fun x => ren (armT x)))) := by
  intro r
  induction r with
  | nil =>
    intro i sl H1 nx1 hd hi hS hA
    have hil := drop_nil hd hi
    refine Wq.jmp (q139_9 ..) (fun _ => rfl) ?_
    rw [hil, List.take_length] at hS
    rw [hzl] at hil
    simp only [stpF, sttF, List.length_map, hil, not_lt_len]
    refine Wq.joinS hS (by rw [List.length_map, hzl]; unfold big; omega) hj hA fun H2 nx2 hA2 => ?_
    exact Wq.ret hA2
  | cons x r ih' =>
    intro i sl H1 nx1 hd hi hS hA
    obtain ⟨hg, hlt, hd'⟩ := drop_cons hd
    have hm := List.mem_of_getElem? hg
    obtain ⟨m1, m2⟩ := hmem x hm
    have hlt' : i < l.length := by omega
    have hgp : ps[i]? = some x.1 := by
     have := List.getElem?_zip_eq_some.1 hg
     exact this.1
    have hgl : l[i]? = some x.2 := by
     have := List.getElem?_zip_eq_some.1 hg
     exact this.2
    have hx : (ps.map Pat.v)[i]? = some x.1.v := by simp [hgp]
    have hy : (l.map Exp.v)[i]? = some x.2.v := by simp [hgl]
    have g1 := (hP _ m1).2.1.len
    have g2 := (hE _ m2).2.1.len
    have b1 := patsZ_mem m1
    have b2 := expsZ_mem m2
    refine Wq.jmp (q139_9 ..) (fun _ => rfl) ?_
    simp only [stpF, sttF, List.length_map, is_lt_len hlt', ix_42 hx, ix_41 hy]
    refine Wq.callPB (hP _ m1).1 hA fun H2 nx2 hA2 hB2 => ?_
    simp (disch := ((try simp only [List.length_append, List.length_cons, List.length_nil]); omega)) only [stpF, sttF, List.length_map, sadd]
    refine Wq.callPB (hE _ m2).1 hA2 fun H3 nx3 hA3 hB3 => ?_
    simp (disch := ((try simp only [List.length_append, List.length_cons, List.length_nil]); omega)) only [stpF, sttF, List.length_map, sadd]
    have e : (ps.zip l).take (i + 1) = (ps.zip l).take i ++ [x] := by
     rw [List.take_add_one, hg]; rfl
    refine Wq.addS (x := ren (patPT x.1) ++ [32, 61, 62, 32] ++ ren (expPT x.2)) ((hS.keep hB2).keep hB3) (by simp; omega) hA3 fun H4 sl4 nx4 hS4 hA4 => ?_
    simp only [stpF, wrap_succ (show i < 9223372036854775807 by omega)]
    refine ih' (i + 1) sl4 H4 nx4 hd' (by omega) ?_ hA4
    rw [e, List.map_append, List.map_singleton, hT x hm]
    simpa using hS4
 exact key _ 0 _ H nx rfl (Nat.zero_le _) (by simpa using SS.nil nx H nx) (.refl _ _)
end
end Go.Proofs.YthjhonhhbddhkaaGreatDoor
/- Expressions, declarations as texts: the document's answer. -/
namespace Go.Proofs.YthjhonhhbddhkaaGreatDoor
open Go.Ev Go.RowKit
noncomputable section
set_option maxRecDepth 100000
set_option linter.unusedVariables false
set_option linter.unusedSimpArgs false
variable {nx0 : Nat} {H0 : T OB}
variable {nx : Nat} {H : T OB} {R : Value -> T OB -> Nat -> Prop}
theorem ren_hd {α : Type} (tf : Bool -> α -> List Tok) (f : α -> List Tok) (h : Tok) (htf : ∀ x, tf false x = h :: f x) : ∀ (l : List α) (a : List Tok), a ≠ [] -> (∀ x, x ∈ l -> f x ≠ []) -> ren (a ++ tokL tf false l) = ren a ++ joinT (tokText h) (l.map fun x => ren (f x))
 | [], a, ha, _ => by simp [tokL, joinT]
 | x :: l, a, ha, hf => by
   have hx := hf x (by simp)
   rw [tokL, <- List.append_assoc, ren_hd tf f h htf l (a ++ tf false x) (by simp [ha]) (fun y hy => hf y (by simp [hy])), htf, ren_append ha (by simp), ren_cons hx, List.map_cons, joinT]
   simp
def decsB : List Dec -> List UInt8
 | [] => []
 | d :: l => ren (decT d) ++ 32 :: 59 :: 32 :: decsB l
theorem ren_decs (l : List Dec) (x : List Tok) (hx : x ≠ []) (h : ∀ d, d ∈ l -> decT d ≠ []) : ren ((l.flatMap fun d => decT d ++ [sgT [59]]) ++ x) = decsB l ++ ren x := by
 induction l with
 | nil => rfl
 | cons d l ih =>
   have hd := h d (by simp)
   rw [List.flatMap_cons, List.append_assoc, List.append_assoc, ren_append hd (by simp)]
   show ren (decT d) ++ 32 :: ren (sgT [59] :: ((l.flatMap fun d => decT d ++ [sgT [59]]) ++ x)) = _
   rw [ren_cons (by simp [hx]), ih (fun d hd => h d (by simp [hd])), decsB]
   show ren (decT d) ++ 32 :: ([59] ++ 32 :: (decsB l ++ ren x)) = _
   simp
def ExpX (e : Exp) : Prop := expR e = true -> e.ok -> e.z <= 500 -> P0 81 [e.v] (txt (ren (expT e))) /\ ∀ a, a ∈ e.l -> P0 172 [a.v] (txt (ren (expPT a)))
def DecX (d : Dec) : Prop := decR d = true -> d.ok -> d.z <= 500 -> P0 44 [d.v] (txt (ren (decT d)))
theorem pu_81 (e : Exp) (ihE : ∀ c, c ∈ e.l -> ExpX c) (ihD : ∀ d, d ∈ e.d -> DecX d) : ExpX e := fun hr he hz => by
 have hr0 := hr
 rw [Exp.ok_iff] at he
 obtain ⟨hn, hs, ⟨hl1, hl2⟩, ⟨hp1, hp2⟩, hd1, hd2⟩ := he
 have hze := e.z_eq
 rw [expR_k] at hr
 simp only [Bool.and_eq_true] at hr
 obtain ⟨_, hrl, hrp, hrd, hlf, hd⟩ := hr
 rw [expsRt_all] at hrl
 have hzm : ∀ a, a ∈ e.l -> a.z <= 500 := fun a ha => by have := expsZ_mem ha; omega
 have hlenl := expsZ_len e.l
 have hE : ∀ a, a ∈ e.l -> P0 172 [a.v] (txt (ren (expPT a))) := fun a ha => pu_172 a (all_mem' hrl ha) (hl2 a ha) (hzm a ha) (ihE a ha (all_mem' hrl ha) (hl2 a ha) (hzm a ha)).1
 refine ⟨?_, hE⟩
 have hE2 : ∀ q, q ∈ e.l -> ∀ a, a ∈ q.l -> P0 172 [a.v] (txt (ren (expPT a))) := fun q hq => (ihE q hq (all_mem' hrl hq) (hl2 q hq) (hzm q hq)).2
 have hGT : ∀ a, a ∈ e.l -> GT (expPT a) (100 * a.z - 10) := fun a ha => (gt_exp a (all_mem' hrl ha) (hl2 a ha)).2.1
 have hGT2 : ∀ q, q ∈ e.l -> ∀ a, a ∈ q.l -> GT (expPT a) (100 * a.z - 10) := fun q hq => (gt_exp q (all_mem' hrl hq) (hl2 q hq)).2.2
 have hG : ∀ a, a ∈ e.l -> (ren (expPT a)).length <= 100 * a.z - 10 := fun a ha => (hGT a ha).len
 have hN : ∀ a, a ∈ e.l -> expPT a ≠ [] := fun a ha => ne_expPT (ne_exp a (all_mem' hrl ha))
 have hj : ∀ (l : List Exp), (∀ a, a ∈ l -> (ren (expPT a)).length <= 100 * a.z - 10) -> expsZ l <= 500 -> ∀ s : List UInt8, s.length <= 2 -> (joinT s (l.map fun a => ren (expPT a))).length <= 1000000 := fun l hG hzl s hs2 => by
  have := joinT_le s (fun a => ren (expPT a)) Exp.z l (fun a ha => by have := hG a ha; have := a.z_pos; omega)
  rw [sumZ_exps] at this
  omega
 have hB : ∀ (l : List Exp) (s : List UInt8), (joinT s (l.map fun a => ren (expPT a))).length <= 1000000 -> (joinB s (l.map fun a => ren (expPT a))).length <= 1000000 := fun l s hs2 => by
  cases hm : l.map fun a => ren (expPT a) with
  | nil => simp [joinB]
  | cons x r =>
    rw [hm, joinT] at hs2
    simp only [List.length_cons, List.length_append] at hs2
    rw [joinB, List.length_append]
    omega
 have h83 : ∀ s : List UInt8, s.length <= 2 -> P0 83 [strsR (e.l.map fun a => ren (expPT a)), txt s] (txt (joinB s (e.l.map fun a => ren (expPT a)))) := fun s hs2 => pu_83 s _ (by rw [List.length_map]; exact hl1) (hj e.l hG (by omega) s hs2)
 have hsep : ∀ (l : List Exp) (s : List UInt8), (∀ a, a ∈ l -> expPT a ≠ []) -> ren (rowL s (l.map expPT)) = joinB s (l.map fun a => ren (expPT a)) := fun l s h => by
  rw [rowL_map]
  exact ren_sep s expPT rfl l h
 have hrowne : ∀ (l : List Exp) (s : List UInt8), (∀ a, a ∈ l -> expPT a ≠ []) -> l ≠ [] -> rowL s (l.map expPT) ≠ [] := fun l s h hne => by
  rw [rowL_map]
  cases l with
  | nil => exact absurd rfl hne
  | cons a l =>
    have := h a (by simp)
    rw [tokL]
    show expPT a ++ _ ≠ []
    simp [this]
 have hmm : (e.l.map fun e => (e.k, expI e)).map partE = e.l.map expPT := by rw [List.map_map]; rfl
 have hP : (decide (e.k = 7 \/ e.k = 9 \/ e.k = 12)) = true -> ∀ p, p ∈ e.p -> P0 137 [p.v] (txt (ren (patPT p))) /\ GT (patPT p) (100 * p.z - 10) /\ patPT p ≠ [] := fun hk p hp => by
  rw [hk] at hrp
  have hrp' : patsRt e.p = true := by simpa using hrp
  rw [patsRt_all] at hrp'
  have hr1 := all_mem' hrp' hp
  have := patsZ_mem hp
  exact ⟨(pu_80 p hr1 (hp2 p hp) (by omega)).2.1, (gt_pat p hr1 (hp2 p hp)).2.1, ne_patPT (ne_pat p hr1)⟩
 have hDr : e.k = 10 -> ∀ d, d ∈ e.d -> decR d = true := fun hk d hd => by
  rw [hk] at hrd
  have hrd' : decsRt e.d = true := by simpa using hrd
  rw [decsRt_all] at hrd'
  exact all_mem' hrd' hd
 have hsl := hs
 unfold sOk at hsl
 refine Pure.of rfl fun H nx => ?_
 rw [q81]
 refine Wq.natF' (.refl _ _) fun hA => ?_
 try simp only [stpF, sttF, List.length_map]
 refine Wq.call (pu_138 e.l (by omega) hE) hA fun H1 nx1 hA => ?_
 rw [expT_eq]
 unfold expTH
 unfold expHd at hd
 try simp only [stpF, sttF, List.length_map, nat_eq0]
 refine Wq.ite (fun h1 => ?_) (fun h1 => ?_)
 . rw [if_pos h1]
   refine Wq.call (pu_136 e.n hn) hA fun H1 nx1 hA1 => ?_
   exact Wq.ret hA1
 rw [if_neg h1] at hd ⊢
 refine Wq.ite (fun h2 => ?_) (fun h2 => ?_)
 . rw [if_pos (.inl h2), h2]
   refine Wq.call (pu_118 e.s (by have := qs_length e.s; omega) (sLt hs)) hA fun H1 nx1 hA1 => ?_
   exact Wq.ret hA1
 rw [if_neg h2] at hd
 refine Wq.ite (fun h5 => ?_) (fun h5 => ?_)
 . rw [if_neg (by omega), if_pos h5, hmm]
   refine Wq.ite (fun h => ?_) (fun h => ?_)
   . rw [List.eq_nil_of_length_eq_zero h]; exact Wq.ret hA
   . refine Wq.call (h83 [44] (by simp)) hA fun H2 nx2 hA2 => ?_
     refine Wq.call (pu_85 _ (hB e.l _ (hj e.l hG (by omega) [44] (by simp)))) hA2 fun H3 nx3 hA3 => ?_
     refine Wq.retE ?_ hA3
     rw [ren_br (hrowne e.l _ hN (fun q => by rw [q] at h; simp at h)), hsep e.l _ hN]
 refine Wq.ite (fun h13 => ?_) (fun h13 => ?_)
 . rw [if_neg (by omega), if_neg (by omega), if_neg (by omega), if_pos h13, decide_eq_true_eq] at hd
   rw [if_neg (by omega), if_neg h5, if_pos h13, hmm]
   refine Wq.call (h83 [59] (by simp)) hA fun H2 nx2 hA2 => ?_
   refine Wq.call (pu_85 _ (hB e.l _ (hj e.l hG (by omega) [59] (by simp)))) hA2 fun H3 nx3 hA3 => ?_
   refine Wq.retE ?_ hA3
   rw [ren_br (hrowne e.l _ hN (fun q => by rw [q] at hd; simp at hd)), hsep e.l _ hN]
 refine Wq.ite (fun h6 => ?_) (fun h6 => ?_)
 . rw [if_neg (by omega), if_neg (by omega), if_neg (by omega), if_neg (by omega), if_pos h6, decide_eq_true_eq] at hd
   rw [if_neg (by omega), if_neg (by omega), if_neg (by omega), if_neg (by omega), if_neg (by omega), if_neg (by omega), if_pos h6, hmm]
   obtain ⟨x, y, hl⟩ := len2 hd
   have mx : x ∈ e.l := by rw [hl]; simp
   have my : y ∈ e.l := by rw [hl]; simp
   have hx0 : ((e.l.map fun a => ren (expPT a)).map txt)[0]? = some (txt (ren (expPT x))) := by rw [hl]; rfl
   have hx := ix_49 hx0 .i64
   rw [show ((0 : Nat) : Int) = 0 from rfl] at hx
   have hy0 : ((e.l.map fun a => ren (expPT a)).map txt)[1]? = some (txt (ren (expPT y))) := by rw [hl]; rfl
   have hy := ix_49 hy0 .i64
   rw [show ((1 : Nat) : Int) = 1 from rfl] at hy
   have g1 := hG x mx
   have g2 := hG y my
   have b1 := hzm x mx
   have b2 := hzm y my
   simp (disch := ((try simp only [List.length_append, List.length_cons, List.length_nil]); omega)) only [stpF, sttF, List.length_map, sadd, hx, hy]
   refine Wq.retE ?_ hA
   rw [hl]
   show _ = txt (ren (expPT x ++ (expPT y ++ [])))
   rw [List.append_nil, ren_append (hN x mx) (hN y my)]
   simp
 refine Wq.ite (fun h7 => ?_) (fun h7 => ?_)
 . rw [if_neg (by omega), if_neg (by omega), if_neg (by omega), if_neg (by omega), if_neg (by omega), if_pos h7, Bool.and_eq_true, decide_eq_true_eq, decide_eq_true_eq] at hd
   rw [if_neg (by omega), if_neg (by omega), if_neg (by omega), if_neg (by omega), if_neg (by omega), if_neg (by omega), if_neg (by omega), if_neg (by omega), if_neg (by omega), if_pos h7, hmm]
   have hPx := hP (by simp [h7])
   have hlen := (gt_arms e.p e.l true (fun p hp => (hPx p hp).2.1) hGT).len
   refine Wq.call (pu_139 e.p e.l hd.2 (by omega) hPx (fun a ha => ⟨hE a ha, hGT a ha, hN a ha⟩)) hA fun H2 nx2 hA2 => ?_
   simp (disch := ((try simp only [List.length_append, List.length_cons, List.length_nil]); omega)) only [stpF, sttF, List.length_map, sadd]
   refine Wq.retE ?_ hA2
   rw [ren_cons (by
    rw [armsT_zip]
    match hep : e.p, hel : e.l, hd with
    | p :: ps, x :: xs, _ => rw [List.zip_cons_cons, tokL]; simp [sepF]
    | [], x :: xs, hd => simp at hd
    | _, [], hd => simp at hd)]
   rfl
 refine Wq.ite (fun h8 => ?_) (fun h8 => ?_)
 . rw [if_neg (by omega), if_neg (by omega), if_neg (by omega), if_neg (by omega), if_neg (by omega), if_neg (by omega), if_pos h8, decide_eq_true_eq] at hd
   rw [if_neg (by omega), if_neg (by omega), if_neg (by omega), if_neg (by omega), if_neg (by omega), if_neg (by omega), if_neg (by omega), if_pos h8]
   obtain ⟨x, y, w, hl⟩ := len3 hd
   have mx : x ∈ e.l := by rw [hl]; simp
   have my : y ∈ e.l := by rw [hl]; simp
   have mw : w ∈ e.l := by rw [hl]; simp
   have hx0 : ((e.l.map fun a => ren (expPT a)).map txt)[0]? = some (txt (ren (expPT x))) := by rw [hl]; rfl
   have hx := ix_49 hx0 .i64
   rw [show ((0 : Nat) : Int) = 0 from rfl] at hx
   have hy0 : ((e.l.map fun a => ren (expPT a)).map txt)[1]? = some (txt (ren (expPT y))) := by rw [hl]; rfl
   have hy := ix_49 hy0 .i64
   rw [show ((1 : Nat) : Int) = 1 from rfl] at hy
   have hw0 : ((e.l.map fun a => ren (expPT a)).map txt)[2]? = some (txt (ren (expPT w))) := by rw [hl]; rfl
   have hw := ix_49 hw0 .i64
   rw [show ((2 : Nat) : Int) = 2 from rfl] at hw
   have g1 := hG x mx
   have g2 := hG y my
   have g3 := hG w mw
   have b1 := hzm x mx
   have b2 := hzm y my
   have b3 := hzm w mw
   simp (disch := ((try simp only [List.length_append, List.length_cons, List.length_nil]); omega)) only [stpF, sttF, List.length_map, sadd, hx, hy, hw]
   refine Wq.retE ?_ hA
   rw [hl]
   show _ = txt (ren (kyT [105, 102] :: (expPT x ++ kyT [116, 104, 101, 110] :: (expPT y ++ kyT [101, 108, 115, 101] :: expPT w))))
   rw [ren_cons (by simp), ren_append (hN x mx) (by simp), ren_cons (by simp), ren_append (hN y my) (by simp), ren_cons (hN w mw)]
   show _ = txt ([105, 102] ++ 32 :: (ren (expPT x) ++ 32 :: ([116, 104, 101, 110] ++ 32 :: (ren (expPT y) ++ 32 :: ([101, 108, 115, 101] ++ 32 :: ren (expPT w))))))
   simp
 refine Wq.ite (fun h9 => ?_) (fun h9 => ?_)
 . rw [if_neg (by omega), if_neg (by omega), if_neg (by omega), if_neg (by omega), if_neg (by omega), if_neg (by omega), if_neg (by omega), if_pos (.inl h9), Bool.and_eq_true, decide_eq_true_eq, decide_eq_true_eq] at hd
   rw [if_neg (by omega), if_neg (by omega), if_neg (by omega), if_neg (by omega), if_neg (by omega), if_neg (by omega), if_neg (by omega), if_neg (by omega), if_neg (by omega), if_neg (by omega), if_pos h9]
   obtain ⟨x, r, hl⟩ : ∃ x r, e.l = x :: r := by
    match hl : e.l, hd with
    | x :: r, _ => exact ⟨x, r, rfl⟩
   have mx : x ∈ e.l := by rw [hl]; simp
   have mr : ∀ a, a ∈ r -> a ∈ e.l := fun a ha => by rw [hl]; simp [ha]
   have hlr : e.l.length = r.length + 1 := by rw [hl]; rfl
   have zl : expsZ e.l = x.z + expsZ r := by rw [hl]; rfl
   have hPx := hP (by simp [h9])
   have hlen := (gt_arms e.p r true (fun p hp => (hPx p hp).2.1) (fun a ha => hGT a (mr a ha))).len
   have hx0 : ((e.l.map fun a => ren (expPT a)).map txt)[0]? = some (txt (ren (expPT x))) := by rw [hl]; rfl
   have hx := ix_49 hx0 .i64
   rw [show ((0 : Nat) : Int) = 0 from rfl] at hx
   have g1 := hG x mx
   have ed : (e.l.map Exp.v).drop 1 = r.map Exp.v := by rw [hl]; rfl
   have hsl1 := fun H => rdSlice_row1 (e.l.map Exp.v) H (by simp; omega)
   rw [ed] at hsl1
   simp (disch := ((try simp only [List.length_append, List.length_cons, List.length_nil]); omega)) only [stpF, sttF, List.length_map, sadd, hx, hsl1]
   refine Wq.call (pu_139 e.p r (by omega) (by omega) hPx (fun a ha => ⟨hE a (mr a ha), hGT a (mr a ha), hN a (mr a ha)⟩)) hA fun H2 nx2 hA2 => ?_
   simp (disch := ((try simp only [List.length_append, List.length_cons, List.length_nil]); omega)) only [stpF, sttF, List.length_map, sadd]
   refine Wq.retE ?_ hA2
   rw [hl]
   show _ = txt (ren (kyT [99, 97, 115, 101] :: (expPT x ++ kyT [111, 102] :: armsT true (e.p.map patPT) ((r.map fun e => (e.k, expI e)).map partE))))
   rw [List.map_map]
   show _ = txt (ren (kyT [99, 97, 115, 101] :: (expPT x ++ kyT [111, 102] :: armsT true (e.p.map patPT) (r.map expPT))))
   rw [ren_cons (by simp), ren_append (hN x mx) (by simp), ren_cons (by
    rw [armsT_zip]
    have h1 : 0 < (e.p.zip r).length := by rw [List.length_zip]; omega
    match hz : e.p.zip r, h1 with
    | y :: ys, _ => rw [tokL]; simp [sepF])]
   show _ = txt ([99, 97, 115, 101] ++ 32 :: (ren (expPT x) ++ 32 :: ([111, 102] ++ 32 :: ren (armsT true (e.p.map patPT) (r.map expPT)))))
   simp
 refine Wq.ite (fun h12 => ?_) (fun h12 => ?_)
 . rw [if_neg (by omega), if_neg (by omega), if_neg (by omega), if_neg (by omega), if_neg (by omega), if_neg (by omega), if_neg (by omega), if_pos (.inr h12), Bool.and_eq_true, decide_eq_true_eq, decide_eq_true_eq] at hd
   rw [if_neg (by omega), if_neg (by omega), if_neg (by omega), if_neg (by omega), if_neg (by omega), if_neg (by omega), if_neg (by omega), if_neg (by omega), if_neg (by omega), if_neg (by omega), if_neg h9, if_pos h12]
   obtain ⟨x, r, hl⟩ : ∃ x r, e.l = x :: r := by
    match hl : e.l, hd with
    | x :: r, _ => exact ⟨x, r, rfl⟩
   have mx : x ∈ e.l := by rw [hl]; simp
   have mr : ∀ a, a ∈ r -> a ∈ e.l := fun a ha => by rw [hl]; simp [ha]
   have hlr : e.l.length = r.length + 1 := by rw [hl]; rfl
   have zl : expsZ e.l = x.z + expsZ r := by rw [hl]; rfl
   have hPx := hP (by simp [h12])
   have hlen := (gt_arms e.p r true (fun p hp => (hPx p hp).2.1) (fun a ha => hGT a (mr a ha))).len
   have hx0 : ((e.l.map fun a => ren (expPT a)).map txt)[0]? = some (txt (ren (expPT x))) := by rw [hl]; rfl
   have hx := ix_49 hx0 .i64
   rw [show ((0 : Nat) : Int) = 0 from rfl] at hx
   have g1 := hG x mx
   have ed : (e.l.map Exp.v).drop 1 = r.map Exp.v := by rw [hl]; rfl
   have hsl1 := fun H => rdSlice_row1 (e.l.map Exp.v) H (by simp; omega)
   rw [ed] at hsl1
   simp (disch := ((try simp only [List.length_append, List.length_cons, List.length_nil]); omega)) only [stpF, sttF, List.length_map, sadd, hx, hsl1]
   refine Wq.call (pu_139 e.p r (by omega) (by omega) hPx (fun a ha => ⟨hE a (mr a ha), hGT a (mr a ha), hN a (mr a ha)⟩)) hA fun H2 nx2 hA2 => ?_
   simp (disch := ((try simp only [List.length_append, List.length_cons, List.length_nil]); omega)) only [stpF, sttF, List.length_map, sadd]
   refine Wq.retE ?_ hA2
   rw [hl]
   show _ = txt (ren (expPT x ++ kyT [104, 97, 110, 100, 108, 101] :: armsT true (e.p.map patPT) ((r.map fun e => (e.k, expI e)).map partE)))
   rw [List.map_map]
   show _ = txt (ren (expPT x ++ kyT [104, 97, 110, 100, 108, 101] :: armsT true (e.p.map patPT) (r.map expPT)))
   rw [ren_append (hN x mx) (by simp), ren_cons (by
    rw [armsT_zip]
    have h1 : 0 < (e.p.zip r).length := by rw [List.length_zip]; omega
    match hz : e.p.zip r, h1 with
    | y :: ys, _ => rw [tokL]; simp [sepF])]
   show _ = txt (ren (expPT x) ++ 32 :: ([104, 97, 110, 100, 108, 101] ++ 32 :: ren (armsT true (e.p.map patPT) (r.map expPT))))
   simp
 rw [if_neg h5, if_neg h13, if_neg h6, if_neg h7, if_neg h8, if_neg (show ¬(e.k = 9 \/ e.k = 12) by omega)] at hd
 refine Wq.ite (fun h11 => ?_) (fun h11 => ?_)
 . rw [if_neg (by omega), if_neg (by omega), if_pos h11, decide_eq_true_eq] at hd
   rw [if_neg (by omega), if_neg (by omega), if_neg (by omega), if_neg (by omega), if_neg (by omega), if_neg (by omega), if_neg (by omega), if_neg (by omega), if_pos h11, hmm]
   obtain ⟨x, hl⟩ : ∃ x, e.l = [x] := List.length_eq_one_iff.1 hd
   have mx : x ∈ e.l := by rw [hl]; simp
   have hx0 : ((e.l.map fun a => ren (expPT a)).map txt)[0]? = some (txt (ren (expPT x))) := by rw [hl]; rfl
   have hx := ix_49 hx0 .i64
   rw [show ((0 : Nat) : Int) = 0 from rfl] at hx
   have g1 := hG x mx
   have b1 := hzm x mx
   simp (disch := ((try simp only [List.length_append, List.length_cons, List.length_nil]); omega)) only [stpF, sttF, List.length_map, sadd, hx]
   refine Wq.retE ?_ hA
   rw [ren_cons (hrowne e.l _ hN (by rw [hl]; simp)), hsep e.l _ hN, hl]
   show _ = txt ([114, 97, 105, 115, 101] ++ 32 :: (ren (expPT x) ++ []))
   simp
 rw [if_neg h11] at hd
 refine Wq.ite (fun h14 => ?_) (fun h14 => ?_)
 . rw [if_neg (by omega), if_neg (by omega), if_pos h14, Bool.and_eq_true, decide_eq_true_eq] at hd
   rw [if_neg (by omega), if_neg (by omega), if_neg (by omega), if_neg (by omega), if_pos h14]
   obtain ⟨x, y, hl⟩ := len2 hd.1
   have mx : x ∈ e.l := by rw [hl]; simp
   have my : y ∈ e.l := by rw [hl]; simp
   have hx0 : ((e.l.map fun a => ren (expPT a)).map txt)[0]? = some (txt (ren (expPT x))) := by rw [hl]; rfl
   have hx := ix_49 hx0 .i64
   rw [show ((0 : Nat) : Int) = 0 from rfl] at hx
   have hy0 : ((e.l.map fun a => ren (expPT a)).map txt)[1]? = some (txt (ren (expPT y))) := by rw [hl]; rfl
   have hy := ix_49 hy0 .i64
   rw [show ((1 : Nat) : Int) = 1 from rfl] at hy
   have g1 := hG x mx
   have g2 := hG y my
   have b1 := hzm x mx
   have b2 := hzm y my
   simp (disch := ((try simp only [List.length_append, List.length_cons, List.length_nil]); omega)) only [stpF, sttF, List.length_map, sadd, hx, hy]
   refine Wq.retE ?_ hA
   rw [hl]
   show _ = txt (ren (expPT x ++ opT e.s :: expPT y))
   have hop : tokText (opT e.s) = e.s := by unfold opT; split <;> (split <;> rfl)
   rw [ren_append (hN x mx) (by simp), ren_cons (hN y my), hop]
   simp
 refine Wq.ite (fun h15 => ?_) (fun h15 => ?_)
 . rw [if_neg (by omega), if_neg (by omega), if_neg h14, if_pos h15, Bool.and_eq_true, decide_eq_true_eq] at hd
   rw [if_neg (by omega), if_neg (by omega), if_neg (by omega), if_neg (by omega), if_neg h14, if_pos h15]
   obtain ⟨x, hl⟩ : ∃ x, e.l = [x] := List.length_eq_one_iff.1 hd.1
   have mx : x ∈ e.l := by rw [hl]; simp
   have hx0 : ((e.l.map fun a => ren (expPT a)).map txt)[0]? = some (txt (ren (expPT x))) := by rw [hl]; rfl
   have hx := ix_49 hx0 .i64
   rw [show ((0 : Nat) : Int) = 0 from rfl] at hx
   have g1 := hG x mx
   have b1 := hzm x mx
   simp (disch := ((try simp only [List.length_append, List.length_cons, List.length_nil]); omega)) only [stpF, sttF, List.length_map, sadd, hx]
   refine Wq.retE ?_ hA
   rw [hl]
   show _ = txt (ren (opT e.s :: expPT x))
   have hop : tokText (opT e.s) = e.s := by unfold opT; split <;> (split <;> rfl)
   rw [ren_cons (hN x mx), hop]
   simp
 refine Wq.ite (fun h10 => ?_) (fun h10 => ?_)
 . rw [if_neg (by omega), if_neg (by omega), if_neg h14, if_neg h15, if_pos h10, Bool.and_eq_true, decide_eq_true_eq] at hd
   rw [if_neg (by omega), if_neg (by omega), if_neg (by omega), if_pos h10]
   obtain ⟨x, hl⟩ : ∃ x, e.l = [x] := List.length_eq_one_iff.1 hd.2
   have mx : x ∈ e.l := by rw [hl]; simp
   have hxo := (Exp.ok_iff x).1 (hl2 x mx)
   have hxz := x.z_eq
   have b1 := hzm x mx
   have hx0 : ((e.l.map fun a => ren (expPT a)).map txt)[0]? = some (txt (ren (expPT x))) := by rw [hl]; rfl
   have hx := ix_49 hx0 .i64
   rw [show ((0 : Nat) : Int) = 0 from rfl] at hx
   have hv0 : (e.l.map Exp.v)[0]? = some x.v := by rw [hl]; rfl
   have hv := ix_41 hv0 .i64
   rw [show ((0 : Nat) : Int) = 0 from rfl] at hv
   have g1 := hG x mx
   have hdz : ∀ d, d ∈ e.d -> d.z <= 500 := fun d hd => by have := decsZ_mem hd; omega
   have hdlen := decsZ_len e.d
   have hDN : ∀ d, d ∈ e.d -> decT d ≠ [] := fun d hd => ne_dec d (hDr h10 d hd)
   have hdB : ∀ l : List Dec, (∀ d, d ∈ l -> d ∈ e.d) -> (decsB l).length <= 100 * decsZ l := by
    intro l
    induction l with
    | nil => intro _; simp [decsB]
    | cons d l ih =>
      intro h
      have h1 := ih fun d hd => h d (by simp [hd])
      have h2 := (gt_dec d (hDr h10 d (h d (by simp))) (hd2 d (h d (by simp)))).len
      have h3 := d.z_pos
      rw [decsB, decsZ]
      simp only [List.length_append, List.length_cons]
      omega
   have eT : ren (match (e.l.map fun e => (e.k, expI e)) with | [x] => kyT [108, 101, 116] :: (((e.d.map decT).flatMap fun d => d ++ [sgT [59]]) ++ kyT [105, 110] :: ((if x.1 = 13 then rowL [59] x.2.2 else partE x) ++ [kyT [101, 110, 100]])) | _ => []) = [108, 101, 116, 32] ++ (decsB e.d ++ ([105, 110, 32] ++ ((if x.k = 13 then joinB [59] (x.l.map fun a => ren (expPT a)) else ren (expPT x)) ++ [32, 101, 110, 100]))) := by
    rw [hl]
    show ren (kyT [108, 101, 116] :: (((e.d.map decT).flatMap fun d => d ++ [sgT [59]]) ++ kyT [105, 110] :: ((if x.k = 13 then rowL [59] (expI x).2 else expPT x) ++ [kyT [101, 110, 100]]))) = _
    rw [List.flatMap_map, ren_cons (by simp), ren_decs e.d _ (by simp) hDN]
    have hbody : ren ((if x.k = 13 then rowL [59] (expI x).2 else expPT x) ++ [kyT [101, 110, 100]]) = (if x.k = 13 then joinB [59] (x.l.map fun a => ren (expPT a)) else ren (expPT x)) ++ [32, 101, 110, 100] := by
     by_cases h : x.k = 13
     . rw [if_pos h, if_pos h, expI_eq x]
       show ren (rowL [59] (x.l.map expPT) ++ _) = _
       have hxr : expR x = true := all_mem' hrl mx
       rw [expR_k] at hxr
       simp only [Bool.and_eq_true] at hxr
       have hxl : x.l ≠ [] := fun q => by
        have := hxr.2.2.2.2.2
        unfold expHd at this
        rw [if_neg (by omega), if_neg (by omega), if_neg (by omega), if_neg (by omega), if_neg (by omega), if_pos h, decide_eq_true_eq, q] at this
        simp at this
       have hxN : ∀ a, a ∈ x.l -> expPT a ≠ [] := fun a ha => by
        have := hxr.2.1
        rw [expsRt_all] at this
        exact ne_expPT (ne_exp a (all_mem' this ha))
       rw [ren_append (hrowne x.l _ hxN hxl) (by simp), hsep x.l _ hxN]
       rfl
     . rw [if_neg h, if_neg h, ren_append (hN x mx) (by simp)]
       rfl
    rw [ren_cons (by simp), hbody]
    show [108, 101, 116] ++ 32 :: (decsB e.d ++ ([105, 110] ++ 32 :: _)) = _
    simp
   refine Eq.mp (congrArg (fun z => Wq P pl X0 (.jump (l81_67 (eptrV e.v) (strsR (e.l.map fun a => ren (expPT a))) (txt [108, 101, 116, 32]) (i64 0) H1 nx1)) nx H (txt z)) eT.symm) ?_
   have key : ∀ (r : List Dec) (i : Nat) (out : List UInt8) (H2 : T OB) (nx2 : Nat), e.d.drop i = r -> i <= e.d.length -> out ++ decsB r = [108, 101, 116, 32] ++ decsB e.d -> out.length + 100 * decsZ r <= 60000 -> Ag nx H nx2 H2 -> Wq P pl X0 (.jump (l81_67 (eptrV e.v) (strsR (e.l.map fun a => ren (expPT a))) (txt out) (i64 (i : Int)) H2 nx2)) nx H (txt ([108, 101, 116, 32] ++ (decsB e.d ++ ([105, 110, 32] ++ ((if x.k = 13 then joinB [59] (x.l.map fun a => ren (expPT a)) else ren (expPT x)) ++ [32, 101, 110, 100]))))) := by
    intro r
    induction r with
    | nil =>
      intro i out H2 nx2 hd hi ho hw hA
      have hil := drop_nil hd hi
      rw [decsB, List.append_nil] at ho
      refine Wq.jmp (q81_67 ..) (fun _ => rfl) ?_
      simp (disch := ((try simp only [List.length_append, List.length_cons, List.length_nil]); omega)) only [stpF, sttF, List.length_map, sadd, hil, not_lt_len, hv, hx]
      refine Wq.ite (fun hk13 => ?_) (fun hk13 => ?_)
      . rw [if_pos hk13]
        have hxG := hGT2 x mx
        have hjx := hj x.l (fun a ha => (hxG a ha).len) (by omega) [59] (by simp)
        have hbx := hB x.l [59] hjx
        have hxlen := expsZ_len x.l
        refine Wq.call (pu_138 x.l (by omega) (hE2 x mx)) hA fun H3 nx3 hA3 => ?_
        refine Wq.call (pu_83 [59] _ (by rw [List.length_map]; exact hxo.2.2.1.1) hjx) hA3 fun H4 nx4 hA4 => ?_
        simp (disch := ((try simp only [List.length_append, List.length_cons, List.length_nil]); omega)) only [stpF, sttF, List.length_map, sadd]
        refine Wq.retE ?_ hA4
        rw [ho]
        simp
      . rw [if_neg hk13]
        refine Wq.retE ?_ hA
        rw [ho]
        simp
    | cons d r ih' =>
      intro i out H2 nx2 hd hi ho hw hA
      obtain ⟨hg, hlt, hd'⟩ := drop_cons hd
      have hxd : (e.d.map Dec.v)[i]? = some d.v := by simp [hg]
      have hm := List.mem_of_getElem? hg
      have h2 := (gt_dec d (hDr h10 d hm) (hd2 d hm)).len
      have h3 := d.z_pos
      rw [decsZ] at hw
      refine Wq.jmp (q81_67 ..) (fun _ => rfl) ?_
      simp only [stpF, sttF, List.length_map, is_lt_len hlt, ix_24 hxd]
      refine Wq.call (ihD d hm (hDr h10 d hm) (hd2 d hm) (hdz d hm)) hA fun H3 nx3 hA3 => ?_
      simp (disch := ((try simp only [List.length_append, List.length_cons, List.length_nil]); omega)) only [stpF, sttF, List.length_map, sadd, wrap_succ (show i < 9223372036854775807 by omega)]
      refine ih' (i + 1) _ H3 nx3 hd' (by omega) ?_ ?_ hA3
      . rw [<- ho, decsB]; simp
      . simp only [List.length_append, List.length_cons, List.length_nil]; omega
   exact key e.d 0 [108, 101, 116, 32] _ _ rfl (Nat.zero_le _) rfl (by simp; omega) hA
 . refine Wq.jmp (q81_78 ..) (fun _ => rfl) ?_
   simp only [stpF, sttF, List.length_map]
   refine Wq.retE ?_ hA
   rw [if_neg h14, if_neg h15, if_neg h10] at hd
   by_cases h34 : e.k = 3 \/ e.k = 4
   . rw [if_pos (.inr h34)]
     rcases h34 with h | h <;> (rw [h]; rfl)
   . rw [if_neg (by omega), if_neg (by omega)] at hd; cases hd
end
end Go.Proofs.YthjhonhhbddhkaaGreatDoor
/- Declarations as texts: the document's answer; both print the same. -/
namespace Go.Proofs.YthjhonhhbddhkaaGreatDoor
open Go.Ev Go.RowKit
noncomputable section
set_option maxRecDepth 100000
set_option linter.unusedVariables false
set_option linter.unusedSimpArgs false
variable {nx0 nx : Nat} {H0 H : T OB} {R : Value -> T OB -> Nat -> Prop}
theorem ren_fn (f : Fn) (hP : ∀ p, p ∈ f.p -> patPT p ≠ []) (hb : expT f.b ≠ []) : ren (fnT f) = f.s ++ ((f.p.flatMap fun p => 32 :: ren (patPT p)) ++ ([32, 61, 32] ++ ren (expT f.b))) := by
 have key : ∀ (l : List Pat) (a x : List Tok), a ≠ [] -> x ≠ [] -> (∀ p, p ∈ l -> patPT p ≠ []) -> ren (a ++ (l.flatMap patPT ++ x)) = ren a ++ ((l.flatMap fun p => 32 :: ren (patPT p)) ++ 32 :: ren x) := by
  intro l
  induction l with
  | nil => intro a x ha hx _; rw [List.flatMap_nil, List.nil_append, ren_append ha hx]; rfl
  | cons p l ih =>
    intro a x ha hx h
    have hp := h p (by simp)
    rw [List.flatMap_cons, List.append_assoc, <- List.append_assoc, ih (a ++ patPT p) x (by simp [ha]) hx (fun q hq => h q (by simp [hq])), ren_append ha hp, List.flatMap_cons]
    simp
 rw [fnT_eq]
 have h1 := key f.p [⟨3, f.s, 0, 0⟩] (sgT [61] :: expT f.b) (by simp) (by simp) hP
 rw [show (⟨3, f.s, 0, 0⟩ : Tok) :: (f.p.flatMap patPT ++ sgT [61] :: expT f.b) = [⟨3, f.s, 0, 0⟩] ++ (f.p.flatMap patPT ++ sgT [61] :: expT f.b) from rfl, h1, ren_cons hb]
 show f.s ++ ((f.p.flatMap fun p => 32 :: ren (patPT p)) ++ 32 :: ([61] ++ 32 :: ren (expT f.b))) = _
 simp
theorem ne_fn (f : Fn) : fnT f ≠ [] := by rw [fnT_eq]; simp
theorem pu_44 (d : Dec) (ihE : ExpX d.e) (ihF : ∀ f, f ∈ d.f -> ExpX f.b) : DecX d := fun hr hok hz => Pure.of rfl fun H nx => by
 have hr0 := hr
 rw [Dec.ok_iff] at hok
 obtain ⟨hp, he, ⟨hf1, hf2⟩, hx, hc⟩ := hok
 have hze := d.z_eq
 rw [decR_eq] at hr
 rw [q44]
 refine Wq.natF' (.refl _ _) fun hA => ?_
 simp only [stpF, sttF, List.length_map]
 rw [decT_eq]
 refine Wq.ite (fun h1 => ?_) (fun h1 => ?_)
 . rw [if_pos h1, Bool.and_eq_true, Bool.and_eq_true] at hr
   rw [if_pos h1]
   have g1 := (gt_pat d.p hr.2.1 hp).1.len
   have g2 := (gt_exp d.e hr.2.2 he).1.len
   have z1 := d.p.z_pos
   have z2 := d.e.z_pos
   refine Wq.call (pu_80 d.p hr.2.1 hp (by omega)).1 hA fun H1 nx1 hA1 => ?_
   simp (disch := ((try simp only [List.length_append, List.length_cons, List.length_nil]); omega)) only [stpF, sttF, List.length_map, sadd]
   refine Wq.call (ihE hr.2.2 he (by omega)).1 hA1 fun H2 nx2 hA2 => ?_
   simp (disch := ((try simp only [List.length_append, List.length_cons, List.length_nil]); omega)) only [stpF, sttF, List.length_map, sadd]
   refine Wq.retE ?_ hA2
   rw [ren_cons (by simp), ren_append (ne_pat d.p hr.2.1) (by simp), ren_cons (ne_exp d.e hr.2.2)]
   show _ = txt ([118, 97, 108] ++ 32 :: (ren (patT d.p) ++ 32 :: ([61] ++ 32 :: ren (expT d.e))))
   simp
 rw [if_neg h1] at hr ⊢
 refine Wq.ite (fun h2 => ?_) (fun h2 => ?_)
 . rw [if_neg (by omega), if_pos h2, Bool.and_eq_true, Bool.and_eq_true, decide_eq_true_eq, fnsRt_all] at hr
   rw [if_pos h2]
   have hflen := fnsZ_len d.f
   have hfr : ∀ f, f ∈ d.f -> wordOk 3 f.s = true /\ (∀ p, p ∈ f.p -> patR p = true) /\ expR f.b = true := fun f hf => by
    have := all_mem' hr.1 hf
    rw [fnR_eq, Bool.and_eq_true, Bool.and_eq_true, Bool.and_eq_true, patsRt_all] at this
    exact ⟨this.1, fun p hp => all_mem' this.2.2.1 hp, this.2.2.2⟩
   have hfo : ∀ f, f ∈ d.f -> sOk f.s /\ (∀ p, p ∈ f.p -> p.ok) /\ f.b.ok := fun f hf => by
    have := (Fn.ok_iff f).1 (hf2 f hf)
    exact ⟨this.1, this.2.1.2, this.2.2⟩
   have hfz : ∀ f, f ∈ d.f -> f.z <= fnsZ d.f := fun f hf => fnsZ_mem hf
   have hPN : ∀ f, f ∈ d.f -> ∀ p, p ∈ f.p -> patPT p ≠ [] := fun f hf p hp => ne_patPT (ne_pat p ((hfr f hf).2.1 p hp))
   have hPG : ∀ f, f ∈ d.f -> ∀ p, p ∈ f.p -> (ren (patPT p)).length <= 100 * p.z - 10 := fun f hf p hp => (gt_pat p ((hfr f hf).2.1 p hp) ((hfo f hf).2.1 p hp)).2.1.len
   have hFT : ∀ f, f ∈ d.f -> (ren (fnT f)).length <= 100 * f.z - 10 := fun f hf => by
    rw [ren_fn f (hPN f hf) (ne_exp f.b (hfr f hf).2.2)]
    have e1 := f.z_eq
    have g2 := (gt_exp f.b (hfr f hf).2.2 (hfo f hf).2.2).1.len
    have zb := f.b.z_pos
    have hmod := Nat.mod_lt f.s.length (show 0 < 8 by omega)
    have hdm := Nat.div_add_mod f.s.length 8
    have hsum : ∀ l : List Pat, (∀ p, p ∈ l -> (ren (patPT p)).length <= 100 * p.z - 10) -> (l.flatMap fun p => 32 :: ren (patPT p)).length <= 100 * patsZ l := by
     intro l
     induction l with
     | nil => intro _; simp
     | cons p l ih =>
       intro h
       have h1 := h p (by simp)
       have h2 := ih fun q hq => h q (by simp [hq])
       have h3 := p.z_pos
       rw [List.flatMap_cons, patsZ]
       simp only [List.length_append, List.length_cons]
       omega
    have := hsum f.p (hPG f hf)
    simp only [List.length_append, List.length_cons, List.length_nil]
    omega
   have hj : (joinT [97, 110, 100] (d.f.map fun f => ren (fnT f))).length <= 1000000 := by
    have := joinT_le [97, 110, 100] (fun f => ren (fnT f)) Fn.z d.f (fun f hf => by have := hFT f hf; have := f.z_pos; simp only [List.length_cons, List.length_nil]; omega)
    rw [sumZ_fns] at this
    omega
   have key : ∀ (r : List Fn) (i : Nat) (sl : Value) (H1 : T OB) (nx1 : Nat), d.f.drop i = r -> i <= d.f.length -> SS nx H1 nx1 ((d.f.take i).map fun f => ren (fnT f)) sl -> Ag nx H nx1 H1 -> Wq P pl X0 (.jump (l44_17 (eptrV d.v) sl (i64 (i : Int)) H1 nx1)) nx H (txt (ren (fnsT true d.f))) := by
    intro r
    induction r with
    | nil =>
      intro i sl H1 nx1 hd hi hS hA
      have hil := drop_nil hd hi
      refine Wq.jmp (q44_17 ..) (fun _ => rfl) ?_
      simp only [stpF, sttF, List.length_map, hil, not_lt_len]
      rw [hil, List.take_length] at hS
      refine Wq.joinS hS (by rw [List.length_map]; exact hf1) hj hA fun H2 nx2 hA2 => ?_
      have hjb : (joinB [97, 110, 100] (d.f.map fun f => ren (fnT f))).length <= 1000000 := by
       cases hm : d.f.map fun f => ren (fnT f) with
       | nil => simp [joinB]
       | cons x l =>
         rw [hm, joinT] at hj
         simp only [List.length_cons, List.length_append] at hj
         rw [joinB, List.length_append]
         omega
      simp (disch := ((try simp only [List.length_append, List.length_cons, List.length_nil]); omega)) only [stpF, sttF, List.length_map, sadd]
      refine Wq.retE ?_ hA2
      rw [fnsT_eq]
      cases hdf : d.f with
      | nil => rw [hdf] at hr; exact absurd hr.2.1 (by simp)
      | cons a l =>
        rw [tokL]
        have h1 := ren_hd (fun b f => kyT (if b = true then [102, 117, 110] else [97, 110, 100]) :: fnT f) fnT (kyT [97, 110, 100]) (fun f => rfl) l (kyT [102, 117, 110] :: fnT a) (by simp) (fun x _ => ne_fn x)
        show _ = txt (ren ((kyT [102, 117, 110] :: fnT a) ++ _))
        rw [h1, ren_cons (ne_fn a)]
        show _ = txt ([102, 117, 110] ++ 32 :: ren (fnT a) ++ joinT [97, 110, 100] (l.map fun f => ren (fnT f)))
        rw [List.map_cons, joinB]
        simp
    | cons f r ih' =>
      intro i sl H1 nx1 hd hi hS hA
      obtain ⟨hg, hlt, hd'⟩ := drop_cons hd
      have hx : (d.f.map Fn.v)[i]? = some f.v := by simp [hg]
      have hm := List.mem_of_getElem? hg
      have b0 := hfz f hm
      have hfze := f.z_eq
      have hplen := patsZ_len f.p
      have e : d.f.take (i + 1) = d.f.take i ++ [f] := by
       rw [List.take_add_one, hg]; rfl
      have hsl := (hfo f hm).1
      unfold sOk at hsl
      refine Wq.jmp (q44_17 ..) (fun _ => rfl) ?_
      simp only [stpF, sttF, List.length_map, is_lt_len hlt, ix_48 hx]
      refine Wq.varB zero_65 sz_65 rfl (nFn _) (oFn _) hA fun H2 nx2 hA2 hn2 hk2 => ?_
      have hS2 := hS.keep' hn2 hk2
      have h82 := pu_82 f.p (by omega) (fun p hp => (pu_80 p ((hfr f hm).2.1 p hp) ((hfo f hm).2.1 p hp) (by have := patsZ_mem hp; omega)).2.1)
      refine Wq.callPB h82 hA2 fun H3 nx3 hA3 hB3 => ?_
      have hS3 := hS2.keep hB3
      have key2 : ∀ (q : List Pat) (k : Nat) (out : List UInt8), f.p.drop k = q -> k <= f.p.length -> out ++ (q.flatMap fun p => 32 :: ren (patPT p)) = f.s ++ (f.p.flatMap fun p => 32 :: ren (patPT p)) -> out.length + 100 * patsZ q <= 200000 -> Wq P pl X0 (.jump (l44_29 (eptrV d.v) sl (i64 (i : Int)) (eptrV f.v) (txt out) (strsR (f.p.map fun p => ren (patPT p))) (i64 (k : Int)) H3 nx3)) nx H (txt (ren (fnsT true d.f))) := by
       intro q
       induction q with
       | nil =>
         intro k out hd2 hi2 ho hw
         have hil := drop_nil hd2 hi2
         have g2 := (gt_exp f.b (hfr f hm).2.2 (hfo f hm).2.2).1.len
         have zb : f.b.z <= 500 := by omega
         rw [List.flatMap_nil, List.append_nil] at ho
         refine Wq.jmp (q44_29 ..) (fun _ => rfl) ?_
         simp (disch := ((try simp only [List.length_append, List.length_cons, List.length_nil]); omega)) only [stpF, sttF, List.length_map, sadd, hil, not_lt_len]
         refine Wq.callPB (ihF f hm (hfr f hm).2.2 (hfo f hm).2.2 (by omega)).1 hA3 fun H4 nx4 hA4 hB4 => ?_
         simp (disch := ((try simp only [List.length_append, List.length_cons, List.length_nil]); omega)) only [stpF, sttF, List.length_map, sadd]
         refine Wq.addS (x := (out ++ [32, 61, 32]) ++ ren (expT f.b)) (hS3.keep hB4) (by simp; omega) hA4 fun H5 sl5 nx5 hS5 hA5 => ?_
         simp only [stpF, wrap_succ (show i < 9223372036854775807 by omega)]
         refine ih' (i + 1) sl5 H5 nx5 hd' (by omega) ?_ hA5
         rw [e, List.map_append, List.map_singleton, ren_fn f (hPN f hm) (ne_exp f.b (hfr f hm).2.2)]
         have e2 : (out ++ [32, 61, 32]) ++ ren (expT f.b) = f.s ++ ((f.p.flatMap fun p => 32 :: ren (patPT p)) ++ ([32, 61, 32] ++ ren (expT f.b))) := by
          rw [ho]; simp
         rw [<- e2]
         exact hS5
       | cons p q ih2 =>
         intro k out hd2 hi2 ho hw
         obtain ⟨hg2, hlt2, hd2'⟩ := drop_cons hd2
         have hm2 := List.mem_of_getElem? hg2
         have hlt3 : k < (f.p.map fun p => ren (patPT p)).length := by rw [List.length_map]; exact hlt2
         have hx2 : ((f.p.map fun p => ren (patPT p)).map txt)[k]? = some (txt (ren (patPT p))) := by simp [hg2]
         have g1 := hPG f hm p hm2
         have zp := patsZ_mem hm2
         rw [patsZ] at hw
         refine Wq.jmp (q44_29 ..) (fun _ => rfl) ?_
         simp (disch := ((try simp only [List.length_append, List.length_cons, List.length_nil]); omega)) only [stpF, sttF, List.length_map, sadd, is_lt_len hlt2, ix_49 hx2, wrap_succ (show k < 9223372036854775807 by omega)]
         refine ih2 (k + 1) _ hd2' (by omega) ?_ ?_
         . rw [<- ho, List.flatMap_cons]; simp
         . have := p.z_pos; simp only [List.length_append, List.length_cons, List.length_nil]; omega
      exact key2 f.p 0 f.s rfl (Nat.zero_le _) rfl (by
       have hmod := Nat.mod_lt f.s.length (show 0 < 8 by omega)
       have hdm := Nat.div_add_mod f.s.length 8
       omega)
   exact key d.f 0 _ _ _ rfl (Nat.zero_le _) (SS.nil _ _ _) hA
 rw [if_neg h2]
 refine Wq.ite (fun h3 => ?_) (fun h3 => ?_)
 . rw [if_neg (by omega), if_neg h2, if_pos h3, Bool.and_eq_true, Bool.and_eq_true, Bool.and_eq_true, Bool.and_eq_true, varsRt_all, consRt_all, decide_eq_true_eq] at hr
   rw [if_pos h3]
   obtain ⟨⟨hv1, hv2⟩, hns, hc1, hc2⟩ := hx
   have hxz : d.x.z = strsZ d.x.vars + d.x.s.length / 8 + consZ d.x.cons := rfl
   have hclen := consZ_len d.x.cons
   have hvlen := strsZ_len d.x.vars
   have hsl := hns
   unfold sOk at hsl
   have hCR : ∀ c, c ∈ d.x.cons -> conR c = true := fun c hc => all_mem' hr.2.1 hc
   have hCG : ∀ c, c ∈ d.x.cons -> (ren (conT c)).length <= 100 * c.z - 20 := fun c hc => (gt_con c (hCR c hc) (hc2 c hc)).len
   have hCN : ∀ c, conT c ≠ [] := fun c => by unfold conT; simp
   have hj : (joinT [124] (d.x.cons.map fun c => ren (conT c))).length <= 1000000 := by
    have := joinT_le [124] (fun c => ren (conT c)) Con.z d.x.cons (fun c hc => by have := hCG c hc; have := c.z_pos; simp only [List.length_cons, List.length_nil]; omega)
    rw [sumZ_cons] at this
    omega
   have hjb : ∀ (s : List UInt8) (l : List (List UInt8)), (joinT s l).length <= 1000000 -> (joinB s l).length <= 1000000 := fun s l hj => by
    cases l with
    | nil => simp [joinB]
    | cons x l =>
      rw [joinT] at hj
      simp only [List.length_cons, List.length_append] at hj
      rw [joinB, List.length_append]
      omega
   have hvz : ∀ l : List (List UInt8), sumN (fun s => 1 + s.length / 8) l = strsZ l := by
    intro l
    induction l with
    | nil => rfl
    | cons a l ih => rw [sumN, ih, strsZ]
   have hjv : (joinT [44] d.x.vars).length <= 1000000 := by
    have := joinT_le [44] (fun s => s) (fun s => 1 + s.length / 8) d.x.vars (fun s hs => by
     have hmod := Nat.mod_lt s.length (show 0 < 8 by omega)
     have hdm := Nat.div_add_mod s.length 8
     simp only [List.length_cons, List.length_nil]; omega)
    rw [hvz, List.map_id'] at this
    omega
   obtain ⟨vt, hvt⟩ : ∃ vt : List UInt8, vt = if d.x.vars.length = 1 then joinB [44] d.x.vars ++ [32] else if 1 < d.x.vars.length then 40 :: 32 :: (joinB [44] d.x.vars ++ [32, 41]) ++ [32] else [] := ⟨_, rfl⟩
   have hvl : vt.length <= 1000010 := by
    have := hjb _ _ hjv
    rw [hvt]
    split
    . rw [List.length_append]; simp; omega
    . split
      . simp only [List.length_append, List.length_cons, List.length_nil]; omega
      . simp
   have hvs : ∀ x, x ∈ d.x.vars -> (fun s => [(⟨5, s, 0, 0⟩ : Tok)]) x ≠ [] := fun x _ => by simp
   have hren : ren (dataT d.x) = [100, 97, 116, 97, 116, 121, 112, 101, 32] ++ (vt ++ (d.x.s ++ ([32, 61, 32] ++ joinB [124] (d.x.cons.map fun c => ren (conT c))))) := by
    have hcons : ren (⟨3, d.x.s, 0, 0⟩ :: tokL (fun b c => sgT (if b = true then [61] else [124]) :: conT c) true d.x.cons) = d.x.s ++ ([32, 61, 32] ++ joinB [124] (d.x.cons.map fun c => ren (conT c))) := by
     cases hcs : d.x.cons with
     | nil => rw [hcs] at hr; exact absurd hr.2.2.2.1 (by simp)
     | cons a l =>
       rw [tokL]
       have h1 := ren_hd (fun b c => sgT (if b = true then [61] else [124]) :: conT c) conT (sgT [124]) (fun c => rfl) l (⟨3, d.x.s, 0, 0⟩ :: (sgT [61] :: conT a)) (by simp) (fun x _ => hCN x)
       show ren ((⟨3, d.x.s, 0, 0⟩ :: (sgT [61] :: conT a)) ++ _) = _
       rw [h1, ren_cons (by simp), ren_cons (hCN a)]
       show d.x.s ++ 32 :: ([61] ++ 32 :: ren (conT a)) ++ joinT [124] (l.map fun c => ren (conT c)) = _
       rw [List.map_cons, joinB]
       simp
    have hvars : ∀ r : List Tok, r ≠ [] -> ren ((if 1 < d.x.vars.length then [sgT [40]] else []) ++ (tokL (sepF [44] fun s => [(⟨5, s, 0, 0⟩ : Tok)]) true d.x.vars ++ ((if 1 < d.x.vars.length then [sgT [41]] else []) ++ r))) = vt ++ ren r := fun r hrn => by
     rw [hvt]
     have hsep := ren_sep [44] (fun s => [(⟨5, s, 0, 0⟩ : Tok)]) rfl d.x.vars hvs
     have hid : (d.x.vars.map fun x => ren [(⟨5, x, 0, 0⟩ : Tok)]) = d.x.vars := by
      have : (fun x : List UInt8 => ren [(⟨5, x, 0, 0⟩ : Tok)]) = fun x => x := rfl
      rw [this, List.map_id']
     rw [hid] at hsep
     by_cases g1 : d.x.vars.length = 1
     . rw [if_pos g1, if_neg (by omega), if_neg (by omega), List.nil_append, List.nil_append, ren_append (by
        match hdv : d.x.vars, g1 with
        | [x], _ => simp [tokL, sepF]) hrn, hsep]
       simp
     . rw [if_neg g1]
       by_cases g2 : 1 < d.x.vars.length
       . rw [if_pos g2, if_pos g2, if_pos g2]
         have hne : tokL (sepF [44] fun s => [(⟨5, s, 0, 0⟩ : Tok)]) true d.x.vars ≠ [] := by
          match hdv : d.x.vars, g2 with
          | x :: y :: l, _ => simp [tokL, sepF]
         show ren (sgT [40] :: (_ ++ sgT [41] :: r)) = _
         rw [ren_cons (by simp), ren_append hne (by simp), ren_cons hrn, hsep]
         show [40] ++ 32 :: (joinB [44] d.x.vars ++ 32 :: ([41] ++ 32 :: ren r)) = _
         simp
       . rw [if_neg g2, if_neg g2, if_neg g2]
         have hdv : d.x.vars = [] := List.eq_nil_of_length_eq_zero (by omega)
         rw [hdv]
         rfl
    unfold dataT
    rw [ren_cons (by simp), hvars _ (by simp), hcons]
    show [100, 97, 116, 97, 116, 121, 112, 101] ++ 32 :: _ = _
    simp
   rw [hren]
   have key : ∀ (r : List Con) (i : Nat) (sl : Value) (H1 : T OB) (nx1 : Nat), d.x.cons.drop i = r -> i <= d.x.cons.length -> SS nx H1 nx1 ((d.x.cons.take i).map fun c => ren (conT c)) sl -> Ag nx H nx1 H1 -> Wq P pl X0 (.jump (l44_45 (eptrV d.v) sl (i64 (i : Int)) H1 nx1)) nx H (txt ([100, 97, 116, 97, 116, 121, 112, 101, 32] ++ (vt ++ (d.x.s ++ ([32, 61, 32] ++ joinB [124] (d.x.cons.map fun c => ren (conT c))))))) := by
    intro r
    induction r with
    | nil =>
      intro i sl H1 nx1 hd hi hS hA
      have hil := drop_nil hd hi
      rw [hil, List.take_length] at hS
      have L60 : ∀ H2 nx2, SS nx H2 nx2 (d.x.cons.map fun c => ren (conT c)) sl -> Ag nx H nx2 H2 -> Wq P pl X0 (.jump (l44_60 (eptrV d.v) sl (txt vt) H2 nx2)) nx H (txt ([100, 97, 116, 97, 116, 121, 112, 101, 32] ++ (vt ++ (d.x.s ++ ([32, 61, 32] ++ joinB [124] (d.x.cons.map fun c => ren (conT c))))))) := by
       intro H2 nx2 hS2 hA2
       refine Wq.jmp (q44_60 ..) (fun _ => rfl) ?_
       simp (disch := ((try simp only [List.length_append, List.length_cons, List.length_nil]); omega)) only [stpF, sttF, List.length_map, sadd]
       refine Wq.joinS hS2 (by rw [List.length_map]; exact hc1) hj hA2 fun H3 nx3 hA3 => ?_
       have := hjb _ _ hj
       simp (disch := ((try simp only [List.length_append, List.length_cons, List.length_nil]); omega)) only [stpF, sttF, List.length_map, sadd]
       refine Wq.retE ?_ hA3
       simp
      refine Wq.jmp (q44_45 ..) (fun _ => rfl) ?_
      simp only [stpF, sttF, List.length_map, hil, not_lt_len, nat_eq1, nat_gt1]
      refine Wq.ite (fun g1 => ?_) (fun g1 => ?_)
      . obtain ⟨x, hdv⟩ : ∃ x, d.x.vars = [x] := List.length_eq_one_iff.1 g1
        have hx0 : (d.x.vars.map txt)[0]? = some (txt x) := by rw [hdv]; rfl
        have hx1 := ix_49 hx0 .i64
        rw [show ((0 : Nat) : Int) = 0 from rfl] at hx1
        have hxs := hv2 x (by rw [hdv]; simp)
        unfold sOk at hxs
        simp (disch := ((try simp only [List.length_append, List.length_cons, List.length_nil]); omega)) only [stpF, sttF, List.length_map, sadd, hx1]
        have e : vt = x ++ [32] := by rw [hvt, if_pos g1, hdv]; simp [joinB, joinT]
        rw [<- e]
        exact L60 _ _ hS hA
      . refine Wq.ite (fun g2 => ?_) (fun g2 => ?_)
        . refine Wq.callPB (pu_83 [44] d.x.vars hv1 hjv) hA fun H2 nx2 hA2 hB2 => ?_
          refine Wq.callPB (pu_85 _ (hjb _ _ hjv)) hA2 fun H3 nx3 hA3 hB3 => ?_
          have := hjb _ _ hjv
          simp (disch := ((try simp only [List.length_append, List.length_cons, List.length_nil]); omega)) only [stpF, sttF, List.length_map, sadd]
          have e : vt = 40 :: 32 :: (joinB [44] d.x.vars ++ [32, 41]) ++ [32] := by rw [hvt, if_neg g1, if_pos g2]
          rw [<- e]
          exact L60 _ _ ((hS.keep hB2).keep hB3) hA3
        . have e : vt = [] := by rw [hvt, if_neg g1, if_neg g2]
          have h := L60 _ _ hS hA
          rw [e] at h
          rw [e]
          exact h
    | cons c r ih' =>
      intro i sl H1 nx1 hd hi hS hA
      obtain ⟨hg, hlt, hd'⟩ := drop_cons hd
      have hx : (d.x.cons.map Con.v)[i]? = some c.v := by simp [hg]
      have hm := List.mem_of_getElem? hg
      have hcz := consZ_mem hm
      refine Wq.jmp (q44_45 ..) (fun _ => rfl) ?_
      simp only [stpF, sttF, List.length_map, is_lt_len hlt, ix_50 hx]
      refine Wq.callPB (pu_84 c (hCR c hm) (hc2 c hm) (by omega)) hA fun H2 nx2 hA2 hB2 => ?_
      refine Wq.addS (x := ren (conT c)) (hS.keep hB2) (by simp; omega) hA2 fun H3 sl3 nx3 hS3 hA3 => ?_
      simp only [stpF, wrap_succ (show i < 9223372036854775807 by omega)]
      refine ih' (i + 1) sl3 H3 nx3 hd' (by omega) ?_ hA3
      have e : d.x.cons.take (i + 1) = d.x.cons.take i ++ [c] := by
       rw [List.take_add_one, hg]; rfl
      rw [e, List.map_append]
      exact hS3
   exact key d.x.cons 0 _ _ _ rfl (Nat.zero_le _) (SS.nil _ _ _) hA
 rw [if_neg h3]
 refine Wq.ite (fun h4 => ?_) (fun h4 => ?_)
 . rw [if_neg (by omega), if_neg h2, if_neg h3, if_pos h4, Bool.and_eq_true] at hr
   rw [if_pos h4]
   have g1 := (gt_con d.c hr.1 hc).len
   refine Wq.call (pu_84 d.c hr.1 hc (by omega)) hA fun H1 nx1 hA1 => ?_
   simp (disch := ((try simp only [List.length_append, List.length_cons, List.length_nil]); omega)) only [stpF, sttF, List.length_map, sadd]
   refine Wq.retE ?_ hA1
   rw [ren_cons (by unfold conT; simp)]
   rfl
 . rw [if_neg h4]
   refine Wq.jmp (q44_66 ..) (fun _ => rfl) ?_
   simp only [stpF, sttF, List.length_map]
   by_cases h5 : d.k = 5
   . rw [if_pos h5, Bool.and_eq_true] at hr
     rw [if_pos h5]
     refine Wq.call (ihE hr.2 he (by omega)).1 hA fun H1 nx1 hA1 => ?_
     exact Wq.ret hA1
   . rw [if_neg h5, if_neg h2, if_neg h3, if_neg h4] at hr; cases hr
theorem dec_x (d : Dec) : DecX d := Dec.ind (p := ExpX) (q := DecX) pu_81 (fun d h1 h2 => pu_44 d h1 h2) d
theorem pu_20 (l : List Dec) (hl : l.length < big) (hok : ∀ d, d ∈ l -> d.ok) (hz : decsZ l <= 500) : P0 20 [decsR l] (.tuple ⟨[txt (if decsRt l = true then ren (decsT l) else []), i64 (if decsRt l = true then 0 else 110)]⟩) := Pure.of rfl fun H nx => by
 rw [q20]
 refine Wq.call (pu_21' l hl hok hz) (.refl _ _) fun H1 nx1 hA1 => ?_
 simp only [stpF]
 cases hr : decsRt l with
 | false => exact Wq.ret hA1
 | true =>
   simp only [stpF]
   have hra := hr
   rw [decsRt_all] at hra
   have hdz : ∀ d, d ∈ l -> d.z <= 500 := fun d hd => by have := decsZ_mem hd; omega
   have hlen := decsZ_len l
   have hN : ∀ d, d ∈ l -> decT d ≠ [] := fun d hd => ne_dec d (all_mem' hra hd)
   have hG : ∀ d, d ∈ l -> (ren (decT d)).length <= 100 * d.z - 10 := fun d hd => (gt_dec d (all_mem' hra hd) (hok d hd)).len
   have hren : ∀ (r : List Dec), (∀ d, d ∈ r -> decT d ≠ []) -> ∀ a : List Tok, a ≠ [] -> ren (a ++ decsT r) = ren a ++ r.flatMap fun d => 32 :: (ren (decT d) ++ [32, 59]) := by
    intro r
    induction r with
    | nil => intro _ a ha; simp [decsT]
    | cons d r ih =>
      intro h a ha
      have hd := h d (by simp)
      have h1 := ih (fun d hd => h d (by simp [hd])) (a ++ (decT d ++ [sgT [59]])) (by simp [ha])
      unfold decsT at h1 ⊢
      rw [List.flatMap_cons, <- List.append_assoc, h1, ren_append ha (by simp), ren_append hd (by simp), List.flatMap_cons]
      show ren a ++ 32 :: (ren (decT d) ++ 32 :: [59]) ++ _ = _
      simp
   have key : ∀ (r : List Dec) (i : Nat) (out : List UInt8) (H2 : T OB) (nx2 : Nat), l.drop i = r -> i <= l.length -> (i = 0 -> out = []) -> (0 < i -> out ++ (r.flatMap fun d => 32 :: (ren (decT d) ++ [32, 59])) = ren (decsT l)) -> out.length + 100 * decsZ r <= 60000 -> Ag nx H nx2 H2 ->
    Wq P pl X0 (.jump (l20_13 (decsR l) (txt out) (i64 (i : Int)) H2 nx2)) nx H (.tuple ⟨[txt (ren (decsT l)), i64 0]⟩) := by
    intro r
    induction r with
    | nil =>
      intro i out H2 nx2 hd hi h0 ho hw hA
      have hil := drop_nil hd hi
      refine Wq.jmp (q20_13 ..) (fun _ => rfl) ?_
      simp only [stpF, sttF, List.length_map, hil, not_lt_len]
      refine Wq.retE ?_ hA
      by_cases g : 0 < i
      . have := ho g
        rw [List.flatMap_nil, List.append_nil] at this
        rw [this]
      . have hi0 : i = 0 := by omega
        have hl0 : l = [] := List.eq_nil_of_length_eq_zero (by omega)
        rw [h0 hi0, hl0]; rfl
    | cons d r ih' =>
      intro i out H2 nx2 hd hi h0 ho hw hA
      obtain ⟨hg, hlt, hd'⟩ := drop_cons hd
      have hx : (l.map Dec.v)[i]? = some d.v := by simp [hg]
      have hm := List.mem_of_getElem? hg
      have g1 := hG d hm
      have zd := d.z_pos
      rw [decsZ] at hw
      have L20 : ∀ out' : List UInt8, out'.length <= out.length + 1 -> (out' ++ (ren (decT d) ++ [32, 59])) ++ (r.flatMap fun d => 32 :: (ren (decT d) ++ [32, 59])) = ren (decsT l) -> Wq P pl X0 (.jump (l20_20 (decsR l) (txt out') (i64 (i : Int)) H2 nx2)) nx H (.tuple ⟨[txt (ren (decsT l)), i64 0]⟩) := by
       intro out' hle he
       refine Wq.jmp (q20_20 ..) (fun _ => rfl) ?_
       simp only [stpF, sttF, List.length_map, ix_24 hx]
       refine Wq.call (dec_x d (all_mem' hra hm) (hok d hm) (hdz d hm)) hA fun H3 nx3 hA3 => ?_
       simp (disch := ((try simp only [List.length_append, List.length_cons, List.length_nil]); omega)) only [stpF, sttF, List.length_map, sadd, wrap_succ (show i < 9223372036854775807 by omega)]
       refine ih' (i + 1) _ H3 nx3 hd' (by omega) (fun q => by omega) (fun _ => ?_) ?_ hA3
       . rw [<- he]; simp
       . simp only [List.length_append, List.length_cons, List.length_nil]; omega
      refine Wq.jmp (q20_13 ..) (fun _ => rfl) ?_
      simp (disch := ((try simp only [List.length_append, List.length_cons, List.length_nil]); omega)) only [stpF, sttF, List.length_map, sadd, is_lt_len hlt, nat_gt0]
      refine Wq.ite (fun g => ?_) (fun g => ?_)
      . refine L20 _ (by simp) ?_
        rw [<- ho g, List.flatMap_cons]; simp
      . have hi0 : i = 0 := by omega
        refine L20 _ (by omega) ?_
        subst hi0
        rw [h0 rfl]
        rw [List.drop_zero] at hd
        rw [hd]
        have h1 := hren r (fun x hx => hN x (by rw [hd]; simp [hx])) (decT d ++ [sgT [59]]) (by simp)
        unfold decsT at h1 ⊢
        rw [List.flatMap_cons, h1, ren_append (hN d hm) (by simp)]
        show _ = ren (decT d) ++ 32 :: [59] ++ _
        simp
   exact key l 0 [] _ _ rfl (Nat.zero_le _) (fun _ => rfl) (fun q => by omega) (by simp; omega) hA1
theorem pt_19 (l : List Dec) (hl : l.length < big) (hok : ∀ d, d ∈ l -> d.ok) (hz : decsZ l <= 500) : PT 19 [decsR l] (.tuple ⟨[txt (if decsRt l = true then ren (decsT l) else []), i64 (if decsRt l = true then 0 else 110)]⟩) := PT.of rfl fun H nx hT => by
 rw [q19]
 refine Wq.callR rfl (w_42 hT l hl hok hz (.refl _ _)) fun u H1 nx1 hA1 hu => ?_
 obtain ⟨toks, sl, rfl, hS, hd, hn⟩ := hu
 simp only [stpF, show rdExtract (some (.tuple ⟨[sl, .bool (decsRt l)]⟩)) 0 = some sl from rfl, show rdExtract (some (.tuple ⟨[sl, .bool (decsRt l)]⟩)) 1 = some (.bool (decsRt l)) from rfl]
 cases hr : decsRt l with
 | false => exact Wq.ret hA1
 | true =>
   simp only [stpF]
   obtain rfl := hd hr
   have hG := gt_decs l hr hok
   refine Wq.callR rfl (w_43 hT (decsT l) (by unfold big; omega) hG.1 (Nat.le_trans hG.2 (by omega)) hS hA1) fun u H2 nx2 hA2 hu => ?_
   subst hu
   rw [pr_ren hG.1]
   exact Wq.ret hA2
theorem rdx0 (a b : Value) : rdExtract (some (.tuple ⟨[a, b]⟩)) 0 = some a := rfl
theorem rdx1 (a b : Value) : rdExtract (some (.tuple ⟨[a, b]⟩)) 1 = some b := rfl
theorem rd25 (n : Int) (q : Bool) : rdBin P H .eql 25 q (some (i64 n)) (some (i64 n)) = some (.bool true) := by rw [rdBin_eql]; simp
theorem pt_5 (l : List Dec) (hl : l.length < big) (hok : ∀ d, d ∈ l -> d.ok) (h18 : ∀ nx0 H0 H nx, Ag nx0 H0 nx H -> WqR P pl X0 (evT P pl (.call 18 [decsR l] false none H nx)) nx0 H0 (fun v _ _ => ∃ b : Bool, v = .bool b /\ (b = false -> decsZ l <= 500))) : PT 5 [decsR l] (.bool true) := PT.of rfl fun H nx hT => by
 rw [q5]
 refine Wq.callR rfl (h18 _ _ H nx (.refl _ _)) fun u H1 nx1 hA1 hu => ?_
 obtain ⟨b, rfl, hb⟩ := hu
 have hk : P0 11 [] (.bool true) := Pure.ext rfl
 simp only [stpF]
 refine Wq.bK (fun h => ?_) (fun h => ?_)
 . refine Wq.call hk hA1 fun H2 nx2 hA2 => ?_
   simp only [stpF]
   exact Wq.ret hA2
 . have hz := hb h
   refine Wq.callT hT (pt_19 l hl hok hz) hA1 fun H2 nx2 hA2 => ?_
   simp only [stpF, rdx0, rdx1]
   refine Wq.call (pu_20 l hl hok hz) hA2 fun H3 nx3 hA3 => ?_
   simp only [stpF, rdx0, rdx1]
   refine Wq.callT hT (pt_19 l hl hok hz) hA3 fun H4 nx4 hA4 => ?_
   simp only [stpF, rdx0, rdx1, rd25]
   refine Wq.call hk hA4 fun H6 nx6 hA6 => ?_
   simp only [stpF]
   exact Wq.ret hA6
end
end Go.Proofs.YthjhonhhbddhkaaGreatDoor
/- SyntaxPrints: the law's call. -/
namespace Go.Proofs.YthjhonhhbddhkaaGreatDoor
open Go.Ev Go.RowKit
noncomputable section
theorem pt_5' (l : List Dec) (hl : l.length < big) (hok : ∀ d, d ∈ l -> d.ok) : PT 5 [decsR l] (.bool true) := pt_5 l hl hok fun nx0 H0 H nx hA => w_18 l hl hok H nx hA
end
end Go.Proofs.YthjhonhhbddhkaaGreatDoor
