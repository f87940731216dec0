/- Two texts behind one another are cut into the tokens of both. -/
import Derived.Test.YtnihjlnnllngeaaDoorLxQ
import Derived.Test.YtnihjlnnllngeaaDoorFScan
import Derived.Test.YtnihjlnnllngeaaDoorFKnown
import Derived.Test.YtnihjlnnllngeaaDoorFRSame
import Derived.Test.YtnihjlnnllngeaaDoorFLexJoins
namespace Go.Proofs.YtnihjlnnllngeaaDoor.Lx
open Go.RowKit Go.Proofs.YtnihjlnnllngeaaDoorW.PrintWords Go.Proofs.YtnihjlnnllngeaaDoor.PL
set_option linter.unusedVariables false
set_option linter.unusedSimpArgs false
set_option linter.unusedSectionVars false
theorem B_app (a b : ByteArray) : B (a ++ b) = B a ++ B b := by
  rw [B, B, B, ByteArray.data_append, Array.toList_append, List.map_append]
theorem size_app (a b : ByteArray) : (a ++ b).size = a.size + b.size := by
  rw [← B_length, B_app, List.length_append, B_length, B_length]
/-- The tokens of a text behind a. -/
def mv (d : Nat) (t : S32) : S32 := { t with f3 := t.f3 + d }
theorem runs_line {a b : ByteArray} {ts us : List S32} (ha : Runs (B a) 0 ts) (hb : Runs (B b) 0 us) : Runs (B ((a ++ (⟨#[10]⟩ : ByteArray)) ++ b)) 0 (ts ++ us.map (mv (a.size + 1))) := by
  rw [B_app, B_app, List.append_assoc]
  have h10 : B (⟨#[10]⟩ : ByteArray) = [10] := rfl
  rw [h10]
  refine runs_join (byt_B a) (Byt.app (by intro x hx; simp at hx; omega) (byt_B b)) (.inr (.inl ⟨10, B b, rfl, rfl⟩)) ha ?_
  refine runs_blank (b := [10]) (by simp [skip, ws]) ?_
  have := runs_shift hb (a.size + 1)
  rwa [show 0 + (B a).length + [10].length = 0 + (a.size + 1) by rw [B_length]; rfl]
theorem runs_place {l : List Nat} {p : Nat} {ts : List S32} (h : Runs l p ts) : ∀ t ∈ ts, 0 ≤ t.f3 ∧ t.f3 ≤ ((p + l.length : Nat) : Int) := by
  induction h with
  | done h => intro t ht; simp at ht
  | @tok l p n k a v b ts h hl hk hn hr ih =>
    intro t ht
    rcases List.mem_cons.1 ht with rfl | ht
    · simp only; omega
    · have := ih t ht
      rw [List.length_drop] at this
      omega
theorem joins_l0 {a : ByteArray} {w : List S32} {g : Int} (ha : a.size ≤ 2000) : ∀ (n i : Nat) (us x14 : List S32), us.length ≤ 1001 → (∀ t ∈ us, 0 ≤ t.f3 ∧ t.f3 ≤ 2000) → us.length - i ≤ n → i ≤ us.length → x14.length ≤ 1001 + i →
    (Ev (fun k => kindlinglaw07_LexJoins.l0 k a us w g (x14 ++ (us.drop i).map (mv (a.size + 1))) (us.length : Int)) true) →
    Ev (fun k => kindlinglaw07_LexJoins.l0 k a us w g x14 (i : Int)) true := by
  intro n
  induction n with
  | zero =>
    intro i us x14 hu ht hm hi hx h
    obtain rfl : i = us.length := by omega
    simpa using h
  | succ n ih =>
    intro i us x14 hu ht hm hi hx h
    by_cases hl : i = us.length
    · subst hl; simpa using h
    have hi2 : i < us.length := by omega
    have hd : us.drop i = us[i] :: us.drop (i + 1) := List.drop_eq_getElem_cons hi2
    have hb := ht us[i] (List.getElem_mem hi2)
    refine Ev.step (fun k => ?_) (ih (i + 1) us (x14 ++ [mv (a.size + 1) us[i]]) hu ht (by omega) (by omega) (by simp; omega) (by
      rw [hd, List.map_cons, List.append_cons] at h; exact h))
    simp only [kindlinglaw07_LexJoins.l0]
    rw [if_pos (by omega), if_pos (by omega), if_pos (by omega), rd_get hi2, w64_1 hi (by omega), w64 (x := us[i].f3 + (a.size : Int)) (by omega) (by omega), w64 (by omega) (by omega)]
    congr 3
    rw [mv]
    congr 1
    push_cast
    omega
theorem joins_end {a : ByteArray} {us w m : List S32} (hm : m.length ≤ 4000) (e : w = m) : Ev (fun k => kindlinglaw07_LexJoins.l0 k a us w 0 m (us.length : Int)) true := by
  subst e
  refine Ev.step (f := fun k => (kindlingref07_Same.f k w w true).bind fun t483 => (if t483 = true then ((kindlinglaw07_known.f k).bind fun t484 => (some t484)) else (some false))) (fun k => ?_) (Ev.bind (same_g w w true (by omega) rfl (fun _ => rfl)) ?_)
  · simp only [kindlinglaw07_LexJoins.l0]
    rw [if_neg (by omega)]
    rfl
  · exact Ev.congr (fun k => by rw [if_pos rfl]) known_b
theorem lexJoins_f (a b : ByteArray) : Ev (fun k => kindlinglaw07_LexJoins.f k a b) true := by
  have big : Ev (fun k => kindlinglaw07_LexJoins.j0 k a b true) true := by
    refine Ev.step (fun k => ?_) known_b
    simp only [kindlinglaw07_LexJoins.j0]
    rw [if_pos trivial]
  unfold kindlinglaw07_LexJoins.f
  by_cases h1 : 2000 < a.size
  · exact Ev.congr (fun k => by rw [if_pos (by omega)]) big
  refine Ev.congr (fun k => by rw [if_neg (by omega)]) ?_
  by_cases h2 : 2000 < b.size
  · rw [decide_eq_true (by omega)]; exact big
  rw [decide_eq_false (by omega)]
  refine Ev.step (f := fun k => (lex_Scan.f k a).bind fun bt453 => (lex_Scan.f k b).bind fun bt458 => (lex_Scan.f k ((a ++ (⟨#[10]⟩ : ByteArray)) ++ b)).bind fun bt463 => (if bt453.2.2 = 0 then (kindlinglaw07_LexJoins.j1 k a bt453.1 bt453.2.2 bt458.1 bt463.1 bt463.2.2 (bt458.2.2 != 0)) else (kindlinglaw07_LexJoins.j1 k a bt453.1 bt453.2.2 bt458.1 bt463.1 bt463.2.2 true))) (fun k => ?_) (Ev.bind (lexScan_f a) (Ev.bind (lexScan_f b) (Ev.bind (lexScan_f ((a ++ (⟨#[10]⟩ : ByteArray)) ++ b)) ?_)))
  · simp only [kindlinglaw07_LexJoins.j0]
    rw [if_neg (by simp)]
    have e1 : a.size + 1 ≤ 9223372036854775807 := by omega
    have e2 : (a ++ (⟨#[10]⟩ : ByteArray)).size + b.size ≤ 9223372036854775807 := by rw [size_app, show (⟨#[10]⟩ : ByteArray).size = 1 from rfl]; omega
    simp only [e1, e2, if_true]
  have fails : ∀ x8 x11 x13, ((scan a).2.2 = 0 ∨ (scan a).1 = []) → Ev (fun k => kindlinglaw07_LexJoins.j1 k a (scan a).1 (scan a).2.2 x8 x11 x13 true) true := by
    intro x8 x11 x13 h
    by_cases h3 : (scan a).2.2 = 0
    · refine Ev.step (fun k => ?_) known_b
      simp only [kindlinglaw07_LexJoins.j1]
      rw [if_pos trivial, if_pos h3]
    · refine Ev.step (fun k => ?_) known_b
      have h4 := h.resolve_left h3
      simp only [kindlinglaw07_LexJoins.j1]
      rw [if_pos trivial, if_neg h3, if_pos (by rw [h4]; rfl)]
  by_cases ea : (scan a).2.2 = 0
  case neg => exact Ev.congr (fun k => by rw [if_neg ea]) (fails _ _ _ (.inr (scan_bad ea)))
  refine Ev.congr (fun k => by rw [if_pos ea]) ?_
  by_cases eb : (scan b).2.2 = 0
  case neg =>
    rw [show ((scan b).2.2 != 0) = true from bne_iff_ne.mpr eb]
    exact fails _ _ _ (.inl ea)
  rw [show ((scan b).2.2 != 0) = false from bne_eq_false_iff_eq.mpr eb]
  obtain ⟨_, ts, hts, lts, sa⟩ := scan_ok ea
  obtain ⟨_, us, hus, lus, sb⟩ := scan_ok eb
  have hr := runs_line hts hus
  have hsz : ((a ++ (⟨#[10]⟩ : ByteArray)) ++ b).size = a.size + 1 + b.size := by rw [size_app, size_app]; rfl
  have hc := scan_run (by rw [hsz]; omega) hr
  have la := runs_len hts
  have lb := runs_len hus
  rw [B_length] at la lb
  rw [sa, sb]
  simp only
  refine Ev.step (f := fun k => kindlinglaw07_LexJoins.j2 k a (ts ++ [fin a.size]) (us ++ [fin b.size]) (scan ((a ++ (⟨#[10]⟩ : ByteArray)) ++ b)).1 (scan ((a ++ (⟨#[10]⟩ : ByteArray)) ++ b)).2.2 false) (fun k => ?_) ?_
  · simp only [kindlinglaw07_LexJoins.j1]
    rw [if_neg (by simp), if_neg (by simp; omega), show (((us ++ [fin b.size]).length : Int) == 0) = false from beq_eq_false_iff_ne.mpr (by simp; omega)]
  have l1 : ((ts ++ [fin a.size]).length : Int) = ts.length + 1 := by simp
  have l2 : ((us ++ [fin b.size]).length : Int) = us.length + 1 := by simp
  by_cases hx : ts.length + us.length ≤ 1000
  · rw [dif_pos (by simpa using hx)] at hc
    rw [hc]
    simp only
    refine Ev.step (f := fun k => kindlinglaw07_LexJoins.l0 k a (us ++ [fin b.size]) (ts ++ us.map (mv (a.size + 1)) ++ [fin ((a ++ (⟨#[10]⟩ : ByteArray)) ++ b).size]) 0 ts ((0 : Nat) : Int)) (fun k => ?_) ?_
    · simp only [kindlinglaw07_LexJoins.j2]
      rw [if_neg (by simp), l1, l2, w64 (x := (ts.length : Int) + 1 + (us.length + 1)) (by omega) (by omega), w64 (by omega) (by omega), if_neg (by omega), w64 (x := (ts.length : Int) + 1 - 1) (by omega) (by omega), if_pos (by omega), if_pos (by omega)]
      simp only [Option.bind_some]
      rw [show ((ts.length : Int) + 1 - 1).toNat = ts.length by omega, List.take_left, if_pos (by simp; omega)]
      rfl
    · refine joins_l0 (by omega) (us ++ [fin b.size]).length 0 _ ts (by simp; omega) ?_ (by omega) (by omega) (by omega) ?_
      · intro t ht
        rcases List.mem_append.1 ht with ht | ht
        · have := runs_place hus t ht
          rw [B_length] at this
          omega
        · simp at ht; subst ht; simp [fin]; omega
      · refine joins_end (by simp; omega) ?_
        rw [List.drop_zero, List.map_append, List.append_assoc]
        congr 2
        rw [hsz]
        simp [fin, mv]
        omega
  · rw [dif_neg (by simpa using hx)] at hc
    rw [hc]
    simp only
    refine Ev.step (fun k => ?_) known_b
    simp only [kindlinglaw07_LexJoins.j2]
    rw [if_neg (by simp), l1, l2, w64 (x := (ts.length : Int) + 1 + (us.length + 1)) (by omega) (by omega), w64 (by omega) (by omega), if_pos (by omega), if_pos trivial]
end Go.Proofs.YtnihjlnnllngeaaDoor.Lx
