/- What is printed is cut into the same tokens. -/
import Derived.Test.YtnihjlnnllngeaaDoorLxX
import Derived.Test.YtnihjlnnllngeaaDoorFScan
import Derived.Test.YtnihjlnnllngeaaDoorFPrint
import Derived.Test.YtnihjlnnllngeaaDoorFKnown
import Derived.Test.YtnihjlnnllngeaaDoorFRSame
import Derived.Test.YtnihjlnnllngeaaDoorFRRight
import Derived.Test.YtnihjlnnllngeaaDoorFLexBack
namespace Go.Proofs.YtnihjlnnllngeaaDoor.Lx
open Go.RowKit Go.Proofs.YtnihjlnnllngeaaDoorW.PrintWords Go.Proofs.YtnihjlnnllngeaaDoor.PL
set_option linter.unusedVariables false
set_option linter.unusedSimpArgs false
set_option linter.unusedSectionVars false
theorem tw_all {p : Nat → Bool} : ∀ {l : List Nat}, (∀ x ∈ l, p x = true) → l.takeWhile p = l
  | [], _ => rfl
  | c :: r, h => by rw [List.takeWhile_cons_of_pos (h c (by simp)), tw_all (fun x hx => h x (by simp [hx]))]
theorem extract_all (s : ByteArray) {n : Nat} (h : n = s.size) : s.extract 0 n = s := by
  apply B_inj
  rw [B_pre, List.take_of_length_le (by rw [B_length]; omega)]
theorem signs_lex : ∀ x ∈ lG0, lexS x = some (7, x, 0, x.size) := by decide +kernel
/-- A right token's text is cut into that token. -/
theorem lexS_whole {a v : Int} {s : ByteArray} (h : rightS a s v = true) (h0 : a ≠ 0) : lexS (wrtS a s v) = some (a, s, v, (wrtS a s v).size) := by
  by_cases a1 : a = 1
  · obtain ⟨v0, v1⟩ := right_num h a1
    have hs : B s = [] := by
      unfold rightS at h
      rw [if_neg h0, if_pos a1] at h
      simp only [Bool.and_eq_true, beq_iff_eq] at h
      exact h.1
    have hs2 : s = (⟨#[]⟩ : ByteArray) := B_inj hs
    have hw : wrtS a s v = M (numN v.toNat) := by unfold wrtS; rw [if_neg h0, if_pos a1]
    obtain ⟨c, r, hc, hd⟩ := dN_cons 19 v.toNat [] (by omega)
    have hc' : numN v.toNat = c :: r := hc
    have hB : B (M (numN v.toNat)) = c :: r := by rw [B_M (numN_byt _)]; exact hc
    have hn := num_back (v := v.toNat) (by omega)
    have ht : (c :: r).takeWhile dig = c :: r := tw_all (fun x hx => numN_dig v.toNat x (by rw [hc']; exact hx))
    rw [hw, lexS, hB]
    simp only
    rw [if_pos hd, ht, ← hc', hn, M_size, a1, hs2]
    show some ((1 : Int), (⟨#[]⟩ : ByteArray), ((v.toNat : Nat) : Int), (numN v.toNat).length) = _
    rw [Int.toNat_of_nonneg v0]
  by_cases a2 : a = 2
  · have hv : v = 0 := by
      unfold rightS at h
      rw [if_neg h0, if_neg a1, if_pos a2] at h
      simpa using h
    have hw : wrtS a s v = M (quoL (B s)) := by unfold wrtS; rw [if_neg h0, if_neg a1, if_pos a2]
    have hB : B (M (quoL (B s))) = 34 :: ((B s).flatMap qb ++ [34]) := by rw [B_M (quoL_byt (byt_B s))]; rfl
    rw [hw, lexS, hB]
    simp only
    rw [if_neg (by decide), if_pos trivial, qt_flat (r := []) (byt_B s), a2, hv, M_size]
    simp only [Option.map_some]
    rw [nums_M, M_B]
    congr 4
    simp [quoL]
    omega
  have hw : wrtS a s v = s := by unfold wrtS; rw [if_neg h0, if_neg a1, if_neg a2]
  rw [hw]
  unfold rightS at h
  rw [if_neg h0, if_neg a1, if_neg a2] at h
  by_cases a7 : a = 7
  · rw [if_pos a7] at h
    simp only [Bool.and_eq_true, beq_iff_eq] at h
    rw [signs_lex s (hasB_mem.1 h.2), a7, h.1]
  rw [if_neg a7] at h
  by_cases a5 : a = 5
  · rw [if_pos a5] at h
    simp only [Bool.and_eq_true, beq_iff_eq] at h
    obtain ⟨ht, hv⟩ := h
    have hlen := B_length s
    match hB : B s with
    | [] => rw [hB] at ht; simp [tvS] at ht
    | [c] => rw [hB] at ht; simp [tvS] at ht
    | c :: e :: r =>
      rw [hB] at ht hlen
      simp only [tvS, Bool.and_eq_true, beq_iff_eq] at ht
      obtain ⟨⟨rfl, he⟩, hr⟩ := ht
      have htw : r.takeWhile tvc = r := tw_all (fun x hx => List.all_eq_true.1 hr x hx)
      rw [lexS, hB]
      simp only
      rw [if_neg (by decide), if_neg (by decide), if_neg (by decide), if_pos ⟨by simp, by simp [he]⟩]
      simp only [List.tail_cons]
      rw [htw, a5, hv, extract_all s (by simp at hlen; omega)]
      congr 4
      simp at hlen; omega
  rw [if_neg a5] at h
  by_cases a3 : a = 3 ∨ a = 4 ∨ a = 6
  · rw [if_pos a3] at h
    simp only [Bool.and_eq_true, beq_iff_eq] at h
    obtain ⟨hwd, hv, hk⟩ := h
    have hlen := B_length s
    cases hB : B s with
    | nil => rw [hB] at hwd; simp [wordS] at hwd
    | cons c r =>
      rw [hB] at hwd hlen
      simp only [wordS, Bool.and_eq_true] at hwd
      obtain ⟨h1, h2⟩ := hwd
      have htw : r.takeWhile prt = r := tw_all (fun x hx => List.all_eq_true.1 h2 x hx)
      have h34 : c ≠ 34 := by rintro rfl; simp [ltr, lo, hi, rng] at h1
      rw [lexS, hB]
      simp only
      rw [if_neg (by rw [ltr_not_dig h1]; simp), if_neg h34, if_pos h1, htw, extract_all s (by simp at hlen; omega), hk, hv]
      congr 4
      simp at hlen; omega
  · rw [if_neg a3] at h; cases h
def fstOk (l : List Nat) : Bool := match l with
  | [] => false
  | [c] => !ws c
  | c :: e :: _ => !ws c && !(c == 40 && e == 42)
theorem signs_fst : ∀ x ∈ lG0, fstOk (B x) = true := by decide
theorem skip_wrt {a v : Int} {s : ByteArray} (h : rightS a s v = true) (h0 : a ≠ 0) {y : List Nat} (hy : sepL y) : skip (B (wrtS a s v) ++ y) = (0, true) := by
  have key : ∃ c r, B (wrtS a s v) = c :: r ∧ ¬ ws c = true ∧ ¬ (c = 40 ∧ r.head? = some 42) := by
    by_cases a1 : a = 1
    · obtain ⟨c, r, hc, hd⟩ := dN_cons 19 v.toNat [] (by omega)
      have hw : wrtS a s v = M (numN v.toNat) := by unfold wrtS; rw [if_neg h0, if_pos a1]
      have := dig_iff.1 hd
      exact ⟨c, r, by rw [hw, B_M (numN_byt _)]; exact hc, by simp [ws]; omega, by omega⟩
    by_cases a2 : a = 2
    · have hw : wrtS a s v = M (quoL (B s)) := by unfold wrtS; rw [if_neg h0, if_neg a1, if_pos a2]
      exact ⟨34, (B s).flatMap qb ++ [34], by rw [hw, B_M (quoL_byt (byt_B s))]; rfl, by decide, by simp⟩
    have hw : wrtS a s v = s := by unfold wrtS; rw [if_neg h0, if_neg a1, if_neg a2]
    rw [hw]
    unfold rightS at h
    rw [if_neg h0, if_neg a1, if_neg a2] at h
    by_cases a7 : a = 7
    · rw [if_pos a7] at h
      simp only [Bool.and_eq_true, beq_iff_eq] at h
      have hf := signs_fst s (hasB_mem.1 h.2)
      match hB : B s with
      | [] => rw [hB] at hf; simp [fstOk] at hf
      | [c] => rw [hB] at hf; simp [fstOk] at hf; exact ⟨c, [], rfl, by simp [hf], by simp⟩
      | c :: e :: r =>
        rw [hB] at hf
        simp only [fstOk, Bool.and_eq_true, Bool.not_eq_true', Bool.and_eq_false_iff, beq_eq_false_iff_ne] at hf
        refine ⟨c, e :: r, rfl, by simp [hf.1], ?_⟩
        rintro ⟨rfl, h2⟩
        simp at h2
        rcases hf.2 with h3 | h3
        · exact h3 rfl
        · exact h3 h2
    rw [if_neg a7] at h
    by_cases a5 : a = 5
    · rw [if_pos a5] at h
      simp only [Bool.and_eq_true, beq_iff_eq] at h
      match hB : B s with
      | [] => rw [hB] at h; simp [tvS] at h
      | [c] => rw [hB] at h; simp [tvS] at h
      | c :: e :: r =>
        rw [hB] at h
        simp only [tvS, Bool.and_eq_true, beq_iff_eq] at h
        exact ⟨c, e :: r, rfl, by rw [h.1.1.1]; decide, by rw [h.1.1.1]; simp⟩
    rw [if_neg a5] at h
    by_cases a3 : a = 3 ∨ a = 4 ∨ a = 6
    · rw [if_pos a3] at h
      simp only [Bool.and_eq_true, beq_iff_eq] at h
      cases hB : B s with
      | nil => rw [hB] at h; simp [wordS] at h
      | cons c r =>
        rw [hB] at h
        simp only [wordS, Bool.and_eq_true] at h
        have := ltr_iff.1 h.1.1
        exact ⟨c, r, rfl, by simp [ws]; omega, by omega⟩
    · rw [if_neg a3] at h; cases h
  obtain ⟨c, r, e, h1, h2⟩ := key
  rw [e, List.cons_append]
  refine skip_else h1 fun hh => ?_
  cases r with
  | nil => exact hy.not42 hh.2
  | cons x r => exact h2 ⟨hh.1, hh.2⟩
theorem wrt_pos {a v : Int} {s : ByteArray} (h : rightS a s v = true) (h0 : a ≠ 0) : 0 < (wrtS a s v).size := by
  have := skip_wrt h h0 (y := []) (.inl rfl)
  have hl := lexS_whole h h0
  rcases Nat.eq_zero_or_pos (wrtS a s v).size with hz | hz
  · have hB : B (wrtS a s v) = [] := List.eq_nil_of_length_eq_zero (by rw [B_length]; exact hz)
    rw [lexS, hB] at hl
    cases hl
  · exact hz
/-- Tokens in one text, a blank between two. -/
def joinS : List S32 → List Nat
  | [] => []
  | [t] => B (wrtS t.f0 t.f1 t.f2)
  | t :: x :: r => B (wrtS t.f0 t.f1 t.f2) ++ 32 :: joinS (x :: r)
def good (t : S32) : Prop := rightS t.f0 t.f1 t.f2 = true ∧ t.f0 ≠ 0
theorem joinS_byt : ∀ l : List S32, Byt (joinS l)
  | [] => by intro x hx; simp [joinS] at hx
  | [t] => byt_B _
  | t :: x :: r => (byt_B _).app (fun y hy => by
      rcases List.mem_cons.1 hy with rfl | hy
      · omega
      · exact joinS_byt (x :: r) y hy)
theorem tok_run {t : S32} (h : good t) {y : List Nat} (hy : sepL y) (hb : Byt y) {p : Nat} {us : List S32} (hr : Runs y (p + (wrtS t.f0 t.f1 t.f2).size) us) :
    Runs (B (wrtS t.f0 t.f1 t.f2) ++ y) p (⟨t.f0, t.f1, t.f2, ((p + 0 : Nat) : Int)⟩ :: us) := by
  have hl := lexS_whole h.1 h.2
  have hpos := wrt_pos h.1 h.2
  have hlen := B_length (wrtS t.f0 t.f1 t.f2)
  refine .tok (k := (wrtS t.f0 t.f1 t.f2).size) (skip_wrt h.1 h.2 hy) ?_ hpos (by rw [List.length_append]; omega) ?_
  · rw [List.drop_zero]
    have hB : B (M (B (wrtS t.f0 t.f1 t.f2) ++ y)) = B (wrtS t.f0 t.f1 t.f2) ++ y := B_M ((byt_B _).app hb)
    refine lexS_cut hl hpos ?_ (.inr ?_)
    · rw [hB, ← hlen, List.take_left, List.take_length]
    · rw [hB, ← hlen, List.drop_left]
      exact hy.head
  · rw [Nat.zero_add, ← hlen, List.drop_left, hlen]
    simpa using hr
theorem join_runs : ∀ (l : List S32), (∀ t ∈ l, good t) → ∀ p, ∃ us, Runs (joinS l) p us ∧ us.map keyT = l.map keyT
  | [], _, p => ⟨[], .done (by simp [joinS, skip]), rfl⟩
  | [t], h, p => by
    have := tok_run (h t (by simp)) (y := []) (.inl rfl) (by intro x hx; simp at hx) (p := p) (us := []) (.done (by simp [skip]))
    rw [List.append_nil] at this
    exact ⟨_, this, rfl⟩
  | t :: x :: r, h, p => by
    obtain ⟨us, h1, h2⟩ := join_runs (x :: r) (fun z hz => h z (by simp [hz])) (p + (wrtS t.f0 t.f1 t.f2).size + 1)
    have hb := runs_blank (b := [32]) (y := joinS (x :: r)) (p := p + (wrtS t.f0 t.f1 t.f2).size) (us := us) (by simp [skip, ws]) h1
    refine ⟨_, tok_run (h t (by simp)) (y := 32 :: joinS (x :: r)) (.inr (.inl ⟨32, _, rfl, rfl⟩)) (fun y hy => by
      rcases List.mem_cons.1 hy with rfl | hy
      · omega
      · exact joinS_byt (x :: r) y hy) hb, ?_⟩
    rw [List.map_cons, h2]
    rfl
theorem prS_join : ∀ (l : List S32) (acc : List Nat), (∀ t ∈ l, good t) → prS l acc = some (if acc = [] then joinS l else if l = [] then acc else acc ++ 32 :: joinS l)
  | [], acc, _ => by
    rw [prS]
    by_cases h : acc = []
    · rw [if_pos h, h]; rfl
    · rw [if_neg h, if_pos rfl]
  | t :: r, acc, h => by
    obtain ⟨h1, h2⟩ := h t (by simp)
    have hpos := wrt_pos h1 h2
    have hne : B (wrtS t.f0 t.f1 t.f2) ≠ [] := fun e => by
      have := congrArg List.length e
      rw [B_length, List.length_nil] at this
      omega
    rw [prS, if_pos h1, if_neg h2, prS_join r _ (fun z hz => h z (by simp [hz]))]
    congr 1
    by_cases ha : acc = []
    · rw [if_pos ha, if_pos ha, ha, List.nil_append, if_neg hne]
      cases r with
      | nil => rw [if_pos rfl]; rfl
      | cons x r => rw [if_neg (by simp)]; rfl
    · rw [if_neg ha, if_neg ha, if_neg (show ¬ (acc ++ [32] ++ B (wrtS t.f0 t.f1 t.f2) = []) by simp), if_neg (show ¬ (t :: r = []) by simp)]
      cases r with
      | nil => rw [if_pos rfl]; simp [joinS]
      | cons x r => rw [if_neg (by simp)]; simp [joinS]
theorem back_end {l m : List S32} {n i : Int} (hg : ∀ t ∈ m, good t) (hw : wsum m ≤ 1000) : Ev (fun k => kindlinglaw07_LexBack.j1 k l m n i false) true := by
  have hl := wsum_len m
  have hz : ∀ t ∈ m, t.f1.size ≤ 1000000 := fun t ht => by have := wsum_mem ht; omega
  have hp : prS m [] = some (joinS m) := by rw [prS_join m [] hg, if_pos rfl]
  have hP := lexPrint_f (l := m) (by omega) hz
  rw [hp] at hP
  have hB : B (M (joinS m)) = joinS m := B_M (joinS_byt m)
  obtain ⟨us, h1, h2⟩ := join_runs m hg 0
  have hul : us.length = m.length := by simpa using congrArg List.length h2
  refine Ev.step (f := fun k => (lex_Print.f k m).bind fun bt412 => ((lex_Scan.f k bt412.1).bind fun bt414 => (if bt412.2 = 0 then (if (bt412.1.size : Int) > 4096 then (if bt414.2.2 = 3 then ((kindlinglaw07_known.f k).bind fun t419 => (some t419)) else (some false)) else (if bt414.2.2 = 0 then (if m.length < 3518437208883 then ((kindlingref07_Same.f k bt414.1 (m ++ [(⟨0, (⟨#[]⟩ : ByteArray), 0, 0⟩ : S32)]) false).bind fun t423 => (if t423 = true then ((kindlinglaw07_known.f k).bind fun t424 => (some t424)) else (some false))) else (none)) else (some false))) else (some false)))) (fun k => ?_) (Ev.bind hP (Ev.bind (lexScan_f (M (joinS m))) ?_))
  · simp only [kindlinglaw07_LexBack.j1]
    rw [if_neg (by simp)]
  by_cases hs : 4096 < (M (joinS m)).size
  · have hsc : scan (M (joinS m)) = ([], 0, 3) := by unfold scan; rw [if_pos hs]
    rw [hsc]
    exact Ev.congr (fun k => by rw [if_pos (by rfl), if_pos (by show ((M (joinS m)).size : Int) > 4096; omega), if_pos (by rfl)]) known_b
  · have hsc := scan_run (s := M (joinS m)) (by omega) (by rw [hB]; exact h1)
    rw [dif_pos (by omega)] at hsc
    rw [hsc]
    refine Ev.congr (fun k => by rw [if_pos (by rfl), if_neg (by show ¬ ((M (joinS m)).size : Int) > 4096; omega), if_pos (by rfl), if_pos (by omega)]) (Ev.bind (same_g _ _ false (by simp; omega) ?_ (fun hh => by cases hh)) ?_)
    · rw [List.map_append, List.map_append, h2]
      rfl
    · exact Ev.congr (fun k => by rw [if_pos rfl]) known_b
theorem back_l0 {l : List S32} (hz : ∀ t ∈ l, t.f1.size ≤ 140737488355328) : ∀ (m i : Nat) (x3 : List S32), l.length - i ≤ m → i ≤ l.length → i ≤ 1001 → (∀ t ∈ x3, good t) → wsum x3 ≤ wsum (l.take i) → wsum x3 ≤ 1000 →
    Ev (fun k => kindlinglaw07_LexBack.l0 k l x3 (wsum (l.take i) : Int) (i : Int)) true := by
  intro m
  induction m with
  | zero =>
    intro i x3 hm hi h3 hg hw hw2
    refine Ev.step (f := fun k => kindlinglaw07_LexBack.j1 k l x3 (wsum (l.take i) : Int) (i : Int) false) (fun k => ?_) (back_end hg hw2)
    simp only [kindlinglaw07_LexBack.l0]
    rw [if_neg (by omega)]
  | succ m ih =>
    intro i x3 hm hi h3 hg hw hw2
    by_cases hi2 : i < l.length
    case neg => exact ih i x3 (by omega) hi h3 hg hw hw2
    have hsz := hz l[i] (List.getElem_mem hi2)
    have hlen := wsum_len (l.take i)
    have hnext := wsum_next l hi2
    rw [List.length_take, Nat.min_eq_left hi] at hlen
    refine Ev.step (f := fun k => kindlinglaw07_LexBack.j1 k l x3 (wsum (l.take i) : Int) (i : Int) (decide (wsum (l.take i) ≤ 1000))) (fun k => ?_) ?_
    · simp only [kindlinglaw07_LexBack.l0]
      rw [if_pos (by omega)]
      congr 1
      rw [decide_eq_decide]
      omega
    by_cases h : wsum (l.take i) ≤ 1000
    case neg =>
      rw [decide_eq_false h]
      exact back_end hg hw2
    rw [decide_eq_true h]
    have hw1 : wrap64 ((wrap64 ((wsum (l.take i) : Int) + 1)) + ((l[i]).f1.size : Int)) = (wsum (l.take (i + 1)) : Int) := by
      rw [w64 (x := (wsum (l.take i) : Int) + 1) (by omega) (by omega), w64 (by omega) (by omega), hnext]
      omega
    have hwi : wrap64 ((i : Int) + 1) = ((i + 1 : Nat) : Int) := w64 (by omega) (by omega)
    have skipIt : ∀ k : Unit, Ev (fun k => kindlinglaw07_LexBack.j2 k l x3 (wsum (l.take (i + 1)) : Int) (i : Int) false) true := fun _ => by
      refine Ev.step (fun k => ?_) (ih (i + 1) x3 (by omega) (by omega) (by omega) hg (by omega) hw2)
      simp only [kindlinglaw07_LexBack.j2]
      rw [if_neg (by simp), hwi]
    by_cases hb : wsum (l.take (i + 1)) ≤ 1000
    · have hsm : (l[i]).f1.size ≤ 1000000 := by omega
      refine Ev.step (f := fun k => (kindlingref07_Right.f k (l[i]).f0 (l[i]).f1 (l[i]).f2 (l[i]).f3).bind fun t406 => (if t406 = true then (kindlinglaw07_LexBack.j2 k l x3 (wsum (l.take (i + 1)) : Int) (i : Int) ((l[i]).f0 != 0)) else (kindlinglaw07_LexBack.j2 k l x3 (wsum (l.take (i + 1)) : Int) (i : Int) false))) (fun k => ?_) (Ev.bind (refRight_f hsm (l[i]).f0 (l[i]).f2 (l[i]).f3) ?_)
      · simp only [kindlinglaw07_LexBack.j1]
        rw [if_pos trivial, if_pos (by omega), if_pos (by omega), rd_get hi2, hw1, if_pos (by omega)]
      cases hr : rightS (l[i]).f0 (l[i]).f1 (l[i]).f2
      · exact Ev.congr (fun k => by rw [if_neg (by simp)]) (skipIt ())
      refine Ev.congr (fun k => by rw [if_pos rfl]) ?_
      by_cases h0 : (l[i]).f0 = 0
      · rw [show ((l[i]).f0 != 0) = false from bne_eq_false_iff_eq.2 h0]
        exact skipIt ()
      · rw [show ((l[i]).f0 != 0) = true from bne_iff_ne.2 h0]
        have hws : wsum (x3 ++ [l[i]]) = wsum x3 + 1 + (l[i]).f1.size := by simp [wsum]; omega
        refine Ev.step (fun k => ?_) (ih (i + 1) (x3 ++ [l[i]]) (by omega) (by omega) (by omega) ?_ (by omega) (by omega))
        · have hxl := wsum_len x3
          simp only [kindlinglaw07_LexBack.j2]
          rw [if_pos trivial, if_pos (by omega), if_pos (by omega), rd_get hi2, hwi, if_pos (by omega)]
        · intro t ht
          rcases List.mem_append.1 ht with ht | ht
          · exact hg t ht
          · simp at ht; subst ht; exact ⟨hr, h0⟩
    · refine Ev.step (fun k => ?_) (skipIt ())
      simp only [kindlinglaw07_LexBack.j1]
      rw [if_pos trivial, if_pos (by omega), if_pos (by omega), rd_get hi2, hw1, if_neg (by omega)]
theorem lexBack_f (l : List S32) (hz : ∀ t ∈ l, t.f1.size ≤ 140737488355328) : Ev (fun k => kindlinglaw07_LexBack.f k l) true :=
  back_l0 hz l.length 0 [] (by omega) (by omega) (by omega) (by simp) (by simp [wsum]) (by simp [wsum])
end Go.Proofs.YtnihjlnnllngeaaDoor.Lx
