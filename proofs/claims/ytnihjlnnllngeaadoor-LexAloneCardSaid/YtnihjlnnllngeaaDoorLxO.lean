/- Each token's own part of a text is cut into that token alone. -/
import Derived.Test.YtnihjlnnllngeaaDoorLxQ
import Derived.Test.YtnihjlnnllngeaaDoorFScan
import Derived.Test.YtnihjlnnllngeaaDoorFRSame
import Derived.Test.YtnihjlnnllngeaaDoorFLexAlone
namespace Go.Proofs.YtnihjlnnllngeaaDoor.Lx
open Go.RowKit Go.Proofs.YtnihjlnnllngeaaDoorW.PrintWords Go.Proofs.YtnihjlnnllngeaaDoor.PL
set_option linter.unusedVariables false
set_option linter.unusedSimpArgs false
set_option linter.unusedSectionVars false
/-- A token's own part, with the blanks behind it. -/
theorem part_alone {s : ByteArray} {ts : List S32} (h : Runs (B s) 0 ts) {i : Nat} (hi : i < ts.length) :
    ∃ a b : Nat, (ts[i]).f3 = (a : Int) ∧ ((ts ++ [fin s.size])[i + 1]'(by simp; omega)).f3 = (b : Int) ∧ a < b ∧ b ≤ s.size ∧ ∃ t, Runs (B (s.extract a b)) 0 [t] ∧ keyT t = keyT ts[i] ∧ t.f3 = 0 := by
  obtain ⟨a, e, ha, hz, _, h2⟩ := runs_split (byt_B s) h i hi
  rw [Nat.zero_add] at e h2
  rw [List.drop_eq_getElem_cons hi] at h2
  obtain ⟨k, hl, hk, hn, _, h3⟩ := runs_head h2 hz
  rw [List.length_drop, B_length] at hn
  rw [B_length] at ha
  rw [List.drop_drop] at h3
  have key : ∃ j, ((ts ++ [fin s.size])[i + 1]'(by simp; omega)).f3 = ((a + k + j : Nat) : Int) ∧ a + k + j ≤ s.size ∧ skip (((B s).drop (a + k)).take j) = (j, true) := by
    by_cases hc : i + 1 < ts.length
    · obtain ⟨j, ej, hj, _, h4, _⟩ := runs_split ((byt_B s).drop _) h3 0 (by simp; omega)
      refine ⟨j, ?_, by rw [List.length_drop, B_length] at hj; omega, ?_⟩
      · rw [List.getElem_append_left hc]
        simpa using ej
      · rw [List.length_drop, B_length] at hj
        rw [List.take_zero] at h4
        cases h4 with
        | done h5 => rw [h5, List.length_take, List.length_drop, B_length, Nat.min_eq_left (by omega)]
    · have hnil : ts.drop (i + 1) = [] := List.drop_of_length_le (by omega)
      refine ⟨s.size - (a + k), ?_, by omega, ?_⟩
      · rw [List.getElem_append_right (by omega)]
        simp [fin]
        omega
      · rw [hnil] at h3
        cases h3 with
        | done h5 =>
          rw [List.length_drop, B_length] at h5
          rw [List.take_of_length_le (by rw [List.length_drop, B_length]; exact Nat.le_refl _)]
          exact h5
  obtain ⟨j, ej, hj, hs⟩ := key
  refine ⟨a, a + k + j, e, ej, by omega, hj, ⟨ts[i].f0, ts[i].f1, ts[i].f2, ((0 + 0 : Nat) : Int)⟩, ?_, rfl, rfl⟩
  have hB : B (s.extract a (a + k + j)) = ((B s).drop a).take (k + j) := by rw [B_extract, show a + k + j - a = k + j by omega]
  rw [hB]
  have hd : (((B s).drop a).take (k + j)).drop (0 + k) = ((B s).drop (a + k)).take j := by
    rw [Nat.zero_add, List.drop_take, List.drop_drop, Nat.add_sub_cancel_left]
  have hc := tok_cut (n := 0) (l := (B s).drop a) (l' := ((B s).drop a).take (k + j)) ((byt_B s).drop _) (((byt_B s).drop _).take _) hz (by simpa using hl) hk (by rw [List.length_drop, B_length]; omega)
    (by rw [List.take_take]; congr 1; omega) (by
      rw [hd, Nat.zero_add, List.drop_drop]
      cases j with
      | zero => exact .inr (.inl rfl)
      | succ j => left; cases (B s).drop (a + k) <;> simp)
  refine .tok hc.1 hc.2 hk (by rw [List.length_take, List.length_drop, B_length]; omega) ?_
  rw [hd]
  exact .done (by rw [hs, List.length_take, List.length_drop, B_length, Nat.min_eq_left (by omega)])
theorem alone_l0 {s : ByteArray} (hs : s.size ≤ 500) {ts : List S32} (h : Runs (B s) 0 ts) : ∀ (n i : Nat), ts.length - i ≤ n → i ≤ ts.length → Ev (fun k => kindlinglaw07_LexAlone.l0 k s (ts ++ [fin s.size]) (i : Int)) true := by
  have hlen := runs_len h
  rw [B_length] at hlen
  have last : Ev (fun k => kindlinglaw07_LexAlone.l0 k s (ts ++ [fin s.size]) (ts.length : Int)) true := by
    refine Ev.step (fun k => ?_) known_b
    simp only [kindlinglaw07_LexAlone.l0]
    have l1 : ((ts ++ [fin s.size]).length : Int) = ts.length + 1 := by simp
    rw [l1, w64 (x := (ts.length : Int) + 1) (by omega) (by omega), if_neg (by omega), if_pos (by omega), w64 (x := (ts.length : Int) + 1 - 1) (by omega) (by omega), if_pos (by omega), if_pos (by omega), show (ts.length : Int) + 1 - 1 = ts.length by omega, rd_last, if_pos (show (fin s.size).f3 = (s.size : Int) from rfl)]
  intro n
  induction n with
  | zero =>
    intro i hm hi
    obtain rfl : i = ts.length := by omega
    exact last
  | succ n ih =>
    intro i hm hi
    by_cases hl : i = ts.length
    · subst hl; exact last
    have hi2 : i < ts.length := by omega
    obtain ⟨a, b, ea, eb, hab, hb, t, ht, kt, t0⟩ := part_alone h hi2
    have l1 : ((ts ++ [fin s.size]).length : Int) = ts.length + 1 := by simp
    have r1 : rd_T32 (ts ++ [fin s.size]) (i : Int) = ts[i] := by rw [rd_get (by simp; omega), List.getElem_append_left hi2]
    have r2 : rd_T32 (ts ++ [fin s.size]) ((i + 1 : Nat) : Int) = (ts ++ [fin s.size])[i + 1]'(by simp; omega) := rd_get (by simp; omega)
    refine Ev.step (f := fun k => kindlinglaw07_LexAlone.j1 k s (ts ++ [fin s.size]) (i : Int) (a : Int) (b : Int) false) (fun k => ?_) ?_
    · simp only [kindlinglaw07_LexAlone.l0]
      rw [w64_1 (n := 1000) (by omega) (by omega), r1, r2, ea, eb, l1, if_pos (by omega), if_pos (by omega), if_pos (by omega), if_pos (by omega), if_neg (by omega), if_neg (by omega), decide_eq_false (by omega)]
    have hsz : (s.extract a b).size ≤ 4096 := by rw [← B_length, B_extract, List.length_take]; omega
    have hsc := scan_run hsz ht
    rw [dif_pos (by simp)] at hsc
    refine Ev.step (f := fun k => (lex_Scan.f k (s.extract a b)).bind fun bt435 => (if bt435.2.2 = 0 then (if (bt435.1.length : Int) = 2 then (if 0 < (bt435.1.length : Int) then (if ((rd_T32 bt435.1 0).f3) = 0 then (if 1 ≤ (bt435.1.length : Int) then (if 0 ≤ (i : Int) then (if (i : Int) ≤ (wrap64 ((i : Int) + 1)) then (if (wrap64 ((i : Int) + 1)) ≤ ((ts ++ [fin s.size]).length : Int) then ((kindlingref07_Same.f k (bt435.1.take 1) (((ts ++ [fin s.size]).take ((wrap64 ((i : Int) + 1)) : Int).toNat).drop (i : Int).toNat) false).bind fun t449 => (kindlinglaw07_LexAlone.j2 k s (ts ++ [fin s.size]) (i : Int) (!t449))) else (none)) else (none)) else (none)) else (none)) else (kindlinglaw07_LexAlone.j2 k s (ts ++ [fin s.size]) (i : Int) true)) else (none)) else (kindlinglaw07_LexAlone.j2 k s (ts ++ [fin s.size]) (i : Int) true)) else (kindlinglaw07_LexAlone.j2 k s (ts ++ [fin s.size]) (i : Int) true))) (fun k => ?_) (Ev.bind (lexScan_f (s.extract a b)) ?_)
    · simp only [kindlinglaw07_LexAlone.j1]
      rw [if_neg (by simp), if_pos (by omega), if_pos (by omega), if_pos (by omega)]
      rfl
    rw [hsc]
    have r3 : rd_T32 ([t] ++ [fin (s.extract a b).size]) 0 = t := rfl
    have hd : ((ts ++ [fin s.size]).take (wrap64 ((i : Int) + 1)).toNat).drop (i : Int).toNat = [ts[i]] := by
      rw [w64_1 (n := 1000) (by omega) (by omega), Int.toNat_natCast, Int.toNat_natCast, List.take_append_of_le_length (by omega), ← List.take_append_getElem hi2, List.drop_append_of_le_length (by rw [List.length_take]; omega)]
      rw [List.drop_of_length_le (by rw [List.length_take]; omega)]
      rfl
    refine Ev.congr (fun k => ?_) (Ev.bind (same_g [t] [ts[i]] false (by simp) (by simp [kt]) (fun hh => by cases hh)) (f := fun k u => kindlinglaw07_LexAlone.j2 k s (ts ++ [fin s.size]) (i : Int) (!u)) (r := true) ?_)
    · simp only
      have l2 : (([t] ++ [fin (s.extract a b).size]).length : Int) = 2 := rfl
      rw [if_pos trivial, l2, if_pos rfl, if_pos (by omega), r3, t0, if_pos rfl, if_pos (by omega), if_pos (by omega), hd, w64_1 (n := 1000) (by omega) (by omega), if_pos (by omega), l1, if_pos (by omega)]
      rfl
    · refine Ev.step (fun k => ?_) (ih (i + 1) (by omega) (by omega))
      simp only [kindlinglaw07_LexAlone.j2]
      rw [if_neg (by simp), w64_1 (n := 1000) (by omega) (by omega)]
theorem lexAlone_f (s : ByteArray) : Ev (fun k => kindlinglaw07_LexAlone.f k s) true := by
  unfold kindlinglaw07_LexAlone.f
  rw [long_g]
  simp only [Option.bind_some]
  by_cases h : 500 < s.size ∧ s.size ≤ 4096
  · rw [decide_eq_true h]
    exact Ev.congr (fun k => by rw [if_pos rfl]) known_b
  rw [decide_eq_false h]
  refine Ev.congr (fun k => by rw [if_neg (by simp)]) (Ev.bind (lexScan_f s) ?_)
  by_cases e : (scan s).2.2 = 0
  · obtain ⟨h1, ts, ht, hl, sc⟩ := scan_ok e
    rw [sc]
    refine Ev.congr (fun k => by rw [if_pos rfl]; rfl) (alone_l0 (by omega) ht ts.length 0 (by omega) (by omega))
  · have e2 := scan_bad e
    exact Ev.congr (fun k => by rw [if_neg e, if_pos (by rw [e2]; rfl)]) known_b
end Go.Proofs.YtnihjlnnllngeaaDoor.Lx
