/- So many words, and one more. -/
import Derived.Test.YtnihjlnnllngeaaDoorLxQ
import Derived.Test.YtnihjlnnllngeaaDoorFScan
import Derived.Test.YtnihjlnnllngeaaDoorFKnown
import Derived.Test.YtnihjlnnllngeaaDoorFRAmong
import Derived.Test.YtnihjlnnllngeaaDoorFLexMany
namespace Go.Proofs.YtnihjlnnllngeaaDoor.Lx
open Go.RowKit Go.Proofs.YtnihjlnnllngeaaDoorW.PrintWords Go.Proofs.YtnihjlnnllngeaaDoor.PL
set_option linter.unusedVariables false
set_option linter.unusedSimpArgs false
set_option linter.unusedSectionVars false
/-- So many words, a blank behind each. -/
def rep (w : List Nat) : Nat → List Nat
  | 0 => []
  | n + 1 => rep w n ++ (w ++ [32])
theorem rep_length (w : List Nat) : ∀ n, (rep w n).length = n * (w.length + 1)
  | 0 => by simp [rep]
  | n + 1 => by rw [rep, List.length_append, rep_length w n, List.length_append, Nat.succ_mul]; rfl
theorem rep_front (w : List Nat) : ∀ n, rep w (n + 1) = (w ++ [32]) ++ rep w n
  | 0 => by simp [rep]
  | n + 1 => by
    show rep w (n + 1) ++ (w ++ [32]) = (w ++ [32]) ++ (rep w n ++ (w ++ [32]))
    rw [rep_front w n, List.append_assoc]
theorem rep_byt {w : List Nat} (h : Byt w) : ∀ n, Byt (rep w n)
  | 0 => by intro x hx; simp [rep] at hx
  | n + 1 => (rep_byt h n).app (h.app (by intro x hx; simp at hx; omega))
theorem word_tok {w y : List Nat} (hb : Byt w) (hy : Byt y) (hw : wordS w = true) : ∃ a b v, lexS (M (w ++ 32 :: y)) = some (a, b, v, w.length) := by
  cases w with
  | nil => simp [wordS] at hw
  | cons c r =>
    simp only [wordS, Bool.and_eq_true] at hw
    obtain ⟨h1, h2⟩ := hw
    have hB : B (M ((c :: r) ++ 32 :: y)) = c :: (r ++ 32 :: y) := B_M (hb.app (by
      intro x hx
      rcases List.mem_cons.1 hx with rfl | hx
      · omega
      · exact hy x hx))
    have ht : (r ++ 32 :: y).takeWhile prt = r := by
      rw [List.takeWhile_append_of_pos (fun x hx => List.all_eq_true.1 h2 x hx), List.takeWhile_cons_of_neg (by decide), List.append_nil]
    refine ⟨wk ((M ((c :: r) ++ 32 :: y)).extract 0 (c :: r).length), (M ((c :: r) ++ 32 :: y)).extract 0 (c :: r).length, 0, ?_⟩
    · rw [lexS, hB]
      simp only
      have h34 : c ≠ 34 := by rintro rfl; simp [ltr, lo, hi, rng] at h1
      rw [if_neg (by rw [ltr_not_dig h1]; simp), if_neg h34, if_pos h1, ht, show 1 + r.length = (c :: r).length by simp; omega]
theorem word_skip {w y : List Nat} (hw : wordS w = true) : skip (w ++ 32 :: y) = (0, true) := by
  cases w with
  | nil => simp [wordS] at hw
  | cons c r =>
    simp only [wordS, Bool.and_eq_true] at hw
    have h1 := ltr_iff.1 hw.1
    refine skip_else ?_ ?_
    · simp [ws]; omega
    · rintro ⟨rfl, _⟩; omega
theorem rep_runs {w : List Nat} (hb : Byt w) (hw : wordS w = true) : ∀ n p, ∃ ts, Runs (rep w n) p ts ∧ ts.length = n ∧ ∀ i (hi : i < ts.length), (ts[i]).f3 = ((p + i * (w.length + 1) : Nat) : Int)
  | 0, p => ⟨[], .done (by simp [rep, skip]), rfl, fun i hi => by simp at hi⟩
  | n + 1, p => by
    obtain ⟨ts, h1, h2, h3⟩ := rep_runs hb hw n (p + (w.length + 1))
    obtain ⟨a, b, v, hl⟩ := word_tok hb (rep_byt hb n) hw
    have hpos : 0 < w.length := by cases w with
      | nil => simp [wordS] at hw
      | cons c r => simp
    have e : rep w (n + 1) = w ++ 32 :: rep w n := by rw [rep_front]; simp
    refine ⟨⟨a, b, v, ((p + 0 : Nat) : Int)⟩ :: ts, ?_, by simp [h2], ?_⟩
    · rw [e]
      refine .tok (k := w.length) (word_skip hw) (by simpa using hl) hpos (by simp) ?_
      rw [Nat.zero_add, List.drop_left]
      refine runs_blank (b := [32]) (y := rep w n) (by simp [skip, ws]) ?_
      rw [show p + 0 + w.length + [32].length = p + (w.length + 1) by simp; omega]
      exact h1
    · intro i hi
      cases i with
      | zero => simp
      | succ i =>
        rw [List.getElem_cons_succ, h3 i (by simpa using hi), Nat.succ_mul]
        congr 1; omega
theorem B_nums {l : List Nat} (h : Byt l) : B (strOfNums (nI l)) = l := by
  have : strOfNums (nI l) = M l := by
    unfold strOfNums M nI
    rw [List.map_map]
    rfl
  rw [this, B_M h]
theorem bytesOf_nI (s : ByteArray) : bytesOf s = nI (B s) := by
  unfold bytesOf nI B
  rw [List.map_map]
  rfl
theorem many_l0 {w : ByteArray} {n : Nat} (hn : n < 1100) (hw : w.size ≤ 3) {G : Nat → Option Bool}
    (h : Ev (fun k => kindlinglaw07_LexMany.l0 k (n : Int) w (nI (rep (B w) n)) (n : Int)) true) : ∀ (m i : Nat), n - i ≤ m → i ≤ n → Ev (fun k => kindlinglaw07_LexMany.l0 k (n : Int) w (nI (rep (B w) i)) (i : Int)) true := by
  intro m
  induction m with
  | zero =>
    intro i hm hi
    obtain rfl : i = n := by omega
    exact h
  | succ m ih =>
    intro i hm hi
    by_cases hl : i = n
    · subst hl; exact h
    have hlen : (nI (rep (B w) i)).length = i * (w.size + 1) := by rw [nI, List.length_map, rep_length, B_length]
    have hle : i * (w.size + 1) ≤ 1100 * 4 := Nat.mul_le_mul (by omega) (by omega)
    refine Ev.step (fun k => ?_) (ih (i + 1) (by omega) (by omega))
    simp only [kindlinglaw07_LexMany.l0]
    rw [if_pos (by omega), if_pos (by rw [hlen]; omega)]
    simp only [Option.bind_some]
    rw [if_pos (by rw [List.length_append, hlen, bytesOf_length]; omega), w64_1 hi (by omega)]
    congr 1
    rw [bytesOf_nI, rep]
    simp [nI]
theorem many_end {w : ByteArray} {n : Nat} (hn : n < 1100) (hw : w.size ≤ 3) (hword : wordS (B w) = true) : Ev (fun k => kindlinglaw07_LexMany.l0 k (n : Int) w (nI (rep (B w) n)) (n : Int)) true := by
  obtain ⟨ts, hr, hl, hf⟩ := rep_runs (byt_B w) hword n 0
  have hlen : (nI (rep (B w) n)).length = n * (w.size + 1) := by rw [nI, List.length_map, rep_length, B_length]
  have hle : n * (w.size + 1) ≤ 1100 * 4 := Nat.mul_le_mul (by omega) (by omega)
  have hB := B_nums (rep_byt (byt_B w) n)
  have hsz : (strOfNums (nI (rep (B w) n))).size = n * (w.size + 1) := by rw [strOfNums_size, hlen]
  by_cases c : 4096 < n * (w.size + 1)
  · have hs : scan (strOfNums (nI (rep (B w) n))) = ([], 0, 3) := by unfold scan; rw [if_pos (by omega)]
    refine Ev.step (f := fun k => (lex_Scan.f k (strOfNums (nI (rep (B w) n)))).bind fun bt319 => (if bt319.2.1 = 0 then (if bt319.2.2 = 3 then ((kindlinglaw07_known.f k).bind fun t324 => (some t324)) else (some false)) else (some false))) (fun k => ?_) (Ev.bind (lexScan_f (strOfNums (nI (rep (B w) n)))) ?_)
    · simp only [kindlinglaw07_LexMany.l0]
      rw [if_neg (by omega), if_pos (by rw [hlen]; omega)]
    rw [hs]
    exact Ev.congr (fun k => by rw [if_pos rfl, if_pos rfl]) known_b
  have hs := scan_run (s := strOfNums (nI (rep (B w) n))) (by omega) (by rw [hB]; exact hr)
  refine Ev.step (f := fun k => (lex_Scan.f k (strOfNums (nI (rep (B w) n)))).bind fun bt325 => (if (n : Int) > 1000 then (if (bt325.1.length : Int) = 0 then (if bt325.2.2 = 3 then (if bt325.2.1 = (wrap64 (1000 * (wrap64 ((w.size : Int) + 1)))) then ((kindlinglaw07_known.f k).bind fun t330 => (some t330)) else (some false)) else (some false)) else (some false)) else (if bt325.2.2 = 0 then (if bt325.2.1 = 0 then (if (bt325.1.length : Int) = (wrap64 ((n : Int) + 1)) then (if 0 ≤ (n : Int) then (if (n : Int) < (bt325.1.length : Int) then (if ((rd_T32 bt325.1 (n : Int)).f3) = ((nI (rep (B w) n)).length : Int) then ((kindlinglaw07_known.f k).bind fun t332 => (some t332)) else (some false)) else (none)) else (none)) else (some false)) else (some false)) else (some false)))) (fun k => ?_) (Ev.bind (lexScan_f (strOfNums (nI (rep (B w) n)))) ?_)
  · simp only [kindlinglaw07_LexMany.l0]
    rw [if_neg (by omega), if_neg (by rw [hlen]; omega)]
  by_cases c2 : ts.length ≤ 1000
  · rw [dif_pos c2] at hs
    rw [hs]
    refine Ev.congr (fun k => ?_) known_b
    have l1 : ((ts ++ [fin (strOfNums (nI (rep (B w) n))).size]).length : Int) = n + 1 := by simp [hl]
    have r1 : rd_T32 (ts ++ [fin (strOfNums (nI (rep (B w) n))).size]) (n : Int) = fin (strOfNums (nI (rep (B w) n))).size := by rw [← hl, rd_last]
    simp only
    rw [if_neg (by omega), if_pos trivial, if_pos trivial, l1, w64 (by omega) (by omega), if_pos rfl, if_pos (by omega), if_pos (by omega), r1, hlen, if_pos (by rw [fin, hsz])]
  · rw [dif_neg c2] at hs
    rw [hs]
    refine Ev.congr (fun k => ?_) known_b
    have h1 := hf 1000 (by omega)
    rw [Nat.zero_add, B_length] at h1
    simp only
    rw [if_pos (by omega), if_pos (by rfl), if_pos trivial, h1, w64 (x := (w.size : Int) + 1) (by omega) (by omega), w64 (by omega) (by omega), if_pos (by omega)]
theorem lexMany_f (n : Int) (s : ByteArray) : Ev (fun k => kindlinglaw07_LexMany.f k n s) true := by
  unfold kindlinglaw07_LexMany.f
  obtain ⟨r, hr, hr2⟩ := among_g n (n := 1100) (by omega) (by omega)
  have hr' : kindlingref01_Among.f n 1100 = some (r : Int) := hr
  rw [hr']
  simp only [Option.bind_some]
  have go : ∀ w : ByteArray, w.size ≤ 3 → wordS (B w) = true → Ev (fun k => kindlinglaw07_LexMany.j1 k (r : Int) w) true := by
    intro w h1 h2
    refine Ev.step (fun k => ?_) (many_l0 (G := fun _ => none) hr2 h1 (many_end hr2 h1 h2) r 0 (by omega) (by omega))
    simp only [kindlinglaw07_LexMany.j1]
    rfl
  have short : Ev (fun k => kindlinglaw07_LexMany.j0 k (r : Int) s true) true := by
    refine Ev.step (fun k => ?_) (go (⟨#[97]⟩ : ByteArray) (by decide) (by decide))
    simp only [kindlinglaw07_LexMany.j0]
    rw [if_pos trivial]
  by_cases c : 3 < s.size
  · exact Ev.congr (fun k => by rw [if_pos (by omega)]) short
  refine Ev.congr (fun k => by rw [if_neg (by omega)]) (Ev.bind (refWord_f (s := s) (by omega)) ?_)
  cases hw : wordS (B s) with
  | false => exact short
  | true =>
    refine Ev.step (fun k => ?_) (go s (by omega) hw)
    simp only [kindlinglaw07_LexMany.j0]
    rw [if_neg (by simp)]
end Go.Proofs.YtnihjlnnllngeaaDoor.Lx
