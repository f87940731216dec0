/- A blank or a comment more between two tokens changes nothing but places. -/
import Derived.Test.YtnihjlnnllngeaaDoorLxQ
import Derived.Test.YtnihjlnnllngeaaDoorFScan
import Derived.Test.YtnihjlnnllngeaaDoorFKnown
import Derived.Test.YtnihjlnnllngeaaDoorFRBlank
import Derived.Test.YtnihjlnnllngeaaDoorFRSame
import Derived.Test.YtnihjlnnllngeaaDoorFLexBlanks
namespace Go.Proofs.YtnihjlnnllngeaaDoor.Lx
open Go.RowKit Go.Proofs.YtnihjlnnllngeaaDoorW.PrintWords Go.Proofs.YtnihjlnnllngeaaDoor.PL
set_option linter.unusedVariables false
set_option linter.unusedSimpArgs false
set_option linter.unusedSectionVars false
/-- Where a token or the end stands, blanks can be put. -/
theorem put_blank {s bl : ByteArray} {ts : List S32} (h : Runs (B s) 0 ts) (hb : skip (B bl) = (bl.size, true)) {r : Nat} (hr : r ≤ ts.length) :
    ∃ a : Nat, (rd_T32 (ts ++ [fin s.size]) (r : Int)).f3 = (a : Int) ∧ a ≤ s.size ∧ ∃ us, Runs ((B s).take a ++ B bl ++ (B s).drop a) 0 us ∧ us.map keyT = ts.map keyT := by
  have hp : ∃ a : Nat, (rd_T32 (ts ++ [fin s.size]) (r : Int)).f3 = (a : Int) ∧ a ≤ s.size ∧ Runs ((B s).take a) 0 (ts.take r) ∧ Runs ((B s).drop a) a (ts.drop r) := by
    by_cases hc : r < ts.length
    · obtain ⟨a, e, ha, _, h1, h2⟩ := runs_split (byt_B s) h r hc
      rw [B_length] at ha
      rw [Nat.zero_add] at e h2
      exact ⟨a, by rw [rd_get (by simp; omega), List.getElem_append_left hc]; exact e, by omega, h1, h2⟩
    · obtain rfl : r = ts.length := by omega
      refine ⟨s.size, by rw [rd_last]; rfl, Nat.le_refl _, ?_, ?_⟩
      · rw [List.take_length, List.take_of_length_le (by rw [B_length]; exact Nat.le_refl _)]; exact h
      · rw [List.drop_length, List.drop_of_length_le (by rw [B_length]; exact Nat.le_refl _)]
        exact .done (by simp [skip])
  obtain ⟨a, e, ha, h1, h2⟩ := hp
  refine ⟨a, e, ha, ?_⟩
  by_cases hz : B bl = []
  · rw [hz, List.append_nil, List.take_append_drop]
    exact ⟨ts, h, rfl⟩
  have hb' : skip (B bl) = ((B bl).length, true) := by rw [hb, B_length]
  have h3 := runs_shift h2 bl.size
  rw [← B_length bl] at h3
  have h4 := runs_blank hb' h3
  have hl : ((B s).take a).length = a := by rw [List.length_take, B_length]; omega
  have h5 := runs_join ((byt_B s).take a) ((byt_B bl).app ((byt_B s).drop a)) (sep_blank hz hb') h1 (by rw [hl, Nat.zero_add]; exact h4)
  rw [← List.append_assoc] at h5
  refine ⟨_, h5, ?_⟩
  rw [List.map_append, List.map_map]
  have : (keyT ∘ fun t : S32 => { t with f3 := t.f3 + ((B bl).length : Int) }) = keyT := rfl
  rw [this, ← List.map_append, List.take_append_drop]
theorem lexBlanks_f (s : ByteArray) (w : Int) (bl : ByteArray) : Ev (fun k => kindlinglaw07_LexBlanks.f k s w bl) true := by
  have big : Ev (fun k => kindlinglaw07_LexBlanks.j0 k s w bl true) true := by
    refine Ev.step (fun k => ?_) known_b
    simp only [kindlinglaw07_LexBlanks.j0]
    rw [if_pos trivial]
  have fails : ∀ l, Ev (fun k => kindlinglaw07_LexBlanks.j1 k s w bl l true) true := by
    intro l
    refine Ev.step (fun k => ?_) known_b
    simp only [kindlinglaw07_LexBlanks.j1]
    rw [if_pos trivial]
  unfold kindlinglaw07_LexBlanks.f
  rw [long_g]
  simp only [Option.bind_some]
  by_cases h : 500 < s.size ∧ s.size ≤ 4096
  · rw [decide_eq_true h]
    exact Ev.congr (fun k => by rw [if_pos rfl]) big
  rw [decide_eq_false h]
  refine Ev.congr (fun k => by rw [if_neg (by simp)]) ?_
  by_cases h2 : 500 < bl.size
  · rw [decide_eq_true (by omega)]; exact big
  rw [decide_eq_false (by omega)]
  refine Ev.step (f := fun k => (lex_Scan.f k s).bind fun bt487 => (kindlingref07_Blank.f k bl).bind fun bt492 => (if bt487.2.2 = 0 then (if bt492.2 = true then (kindlinglaw07_LexBlanks.j1 k s w bl bt487.1 (bt492.1 != (bl.size : Int))) else (kindlinglaw07_LexBlanks.j1 k s w bl bt487.1 true)) else (kindlinglaw07_LexBlanks.j1 k s w bl bt487.1 true))) (fun k => ?_) (Ev.bind (lexScan_f s) (Ev.bind (blank_f (s := bl) (by omega)) ?_))
  · simp only [kindlinglaw07_LexBlanks.j0]
    rw [if_neg (by simp)]
  by_cases e : (scan s).2.2 = 0
  case neg => exact Ev.congr (fun k => by rw [if_neg e]) (fails _)
  refine Ev.congr (fun k => by rw [if_pos e]) ?_
  by_cases e2 : (skip (B bl)).2 = true
  case neg => exact Ev.congr (fun k => by rw [if_neg e2]) (fails _)
  refine Ev.congr (fun k => by rw [if_pos e2]) ?_
  by_cases e3 : (skip (B bl)).1 = bl.size
  case neg =>
    rw [show ((((skip (B bl)).1 : Int) != (bl.size : Int))) = true from bne_iff_ne.mpr (by omega)]
    exact fails _
  rw [show ((((skip (B bl)).1 : Int) != (bl.size : Int))) = false from bne_eq_false_iff_eq.mpr (by omega)]
  obtain ⟨h4, ts, ht, hl, sc⟩ := scan_ok e
  have hlen := runs_len ht
  rw [B_length] at hlen
  rw [sc]
  simp only
  have l1 : ((ts ++ [fin s.size]).length : Int) = ((ts.length + 1 : Nat) : Int) := by simp
  obtain ⟨r, hr, hr2⟩ := among_g w (n := ts.length + 1) (by omega) (by omega)
  obtain ⟨a, ea, ha, us, hus, hk⟩ := put_blank ht (Prod.ext e3 e2) (r := r) (by omega)
  refine Ev.step (f := fun k => kindlinglaw07_LexBlanks.j2 k s bl (ts ++ [fin s.size]) (a : Int) false) (fun k => ?_) ?_
  · simp only [kindlinglaw07_LexBlanks.j1]
    rw [if_neg (by simp), l1, if_neg (by omega), hr]
    simp only [Option.bind_some]
    rw [if_pos (by omega), if_pos (by omega), ea, if_neg (by omega), decide_eq_false (by omega)]
  have hB : B (((s.extract 0 (a : Int).toNat) ++ bl) ++ (s.extract (a : Int).toNat s.size)) = (B s).take a ++ B bl ++ (B s).drop a := by
    rw [B_app2, B_app2, Int.toNat_natCast, B_pre, B_rest]
  have s1 : (s.extract 0 (a : Int).toNat).size = a := by rw [Int.toNat_natCast]; exact size_pre ha
  have s2 : (s.extract (a : Int).toNat s.size).size = s.size - a := by rw [Int.toNat_natCast, size_rest]
  have hsz : (((s.extract 0 (a : Int).toNat) ++ bl) ++ (s.extract (a : Int).toNat s.size)).size = s.size + bl.size := by
    rw [size_app2, size_app2, s1, s2]; omega
  have hul : us.length = ts.length := by simpa using congrArg List.length hk
  have hsc := scan_run (by rw [hsz]; omega) (by rw [hB]; exact hus)
  rw [dif_pos (by omega)] at hsc
  refine Ev.step (f := fun k => (lex_Scan.f k (((s.extract 0 (a : Int).toNat) ++ bl) ++ (s.extract (a : Int).toNat s.size))).bind fun bt497 => (if bt497.2.2 = 0 then ((kindlingref07_Same.f k (ts ++ [fin s.size]) bt497.1 false).bind fun t502 => (if t502 = true then ((kindlinglaw07_known.f k).bind fun t503 => (some t503)) else (some false))) else (some false))) (fun k => ?_) (Ev.bind (lexScan_f (((s.extract 0 (a : Int).toNat) ++ bl) ++ (s.extract (a : Int).toNat s.size))) ?_)
  · simp only [kindlinglaw07_LexBlanks.j2]
    rw [if_neg (by simp), if_pos (by omega), if_pos (by omega)]
    have g1 : (s.extract 0 (a : Int).toNat).size + bl.size ≤ 9223372036854775807 := by rw [s1]; omega
    have g2 : ((s.extract 0 (a : Int).toNat) ++ bl).size + (s.extract (a : Int).toNat s.size).size ≤ 9223372036854775807 := by rw [size_app2, s1, s2]; omega
    rw [if_pos g1, if_pos g2]
  rw [hsc]
  refine Ev.congr (fun k => by rw [if_pos rfl]) (Ev.bind (same_g _ _ false (by simp; omega) ?_ (fun hh => by cases hh)) ?_)
  · rw [List.map_append, List.map_append, hk]
    rfl
  · exact Ev.congr (fun k => by rw [if_pos rfl]) known_b
end Go.Proofs.YtnihjlnnllngeaaDoor.Lx
