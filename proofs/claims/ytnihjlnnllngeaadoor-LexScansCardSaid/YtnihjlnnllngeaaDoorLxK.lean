/- The first law of layer 7: any text is cut the same. -/
import Derived.Test.YtnihjlnnllngeaaDoorLxQ
import Derived.Test.YtnihjlnnllngeaaDoorF0
import Derived.Test.YtnihjlnnllngeaaDoorFLexScans
namespace Go.Proofs.YtnihjlnnllngeaaDoor.Lx
open Go.RowKit Go.Proofs.YtnihjlnnllngeaaDoorW.PrintWords Go.Proofs.YtnihjlnnllngeaaDoor.PL
set_option linter.unusedVariables false
set_option linter.unusedSimpArgs false
set_option linter.unusedSectionVars false
theorem scan_len (s : ByteArray) : (scan s).1.length ≤ 1001 := by
  by_cases e : (scan s).2.2 = 0
  · obtain ⟨_, ts, _, h, h2⟩ := scan_ok e
    rw [h2]; simp; omega
  · rw [scan_bad e]; simp
theorem lexScans_f (s : ByteArray) : Ev (fun k => kindlinglaw07_LexScans.f k s) true := by
  unfold kindlinglaw07_LexScans.f
  rw [long_g]
  simp only [Option.bind_some]
  by_cases h : 500 < s.size ∧ s.size ≤ 4096
  · rw [decide_eq_true h]
    exact Ev.congr (fun k => by rw [if_pos rfl]) known_b
  · rw [decide_eq_false h]
    refine Ev.congr (fun k => by rw [if_neg (by simp)]) (Ev.bind (lexScan_f s) (Ev.bind (refScan_f s) (Ev.bind (same_g (scan s).1 (scan s).1 true (by have := scan_len s; omega) rfl (fun _ => rfl)) ?_)))
    exact Ev.congr (fun k => by rw [if_pos rfl, if_pos rfl, if_pos rfl]) known_b
end Go.Proofs.YtnihjlnnllngeaaDoor.Lx
