/- The law of texts: its call. -/
import Derived.Test.YtfdgoenmdalphaaGreatDoorS16
import Derived.Test.YtfdgoenmdalphaaGreatDoorS23
namespace Go.Proofs.YtfdgoenmdalphaaGreatDoor
open Go.Ev Go.RowKit Go.ChangeShapes Go.WideShapes Go.ChangeAt
noncomputable section
set_option maxRecDepth 100000
set_option linter.unusedVariables false
set_option linter.unusedSimpArgs false
variable {W : World}
theorem law_calls6 (hg : P.globals.size ≤ W.heap.size) {v : Value} (fs : List Fun) (hv : VR (phiW W) (funsV fs) v) (hl : fs.length < big) (hs : ∀ f, f ∈ fs → bSm f.body ∧ rg f.free ∧ rg f.locs ∧ bR f.body) :
    Calls P 6 #[v] W fun e w' => e = .returned (.bool true) ∧ Below W.heap.size W w' := by
  obtain ⟨H', nx', _, h⟩ := pu_6 fs hl (fun f hf => (hs f hf).1) (fun f hf => (hs f hf).2) .leaf W.heap.size
  exact calls_of_F (X_ok hg) (HR_W hg) (phiW_length W) (.cons hv .nil) rfl h
end
end Go.Proofs.YtfdgoenmdalphaaGreatDoor
