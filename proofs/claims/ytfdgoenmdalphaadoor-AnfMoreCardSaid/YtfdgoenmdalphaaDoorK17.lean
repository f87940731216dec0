/- AnfMore: the law's call. -/
import Derived.Test.YtfdgoenmdalphaaDoorK16
namespace Go.Proofs.YtfdgoenmdalphaaDoor
open Go.Ev Go.RowKit Go.ChangeShapes Go.WideShapes Go.ChangeAt
noncomputable section
set_option linter.unusedVariables false
variable {W : World}
theorem law_calls3 (hg : P.globals.size ≤ W.heap.size) {v : Value} (fs : List Fun) (free locs : Int) (hv : VR (phiW W) (funsV fs) v) (hl : fs.length < big) (hs : ∀ f, f ∈ fs → bSm f.body) :
    Calls P 3 #[v, .int .i64 free, .int .i64 locs] W fun e w' => e = .returned (.bool true) ∧ Below W.heap.size W w' := by
  obtain ⟨H', nx', _, h⟩ := pu_3 fs free locs hl hs .leaf W.heap.size
  exact calls_of_F (X_ok hg) (HR_W hg) (phiW_length W) (.cons hv (.cons (.flat _ rfl) (.cons (.flat _ rfl) .nil))) rfl h
end
end Go.Proofs.YtfdgoenmdalphaaDoor
