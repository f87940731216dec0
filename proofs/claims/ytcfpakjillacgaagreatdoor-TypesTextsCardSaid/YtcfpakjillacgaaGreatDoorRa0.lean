/- What is held by value, and where a call is cut. -/
import Derived.Test.YtcfpakjillacgaaGreatDoorQP
import Derived.Test.YtcfpakjillacgaaGreatDoorProg
import Derived.KernelRfl
namespace Go.Proofs.YtcfpakjillacgaaGreatDoor
open Go.Ev Go.RowKit
noncomputable section
set_option linter.unusedVariables false
noncomputable abbrev P : Program := Tryz.prog
noncomputable def pl : Pol := ⟨[], [], [(3, [1]), (4, [2]), (6, [1]), (7, [1]), (15, [2, 8, 10]), (18, [2])], [((3, 6), [1, 11]), ((7, 12), [3]), ((7, 20), [1, 40]), ((7, 26), [1, 4, 5]), ((7, 29), [1, 4, 5, 6]), ((7, 34), [1, 4, 5, 6, 69]), ((7, 42), [1, 4, 5, 6, 88]), ((4, 9), [1, 2, 5, 6]), ((18, 8), [1, 2, 5, 6]), ((18, 10), [1, 5, 6, 7]), ((18, 12), [5, 44]), ((17, 9), [0, 3, 4]), ((17, 16), [0, 3, 4, 5]), ((16, 14), [0]), ((15, 30), [1, 2, 48]), ((15, 34), [1, 2, 70]), ((15, 39), [1, 5, 6, 87, 88, 89]), ((15, 11), [2, 5, 19, 20, 21]), ((24, 10), [0, 3]), ((24, 16), [4]), ((62, 8), [0, 17]), ((62, 18), [0, 5, 6]), ((90, 5), [0, 1, 4]), ((90, 42), [0, 4, 12]), ((90, 52), [0, 4, 12]), ((91, 6), [0, 1, 2, 3, 4, 10, 11, 28]), ((91, 16), [0, 1, 2, 3, 4, 10, 11, 12, 13]), ((91, 25), [0, 1, 3, 4, 10, 11, 12, 13, 14, 15, 16]), ((91, 39), [0, 1, 3, 4, 10, 11, 12, 13, 17]), ((91, 58), [0, 4, 10, 11, 12, 13]), ((106, 10), [0, 2]), ((106, 16), [0, 2]), ((106, 22), [0, 2])], true⟩
end
end Go.Proofs.YtcfpakjillacgaaGreatDoor
