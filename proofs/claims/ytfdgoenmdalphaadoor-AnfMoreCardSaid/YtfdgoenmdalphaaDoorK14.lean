/- What is known: a fixed run. -/
import Derived.Test.YtfdgoenmdalphaaDoorRa0
namespace Go.Proofs.YtfdgoenmdalphaaDoor
open Go.Ev Go.RowKit
noncomputable section
set_option linter.unusedVariables false
def isTrue (r : Option Rt) : Bool := match r with
  | some ⟨.ret (.bool true), false, _, _⟩ => true
  | _ => false
def pl0 : Pol := ⟨[], [], [], [], false⟩
theorem known_run : isTrue (FD P pl0 (fun _ _ => none) 400 (.call 5 [] false none .leaf P.globals.size)) = true := by kernel_rfl
end
end Go.Proofs.YtfdgoenmdalphaaDoor
