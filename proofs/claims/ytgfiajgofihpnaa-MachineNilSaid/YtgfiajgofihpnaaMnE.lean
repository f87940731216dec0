/- The fixed calls of layer 6 answer true, and leave what lay below: they run in the evaluator. -/
import Derived.Test.YtgfiajgofihpnaaProg
import Derived.Test.YtgfiajgofihpnaaEvN
import Derived.KernelRfl
namespace Go.Proofs.Ytgfiajgofihpnaa
open Go.RowKit (Below)

theorem known_evals : (match Ev.evals Try.prog 70000 13 [] with | some (.bool b) => b | _ => false) = true := by kernel_rfl

theorem known_ok (w : World) : Calls Try.prog 13 #[] w fun e w' => e = .returned (.bool true) ∧ Below w.heap.size w w' := by
  have h := known_evals
  split at h
  · rename_i b hb
    subst h
    exact Ev.calls_of_evals (args := []) (fun x hx => by cases hx) rfl hb w
  · cases h
end Go.Proofs.Ytgfiajgofihpnaa
