/- Runs of tokens: a text is cut the same in parts, joined, moved; what that says of a scan. No program here. -/
import Derived.Test.YtnihjlnnllngeaaDoorLxJ
namespace Go.Proofs.YtnihjlnnllngeaaDoor.Lx
open Go.RowKit Go.Proofs.YtnihjlnnllngeaaDoorW.PrintWords Go.Proofs.YtnihjlnnllngeaaDoor.PL
set_option linter.unusedVariables false
set_option linter.unusedSimpArgs false
set_option linter.unusedSectionVars false

def Byt (l : List Nat) : Prop := ∀ x ∈ l, x < 256
theorem Byt.drop {l : List Nat} (h : Byt l) (n : Nat) : Byt (l.drop n) := fun x hx => h x (List.mem_of_mem_drop hx)
theorem Byt.take {l : List Nat} (h : Byt l) (n : Nat) : Byt (l.take n) := fun x hx => h x (List.mem_of_mem_take hx)
theorem byt_B (s : ByteArray) : Byt (B s) := fun _ h => B_lt h
/-- The tokens of a text that stands at a place. -/
inductive Runs : List Nat → Nat → List S32 → Prop
  | done {l : List Nat} {p : Nat} (h : skip l = (l.length, true)) : Runs l p []
  | tok {l : List Nat} {p n k : Nat} {a v : Int} {b : ByteArray} {ts : List S32} (h : skip l = (n, true)) (hl : lexS (M (l.drop n)) = some (a, b, v, k)) (hk : 0 < k) (hn : n + k ≤ l.length)
      (hr : Runs (l.drop (n + k)) (p + n + k) ts) : Runs l p (⟨a, b, v, ((p + n : Nat) : Int)⟩ :: ts)
section
variable {s : ByteArray} (hs : s.size ≤ 140737488351232)
include hs
end
end Go.Proofs.YtnihjlnnllngeaaDoor.Lx
