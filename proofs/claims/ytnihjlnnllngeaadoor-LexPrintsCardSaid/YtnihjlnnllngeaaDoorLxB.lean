/- Blanks and comments: what is passed by, in plain words; and what the program's and the reference's functions make of it. -/
import Derived.Test.YtnihjlnnllngeaaDoorLxA
import Derived.Test.YtnihjlnnllngeaaDoorF0
namespace Go.Proofs.YtnihjlnnllngeaaDoor.Lx
open Go.RowKit Go.Proofs.YtnihjlnnllngeaaDoorW.PrintWords Go.Proofs.YtnihjlnnllngeaaDoor.PL
set_option linter.unusedVariables false
set_option linter.unusedSimpArgs false
set_option linter.unusedSectionVars false

/-- How many bytes it takes until comments d deep are ended; none: they don't end. -/
def cmt : Nat → List Nat → Option Nat
  | _, [] => none
  | _, [_] => none
  | d, c :: e :: r =>
    if c = 40 ∧ e = 42 then (cmt (d + 1) r).map (· + 2)
    else if c = 42 ∧ e = 41 then (if d ≤ 1 then some 2 else (cmt (d - 1) r).map (· + 2))
    else (cmt d (e :: r)).map (· + 1)
def ws (c : Nat) : Bool := c == 9 || c == 10 || c == 13 || c == 32
/-- Blanks and comments that a text begins with: how many bytes; false: a comment doesn't end, which begins there. -/
def skip : List Nat → Nat × Bool
  | [] => (0, true)
  | [c] => if ws c then (1, true) else (0, true)
  | c :: e :: r =>
    if ws c then ((skip (e :: r)).1 + 1, (skip (e :: r)).2)
    else if c = 40 ∧ e = 42 then
      match cmt 1 r with
      | none => (0, false)
      | some n => ((skip (r.drop n)).1 + (n + 2), (skip (r.drop n)).2)
    else (0, true)
termination_by l => l.length
decreasing_by all_goals (simp; try omega)
def two (s : ByteArray) (i : Nat) : ByteArray := if i + 1 < s.size then s.extract i (i + 2) else ⟨#[]⟩
section
variable {s : ByteArray} (hs : s.size ≤ 140737488351232)
include hs
end
end Go.Proofs.YtnihjlnnllngeaaDoor.Lx
