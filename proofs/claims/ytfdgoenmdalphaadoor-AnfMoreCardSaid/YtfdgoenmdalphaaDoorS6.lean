/- Which steps are right. -/
import Derived.Test.YtfdgoenmdalphaaDoorS5
namespace Go.Proofs.YtfdgoenmdalphaaDoor
open Go.Ev Go.RowKit
noncomputable section
set_option maxRecDepth 100000
set_option linter.unusedVariables false
set_option linter.unusedSimpArgs false
def at? (fs : List Fun) (n : Int) : Option Fun := if n < 0 then none else fs[n.toNat]?
/-- How many atoms and blocks a step must have. -/
def nd (fs : List Fun) (s : Step) : Int × Int :=
  if s.k = 1 ∨ s.k = 6 ∨ s.k = 8 then (1, 0)
  else if s.k = 2 then (if takesOf s.n = 0 then -1 else takesOf s.n, 0)
  else if s.k = 3 then (if (s.args.length : Int) = 0 then -1 else (s.args.length : Int), 0)
  else if s.k = 4 then (match at? fs s.n with | none => -1 | some f => f.free, 0)
  else if s.k = 5 ∨ s.k = 7 then (2, 0)
  else if s.k = 9 then (1, 2)
  else if s.k = 10 then (0, 2)
  else (-1, 0)
/-- Which steps are right, their blocks aside. -/
def stOk (fs : List Fun) (free locs : Int) (first : Bool) (g : List Int) (s : Step) : Bool :=
  if (nd fs s).1 < 0 ∨ (nd fs s).1 ≠ s.args.length ∨ (nd fs s).2 ≠ s.blocks.length then false
  else if s.args.all (aOk free locs first g) = false then false
  else if s.k = 5 ∨ s.k = 8 then decide (s.to = 0 ∧ 0 ≤ s.n ∧ (s.k = 5 ∨ s.n < 1024))
  else if s.to < 0 ∨ locs ≤ s.to then false
  else if s.k = 1 ∨ s.k = 3 ∨ s.k = 7 ∨ s.k = 9 then decide (s.n = 0)
  else if s.k = 6 then decide (0 ≤ s.n ∧ s.n < 16384)
  else if s.k = 10 then decide (0 ≤ s.n ∧ s.n < locs)
  else true
end
end Go.Proofs.YtfdgoenmdalphaaDoor
