/- A text cut into tokens: both ways of doing it are the same. -/
import Derived.Test.YtnihjlnnllngeaaDoorLxH
import Derived.Test.YtnihjlnnllngeaaDoorLxB
import Derived.Test.YtnihjlnnllngeaaDoorF0
import Derived.Test.YtnihjlnnllngeaaDoorHTok
namespace Go.Proofs.YtnihjlnnllngeaaDoor.Lx
open Go.RowKit Go.Proofs.YtnihjlnnllngeaaDoorW.PrintWords Go.Proofs.YtnihjlnnllngeaaDoor.PL
set_option linter.unusedVariables false
set_option linter.unusedSimpArgs false
set_option linter.unusedSectionVars false

/-- A text from a place on, cut into tokens behind those that there are. -/
def scanS (s : ByteArray) : Nat → List S32 → Nat → List S32 × Int × Int
  | 0, _, _ => ([], 0, 0)
  | m + 1, out, i =>
    if (skip ((B s).drop i)).2 = true then
      if s.size ≤ i + (skip ((B s).drop i)).1 then (out ++ [⟨0, ⟨#[]⟩, 0, (s.size : Int)⟩], 0, 0)
      else match lexS (s.extract (i + (skip ((B s).drop i)).1) s.size) with
        | none => ([], ((i + (skip ((B s).drop i)).1 : Nat) : Int), 70)
        | some (a, b, c, n) => if 1000 ≤ out.length then ([], ((i + (skip ((B s).drop i)).1 : Nat) : Int), 3)
          else scanS s m (out ++ [⟨a, b, c, ((i + (skip ((B s).drop i)).1 : Nat) : Int)⟩]) (i + (skip ((B s).drop i)).1 + n)
    else ([], ((i + (skip ((B s).drop i)).1 : Nat) : Int), 70)
section
variable {s : ByteArray} (hs : s.size ≤ 140737488351232)
include hs
end
/-- What a text is cut into. -/
def scan (s : ByteArray) : List S32 × Int × Int := if 4096 < s.size then ([], 0, 3) else scanS s (s.size + 1) [] 0
end Go.Proofs.YtnihjlnnllngeaaDoor.Lx
