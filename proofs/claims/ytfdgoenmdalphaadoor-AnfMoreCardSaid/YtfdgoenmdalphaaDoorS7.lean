/- Which blocks are right. -/
import Derived.Test.YtfdgoenmdalphaaDoorS6
namespace Go.Proofs.YtfdgoenmdalphaaDoor
open Go.Ev Go.RowKit
noncomputable section
set_option maxRecDepth 100000
set_option linter.unusedVariables false
set_option linter.unusedSimpArgs false
def endOk (inner : Bool) (e : Int) (na nb : Nat) : Bool :=
  if e = 1 ∨ e = 3 then decide (na = 1 ∧ nb = 0) else if e = 2 then decide (na = 2 ∧ nb = 0) && !inner else if e = 4 then decide (na = 1 ∧ nb = 2) else false
mutual
def bOk (fs : List Fun) (free locs : Int) (first : Bool) : Bool → List Int → Block → Bool
  | inner, g, .mk ss e ar bs => match ssOk fs free locs first g ss with
    | none => false
    | some g' => ar.all (aOk free locs first g') && (endOk inner e ar.length bs.length && lOk fs free locs first inner g' bs)
def ssOk (fs : List Fun) (free locs : Int) (first : Bool) : List Int → List Step → Option (List Int)
  | g, [] => some g
  | g, s :: l => if stOk fs free locs first g s && sOk fs free locs first g s then ssOk fs free locs first (if s.k = 5 ∨ s.k = 8 then g else s.to :: g) l else none
def sOk (fs : List Fun) (free locs : Int) (first : Bool) : List Int → Step → Bool
  | g, .mk k to n ar bs => l2Ok fs free locs first g (if k = 10 then n :: g else g) bs
def l2Ok (fs : List Fun) (free locs : Int) (first : Bool) : List Int → List Int → List Block → Bool
  | g, h, [] => true
  | g, h, b :: l => bOk fs free locs first true g b && l2Ok fs free locs first h h l
def lOk (fs : List Fun) (free locs : Int) (first : Bool) : Bool → List Int → List Block → Bool
  | inner, g, [] => true
  | inner, g, b :: l => bOk fs free locs first inner g b && lOk fs free locs first inner g l
end
theorem bOk_eq (fs : List Fun) (free locs : Int) (first inner : Bool) (g : List Int) (b : Block) : bOk fs free locs first inner g b = match ssOk fs free locs first g b.steps with
    | none => false
    | some g' => b.args.all (aOk free locs first g') && (endOk inner b.e b.args.length b.blocks.length && lOk fs free locs first inner g' b.blocks) := by
  cases b; rw [bOk]; rfl
theorem sOk_eq (fs : List Fun) (free locs : Int) (first : Bool) (g : List Int) (s : Step) : sOk fs free locs first g s = l2Ok fs free locs first g (if s.k = 10 then s.n :: g else g) s.blocks := by
  cases s; rw [sOk]; rfl
mutual
/-- How many steps there are, however deep. -/
def bC : Block → Nat
  | .mk ss _ _ bs => ssC ss + lC bs
def ssC : List Step → Nat
  | [] => 0
  | s :: l => sC s + ssC l
def sC : Step → Nat
  | .mk _ _ _ _ bs => 1 + lC bs
def lC : List Block → Nat
  | [] => 0
  | b :: l => bC b + lC l
end
theorem bC_eq (b : Block) : bC b = ssC b.steps + lC b.blocks := by cases b; rw [bC]; rfl
theorem sC_eq (s : Step) : sC s = 1 + lC s.blocks := by cases s; rw [sC]; rfl
theorem aOk_rev (free locs : Int) (first : Bool) (g : List Int) : aOk free locs first g.reverse = aOk free locs first g := by
  funext a; simp [aOk]
theorem stOk_rev (fs : List Fun) (free locs : Int) (first : Bool) (g : List Int) (s : Step) : stOk fs free locs first g.reverse s = stOk fs free locs first g s := by
  simp only [stOk, aOk_rev]
theorem nd_blocks (fs : List Fun) (s : Step) : (nd fs s).2 = 0 ∨ (nd fs s).2 = 2 := by unfold nd; grind
theorem stOk_blocks {fs : List Fun} {free locs : Int} {first : Bool} {g : List Int} {s : Step} (h : stOk fs free locs first g s = true) : s.blocks.length = 0 ∨ s.blocks.length = 2 := by
  unfold stOk at h
  split at h
  · cases h
  · have := nd_blocks fs s; omega

end
end Go.Proofs.YtfdgoenmdalphaaDoor
