/- Atoms, blocks, functions as values; which atoms are right. -/
import Derived.Test.YtfdgoenmdalphaaDoorS1
namespace Go.Proofs.YtfdgoenmdalphaaDoor
open Go.Ev Go.RowKit
noncomputable section
set_option maxRecDepth 100000
set_option linter.unusedVariables false
set_option linter.unusedSimpArgs false
structure Atom where
  k : Int
  n : Int
  m : Int
  t : ByteArray
mutual
inductive Block where
  | mk (steps : List Step) (e : Int) (args : List Atom) (blocks : List Block)
inductive Step where
  | mk (k to n : Int) (args : List Atom) (blocks : List Block)
end
structure Fun where
  free : Int
  locs : Int
  body : Block
abbrev E0 : ByteArray := ⟨⟨[]⟩⟩
@[simp] def Atom.v (a : Atom) : Value := .agg ⟨[i64 a.k, i64 a.n, i64 a.m, .string a.t]⟩
def atomsV (l : List Atom) : Value := rowV 4 (l.map Atom.v)
mutual
def Block.v : Block → Value
  | .mk s e a b => .agg ⟨[rowV 5 (stepsL s), i64 e, atomsV a, rowV 4 (blocksL b)]⟩
def Step.v : Step → Value
  | .mk k t n a b => .agg ⟨[i64 k, i64 t, i64 n, atomsV a, rowV 4 (blocksL b)]⟩
def stepsL : List Step → List Value
  | [] => []
  | s :: l => s.v :: stepsL l
def blocksL : List Block → List Value
  | [] => []
  | b :: l => b.v :: blocksL l
end
theorem stepsL_eq (l : List Step) : stepsL l = l.map Step.v := by
  induction l with
  | nil => rw [stepsL]; rfl
  | cons s l ih => rw [stepsL, ih]; rfl
theorem blocksL_eq (l : List Block) : blocksL l = l.map Block.v := by
  induction l with
  | nil => rw [blocksL]; rfl
  | cons s l ih => rw [blocksL, ih]; rfl
def Block.steps : Block → List Step | .mk s _ _ _ => s
def Block.e : Block → Int | .mk _ e _ _ => e
def Block.args : Block → List Atom | .mk _ _ a _ => a
def Block.blocks : Block → List Block | .mk _ _ _ b => b
def Step.k : Step → Int | .mk k _ _ _ _ => k
def Step.to : Step → Int | .mk _ t _ _ _ => t
def Step.n : Step → Int | .mk _ _ n _ _ => n
def Step.args : Step → List Atom | .mk _ _ _ a _ => a
def Step.blocks : Step → List Block | .mk _ _ _ _ b => b
theorem Block.v_eq (b : Block) : b.v = .agg ⟨[rowV 5 (b.steps.map Step.v), i64 b.e, atomsV b.args, rowV 4 (b.blocks.map Block.v)]⟩ := by
  cases b; rw [Block.v, stepsL_eq, blocksL_eq]; rfl
theorem Step.v_eq (s : Step) : s.v = .agg ⟨[i64 s.k, i64 s.to, i64 s.n, atomsV s.args, rowV 4 (s.blocks.map Block.v)]⟩ := by
  cases s; rw [Step.v, blocksL_eq]; rfl
def Fun.v (f : Fun) : Value := .agg ⟨[i64 f.free, i64 f.locs, rowV 5 (f.body.steps.map Step.v), i64 f.body.e, atomsV f.body.args, rowV 4 (f.body.blocks.map Block.v)]⟩
def funsV (l : List Fun) : Value := rowV 6 (l.map Fun.v)

/-- Which atoms are right, in a function with so many values and locals, that is the first or not. -/
def aOk (free locs : Int) (first : Bool) (g : List Int) (a : Atom) : Bool :=
  if a.k = 1 then decide (a.n = 0 ∧ a.t = E0 ∧ -4611686018427387904 ≤ a.m ∧ a.m ≤ 4611686018427387903)
  else if a.k = 2 then decide (a.n = 0 ∧ a.m = 0)
  else if a.k = 3 then decide (a.m = 0 ∧ a.t = E0 ∧ 0 ≤ a.n ∧ a.n < locs ∧ a.n ∈ g)
  else if a.k = 4 then decide (a.n = 0 ∧ a.m = 0 ∧ a.t = E0) && !first
  else if a.k = 5 then decide (a.m = 0 ∧ a.t = E0 ∧ 0 ≤ a.n ∧ a.n < free)
  else if a.k = 6 then decide (a.m = 0 ∧ a.t = E0 ∧ 0 ≤ a.n ∧ a.n < 1024)
  else false

theorem bd_26_0 (n : Int) : rdBuild P 26 (some [(0, .int .i64 n)]) = some (.agg ⟨[.int .i64 n, .int .i64 0, .int .i64 0, .string E0]⟩) := rdBuild_of zero_26 (by kernel_rfl)

end
end Go.Proofs.YtfdgoenmdalphaaDoor
