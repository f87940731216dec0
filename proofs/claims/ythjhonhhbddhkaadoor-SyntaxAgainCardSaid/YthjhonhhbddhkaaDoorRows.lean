/-
  NARROWER THAN 'FOR EVERY INPUT', by the rows' own cells (each row's printed sentence says how): SyntaxDeep: laid · SyntaxAgain: laid.
  DERIVED. THE GIVEN ROWS OF THIS SEAT. 2 by the template 'for every input the law returns true; each argument reads behind the call as it read before'; 0 by the template 'total and deterministic' (their statements: YthjhonhhbddhkaaDoorTotals.lean).
  GIVEN WITH THE SEED: the statements are not yours to turn. If you find one false, say at which input.
  Laid BY PROGRAM, IN A SANDBOX (cutbox-rows.mjs): the forced cells as the released guide's own fill.sh prints them over the translation 1558fb31c54f51d0… (all of the seat's roots in one cut). By AI agents, Wed Nov 11 2026. No macro, syntax, notation, axiom, sorry.
-/
import Derived.Test.YthjhonhhbddhkaaDoorChecked
import GoSem.Claim
import GoSem.ClaimJoined
import GoSem.ClaimMapViews
import Derived.JoinedTies
import Derived.KernelRfl
namespace Go.Proofs.YthjhonhhbddhkaaDoor
/- THE CELL 'sum', in the pinned program and in every row, IS THE sha256 OF THE DUMP (.gsa) THAT YthjhonhhbddhkaaDoorProg.lean LOADS. Nothing in Lean hashes anything: it is a label: what it is worth is what the hold of that sum in a sandbox is worth. -/
noncomputable def Tryd.pinned : Pinned := { name := "ythjhonhhbddhkaadoor", sum := "1558fb31c54f51d0c7e6126c56d5fbf484f6d67831e8f3defbb01d8e6071330d", checked := Tryd.checked }
namespace Rows
def none {H : Type} : Left H := { results := [], args := [] }

/- WHAT THE LISTED PACKAGE-LEVEL VARIABLES READ AS WHEN THE CALL BEGINS. Each datum BY PROGRAM (the guide's laid-datum.mjs) off the statement by which the dump's own 'gosem.cut.vars' lays the variable. In a bare row this is a premise. The card (YthjhonhhbddhkaaDoorCards.lean) ties it to the program's text. -/
def laid_kindling_lex_keys {H : Type} : DataW H := .agg [.lit (.string [97, 110, 100]), .lit (.string [97, 110, 100, 97, 108, 115, 111]), .lit (.string [99, 97, 115, 101]), .lit (.string [100, 97, 116, 97, 116, 121, 112, 101]), .lit (.string [100, 105, 118]), .lit (.string [101, 108, 115, 101]), .lit (.string [101, 110, 100]), .lit (.string [101, 120, 99, 101, 112, 116, 105, 111, 110]), .lit (.string [102, 110]), .lit (.string [102, 117, 110]), .lit (.string [104, 97, 110, 100, 108, 101]), .lit (.string [105, 102]), .lit (.string [105, 110]), .lit (.string [105, 116, 111, 115]), .lit (.string [108, 101, 116]), .lit (.string [109, 111, 100]), .lit (.string [110, 111, 116]), .lit (.string [111, 102]), .lit (.string [111, 114, 100]), .lit (.string [111, 114, 101, 108, 115, 101]), .lit (.string [114, 97, 105, 115, 101]), .lit (.string [114, 101, 102]), .lit (.string [115, 105, 122, 101]), .lit (.string [115, 116, 114]), .lit (.string [116, 104, 101, 110]), .lit (.string [118, 97, 108])]
def laid_kindling_lex_signs {H : Type} : DataW H := .agg [.lit (.string [45, 62]), .lit (.string [61, 62]), .lit (.string [58, 58]), .lit (.string [58, 61]), .lit (.string [60, 61]), .lit (.string [62, 61]), .lit (.string [60, 62]), .lit (.string [61]), .lit (.string [60]), .lit (.string [62]), .lit (.string [43]), .lit (.string [45]), .lit (.string [42]), .lit (.string [94]), .lit (.string [33]), .lit (.string [126]), .lit (.string [40]), .lit (.string [41]), .lit (.string [44]), .lit (.string [59]), .lit (.string [124]), .lit (.string [95])]
def laid_kindling_syntax_levels {H : Type} : DataW H := .agg [.slice [.lit (.string [111, 114, 101, 108, 115, 101])] [], .slice [.lit (.string [97, 110, 100, 97, 108, 115, 111])] [], .slice [.lit (.string [58, 61])] [], .slice [.lit (.string [61]), .lit (.string [60, 62]), .lit (.string [60]), .lit (.string [60, 61]), .lit (.string [62]), .lit (.string [62, 61])] [], .slice [.lit (.string [58, 58])] [], .slice [.lit (.string [43]), .lit (.string [45]), .lit (.string [94])] [], .slice [.lit (.string [42]), .lit (.string [100, 105, 118]), .lit (.string [109, 111, 100])] []]
def laid_kindling_syntax_words {H : Type} : DataW H := .agg [.lit (.string [126]), .lit (.string [33]), .lit (.string [110, 111, 116]), .lit (.string [114, 101, 102]), .lit (.string [115, 105, 122, 101]), .lit (.string [115, 116, 114]), .lit (.string [111, 114, 100]), .lit (.string [105, 116, 111, 115])]

/-- 'kindlinglaw08.SyntaxDeep': WHATEVER THE INPUT: true; the input reads as it did. -/
def syntaxDeepSpec : ChangeSpec := { name := "syntaxDeep", fn := fun _ => fun
  | [d1, d2] => { results := [.lit (.bool true)], args := [d1, d2] }
  | _ => none }
def syntaxDeepRow : OpenClaim := { program := "ythjhonhhbddhkaadoor", sum := "1558fb31c54f51d0c7e6126c56d5fbf484f6d67831e8f3defbb01d8e6071330d", func := "kindling/kindlinglaw08.SyntaxDeep", spec := "syntaxDeep", unfollowed := true, recurses := true, named := ["kindling/lex.signs", "kindling/lex.keys", "kindling/syntax.levels", "kindling/syntax.words"], apart := false, laid := [("kindling/lex.keys", laid_kindling_lex_keys), ("kindling/lex.signs", laid_kindling_lex_signs), ("kindling/syntax.levels", laid_kindling_syntax_levels), ("kindling/syntax.words", laid_kindling_syntax_words)] }
def SyntaxDeepSaid : Prop := syntaxDeepRow.holds Tryd.pinned (OpenSpec.ofChange syntaxDeepSpec)

/-- ITS FALSE NEIGHBOUR: 'it returns false'. Refute it at one input. -/
def syntaxDeepWrong : ChangeSpec := { name := "syntaxDeep", fn := fun _ => fun
  | [d1, d2] => { results := [.lit (.bool false)], args := [d1, d2] }
  | _ => none }
def SyntaxDeepWrongFalsely : Prop := syntaxDeepRow.holds Tryd.pinned (OpenSpec.ofChange syntaxDeepWrong)

/-- 'kindlinglaw08.SyntaxAgain': WHATEVER THE INPUT: true; the input reads as it did. -/
def syntaxAgainSpec : ChangeSpec := { name := "syntaxAgain", fn := fun _ => fun
  | [d] => { results := [.lit (.bool true)], args := [d] }
  | _ => none }
def syntaxAgainRow : OpenClaim := { program := "ythjhonhhbddhkaadoor", sum := "1558fb31c54f51d0c7e6126c56d5fbf484f6d67831e8f3defbb01d8e6071330d", func := "kindling/kindlinglaw08.SyntaxAgain", spec := "syntaxAgain", unfollowed := true, recurses := true, named := ["kindling/lex.signs", "kindling/lex.keys", "kindling/syntax.levels", "kindling/syntax.words"], apart := false, laid := [("kindling/lex.keys", laid_kindling_lex_keys), ("kindling/lex.signs", laid_kindling_lex_signs), ("kindling/syntax.levels", laid_kindling_syntax_levels), ("kindling/syntax.words", laid_kindling_syntax_words)] }
def SyntaxAgainSaid : Prop := syntaxAgainRow.holds Tryd.pinned (OpenSpec.ofChange syntaxAgainSpec)

/-- ITS FALSE NEIGHBOUR: 'it returns false'. Refute it at one input. -/
def syntaxAgainWrong : ChangeSpec := { name := "syntaxAgain", fn := fun _ => fun
  | [d] => { results := [.lit (.bool false)], args := [d] }
  | _ => none }
def SyntaxAgainWrongFalsely : Prop := syntaxAgainRow.holds Tryd.pinned (OpenSpec.ofChange syntaxAgainWrong)

/- THE SECOND FORM. 'bulk': how many values and letters a reading holds, each counted each time it is reached (what is shared counts as often as it is met; a slice's spare places count too). A statement '..UptoSaid' is the law's where the arguments, and the package variables that the reading takes, are together of bulk at most 1048576: NARROWER than '..Said'. Prove '..Said' where nothing that the law and all that it calls make is longer than what came in: it says more and counts as full. Else prove '..UptoSaid'. A law counts once. -/
mutual
def uptoBulk {H : Type} : DataW H → Nat
  | .lit (.string bytes) => bytes.length + 1
  | .lit _ => 1
  | .nil => 1
  | .ptr d => uptoBulk d + 1
  | .slice elems spare => uptoBulkAll elems + uptoBulkAll spare + 1
  | .agg parts => uptoBulkAll parts + 1
  | .iface _ d => uptoBulk d + 1
  | .map entries => uptoBulkEntries entries + 1
  | .held _ => 1
def uptoBulkAll {H : Type} : List (DataW H) → Nat
  | [] => 0
  | d :: r => uptoBulk d + uptoBulkAll r
def uptoBulkEntries {H : Type} : List (Lit × DataW H) → Nat
  | [] => 0
  | x :: r => uptoBulkEntry x + uptoBulkEntries r
def uptoBulkEntry {H : Type} : Lit × DataW H → Nat
  | (.string bytes, d) => bytes.length + uptoBulk d + 1
  | (_, d) => uptoBulk d + 1
 end
def uptoSmall : (H : Type) → List (DataW H) → Bool := fun _ ds => decide (uptoBulkAll ds ≤ 1048576)
def OpenSpec.upto (s : _root_.Go.ChangeSpec) : _root_.Go.OpenSpec := { _root_.Go.OpenSpec.ofChange s with cond := some uptoSmall }

/-- 'kindlinglaw08.SyntaxDeep', WHERE WHAT IT READS IS OF BULK AT MOST 1048576: true; the input reads as it did. -/
def syntaxDeepUptoRow : OpenClaim := { program := "ythjhonhhbddhkaadoor", sum := "1558fb31c54f51d0c7e6126c56d5fbf484f6d67831e8f3defbb01d8e6071330d", func := "kindling/kindlinglaw08.SyntaxDeep", spec := "syntaxDeep", unfollowed := true, recurses := true, named := ["kindling/lex.signs", "kindling/lex.keys", "kindling/syntax.levels", "kindling/syntax.words"], apart := false, laid := [("kindling/lex.keys", laid_kindling_lex_keys), ("kindling/lex.signs", laid_kindling_lex_signs), ("kindling/syntax.levels", laid_kindling_syntax_levels), ("kindling/syntax.words", laid_kindling_syntax_words)], narrowed := true }
def SyntaxDeepUptoSaid : Prop := syntaxDeepUptoRow.holds Tryd.pinned (OpenSpec.upto syntaxDeepSpec)

/-- 'kindlinglaw08.SyntaxAgain', WHERE WHAT IT READS IS OF BULK AT MOST 1048576: true; the input reads as it did. -/
def syntaxAgainUptoRow : OpenClaim := { program := "ythjhonhhbddhkaadoor", sum := "1558fb31c54f51d0c7e6126c56d5fbf484f6d67831e8f3defbb01d8e6071330d", func := "kindling/kindlinglaw08.SyntaxAgain", spec := "syntaxAgain", unfollowed := true, recurses := true, named := ["kindling/lex.signs", "kindling/lex.keys", "kindling/syntax.levels", "kindling/syntax.words"], apart := false, laid := [("kindling/lex.keys", laid_kindling_lex_keys), ("kindling/lex.signs", laid_kindling_lex_signs), ("kindling/syntax.levels", laid_kindling_syntax_levels), ("kindling/syntax.words", laid_kindling_syntax_words)], narrowed := true }
def SyntaxAgainUptoSaid : Prop := syntaxAgainUptoRow.holds Tryd.pinned (OpenSpec.upto syntaxAgainSpec)

end Rows
end Go.Proofs.YthjhonhhbddhkaaDoor
