/-
  NARROWER THAN 'FOR EVERY INPUT', by the rows' own cells (each row's printed sentence says how): SyntaxReads: laid · SyntaxTokens: laid · SyntaxPrints: loops, laid · SyntaxBack: loops, laid · SyntaxBrackets: loops, laid · SyntaxPlaces: laid · SyntaxRights: loops, laid.
  DERIVED. THE GIVEN ROWS OF THIS SEAT. 7 by the template 'for every input the law returns true; each argument reads behind the call as it read before'; 0 by the template 'total and deterministic' (their statements: YthjhonhhbddhkaaGreatDoorTotals.lean).
  GIVEN WITH THE SEED: the statements are not yours to turn. If you find one false, say at which input.
  Laid BY PROGRAM, IN A SANDBOX (cutbox-rows.mjs): the forced cells as the released guide's own fill.sh prints them over the translation 3b59e2b978f0a16d… (all of the seat's roots in one cut). By AI agents, Wed Nov 11 2026. No macro, syntax, notation, axiom, sorry.
-/
import Derived.Test.YthjhonhhbddhkaaGreatDoorChecked
import GoSem.Claim
import GoSem.ClaimJoined
import GoSem.ClaimMapViews
import Derived.JoinedTies
import Derived.KernelRfl
namespace Go.Proofs.YthjhonhhbddhkaaGreatDoor
/- THE CELL 'sum', in the pinned program and in every row, IS THE sha256 OF THE DUMP (.gsa) THAT YthjhonhhbddhkaaGreatDoorProg.lean LOADS. Nothing in Lean hashes anything: it is a label: what it is worth is what the hold of that sum in a sandbox is worth. -/
noncomputable def Tryz.pinned : Pinned := { name := "ythjhonhhbddhkaagreatdoor", sum := "3b59e2b978f0a16dc17c68a5a4c64dd799ea65cdbca3025081ad772736d35e92", checked := Tryz.checked }
namespace Rows
def none {H : Type} : Left H := { results := [], args := [] }

/- WHAT THE LISTED PACKAGE-LEVEL VARIABLES READ AS WHEN THE CALL BEGINS. Each datum BY PROGRAM (the guide's laid-datum.mjs) off the statement by which the dump's own 'gosem.cut.vars' lays the variable. In a bare row this is a premise. The card (YthjhonhhbddhkaaGreatDoorCards.lean) ties it to the program's text. -/
def laid_kindling_lex_keys {H : Type} : DataW H := .agg [.lit (.string [97, 110, 100]), .lit (.string [97, 110, 100, 97, 108, 115, 111]), .lit (.string [99, 97, 115, 101]), .lit (.string [100, 97, 116, 97, 116, 121, 112, 101]), .lit (.string [100, 105, 118]), .lit (.string [101, 108, 115, 101]), .lit (.string [101, 110, 100]), .lit (.string [101, 120, 99, 101, 112, 116, 105, 111, 110]), .lit (.string [102, 110]), .lit (.string [102, 117, 110]), .lit (.string [104, 97, 110, 100, 108, 101]), .lit (.string [105, 102]), .lit (.string [105, 110]), .lit (.string [105, 116, 111, 115]), .lit (.string [108, 101, 116]), .lit (.string [109, 111, 100]), .lit (.string [110, 111, 116]), .lit (.string [111, 102]), .lit (.string [111, 114, 100]), .lit (.string [111, 114, 101, 108, 115, 101]), .lit (.string [114, 97, 105, 115, 101]), .lit (.string [114, 101, 102]), .lit (.string [115, 105, 122, 101]), .lit (.string [115, 116, 114]), .lit (.string [116, 104, 101, 110]), .lit (.string [118, 97, 108])]
def laid_kindling_lex_signs {H : Type} : DataW H := .agg [.lit (.string [45, 62]), .lit (.string [61, 62]), .lit (.string [58, 58]), .lit (.string [58, 61]), .lit (.string [60, 61]), .lit (.string [62, 61]), .lit (.string [60, 62]), .lit (.string [61]), .lit (.string [60]), .lit (.string [62]), .lit (.string [43]), .lit (.string [45]), .lit (.string [42]), .lit (.string [94]), .lit (.string [33]), .lit (.string [126]), .lit (.string [40]), .lit (.string [41]), .lit (.string [44]), .lit (.string [59]), .lit (.string [124]), .lit (.string [95])]
def laid_kindling_syntax_levels {H : Type} : DataW H := .agg [.slice [.lit (.string [111, 114, 101, 108, 115, 101])] [], .slice [.lit (.string [97, 110, 100, 97, 108, 115, 111])] [], .slice [.lit (.string [58, 61])] [], .slice [.lit (.string [61]), .lit (.string [60, 62]), .lit (.string [60]), .lit (.string [60, 61]), .lit (.string [62]), .lit (.string [62, 61])] [], .slice [.lit (.string [58, 58])] [], .slice [.lit (.string [43]), .lit (.string [45]), .lit (.string [94])] [], .slice [.lit (.string [42]), .lit (.string [100, 105, 118]), .lit (.string [109, 111, 100])] []]
def laid_kindling_syntax_words {H : Type} : DataW H := .agg [.lit (.string [126]), .lit (.string [33]), .lit (.string [110, 111, 116]), .lit (.string [114, 101, 102]), .lit (.string [115, 105, 122, 101]), .lit (.string [115, 116, 114]), .lit (.string [111, 114, 100]), .lit (.string [105, 116, 111, 115])]

/-- 'kindlinglaw08.SyntaxReads': WHATEVER THE INPUT: true; the input reads as it did. -/
def syntaxReadsSpec : ChangeSpec := { name := "syntaxReads", fn := fun _ => fun
  | [d] => { results := [.lit (.bool true)], args := [d] }
  | _ => none }
def syntaxReadsRow : OpenClaim := { program := "ythjhonhhbddhkaagreatdoor", sum := "3b59e2b978f0a16dc17c68a5a4c64dd799ea65cdbca3025081ad772736d35e92", func := "kindling/kindlinglaw08.SyntaxReads", spec := "syntaxReads", unfollowed := true, recurses := true, named := ["kindling/lex.signs", "kindling/lex.keys", "kindling/syntax.levels", "kindling/syntax.words"], apart := false, laid := [("kindling/lex.keys", laid_kindling_lex_keys), ("kindling/lex.signs", laid_kindling_lex_signs), ("kindling/syntax.levels", laid_kindling_syntax_levels), ("kindling/syntax.words", laid_kindling_syntax_words)] }
def SyntaxReadsSaid : Prop := syntaxReadsRow.holds Tryz.pinned (OpenSpec.ofChange syntaxReadsSpec)

/-- ITS FALSE NEIGHBOUR: 'it returns false'. Refute it at one input. -/
def syntaxReadsWrong : ChangeSpec := { name := "syntaxReads", fn := fun _ => fun
  | [d] => { results := [.lit (.bool false)], args := [d] }
  | _ => none }
def SyntaxReadsWrongFalsely : Prop := syntaxReadsRow.holds Tryz.pinned (OpenSpec.ofChange syntaxReadsWrong)

/-- 'kindlinglaw08.SyntaxTokens': WHATEVER THE INPUT: true; the input reads as it did. -/
def syntaxTokensSpec : ChangeSpec := { name := "syntaxTokens", fn := fun _ => fun
  | [d] => { results := [.lit (.bool true)], args := [d] }
  | _ => none }
def syntaxTokensRow : OpenClaim := { program := "ythjhonhhbddhkaagreatdoor", sum := "3b59e2b978f0a16dc17c68a5a4c64dd799ea65cdbca3025081ad772736d35e92", func := "kindling/kindlinglaw08.SyntaxTokens", spec := "syntaxTokens", unfollowed := true, recurses := true, named := ["kindling/lex.signs", "kindling/lex.keys", "kindling/syntax.levels", "kindling/syntax.words"], apart := false, laid := [("kindling/lex.keys", laid_kindling_lex_keys), ("kindling/lex.signs", laid_kindling_lex_signs), ("kindling/syntax.levels", laid_kindling_syntax_levels), ("kindling/syntax.words", laid_kindling_syntax_words)] }
def SyntaxTokensSaid : Prop := syntaxTokensRow.holds Tryz.pinned (OpenSpec.ofChange syntaxTokensSpec)

/-- ITS FALSE NEIGHBOUR: 'it returns false'. Refute it at one input. -/
def syntaxTokensWrong : ChangeSpec := { name := "syntaxTokens", fn := fun _ => fun
  | [d] => { results := [.lit (.bool false)], args := [d] }
  | _ => none }
def SyntaxTokensWrongFalsely : Prop := syntaxTokensRow.holds Tryz.pinned (OpenSpec.ofChange syntaxTokensWrong)

/-- 'kindlinglaw08.SyntaxPrints': WHATEVER THE INPUT: true; the input reads as it did. -/
def syntaxPrintsSpec : ChangeSpec := { name := "syntaxPrints", fn := fun _ => fun
  | [d] => { results := [.lit (.bool true)], args := [d] }
  | _ => none }
def syntaxPrintsRow : OpenClaim := { program := "ythjhonhhbddhkaagreatdoor", sum := "3b59e2b978f0a16dc17c68a5a4c64dd799ea65cdbca3025081ad772736d35e92", func := "kindling/kindlinglaw08.SyntaxPrints", spec := "syntaxPrints", unfollowed := true, recurses := true, named := ["kindling/lex.signs", "kindling/lex.keys", "kindling/syntax.levels", "kindling/syntax.words"], loops := true, apart := false, laid := [("kindling/lex.keys", laid_kindling_lex_keys), ("kindling/lex.signs", laid_kindling_lex_signs), ("kindling/syntax.levels", laid_kindling_syntax_levels), ("kindling/syntax.words", laid_kindling_syntax_words)] }
def SyntaxPrintsSaid : Prop := syntaxPrintsRow.holds Tryz.pinned (OpenSpec.ofChange syntaxPrintsSpec)

/-- ITS FALSE NEIGHBOUR: 'it returns false'. Refute it at one input. -/
def syntaxPrintsWrong : ChangeSpec := { name := "syntaxPrints", fn := fun _ => fun
  | [d] => { results := [.lit (.bool false)], args := [d] }
  | _ => none }
def SyntaxPrintsWrongFalsely : Prop := syntaxPrintsRow.holds Tryz.pinned (OpenSpec.ofChange syntaxPrintsWrong)

/-- 'kindlinglaw08.SyntaxBack': WHATEVER THE INPUT: true; the input reads as it did. -/
def syntaxBackSpec : ChangeSpec := { name := "syntaxBack", fn := fun _ => fun
  | [d] => { results := [.lit (.bool true)], args := [d] }
  | _ => none }
def syntaxBackRow : OpenClaim := { program := "ythjhonhhbddhkaagreatdoor", sum := "3b59e2b978f0a16dc17c68a5a4c64dd799ea65cdbca3025081ad772736d35e92", func := "kindling/kindlinglaw08.SyntaxBack", spec := "syntaxBack", unfollowed := true, recurses := true, named := ["kindling/lex.signs", "kindling/lex.keys", "kindling/syntax.levels", "kindling/syntax.words"], loops := true, apart := false, laid := [("kindling/lex.keys", laid_kindling_lex_keys), ("kindling/lex.signs", laid_kindling_lex_signs), ("kindling/syntax.levels", laid_kindling_syntax_levels), ("kindling/syntax.words", laid_kindling_syntax_words)] }
def SyntaxBackSaid : Prop := syntaxBackRow.holds Tryz.pinned (OpenSpec.ofChange syntaxBackSpec)

/-- ITS FALSE NEIGHBOUR: 'it returns false'. Refute it at one input. -/
def syntaxBackWrong : ChangeSpec := { name := "syntaxBack", fn := fun _ => fun
  | [d] => { results := [.lit (.bool false)], args := [d] }
  | _ => none }
def SyntaxBackWrongFalsely : Prop := syntaxBackRow.holds Tryz.pinned (OpenSpec.ofChange syntaxBackWrong)

/-- 'kindlinglaw08.SyntaxBrackets': WHATEVER THE INPUT: true; the input reads as it did. -/
def syntaxBracketsSpec : ChangeSpec := { name := "syntaxBrackets", fn := fun _ => fun
  | [d1, d2] => { results := [.lit (.bool true)], args := [d1, d2] }
  | _ => none }
def syntaxBracketsRow : OpenClaim := { program := "ythjhonhhbddhkaagreatdoor", sum := "3b59e2b978f0a16dc17c68a5a4c64dd799ea65cdbca3025081ad772736d35e92", func := "kindling/kindlinglaw08.SyntaxBrackets", spec := "syntaxBrackets", unfollowed := true, recurses := true, named := ["kindling/lex.signs", "kindling/lex.keys", "kindling/syntax.levels", "kindling/syntax.words"], loops := true, apart := false, laid := [("kindling/lex.keys", laid_kindling_lex_keys), ("kindling/lex.signs", laid_kindling_lex_signs), ("kindling/syntax.levels", laid_kindling_syntax_levels), ("kindling/syntax.words", laid_kindling_syntax_words)] }
def SyntaxBracketsSaid : Prop := syntaxBracketsRow.holds Tryz.pinned (OpenSpec.ofChange syntaxBracketsSpec)

/-- ITS FALSE NEIGHBOUR: 'it returns false'. Refute it at one input. -/
def syntaxBracketsWrong : ChangeSpec := { name := "syntaxBrackets", fn := fun _ => fun
  | [d1, d2] => { results := [.lit (.bool false)], args := [d1, d2] }
  | _ => none }
def SyntaxBracketsWrongFalsely : Prop := syntaxBracketsRow.holds Tryz.pinned (OpenSpec.ofChange syntaxBracketsWrong)

/-- 'kindlinglaw08.SyntaxPlaces': WHATEVER THE INPUT: true; the input reads as it did. -/
def syntaxPlacesSpec : ChangeSpec := { name := "syntaxPlaces", fn := fun _ => fun
  | [d1, d2] => { results := [.lit (.bool true)], args := [d1, d2] }
  | _ => none }
def syntaxPlacesRow : OpenClaim := { program := "ythjhonhhbddhkaagreatdoor", sum := "3b59e2b978f0a16dc17c68a5a4c64dd799ea65cdbca3025081ad772736d35e92", func := "kindling/kindlinglaw08.SyntaxPlaces", spec := "syntaxPlaces", unfollowed := true, recurses := true, named := ["kindling/lex.signs", "kindling/lex.keys", "kindling/syntax.levels", "kindling/syntax.words"], apart := false, laid := [("kindling/lex.keys", laid_kindling_lex_keys), ("kindling/lex.signs", laid_kindling_lex_signs), ("kindling/syntax.levels", laid_kindling_syntax_levels), ("kindling/syntax.words", laid_kindling_syntax_words)] }
def SyntaxPlacesSaid : Prop := syntaxPlacesRow.holds Tryz.pinned (OpenSpec.ofChange syntaxPlacesSpec)

/-- ITS FALSE NEIGHBOUR: 'it returns false'. Refute it at one input. -/
def syntaxPlacesWrong : ChangeSpec := { name := "syntaxPlaces", fn := fun _ => fun
  | [d1, d2] => { results := [.lit (.bool false)], args := [d1, d2] }
  | _ => none }
def SyntaxPlacesWrongFalsely : Prop := syntaxPlacesRow.holds Tryz.pinned (OpenSpec.ofChange syntaxPlacesWrong)

/-- 'kindlinglaw08.SyntaxRights': WHATEVER THE INPUT: true; the input reads as it did. -/
def syntaxRightsSpec : ChangeSpec := { name := "syntaxRights", fn := fun _ => fun
  | [d] => { results := [.lit (.bool true)], args := [d] }
  | _ => none }
def syntaxRightsRow : OpenClaim := { program := "ythjhonhhbddhkaagreatdoor", sum := "3b59e2b978f0a16dc17c68a5a4c64dd799ea65cdbca3025081ad772736d35e92", func := "kindling/kindlinglaw08.SyntaxRights", spec := "syntaxRights", unfollowed := true, recurses := true, named := ["kindling/lex.signs", "kindling/lex.keys", "kindling/syntax.levels", "kindling/syntax.words"], loops := true, apart := false, laid := [("kindling/lex.keys", laid_kindling_lex_keys), ("kindling/lex.signs", laid_kindling_lex_signs), ("kindling/syntax.levels", laid_kindling_syntax_levels), ("kindling/syntax.words", laid_kindling_syntax_words)] }
def SyntaxRightsSaid : Prop := syntaxRightsRow.holds Tryz.pinned (OpenSpec.ofChange syntaxRightsSpec)

/-- ITS FALSE NEIGHBOUR: 'it returns false'. Refute it at one input. -/
def syntaxRightsWrong : ChangeSpec := { name := "syntaxRights", fn := fun _ => fun
  | [d] => { results := [.lit (.bool false)], args := [d] }
  | _ => none }
def SyntaxRightsWrongFalsely : Prop := syntaxRightsRow.holds Tryz.pinned (OpenSpec.ofChange syntaxRightsWrong)

/- THE SECOND FORM. 'bulk': how many values and letters a reading holds, each counted each time it is reached (what is shared counts as often as it is met; a slice's spare places count too). A statement '..UptoSaid' is the law's where the arguments, and the package variables that the reading takes, are together of bulk at most 1048576: NARROWER than '..Said'. Prove '..Said' where nothing that the law and all that it calls make is longer than what came in: it says more and counts as full. Else prove '..UptoSaid'. A law counts once. -/
mutual
def uptoBulk {H : Type} : DataW H → Nat
  | .lit (.string bytes) => bytes.length + 1
  | .lit _ => 1
  | .nil => 1
  | .ptr d => uptoBulk d + 1
  | .slice elems spare => uptoBulkAll elems + uptoBulkAll spare + 1
  | .agg parts => uptoBulkAll parts + 1
  | .iface _ d => uptoBulk d + 1
  | .map entries => uptoBulkEntries entries + 1
  | .held _ => 1
def uptoBulkAll {H : Type} : List (DataW H) → Nat
  | [] => 0
  | d :: r => uptoBulk d + uptoBulkAll r
def uptoBulkEntries {H : Type} : List (Lit × DataW H) → Nat
  | [] => 0
  | x :: r => uptoBulkEntry x + uptoBulkEntries r
def uptoBulkEntry {H : Type} : Lit × DataW H → Nat
  | (.string bytes, d) => bytes.length + uptoBulk d + 1
  | (_, d) => uptoBulk d + 1
 end
def uptoSmall : (H : Type) → List (DataW H) → Bool := fun _ ds => decide (uptoBulkAll ds ≤ 1048576)
def OpenSpec.upto (s : _root_.Go.ChangeSpec) : _root_.Go.OpenSpec := { _root_.Go.OpenSpec.ofChange s with cond := some uptoSmall }

/-- 'kindlinglaw08.SyntaxReads', WHERE WHAT IT READS IS OF BULK AT MOST 1048576: true; the input reads as it did. -/
def syntaxReadsUptoRow : OpenClaim := { program := "ythjhonhhbddhkaagreatdoor", sum := "3b59e2b978f0a16dc17c68a5a4c64dd799ea65cdbca3025081ad772736d35e92", func := "kindling/kindlinglaw08.SyntaxReads", spec := "syntaxReads", unfollowed := true, recurses := true, named := ["kindling/lex.signs", "kindling/lex.keys", "kindling/syntax.levels", "kindling/syntax.words"], apart := false, laid := [("kindling/lex.keys", laid_kindling_lex_keys), ("kindling/lex.signs", laid_kindling_lex_signs), ("kindling/syntax.levels", laid_kindling_syntax_levels), ("kindling/syntax.words", laid_kindling_syntax_words)], narrowed := true }
def SyntaxReadsUptoSaid : Prop := syntaxReadsUptoRow.holds Tryz.pinned (OpenSpec.upto syntaxReadsSpec)

/-- 'kindlinglaw08.SyntaxTokens', WHERE WHAT IT READS IS OF BULK AT MOST 1048576: true; the input reads as it did. -/
def syntaxTokensUptoRow : OpenClaim := { program := "ythjhonhhbddhkaagreatdoor", sum := "3b59e2b978f0a16dc17c68a5a4c64dd799ea65cdbca3025081ad772736d35e92", func := "kindling/kindlinglaw08.SyntaxTokens", spec := "syntaxTokens", unfollowed := true, recurses := true, named := ["kindling/lex.signs", "kindling/lex.keys", "kindling/syntax.levels", "kindling/syntax.words"], apart := false, laid := [("kindling/lex.keys", laid_kindling_lex_keys), ("kindling/lex.signs", laid_kindling_lex_signs), ("kindling/syntax.levels", laid_kindling_syntax_levels), ("kindling/syntax.words", laid_kindling_syntax_words)], narrowed := true }
def SyntaxTokensUptoSaid : Prop := syntaxTokensUptoRow.holds Tryz.pinned (OpenSpec.upto syntaxTokensSpec)

/-- 'kindlinglaw08.SyntaxPrints', WHERE WHAT IT READS IS OF BULK AT MOST 1048576: true; the input reads as it did. -/
def syntaxPrintsUptoRow : OpenClaim := { program := "ythjhonhhbddhkaagreatdoor", sum := "3b59e2b978f0a16dc17c68a5a4c64dd799ea65cdbca3025081ad772736d35e92", func := "kindling/kindlinglaw08.SyntaxPrints", spec := "syntaxPrints", unfollowed := true, recurses := true, named := ["kindling/lex.signs", "kindling/lex.keys", "kindling/syntax.levels", "kindling/syntax.words"], loops := true, apart := false, laid := [("kindling/lex.keys", laid_kindling_lex_keys), ("kindling/lex.signs", laid_kindling_lex_signs), ("kindling/syntax.levels", laid_kindling_syntax_levels), ("kindling/syntax.words", laid_kindling_syntax_words)], narrowed := true }
def SyntaxPrintsUptoSaid : Prop := syntaxPrintsUptoRow.holds Tryz.pinned (OpenSpec.upto syntaxPrintsSpec)

/-- 'kindlinglaw08.SyntaxBack', WHERE WHAT IT READS IS OF BULK AT MOST 1048576: true; the input reads as it did. -/
def syntaxBackUptoRow : OpenClaim := { program := "ythjhonhhbddhkaagreatdoor", sum := "3b59e2b978f0a16dc17c68a5a4c64dd799ea65cdbca3025081ad772736d35e92", func := "kindling/kindlinglaw08.SyntaxBack", spec := "syntaxBack", unfollowed := true, recurses := true, named := ["kindling/lex.signs", "kindling/lex.keys", "kindling/syntax.levels", "kindling/syntax.words"], loops := true, apart := false, laid := [("kindling/lex.keys", laid_kindling_lex_keys), ("kindling/lex.signs", laid_kindling_lex_signs), ("kindling/syntax.levels", laid_kindling_syntax_levels), ("kindling/syntax.words", laid_kindling_syntax_words)], narrowed := true }
def SyntaxBackUptoSaid : Prop := syntaxBackUptoRow.holds Tryz.pinned (OpenSpec.upto syntaxBackSpec)

/-- 'kindlinglaw08.SyntaxBrackets', WHERE WHAT IT READS IS OF BULK AT MOST 1048576: true; the input reads as it did. -/
def syntaxBracketsUptoRow : OpenClaim := { program := "ythjhonhhbddhkaagreatdoor", sum := "3b59e2b978f0a16dc17c68a5a4c64dd799ea65cdbca3025081ad772736d35e92", func := "kindling/kindlinglaw08.SyntaxBrackets", spec := "syntaxBrackets", unfollowed := true, recurses := true, named := ["kindling/lex.signs", "kindling/lex.keys", "kindling/syntax.levels", "kindling/syntax.words"], loops := true, apart := false, laid := [("kindling/lex.keys", laid_kindling_lex_keys), ("kindling/lex.signs", laid_kindling_lex_signs), ("kindling/syntax.levels", laid_kindling_syntax_levels), ("kindling/syntax.words", laid_kindling_syntax_words)], narrowed := true }
def SyntaxBracketsUptoSaid : Prop := syntaxBracketsUptoRow.holds Tryz.pinned (OpenSpec.upto syntaxBracketsSpec)

/-- 'kindlinglaw08.SyntaxPlaces', WHERE WHAT IT READS IS OF BULK AT MOST 1048576: true; the input reads as it did. -/
def syntaxPlacesUptoRow : OpenClaim := { program := "ythjhonhhbddhkaagreatdoor", sum := "3b59e2b978f0a16dc17c68a5a4c64dd799ea65cdbca3025081ad772736d35e92", func := "kindling/kindlinglaw08.SyntaxPlaces", spec := "syntaxPlaces", unfollowed := true, recurses := true, named := ["kindling/lex.signs", "kindling/lex.keys", "kindling/syntax.levels", "kindling/syntax.words"], apart := false, laid := [("kindling/lex.keys", laid_kindling_lex_keys), ("kindling/lex.signs", laid_kindling_lex_signs), ("kindling/syntax.levels", laid_kindling_syntax_levels), ("kindling/syntax.words", laid_kindling_syntax_words)], narrowed := true }
def SyntaxPlacesUptoSaid : Prop := syntaxPlacesUptoRow.holds Tryz.pinned (OpenSpec.upto syntaxPlacesSpec)

/-- 'kindlinglaw08.SyntaxRights', WHERE WHAT IT READS IS OF BULK AT MOST 1048576: true; the input reads as it did. -/
def syntaxRightsUptoRow : OpenClaim := { program := "ythjhonhhbddhkaagreatdoor", sum := "3b59e2b978f0a16dc17c68a5a4c64dd799ea65cdbca3025081ad772736d35e92", func := "kindling/kindlinglaw08.SyntaxRights", spec := "syntaxRights", unfollowed := true, recurses := true, named := ["kindling/lex.signs", "kindling/lex.keys", "kindling/syntax.levels", "kindling/syntax.words"], loops := true, apart := false, laid := [("kindling/lex.keys", laid_kindling_lex_keys), ("kindling/lex.signs", laid_kindling_lex_signs), ("kindling/syntax.levels", laid_kindling_syntax_levels), ("kindling/syntax.words", laid_kindling_syntax_words)], narrowed := true }
def SyntaxRightsUptoSaid : Prop := syntaxRightsUptoRow.holds Tryz.pinned (OpenSpec.upto syntaxRightsSpec)

end Rows
end Go.Proofs.YthjhonhhbddhkaaGreatDoor
