/-
  NARROWER THAN 'FOR EVERY INPUT', by the rows' own cells (each row's printed sentence says how): AnfWorth: loops, laid · AnfFlattens: loops, laid · AnfRights: loops, laid · AnfTexts: loops, laid · AnfTails: laid.
  DERIVED. THE GIVEN ROWS OF THIS SEAT. 5 by the template 'for every input the law returns true; each argument reads behind the call as it read before'; 0 by the template 'total and deterministic' (their statements: YtfdgoenmdalphaaGreatDoorTotals.lean).
  GIVEN WITH THE SEED: the statements are not yours to turn. If you find one false, say at which input.
  Laid BY PROGRAM, IN A SANDBOX (cutbox-rows.mjs): the forced cells as the released guide's own fill.sh prints them over the translation f82309422bf929db… (all of the seat's roots in one cut). By AI agents, Wed Nov 11 2026. No macro, syntax, notation, axiom, sorry.
-/
import Derived.Test.YtfdgoenmdalphaaGreatDoorChecked
import GoSem.Claim
import GoSem.ClaimJoined
import GoSem.ClaimMapViews
import Derived.JoinedTies
import Derived.KernelRfl
namespace Go.Proofs.YtfdgoenmdalphaaGreatDoor
/- THE CELL 'sum', in the pinned program and in every row, IS THE sha256 OF THE DUMP (.gsa) THAT YtfdgoenmdalphaaGreatDoorProg.lean LOADS. Nothing in Lean hashes anything: it is a label: what it is worth is what the hold of that sum in a sandbox is worth. -/
noncomputable def Tryz.pinned : Pinned := { name := "ytfdgoenmdalphaagreatdoor", sum := "f82309422bf929db317ad12da7c6fb8135969d76cc2f71c66978a53a7f8e02bc", checked := Tryz.checked }
namespace Rows
def none {H : Type} : Left H := { results := [], args := [] }

/- WHAT THE LISTED PACKAGE-LEVEL VARIABLES READ AS WHEN THE CALL BEGINS. Each datum BY PROGRAM (the guide's laid-datum.mjs) off the statement by which the dump's own 'gosem.cut.vars' lays the variable. In a bare row this is a premise. The card (YtfdgoenmdalphaaGreatDoorCards.lean) ties it to the program's text. -/
def laid_kindling_core_words {H : Type} : DataW H := .agg [.lit (.string []), .lit (.string []), .lit (.string []), .lit (.string []), .lit (.string []), .lit (.string [116, 117, 112, 108, 101]), .lit (.string [102, 110]), .lit (.string [102, 105, 120]), .lit (.string [97, 112, 112]), .lit (.string [105, 102]), .lit (.string [108, 101, 116]), .lit (.string [102, 105, 101, 108, 100]), .lit (.string []), .lit (.string [114, 97, 105, 115, 101]), .lit (.string [116, 114, 121]), .lit (.string [112, 117, 116])]

/-- 'kindlinglaw11.AnfWorth': WHATEVER THE INPUT: true; the input reads as it did. -/
def anfWorthSpec : ChangeSpec := { name := "anfWorth", fn := fun _ => fun
  | [d] => { results := [.lit (.bool true)], args := [d] }
  | _ => none }
def anfWorthRow : OpenClaim := { program := "ytfdgoenmdalphaagreatdoor", sum := "f82309422bf929db317ad12da7c6fb8135969d76cc2f71c66978a53a7f8e02bc", func := "kindling/kindlinglaw11.AnfWorth", spec := "anfWorth", unfollowed := true, recurses := true, named := ["kindling/core.words"], loops := true, apart := false, laid := [("kindling/core.words", laid_kindling_core_words)] }
def AnfWorthSaid : Prop := anfWorthRow.holds Tryz.pinned (OpenSpec.ofChange anfWorthSpec)

/-- ITS FALSE NEIGHBOUR: 'it returns false'. Refute it at one input. -/
def anfWorthWrong : ChangeSpec := { name := "anfWorth", fn := fun _ => fun
  | [d] => { results := [.lit (.bool false)], args := [d] }
  | _ => none }
def AnfWorthWrongFalsely : Prop := anfWorthRow.holds Tryz.pinned (OpenSpec.ofChange anfWorthWrong)

/-- 'kindlinglaw11.AnfFlattens': WHATEVER THE INPUT: true; the input reads as it did. -/
def anfFlattensSpec : ChangeSpec := { name := "anfFlattens", fn := fun _ => fun
  | [d] => { results := [.lit (.bool true)], args := [d] }
  | _ => none }
def anfFlattensRow : OpenClaim := { program := "ytfdgoenmdalphaagreatdoor", sum := "f82309422bf929db317ad12da7c6fb8135969d76cc2f71c66978a53a7f8e02bc", func := "kindling/kindlinglaw11.AnfFlattens", spec := "anfFlattens", unfollowed := true, recurses := true, named := ["kindling/core.words"], loops := true, apart := false, laid := [("kindling/core.words", laid_kindling_core_words)] }
def AnfFlattensSaid : Prop := anfFlattensRow.holds Tryz.pinned (OpenSpec.ofChange anfFlattensSpec)

/-- ITS FALSE NEIGHBOUR: 'it returns false'. Refute it at one input. -/
def anfFlattensWrong : ChangeSpec := { name := "anfFlattens", fn := fun _ => fun
  | [d] => { results := [.lit (.bool false)], args := [d] }
  | _ => none }
def AnfFlattensWrongFalsely : Prop := anfFlattensRow.holds Tryz.pinned (OpenSpec.ofChange anfFlattensWrong)

/-- 'kindlinglaw11.AnfRights': WHATEVER THE INPUT: true; the input reads as it did. -/
def anfRightsSpec : ChangeSpec := { name := "anfRights", fn := fun _ => fun
  | [d] => { results := [.lit (.bool true)], args := [d] }
  | _ => none }
def anfRightsRow : OpenClaim := { program := "ytfdgoenmdalphaagreatdoor", sum := "f82309422bf929db317ad12da7c6fb8135969d76cc2f71c66978a53a7f8e02bc", func := "kindling/kindlinglaw11.AnfRights", spec := "anfRights", unfollowed := true, recurses := true, named := ["kindling/core.words"], loops := true, apart := false, laid := [("kindling/core.words", laid_kindling_core_words)] }
def AnfRightsSaid : Prop := anfRightsRow.holds Tryz.pinned (OpenSpec.ofChange anfRightsSpec)

/-- ITS FALSE NEIGHBOUR: 'it returns false'. Refute it at one input. -/
def anfRightsWrong : ChangeSpec := { name := "anfRights", fn := fun _ => fun
  | [d] => { results := [.lit (.bool false)], args := [d] }
  | _ => none }
def AnfRightsWrongFalsely : Prop := anfRightsRow.holds Tryz.pinned (OpenSpec.ofChange anfRightsWrong)

/-- 'kindlinglaw11.AnfTexts': WHATEVER THE INPUT: true; the input reads as it did. -/
def anfTextsSpec : ChangeSpec := { name := "anfTexts", fn := fun _ => fun
  | [d] => { results := [.lit (.bool true)], args := [d] }
  | _ => none }
def anfTextsRow : OpenClaim := { program := "ytfdgoenmdalphaagreatdoor", sum := "f82309422bf929db317ad12da7c6fb8135969d76cc2f71c66978a53a7f8e02bc", func := "kindling/kindlinglaw11.AnfTexts", spec := "anfTexts", unfollowed := true, recurses := true, named := ["kindling/core.words"], loops := true, apart := false, laid := [("kindling/core.words", laid_kindling_core_words)] }
def AnfTextsSaid : Prop := anfTextsRow.holds Tryz.pinned (OpenSpec.ofChange anfTextsSpec)

/-- ITS FALSE NEIGHBOUR: 'it returns false'. Refute it at one input. -/
def anfTextsWrong : ChangeSpec := { name := "anfTexts", fn := fun _ => fun
  | [d] => { results := [.lit (.bool false)], args := [d] }
  | _ => none }
def AnfTextsWrongFalsely : Prop := anfTextsRow.holds Tryz.pinned (OpenSpec.ofChange anfTextsWrong)

/-- 'kindlinglaw11.AnfTails': WHATEVER THE INPUT: true; the input reads as it did. -/
def anfTailsSpec : ChangeSpec := { name := "anfTails", fn := fun _ => fun
  | [d1, d2, d3] => { results := [.lit (.bool true)], args := [d1, d2, d3] }
  | _ => none }
def anfTailsRow : OpenClaim := { program := "ytfdgoenmdalphaagreatdoor", sum := "f82309422bf929db317ad12da7c6fb8135969d76cc2f71c66978a53a7f8e02bc", func := "kindling/kindlinglaw11.AnfTails", spec := "anfTails", unfollowed := true, recurses := true, named := ["kindling/core.words"], apart := false, laid := [("kindling/core.words", laid_kindling_core_words)] }
def AnfTailsSaid : Prop := anfTailsRow.holds Tryz.pinned (OpenSpec.ofChange anfTailsSpec)

/-- ITS FALSE NEIGHBOUR: 'it returns false'. Refute it at one input. -/
def anfTailsWrong : ChangeSpec := { name := "anfTails", fn := fun _ => fun
  | [d1, d2, d3] => { results := [.lit (.bool false)], args := [d1, d2, d3] }
  | _ => none }
def AnfTailsWrongFalsely : Prop := anfTailsRow.holds Tryz.pinned (OpenSpec.ofChange anfTailsWrong)

/- THE SECOND FORM. 'bulk': how many values and letters a reading holds, each counted each time it is reached (what is shared counts as often as it is met; a slice's spare places count too). A statement '..UptoSaid' is the law's where the arguments, and the package variables that the reading takes, are together of bulk at most 1048576: NARROWER than '..Said'. Prove '..Said' where nothing that the law and all that it calls make is longer than what came in: it says more and counts as full. Else prove '..UptoSaid'. A law counts once. -/
mutual
def uptoBulk {H : Type} : DataW H → Nat
  | .lit (.string bytes) => bytes.length + 1
  | .lit _ => 1
  | .nil => 1
  | .ptr d => uptoBulk d + 1
  | .slice elems spare => uptoBulkAll elems + uptoBulkAll spare + 1
  | .agg parts => uptoBulkAll parts + 1
  | .iface _ d => uptoBulk d + 1
  | .map entries => uptoBulkEntries entries + 1
  | .held _ => 1
def uptoBulkAll {H : Type} : List (DataW H) → Nat
  | [] => 0
  | d :: r => uptoBulk d + uptoBulkAll r
def uptoBulkEntries {H : Type} : List (Lit × DataW H) → Nat
  | [] => 0
  | x :: r => uptoBulkEntry x + uptoBulkEntries r
def uptoBulkEntry {H : Type} : Lit × DataW H → Nat
  | (.string bytes, d) => bytes.length + uptoBulk d + 1
  | (_, d) => uptoBulk d + 1
 end
def uptoSmall : (H : Type) → List (DataW H) → Bool := fun _ ds => decide (uptoBulkAll ds ≤ 1048576)
def OpenSpec.upto (s : _root_.Go.ChangeSpec) : _root_.Go.OpenSpec := { _root_.Go.OpenSpec.ofChange s with cond := some uptoSmall }

/-- 'kindlinglaw11.AnfWorth', WHERE WHAT IT READS IS OF BULK AT MOST 1048576: true; the input reads as it did. -/
def anfWorthUptoRow : OpenClaim := { program := "ytfdgoenmdalphaagreatdoor", sum := "f82309422bf929db317ad12da7c6fb8135969d76cc2f71c66978a53a7f8e02bc", func := "kindling/kindlinglaw11.AnfWorth", spec := "anfWorth", unfollowed := true, recurses := true, named := ["kindling/core.words"], loops := true, apart := false, laid := [("kindling/core.words", laid_kindling_core_words)], narrowed := true }
def AnfWorthUptoSaid : Prop := anfWorthUptoRow.holds Tryz.pinned (OpenSpec.upto anfWorthSpec)

/-- 'kindlinglaw11.AnfFlattens', WHERE WHAT IT READS IS OF BULK AT MOST 1048576: true; the input reads as it did. -/
def anfFlattensUptoRow : OpenClaim := { program := "ytfdgoenmdalphaagreatdoor", sum := "f82309422bf929db317ad12da7c6fb8135969d76cc2f71c66978a53a7f8e02bc", func := "kindling/kindlinglaw11.AnfFlattens", spec := "anfFlattens", unfollowed := true, recurses := true, named := ["kindling/core.words"], loops := true, apart := false, laid := [("kindling/core.words", laid_kindling_core_words)], narrowed := true }
def AnfFlattensUptoSaid : Prop := anfFlattensUptoRow.holds Tryz.pinned (OpenSpec.upto anfFlattensSpec)

/-- 'kindlinglaw11.AnfRights', WHERE WHAT IT READS IS OF BULK AT MOST 1048576: true; the input reads as it did. -/
def anfRightsUptoRow : OpenClaim := { program := "ytfdgoenmdalphaagreatdoor", sum := "f82309422bf929db317ad12da7c6fb8135969d76cc2f71c66978a53a7f8e02bc", func := "kindling/kindlinglaw11.AnfRights", spec := "anfRights", unfollowed := true, recurses := true, named := ["kindling/core.words"], loops := true, apart := false, laid := [("kindling/core.words", laid_kindling_core_words)], narrowed := true }
def AnfRightsUptoSaid : Prop := anfRightsUptoRow.holds Tryz.pinned (OpenSpec.upto anfRightsSpec)

/-- 'kindlinglaw11.AnfTexts', WHERE WHAT IT READS IS OF BULK AT MOST 1048576: true; the input reads as it did. -/
def anfTextsUptoRow : OpenClaim := { program := "ytfdgoenmdalphaagreatdoor", sum := "f82309422bf929db317ad12da7c6fb8135969d76cc2f71c66978a53a7f8e02bc", func := "kindling/kindlinglaw11.AnfTexts", spec := "anfTexts", unfollowed := true, recurses := true, named := ["kindling/core.words"], loops := true, apart := false, laid := [("kindling/core.words", laid_kindling_core_words)], narrowed := true }
def AnfTextsUptoSaid : Prop := anfTextsUptoRow.holds Tryz.pinned (OpenSpec.upto anfTextsSpec)

/-- 'kindlinglaw11.AnfTails', WHERE WHAT IT READS IS OF BULK AT MOST 1048576: true; the input reads as it did. -/
def anfTailsUptoRow : OpenClaim := { program := "ytfdgoenmdalphaagreatdoor", sum := "f82309422bf929db317ad12da7c6fb8135969d76cc2f71c66978a53a7f8e02bc", func := "kindling/kindlinglaw11.AnfTails", spec := "anfTails", unfollowed := true, recurses := true, named := ["kindling/core.words"], apart := false, laid := [("kindling/core.words", laid_kindling_core_words)], narrowed := true }
def AnfTailsUptoSaid : Prop := anfTailsUptoRow.holds Tryz.pinned (OpenSpec.upto anfTailsSpec)

end Rows
end Go.Proofs.YtfdgoenmdalphaaGreatDoor
