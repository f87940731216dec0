/-
  NARROWER THAN 'FOR EVERY INPUT', by the rows' own cells (each row's printed sentence says how): LexScans: laid · LexMany: laid · LexRights: laid · LexPrints: laid · LexBack: laid · LexAlone: laid · LexJoins: laid · LexBlanks: laid.
  DERIVED. THE GIVEN ROWS OF THIS SEAT. 8 by the template 'for every input the law returns true; each argument reads behind the call as it read before'; 0 by the template 'total and deterministic' (their statements: YtnihjlnnllngeaaDoorTotals.lean).
  GIVEN WITH THE SEED: the statements are not yours to turn. If you find one false, say at which input.
  Laid BY PROGRAM, IN A SANDBOX (cutbox-rows.mjs): the forced cells as the released guide's own fill.sh prints them over the translation 341e80caa5268bd6… (all of the seat's roots in one cut). By AI agents, Wed Nov 11 2026. No macro, syntax, notation, axiom, sorry.
-/
import Derived.Test.YtnihjlnnllngeaaDoorChecked
import GoSem.Claim
import GoSem.ClaimJoined
import GoSem.ClaimMapViews
import Derived.JoinedTies
import Derived.KernelRfl
namespace Go.Proofs.YtnihjlnnllngeaaDoor
/- THE CELL 'sum', in the pinned program and in every row, IS THE sha256 OF THE DUMP (.gsa) THAT YtnihjlnnllngeaaDoorProg.lean LOADS. Nothing in Lean hashes anything: it is a label: what it is worth is what the hold of that sum in a sandbox is worth. -/
noncomputable def Tryd.pinned : Pinned := { name := "ytnihjlnnllngeaadoor", sum := "341e80caa5268bd6fcbddf79b6cc555cc042273f40e22131df11169b40ea6019", checked := Tryd.checked }
namespace Rows
def none {H : Type} : Left H := { results := [], args := [] }

/- WHAT THE LISTED PACKAGE-LEVEL VARIABLES READ AS WHEN THE CALL BEGINS. Each datum BY PROGRAM (the guide's laid-datum.mjs) off the statement by which the dump's own 'gosem.cut.vars' lays the variable. In a bare row this is a premise. The card (YtnihjlnnllngeaaDoorCards.lean) ties it to the program's text. -/
def laid_kindling_lex_keys {H : Type} : DataW H := .agg [.lit (.string [97, 110, 100]), .lit (.string [97, 110, 100, 97, 108, 115, 111]), .lit (.string [99, 97, 115, 101]), .lit (.string [100, 97, 116, 97, 116, 121, 112, 101]), .lit (.string [100, 105, 118]), .lit (.string [101, 108, 115, 101]), .lit (.string [101, 110, 100]), .lit (.string [101, 120, 99, 101, 112, 116, 105, 111, 110]), .lit (.string [102, 110]), .lit (.string [102, 117, 110]), .lit (.string [104, 97, 110, 100, 108, 101]), .lit (.string [105, 102]), .lit (.string [105, 110]), .lit (.string [105, 116, 111, 115]), .lit (.string [108, 101, 116]), .lit (.string [109, 111, 100]), .lit (.string [110, 111, 116]), .lit (.string [111, 102]), .lit (.string [111, 114, 100]), .lit (.string [111, 114, 101, 108, 115, 101]), .lit (.string [114, 97, 105, 115, 101]), .lit (.string [114, 101, 102]), .lit (.string [115, 105, 122, 101]), .lit (.string [115, 116, 114]), .lit (.string [116, 104, 101, 110]), .lit (.string [118, 97, 108])]
def laid_kindling_lex_signs {H : Type} : DataW H := .agg [.lit (.string [45, 62]), .lit (.string [61, 62]), .lit (.string [58, 58]), .lit (.string [58, 61]), .lit (.string [60, 61]), .lit (.string [62, 61]), .lit (.string [60, 62]), .lit (.string [61]), .lit (.string [60]), .lit (.string [62]), .lit (.string [43]), .lit (.string [45]), .lit (.string [42]), .lit (.string [94]), .lit (.string [33]), .lit (.string [126]), .lit (.string [40]), .lit (.string [41]), .lit (.string [44]), .lit (.string [59]), .lit (.string [124]), .lit (.string [95])]

/-- 'kindlinglaw07.LexScans': WHATEVER THE INPUT: true; the input reads as it did. -/
def lexScansSpec : ChangeSpec := { name := "lexScans", fn := fun _ => fun
  | [d] => { results := [.lit (.bool true)], args := [d] }
  | _ => none }
def lexScansRow : OpenClaim := { program := "ytnihjlnnllngeaadoor", sum := "341e80caa5268bd6fcbddf79b6cc555cc042273f40e22131df11169b40ea6019", func := "kindling/kindlinglaw07.LexScans", spec := "lexScans", recurses := true, named := ["kindling/lex.signs", "kindling/lex.keys"], apart := false, laid := [("kindling/lex.keys", laid_kindling_lex_keys), ("kindling/lex.signs", laid_kindling_lex_signs)] }
def LexScansSaid : Prop := lexScansRow.holds Tryd.pinned (OpenSpec.ofChange lexScansSpec)

/-- ITS FALSE NEIGHBOUR: 'it returns false'. Refute it at one input. -/
def lexScansWrong : ChangeSpec := { name := "lexScans", fn := fun _ => fun
  | [d] => { results := [.lit (.bool false)], args := [d] }
  | _ => none }
def LexScansWrongFalsely : Prop := lexScansRow.holds Tryd.pinned (OpenSpec.ofChange lexScansWrong)

/-- 'kindlinglaw07.LexMany': WHATEVER THE INPUT: true; the input reads as it did. -/
def lexManySpec : ChangeSpec := { name := "lexMany", fn := fun _ => fun
  | [d1, d2] => { results := [.lit (.bool true)], args := [d1, d2] }
  | _ => none }
def lexManyRow : OpenClaim := { program := "ytnihjlnnllngeaadoor", sum := "341e80caa5268bd6fcbddf79b6cc555cc042273f40e22131df11169b40ea6019", func := "kindling/kindlinglaw07.LexMany", spec := "lexMany", named := ["kindling/lex.signs", "kindling/lex.keys"], apart := false, laid := [("kindling/lex.keys", laid_kindling_lex_keys), ("kindling/lex.signs", laid_kindling_lex_signs)] }
def LexManySaid : Prop := lexManyRow.holds Tryd.pinned (OpenSpec.ofChange lexManySpec)

/-- ITS FALSE NEIGHBOUR: 'it returns false'. Refute it at one input. -/
def lexManyWrong : ChangeSpec := { name := "lexMany", fn := fun _ => fun
  | [d1, d2] => { results := [.lit (.bool false)], args := [d1, d2] }
  | _ => none }
def LexManyWrongFalsely : Prop := lexManyRow.holds Tryd.pinned (OpenSpec.ofChange lexManyWrong)

/-- 'kindlinglaw07.LexRights': WHATEVER THE INPUT: true; the input reads as it did. -/
def lexRightsSpec : ChangeSpec := { name := "lexRights", fn := fun _ => fun
  | [d] => { results := [.lit (.bool true)], args := [d] }
  | _ => none }
def lexRightsRow : OpenClaim := { program := "ytnihjlnnllngeaadoor", sum := "341e80caa5268bd6fcbddf79b6cc555cc042273f40e22131df11169b40ea6019", func := "kindling/kindlinglaw07.LexRights", spec := "lexRights", named := ["kindling/lex.signs", "kindling/lex.keys"], apart := false, laid := [("kindling/lex.keys", laid_kindling_lex_keys), ("kindling/lex.signs", laid_kindling_lex_signs)] }
def LexRightsSaid : Prop := lexRightsRow.holds Tryd.pinned (OpenSpec.ofChange lexRightsSpec)

/-- ITS FALSE NEIGHBOUR: 'it returns false'. Refute it at one input. -/
def lexRightsWrong : ChangeSpec := { name := "lexRights", fn := fun _ => fun
  | [d] => { results := [.lit (.bool false)], args := [d] }
  | _ => none }
def LexRightsWrongFalsely : Prop := lexRightsRow.holds Tryd.pinned (OpenSpec.ofChange lexRightsWrong)

/-- 'kindlinglaw07.LexPrints': WHATEVER THE INPUT: true; the input reads as it did. -/
def lexPrintsSpec : ChangeSpec := { name := "lexPrints", fn := fun _ => fun
  | [d] => { results := [.lit (.bool true)], args := [d] }
  | _ => none }
def lexPrintsRow : OpenClaim := { program := "ytnihjlnnllngeaadoor", sum := "341e80caa5268bd6fcbddf79b6cc555cc042273f40e22131df11169b40ea6019", func := "kindling/kindlinglaw07.LexPrints", spec := "lexPrints", named := ["kindling/lex.signs", "kindling/lex.keys"], apart := false, laid := [("kindling/lex.keys", laid_kindling_lex_keys), ("kindling/lex.signs", laid_kindling_lex_signs)] }
def LexPrintsSaid : Prop := lexPrintsRow.holds Tryd.pinned (OpenSpec.ofChange lexPrintsSpec)

/-- ITS FALSE NEIGHBOUR: 'it returns false'. Refute it at one input. -/
def lexPrintsWrong : ChangeSpec := { name := "lexPrints", fn := fun _ => fun
  | [d] => { results := [.lit (.bool false)], args := [d] }
  | _ => none }
def LexPrintsWrongFalsely : Prop := lexPrintsRow.holds Tryd.pinned (OpenSpec.ofChange lexPrintsWrong)

/-- 'kindlinglaw07.LexBack': WHATEVER THE INPUT: true; the input reads as it did. -/
def lexBackSpec : ChangeSpec := { name := "lexBack", fn := fun _ => fun
  | [d] => { results := [.lit (.bool true)], args := [d] }
  | _ => none }
def lexBackRow : OpenClaim := { program := "ytnihjlnnllngeaadoor", sum := "341e80caa5268bd6fcbddf79b6cc555cc042273f40e22131df11169b40ea6019", func := "kindling/kindlinglaw07.LexBack", spec := "lexBack", named := ["kindling/lex.signs", "kindling/lex.keys"], apart := false, laid := [("kindling/lex.keys", laid_kindling_lex_keys), ("kindling/lex.signs", laid_kindling_lex_signs)] }
def LexBackSaid : Prop := lexBackRow.holds Tryd.pinned (OpenSpec.ofChange lexBackSpec)

/-- ITS FALSE NEIGHBOUR: 'it returns false'. Refute it at one input. -/
def lexBackWrong : ChangeSpec := { name := "lexBack", fn := fun _ => fun
  | [d] => { results := [.lit (.bool false)], args := [d] }
  | _ => none }
def LexBackWrongFalsely : Prop := lexBackRow.holds Tryd.pinned (OpenSpec.ofChange lexBackWrong)

/-- 'kindlinglaw07.LexAlone': WHATEVER THE INPUT: true; the input reads as it did. -/
def lexAloneSpec : ChangeSpec := { name := "lexAlone", fn := fun _ => fun
  | [d] => { results := [.lit (.bool true)], args := [d] }
  | _ => none }
def lexAloneRow : OpenClaim := { program := "ytnihjlnnllngeaadoor", sum := "341e80caa5268bd6fcbddf79b6cc555cc042273f40e22131df11169b40ea6019", func := "kindling/kindlinglaw07.LexAlone", spec := "lexAlone", named := ["kindling/lex.signs", "kindling/lex.keys"], apart := false, laid := [("kindling/lex.keys", laid_kindling_lex_keys), ("kindling/lex.signs", laid_kindling_lex_signs)] }
def LexAloneSaid : Prop := lexAloneRow.holds Tryd.pinned (OpenSpec.ofChange lexAloneSpec)

/-- ITS FALSE NEIGHBOUR: 'it returns false'. Refute it at one input. -/
def lexAloneWrong : ChangeSpec := { name := "lexAlone", fn := fun _ => fun
  | [d] => { results := [.lit (.bool false)], args := [d] }
  | _ => none }
def LexAloneWrongFalsely : Prop := lexAloneRow.holds Tryd.pinned (OpenSpec.ofChange lexAloneWrong)

/-- 'kindlinglaw07.LexJoins': WHATEVER THE INPUT: true; the input reads as it did. -/
def lexJoinsSpec : ChangeSpec := { name := "lexJoins", fn := fun _ => fun
  | [d1, d2] => { results := [.lit (.bool true)], args := [d1, d2] }
  | _ => none }
def lexJoinsRow : OpenClaim := { program := "ytnihjlnnllngeaadoor", sum := "341e80caa5268bd6fcbddf79b6cc555cc042273f40e22131df11169b40ea6019", func := "kindling/kindlinglaw07.LexJoins", spec := "lexJoins", named := ["kindling/lex.signs", "kindling/lex.keys"], apart := false, laid := [("kindling/lex.keys", laid_kindling_lex_keys), ("kindling/lex.signs", laid_kindling_lex_signs)] }
def LexJoinsSaid : Prop := lexJoinsRow.holds Tryd.pinned (OpenSpec.ofChange lexJoinsSpec)

/-- ITS FALSE NEIGHBOUR: 'it returns false'. Refute it at one input. -/
def lexJoinsWrong : ChangeSpec := { name := "lexJoins", fn := fun _ => fun
  | [d1, d2] => { results := [.lit (.bool false)], args := [d1, d2] }
  | _ => none }
def LexJoinsWrongFalsely : Prop := lexJoinsRow.holds Tryd.pinned (OpenSpec.ofChange lexJoinsWrong)

/-- 'kindlinglaw07.LexBlanks': WHATEVER THE INPUT: true; the input reads as it did. -/
def lexBlanksSpec : ChangeSpec := { name := "lexBlanks", fn := fun _ => fun
  | [d1, d2, d3] => { results := [.lit (.bool true)], args := [d1, d2, d3] }
  | _ => none }
def lexBlanksRow : OpenClaim := { program := "ytnihjlnnllngeaadoor", sum := "341e80caa5268bd6fcbddf79b6cc555cc042273f40e22131df11169b40ea6019", func := "kindling/kindlinglaw07.LexBlanks", spec := "lexBlanks", recurses := true, named := ["kindling/lex.signs", "kindling/lex.keys"], apart := false, laid := [("kindling/lex.keys", laid_kindling_lex_keys), ("kindling/lex.signs", laid_kindling_lex_signs)] }
def LexBlanksSaid : Prop := lexBlanksRow.holds Tryd.pinned (OpenSpec.ofChange lexBlanksSpec)

/-- ITS FALSE NEIGHBOUR: 'it returns false'. Refute it at one input. -/
def lexBlanksWrong : ChangeSpec := { name := "lexBlanks", fn := fun _ => fun
  | [d1, d2, d3] => { results := [.lit (.bool false)], args := [d1, d2, d3] }
  | _ => none }
def LexBlanksWrongFalsely : Prop := lexBlanksRow.holds Tryd.pinned (OpenSpec.ofChange lexBlanksWrong)

/- THE SECOND FORM. 'bulk': how many values and letters a reading holds, each counted each time it is reached (what is shared counts as often as it is met; a slice's spare places count too). A statement '..UptoSaid' is the law's where the arguments, and the package variables that the reading takes, are together of bulk at most 1048576: NARROWER than '..Said'. Prove '..Said' where nothing that the law and all that it calls make is longer than what came in: it says more and counts as full. Else prove '..UptoSaid'. A law counts once. -/
mutual
def uptoBulk {H : Type} : DataW H → Nat
  | .lit (.string bytes) => bytes.length + 1
  | .lit _ => 1
  | .nil => 1
  | .ptr d => uptoBulk d + 1
  | .slice elems spare => uptoBulkAll elems + uptoBulkAll spare + 1
  | .agg parts => uptoBulkAll parts + 1
  | .iface _ d => uptoBulk d + 1
  | .map entries => uptoBulkEntries entries + 1
  | .held _ => 1
def uptoBulkAll {H : Type} : List (DataW H) → Nat
  | [] => 0
  | d :: r => uptoBulk d + uptoBulkAll r
def uptoBulkEntries {H : Type} : List (Lit × DataW H) → Nat
  | [] => 0
  | x :: r => uptoBulkEntry x + uptoBulkEntries r
def uptoBulkEntry {H : Type} : Lit × DataW H → Nat
  | (.string bytes, d) => bytes.length + uptoBulk d + 1
  | (_, d) => uptoBulk d + 1
 end
def uptoSmall : (H : Type) → List (DataW H) → Bool := fun _ ds => decide (uptoBulkAll ds ≤ 1048576)
def OpenSpec.upto (s : _root_.Go.ChangeSpec) : _root_.Go.OpenSpec := { _root_.Go.OpenSpec.ofChange s with cond := some uptoSmall }

/-- 'kindlinglaw07.LexScans', WHERE WHAT IT READS IS OF BULK AT MOST 1048576: true; the input reads as it did. -/
def lexScansUptoRow : OpenClaim := { program := "ytnihjlnnllngeaadoor", sum := "341e80caa5268bd6fcbddf79b6cc555cc042273f40e22131df11169b40ea6019", func := "kindling/kindlinglaw07.LexScans", spec := "lexScans", recurses := true, named := ["kindling/lex.signs", "kindling/lex.keys"], apart := false, laid := [("kindling/lex.keys", laid_kindling_lex_keys), ("kindling/lex.signs", laid_kindling_lex_signs)], narrowed := true }
def LexScansUptoSaid : Prop := lexScansUptoRow.holds Tryd.pinned (OpenSpec.upto lexScansSpec)

/-- 'kindlinglaw07.LexMany', WHERE WHAT IT READS IS OF BULK AT MOST 1048576: true; the input reads as it did. -/
def lexManyUptoRow : OpenClaim := { program := "ytnihjlnnllngeaadoor", sum := "341e80caa5268bd6fcbddf79b6cc555cc042273f40e22131df11169b40ea6019", func := "kindling/kindlinglaw07.LexMany", spec := "lexMany", named := ["kindling/lex.signs", "kindling/lex.keys"], apart := false, laid := [("kindling/lex.keys", laid_kindling_lex_keys), ("kindling/lex.signs", laid_kindling_lex_signs)], narrowed := true }
def LexManyUptoSaid : Prop := lexManyUptoRow.holds Tryd.pinned (OpenSpec.upto lexManySpec)

/-- 'kindlinglaw07.LexRights', WHERE WHAT IT READS IS OF BULK AT MOST 1048576: true; the input reads as it did. -/
def lexRightsUptoRow : OpenClaim := { program := "ytnihjlnnllngeaadoor", sum := "341e80caa5268bd6fcbddf79b6cc555cc042273f40e22131df11169b40ea6019", func := "kindling/kindlinglaw07.LexRights", spec := "lexRights", named := ["kindling/lex.signs", "kindling/lex.keys"], apart := false, laid := [("kindling/lex.keys", laid_kindling_lex_keys), ("kindling/lex.signs", laid_kindling_lex_signs)], narrowed := true }
def LexRightsUptoSaid : Prop := lexRightsUptoRow.holds Tryd.pinned (OpenSpec.upto lexRightsSpec)

/-- 'kindlinglaw07.LexPrints', WHERE WHAT IT READS IS OF BULK AT MOST 1048576: true; the input reads as it did. -/
def lexPrintsUptoRow : OpenClaim := { program := "ytnihjlnnllngeaadoor", sum := "341e80caa5268bd6fcbddf79b6cc555cc042273f40e22131df11169b40ea6019", func := "kindling/kindlinglaw07.LexPrints", spec := "lexPrints", named := ["kindling/lex.signs", "kindling/lex.keys"], apart := false, laid := [("kindling/lex.keys", laid_kindling_lex_keys), ("kindling/lex.signs", laid_kindling_lex_signs)], narrowed := true }
def LexPrintsUptoSaid : Prop := lexPrintsUptoRow.holds Tryd.pinned (OpenSpec.upto lexPrintsSpec)

/-- 'kindlinglaw07.LexBack', WHERE WHAT IT READS IS OF BULK AT MOST 1048576: true; the input reads as it did. -/
def lexBackUptoRow : OpenClaim := { program := "ytnihjlnnllngeaadoor", sum := "341e80caa5268bd6fcbddf79b6cc555cc042273f40e22131df11169b40ea6019", func := "kindling/kindlinglaw07.LexBack", spec := "lexBack", named := ["kindling/lex.signs", "kindling/lex.keys"], apart := false, laid := [("kindling/lex.keys", laid_kindling_lex_keys), ("kindling/lex.signs", laid_kindling_lex_signs)], narrowed := true }
def LexBackUptoSaid : Prop := lexBackUptoRow.holds Tryd.pinned (OpenSpec.upto lexBackSpec)

/-- 'kindlinglaw07.LexAlone', WHERE WHAT IT READS IS OF BULK AT MOST 1048576: true; the input reads as it did. -/
def lexAloneUptoRow : OpenClaim := { program := "ytnihjlnnllngeaadoor", sum := "341e80caa5268bd6fcbddf79b6cc555cc042273f40e22131df11169b40ea6019", func := "kindling/kindlinglaw07.LexAlone", spec := "lexAlone", named := ["kindling/lex.signs", "kindling/lex.keys"], apart := false, laid := [("kindling/lex.keys", laid_kindling_lex_keys), ("kindling/lex.signs", laid_kindling_lex_signs)], narrowed := true }
def LexAloneUptoSaid : Prop := lexAloneUptoRow.holds Tryd.pinned (OpenSpec.upto lexAloneSpec)

/-- 'kindlinglaw07.LexJoins', WHERE WHAT IT READS IS OF BULK AT MOST 1048576: true; the input reads as it did. -/
def lexJoinsUptoRow : OpenClaim := { program := "ytnihjlnnllngeaadoor", sum := "341e80caa5268bd6fcbddf79b6cc555cc042273f40e22131df11169b40ea6019", func := "kindling/kindlinglaw07.LexJoins", spec := "lexJoins", named := ["kindling/lex.signs", "kindling/lex.keys"], apart := false, laid := [("kindling/lex.keys", laid_kindling_lex_keys), ("kindling/lex.signs", laid_kindling_lex_signs)], narrowed := true }
def LexJoinsUptoSaid : Prop := lexJoinsUptoRow.holds Tryd.pinned (OpenSpec.upto lexJoinsSpec)

/-- 'kindlinglaw07.LexBlanks', WHERE WHAT IT READS IS OF BULK AT MOST 1048576: true; the input reads as it did. -/
def lexBlanksUptoRow : OpenClaim := { program := "ytnihjlnnllngeaadoor", sum := "341e80caa5268bd6fcbddf79b6cc555cc042273f40e22131df11169b40ea6019", func := "kindling/kindlinglaw07.LexBlanks", spec := "lexBlanks", recurses := true, named := ["kindling/lex.signs", "kindling/lex.keys"], apart := false, laid := [("kindling/lex.keys", laid_kindling_lex_keys), ("kindling/lex.signs", laid_kindling_lex_signs)], narrowed := true }
def LexBlanksUptoSaid : Prop := lexBlanksUptoRow.holds Tryd.pinned (OpenSpec.upto lexBlanksSpec)

end Rows
end Go.Proofs.YtnihjlnnllngeaaDoor
