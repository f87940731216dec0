/-
  DERIVED. GIVEN WITH THE SEED: THE CARDS: each row of YtnlpbmifjdkejaaGreatDoorRows.lean that lists a variable, with what it lists TIED to the program's text (the seventh form; the later family's looks); each row that meets fmt, with fmt's text TOLD by the authors' own Lean function (tested against real Go, not proved from fmt's source: count such statements apart). THE CARD IS WHAT COUNTS. Prove the row's statement (the work); the ties are given (YtnlpbmifjdkejaaGreatDoorTie.lean); close each card by the builder's one call (the guide's Derived/Test/ToyasCard.lean, 'card_holds'). Laid BY PROGRAM, IN A SANDBOX (cutbox-door.mjs). By AI agents, Wed Nov 11 2026. No macro, syntax, notation, axiom, sorry.
-/
import Derived.Test.YtnlpbmifjdkejaaGreatDoorRows
import GoSem.ClaimSeven
namespace Go.Proofs.YtnlpbmifjdkejaaGreatDoor
namespace Rows

/-- THE TIED CARD OF 'kindlinglaw09.TypesNil'. -/
def typesNilCard : Claim7 := { stood := { row := typesNilRow, standIns := [], harness := (true, "0c6b81e741e4693fa7b0a5e8f0d3f4bb385ae5c4c798ff7c5970d4189bbc06b0"), looks := true }, kinds := [], alts := [], laidByText := true, laidKinds := [.data, .data, .data, .widerDeep, .widerDeep, .widerDeep, .widerDeep], laidTests := true, laidLooks := .later }
def TypesNilCardSaid : Prop := Claim7.holds Tryz.pinned (.plain (OpenSpec.ofChange typesNilSpec)) typesNilCard

/-- THE SECOND FORM's CARD OF 'kindlinglaw09.TypesNil'. -/
def typesNilUptoCard : Claim7 := { stood := { row := typesNilUptoRow, standIns := [], harness := (true, "0c6b81e741e4693fa7b0a5e8f0d3f4bb385ae5c4c798ff7c5970d4189bbc06b0"), looks := true }, kinds := [], alts := [], laidByText := true, laidKinds := [.data, .data, .data, .widerDeep, .widerDeep, .widerDeep, .widerDeep], laidTests := true, laidLooks := .later }
def TypesNilUptoCardSaid : Prop := Claim7.holds Tryz.pinned (.plain (OpenSpec.upto typesNilSpec)) typesNilUptoCard
end Rows
end Go.Proofs.YtnlpbmifjdkejaaGreatDoor
