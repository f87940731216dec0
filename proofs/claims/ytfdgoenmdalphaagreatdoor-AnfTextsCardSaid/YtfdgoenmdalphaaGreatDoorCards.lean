/-
  DERIVED. GIVEN WITH THE SEED: THE CARDS: each row of YtfdgoenmdalphaaGreatDoorRows.lean that lists a variable, with what it lists TIED to the program's text (the seventh form; the later family's looks); each row that meets fmt, with fmt's text TOLD by the authors' own Lean function (tested against real Go, not proved from fmt's source: count such statements apart). THE CARD IS WHAT COUNTS. Prove the row's statement (the work); the ties are given (YtfdgoenmdalphaaGreatDoorTie.lean); close each card by the builder's one call (the guide's Derived/Test/ToyasCard.lean, 'card_holds'). Laid BY PROGRAM, IN A SANDBOX (cutbox-door.mjs). By AI agents, Wed Nov 11 2026. No macro, syntax, notation, axiom, sorry.
-/
import Derived.Test.YtfdgoenmdalphaaGreatDoorRows
import GoSem.ClaimSeven
namespace Go.Proofs.YtfdgoenmdalphaaGreatDoor
namespace Rows

/-- THE TIED CARD OF 'kindlinglaw11.AnfWorth'. -/
def anfWorthCard : Claim7 := { stood := { row := anfWorthRow, standIns := [], harness := (true, "d7c940b033591742e5d4e6ea8e934cf8327cc7bba74542e26e88a982c7c91ab3"), looks := false }, kinds := [], alts := [], laidByText := true, laidKinds := [.data], laidTests := true, laidLooks := .later }
def AnfWorthCardSaid : Prop := Claim7.holds Tryz.pinned (.plain (OpenSpec.ofChange anfWorthSpec)) anfWorthCard

/-- THE TIED CARD OF 'kindlinglaw11.AnfFlattens'. -/
def anfFlattensCard : Claim7 := { stood := { row := anfFlattensRow, standIns := [], harness := (true, "d7c940b033591742e5d4e6ea8e934cf8327cc7bba74542e26e88a982c7c91ab3"), looks := false }, kinds := [], alts := [], laidByText := true, laidKinds := [.data], laidTests := true, laidLooks := .later }
def AnfFlattensCardSaid : Prop := Claim7.holds Tryz.pinned (.plain (OpenSpec.ofChange anfFlattensSpec)) anfFlattensCard

/-- THE TIED CARD OF 'kindlinglaw11.AnfRights'. -/
def anfRightsCard : Claim7 := { stood := { row := anfRightsRow, standIns := [], harness := (true, "d7c940b033591742e5d4e6ea8e934cf8327cc7bba74542e26e88a982c7c91ab3"), looks := false }, kinds := [], alts := [], laidByText := true, laidKinds := [.data], laidTests := true, laidLooks := .later }
def AnfRightsCardSaid : Prop := Claim7.holds Tryz.pinned (.plain (OpenSpec.ofChange anfRightsSpec)) anfRightsCard

/-- THE TIED CARD OF 'kindlinglaw11.AnfTexts'. -/
def anfTextsCard : Claim7 := { stood := { row := anfTextsRow, standIns := [], harness := (true, "d7c940b033591742e5d4e6ea8e934cf8327cc7bba74542e26e88a982c7c91ab3"), looks := false }, kinds := [], alts := [], laidByText := true, laidKinds := [.data], laidTests := true, laidLooks := .later }
def AnfTextsCardSaid : Prop := Claim7.holds Tryz.pinned (.plain (OpenSpec.ofChange anfTextsSpec)) anfTextsCard

/-- THE TIED CARD OF 'kindlinglaw11.AnfTails'. -/
def anfTailsCard : Claim7 := { stood := { row := anfTailsRow, standIns := [], harness := (true, "d7c940b033591742e5d4e6ea8e934cf8327cc7bba74542e26e88a982c7c91ab3"), looks := false }, kinds := [], alts := [], laidByText := true, laidKinds := [.data], laidTests := true, laidLooks := .later }
def AnfTailsCardSaid : Prop := Claim7.holds Tryz.pinned (.plain (OpenSpec.ofChange anfTailsSpec)) anfTailsCard

/-- THE SECOND FORM's CARD OF 'kindlinglaw11.AnfWorth'. -/
def anfWorthUptoCard : Claim7 := { stood := { row := anfWorthUptoRow, standIns := [], harness := (true, "d7c940b033591742e5d4e6ea8e934cf8327cc7bba74542e26e88a982c7c91ab3"), looks := false }, kinds := [], alts := [], laidByText := true, laidKinds := [.data], laidTests := true, laidLooks := .later }
def AnfWorthUptoCardSaid : Prop := Claim7.holds Tryz.pinned (.plain (OpenSpec.upto anfWorthSpec)) anfWorthUptoCard

/-- THE SECOND FORM's CARD OF 'kindlinglaw11.AnfFlattens'. -/
def anfFlattensUptoCard : Claim7 := { stood := { row := anfFlattensUptoRow, standIns := [], harness := (true, "d7c940b033591742e5d4e6ea8e934cf8327cc7bba74542e26e88a982c7c91ab3"), looks := false }, kinds := [], alts := [], laidByText := true, laidKinds := [.data], laidTests := true, laidLooks := .later }
def AnfFlattensUptoCardSaid : Prop := Claim7.holds Tryz.pinned (.plain (OpenSpec.upto anfFlattensSpec)) anfFlattensUptoCard

/-- THE SECOND FORM's CARD OF 'kindlinglaw11.AnfRights'. -/
def anfRightsUptoCard : Claim7 := { stood := { row := anfRightsUptoRow, standIns := [], harness := (true, "d7c940b033591742e5d4e6ea8e934cf8327cc7bba74542e26e88a982c7c91ab3"), looks := false }, kinds := [], alts := [], laidByText := true, laidKinds := [.data], laidTests := true, laidLooks := .later }
def AnfRightsUptoCardSaid : Prop := Claim7.holds Tryz.pinned (.plain (OpenSpec.upto anfRightsSpec)) anfRightsUptoCard

/-- THE SECOND FORM's CARD OF 'kindlinglaw11.AnfTexts'. -/
def anfTextsUptoCard : Claim7 := { stood := { row := anfTextsUptoRow, standIns := [], harness := (true, "d7c940b033591742e5d4e6ea8e934cf8327cc7bba74542e26e88a982c7c91ab3"), looks := false }, kinds := [], alts := [], laidByText := true, laidKinds := [.data], laidTests := true, laidLooks := .later }
def AnfTextsUptoCardSaid : Prop := Claim7.holds Tryz.pinned (.plain (OpenSpec.upto anfTextsSpec)) anfTextsUptoCard

/-- THE SECOND FORM's CARD OF 'kindlinglaw11.AnfTails'. -/
def anfTailsUptoCard : Claim7 := { stood := { row := anfTailsUptoRow, standIns := [], harness := (true, "d7c940b033591742e5d4e6ea8e934cf8327cc7bba74542e26e88a982c7c91ab3"), looks := false }, kinds := [], alts := [], laidByText := true, laidKinds := [.data], laidTests := true, laidLooks := .later }
def AnfTailsUptoCardSaid : Prop := Claim7.holds Tryz.pinned (.plain (OpenSpec.upto anfTailsSpec)) anfTailsUptoCard
end Rows
end Go.Proofs.YtfdgoenmdalphaaGreatDoor
