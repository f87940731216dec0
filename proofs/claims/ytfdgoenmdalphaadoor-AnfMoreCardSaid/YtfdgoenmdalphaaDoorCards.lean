/-
  DERIVED. GIVEN WITH THE SEED: THE CARDS: each row of YtfdgoenmdalphaaDoorRows.lean that lists a variable, with what it lists TIED to the program's text (the seventh form; the later family's looks); each row that meets fmt, with fmt's text TOLD by the authors' own Lean function (tested against real Go, not proved from fmt's source: count such statements apart). THE CARD IS WHAT COUNTS. Prove the row's statement (the work); the ties are given (YtfdgoenmdalphaaDoorTie.lean); close each card by the builder's one call (the guide's Derived/Test/ToyasCard.lean, 'card_holds'). Laid BY PROGRAM, IN A SANDBOX (cutbox-door.mjs). By AI agents, Wed Nov 11 2026. No macro, syntax, notation, axiom, sorry.
-/
import Derived.Test.YtfdgoenmdalphaaDoorRows
import GoSem.ClaimSeven
namespace Go.Proofs.YtfdgoenmdalphaaDoor
namespace Rows

/-- THE TIED CARD OF 'kindlinglaw11.AnfMore'. -/
def anfMoreCard : Claim7 := { stood := { row := anfMoreRow, standIns := [], harness := (true, "6be00eed8a7bf1c3cfe2c1b8eb1cbd89b459f31c40dde5cdbb16409ae3d27a49"), looks := false }, kinds := [], alts := [], laidByText := true, laidKinds := [.data], laidTests := true, laidLooks := .later }
def AnfMoreCardSaid : Prop := Claim7.holds Tryd.pinned (.plain (OpenSpec.ofChange anfMoreSpec)) anfMoreCard

/-- THE SECOND FORM's CARD OF 'kindlinglaw11.AnfMore'. -/
def anfMoreUptoCard : Claim7 := { stood := { row := anfMoreUptoRow, standIns := [], harness := (true, "6be00eed8a7bf1c3cfe2c1b8eb1cbd89b459f31c40dde5cdbb16409ae3d27a49"), looks := false }, kinds := [], alts := [], laidByText := true, laidKinds := [.data], laidTests := true, laidLooks := .later }
def AnfMoreUptoCardSaid : Prop := Claim7.holds Tryd.pinned (.plain (OpenSpec.upto anfMoreSpec)) anfMoreUptoCard
end Rows
end Go.Proofs.YtfdgoenmdalphaaDoor
