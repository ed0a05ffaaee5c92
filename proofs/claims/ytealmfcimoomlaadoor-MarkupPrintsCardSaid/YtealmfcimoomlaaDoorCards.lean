/-
  DERIVED. GIVEN WITH THE SEED: THE CARDS: each row of YtealmfcimoomlaaDoorRows.lean that lists a variable, with what it lists TIED to the program's text (the seventh form; the later family's looks); each row that meets fmt, with fmt's text TOLD by the authors' own Lean function (tested against real Go, not proved from fmt's source: count such statements apart). THE CARD IS WHAT COUNTS. Prove the row's statement (the work); the ties are given (YtealmfcimoomlaaDoorTie.lean); close each card by the builder's one call (the guide's Derived/Test/ToyasCard.lean, 'card_holds'). Laid BY PROGRAM, IN A SANDBOX (cutbox-door.mjs). By AI agents, Wed Nov 11 2026. No macro, syntax, notation, axiom, sorry.
-/
import Derived.Test.YtealmfcimoomlaaDoorRows
import GoSem.ClaimSeven
namespace Go.Proofs.YtealmfcimoomlaaDoor
namespace Rows

/-- THE TIED CARD OF 'espalierlaw04.MarkupPrints'. -/
def markupPrintsCard : Claim7 := { stood := { row := markupPrintsRow, standIns := [], harness := (true, "9082f6a79a0501fcb68b823b40529e25b0fa3bd289e63e030f849836bab6ee19"), looks := false }, kinds := [], alts := [], laidByText := true, laidKinds := [.data, .pinned], laidTests := true, laidLooks := .later }
def MarkupPrintsCardSaid : Prop := Claim7.holds Tryd.pinned (.plain (OpenSpec.ofChange markupPrintsSpec)) markupPrintsCard

/-- THE SECOND FORM's CARD OF 'espalierlaw04.MarkupPrints'. -/
def markupPrintsUptoCard : Claim7 := { stood := { row := markupPrintsUptoRow, standIns := [], harness := (true, "9082f6a79a0501fcb68b823b40529e25b0fa3bd289e63e030f849836bab6ee19"), looks := false }, kinds := [], alts := [], laidByText := true, laidKinds := [.data, .pinned], laidTests := true, laidLooks := .later }
def MarkupPrintsUptoCardSaid : Prop := Claim7.holds Tryd.pinned (.plain (OpenSpec.upto markupPrintsSpec)) markupPrintsUptoCard
end Rows
end Go.Proofs.YtealmfcimoomlaaDoor
