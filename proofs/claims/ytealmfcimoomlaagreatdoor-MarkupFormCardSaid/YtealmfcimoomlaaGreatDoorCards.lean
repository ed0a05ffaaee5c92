/-
  DERIVED. GIVEN WITH THE SEED: THE CARDS: each row of YtealmfcimoomlaaGreatDoorRows.lean that lists a variable, with what it lists TIED to the program's text (the seventh form; the later family's looks); each row that meets fmt, with fmt's text TOLD by the authors' own Lean function (tested against real Go, not proved from fmt's source: count such statements apart). THE CARD IS WHAT COUNTS. Prove the row's statement (the work); the ties are given (YtealmfcimoomlaaGreatDoorTie.lean); close each card by the builder's one call (the guide's Derived/Test/ToyasCard.lean, 'card_holds'). Laid BY PROGRAM, IN A SANDBOX (cutbox-door.mjs). By AI agents, Wed Nov 11 2026. No macro, syntax, notation, axiom, sorry.
-/
import Derived.Test.YtealmfcimoomlaaGreatDoorRows
import GoSem.ClaimSeven
namespace Go.Proofs.YtealmfcimoomlaaGreatDoor
namespace Rows

/-- THE TIED CARD OF 'espalierlaw04.MarkupParses'. -/
def markupParsesCard : Claim7 := { stood := { row := markupParsesRow, standIns := [], harness := (true, "02a2635e60f408dd7a56d74648903fabc0ba71d3bb4c03470b79f6a334195a89"), looks := true }, kinds := [], alts := [], laidByText := true, laidKinds := [.data, .data, .data, .data, .sentinel, .sentinel, .data, .pinned], laidTests := true, laidLooks := .later }
def MarkupParsesCardSaid : Prop := Claim7.holds Tryz.pinned (.plain (OpenSpec.ofChange markupParsesSpec)) markupParsesCard

/-- THE TIED CARD OF 'espalierlaw04.MarkupForm'. -/
def markupFormCard : Claim7 := { stood := { row := markupFormRow, standIns := [], harness := (true, "02a2635e60f408dd7a56d74648903fabc0ba71d3bb4c03470b79f6a334195a89"), looks := true }, kinds := [], alts := [], laidByText := true, laidKinds := [.data, .data, .data, .data, .sentinel, .sentinel, .data, .pinned], laidTests := true, laidLooks := .later }
def MarkupFormCardSaid : Prop := Claim7.holds Tryz.pinned (.plain (OpenSpec.ofChange markupFormSpec)) markupFormCard

/-- THE TIED CARD OF 'espalierlaw04.MarkupOne'. -/
def markupOneCard : Claim7 := { stood := { row := markupOneRow, standIns := [], harness := (true, "02a2635e60f408dd7a56d74648903fabc0ba71d3bb4c03470b79f6a334195a89"), looks := true }, kinds := [], alts := [], laidByText := true, laidKinds := [.data, .data, .data, .data, .sentinel, .sentinel, .data, .pinned], laidTests := true, laidLooks := .later }
def MarkupOneCardSaid : Prop := Claim7.holds Tryz.pinned (.plain (OpenSpec.ofChange markupOneSpec)) markupOneCard

/-- THE TIED CARD OF 'espalierlaw04.MarkupWhere'. -/
def markupWhereCard : Claim7 := { stood := { row := markupWhereRow, standIns := [], harness := (true, "02a2635e60f408dd7a56d74648903fabc0ba71d3bb4c03470b79f6a334195a89"), looks := true }, kinds := [], alts := [], laidByText := true, laidKinds := [.data, .data, .data, .data, .sentinel, .sentinel, .data, .pinned], laidTests := true, laidLooks := .later }
def MarkupWhereCardSaid : Prop := Claim7.holds Tryz.pinned (.plain (OpenSpec.ofChange markupWhereSpec)) markupWhereCard

/-- THE TIED CARD OF 'espalierlaw04.MarkupBack'. -/
def markupBackCard : Claim7 := { stood := { row := markupBackRow, standIns := [], harness := (true, "02a2635e60f408dd7a56d74648903fabc0ba71d3bb4c03470b79f6a334195a89"), looks := true }, kinds := [], alts := [], laidByText := true, laidKinds := [.data, .data, .data, .data, .sentinel, .sentinel, .data, .pinned], laidTests := true, laidLooks := .later }
def MarkupBackCardSaid : Prop := Claim7.holds Tryz.pinned (.plain (OpenSpec.ofChange markupBackSpec)) markupBackCard

/-- THE TIED CARD OF 'espalierlaw04.MarkupLoose'. -/
def markupLooseCard : Claim7 := { stood := { row := markupLooseRow, standIns := [], harness := (true, "02a2635e60f408dd7a56d74648903fabc0ba71d3bb4c03470b79f6a334195a89"), looks := true }, kinds := [], alts := [], laidByText := true, laidKinds := [.data, .data, .data, .data, .sentinel, .sentinel, .data, .pinned], laidTests := true, laidLooks := .later }
def MarkupLooseCardSaid : Prop := Claim7.holds Tryz.pinned (.plain (OpenSpec.ofChange markupLooseSpec)) markupLooseCard

/-- THE SECOND FORM's CARD OF 'espalierlaw04.MarkupParses'. -/
def markupParsesUptoCard : Claim7 := { stood := { row := markupParsesUptoRow, standIns := [], harness := (true, "02a2635e60f408dd7a56d74648903fabc0ba71d3bb4c03470b79f6a334195a89"), looks := true }, kinds := [], alts := [], laidByText := true, laidKinds := [.data, .data, .data, .data, .sentinel, .sentinel, .data, .pinned], laidTests := true, laidLooks := .later }
def MarkupParsesUptoCardSaid : Prop := Claim7.holds Tryz.pinned (.plain (OpenSpec.upto markupParsesSpec)) markupParsesUptoCard

/-- THE SECOND FORM's CARD OF 'espalierlaw04.MarkupForm'. -/
def markupFormUptoCard : Claim7 := { stood := { row := markupFormUptoRow, standIns := [], harness := (true, "02a2635e60f408dd7a56d74648903fabc0ba71d3bb4c03470b79f6a334195a89"), looks := true }, kinds := [], alts := [], laidByText := true, laidKinds := [.data, .data, .data, .data, .sentinel, .sentinel, .data, .pinned], laidTests := true, laidLooks := .later }
def MarkupFormUptoCardSaid : Prop := Claim7.holds Tryz.pinned (.plain (OpenSpec.upto markupFormSpec)) markupFormUptoCard

/-- THE SECOND FORM's CARD OF 'espalierlaw04.MarkupOne'. -/
def markupOneUptoCard : Claim7 := { stood := { row := markupOneUptoRow, standIns := [], harness := (true, "02a2635e60f408dd7a56d74648903fabc0ba71d3bb4c03470b79f6a334195a89"), looks := true }, kinds := [], alts := [], laidByText := true, laidKinds := [.data, .data, .data, .data, .sentinel, .sentinel, .data, .pinned], laidTests := true, laidLooks := .later }
def MarkupOneUptoCardSaid : Prop := Claim7.holds Tryz.pinned (.plain (OpenSpec.upto markupOneSpec)) markupOneUptoCard

/-- THE SECOND FORM's CARD OF 'espalierlaw04.MarkupWhere'. -/
def markupWhereUptoCard : Claim7 := { stood := { row := markupWhereUptoRow, standIns := [], harness := (true, "02a2635e60f408dd7a56d74648903fabc0ba71d3bb4c03470b79f6a334195a89"), looks := true }, kinds := [], alts := [], laidByText := true, laidKinds := [.data, .data, .data, .data, .sentinel, .sentinel, .data, .pinned], laidTests := true, laidLooks := .later }
def MarkupWhereUptoCardSaid : Prop := Claim7.holds Tryz.pinned (.plain (OpenSpec.upto markupWhereSpec)) markupWhereUptoCard

/-- THE SECOND FORM's CARD OF 'espalierlaw04.MarkupBack'. -/
def markupBackUptoCard : Claim7 := { stood := { row := markupBackUptoRow, standIns := [], harness := (true, "02a2635e60f408dd7a56d74648903fabc0ba71d3bb4c03470b79f6a334195a89"), looks := true }, kinds := [], alts := [], laidByText := true, laidKinds := [.data, .data, .data, .data, .sentinel, .sentinel, .data, .pinned], laidTests := true, laidLooks := .later }
def MarkupBackUptoCardSaid : Prop := Claim7.holds Tryz.pinned (.plain (OpenSpec.upto markupBackSpec)) markupBackUptoCard

/-- THE SECOND FORM's CARD OF 'espalierlaw04.MarkupLoose'. -/
def markupLooseUptoCard : Claim7 := { stood := { row := markupLooseUptoRow, standIns := [], harness := (true, "02a2635e60f408dd7a56d74648903fabc0ba71d3bb4c03470b79f6a334195a89"), looks := true }, kinds := [], alts := [], laidByText := true, laidKinds := [.data, .data, .data, .data, .sentinel, .sentinel, .data, .pinned], laidTests := true, laidLooks := .later }
def MarkupLooseUptoCardSaid : Prop := Claim7.holds Tryz.pinned (.plain (OpenSpec.upto markupLooseSpec)) markupLooseUptoCard
end Rows
end Go.Proofs.YtealmfcimoomlaaGreatDoor
