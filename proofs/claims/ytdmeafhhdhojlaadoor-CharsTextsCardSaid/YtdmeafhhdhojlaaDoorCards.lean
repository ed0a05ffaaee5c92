/-
  DERIVED. GIVEN WITH THE SEED: THE CARDS: each row of YtdmeafhhdhojlaaDoorRows.lean that lists a variable, with what it lists TIED to the program's text (the seventh form; the later family's looks); each row that meets fmt, with fmt's text TOLD by the authors' own Lean function (tested against real Go, not proved from fmt's source: count such statements apart). THE CARD IS WHAT COUNTS. Prove the row's statement (the work); the ties are given (YtdmeafhhdhojlaaDoorTie.lean); close each card by the builder's one call (the guide's Derived/Test/ToyasCard.lean, 'card_holds'). Laid BY PROGRAM, IN A SANDBOX (cutbox-door.mjs). By AI agents, Wed Nov 11 2026. No macro, syntax, notation, axiom, sorry.
-/
import Derived.Test.YtdmeafhhdhojlaaDoorRows
import GoSem.ClaimSeven
namespace Go.Proofs.YtdmeafhhdhojlaaDoor
namespace Rows

/-- THE TIED CARD OF 'espalierlaw02.CharsEscapes'. -/
def charsEscapesCard : Claim7 := { stood := { row := charsEscapesRow, standIns := [], harness := (true, "ce4aec2075aadc2c414133553f2027fcfc06f7d07346955fc6bbc91f6272a240"), looks := true }, kinds := [], alts := [], laidByText := true, laidKinds := [.data, .pinned], laidTests := true, laidLooks := .later }
def CharsEscapesCardSaid : Prop := Claim7.holds Tryd.pinned (.plain (OpenSpec.ofChange charsEscapesSpec)) charsEscapesCard

/-- THE TIED CARD OF 'espalierlaw02.CharsTexts'. -/
def charsTextsCard : Claim7 := { stood := { row := charsTextsRow, standIns := [], harness := (true, "ce4aec2075aadc2c414133553f2027fcfc06f7d07346955fc6bbc91f6272a240"), looks := true }, kinds := [], alts := [], laidByText := true, laidKinds := [.data, .pinned], laidTests := true, laidLooks := .later }
def CharsTextsCardSaid : Prop := Claim7.holds Tryd.pinned (.plain (OpenSpec.ofChange charsTextsSpec)) charsTextsCard

/-- THE TIED CARD OF 'espalierlaw02.CharsUnescapes'. -/
def charsUnescapesCard : Claim7 := { stood := { row := charsUnescapesRow, standIns := [], harness := (true, "ce4aec2075aadc2c414133553f2027fcfc06f7d07346955fc6bbc91f6272a240"), looks := true }, kinds := [], alts := [], laidByText := true, laidKinds := [.data, .data, .data, .data, .sentinel, .sentinel, .data, .pinned], laidTests := true, laidLooks := .later }
def CharsUnescapesCardSaid : Prop := Claim7.holds Tryd.pinned (.plain (OpenSpec.ofChange charsUnescapesSpec)) charsUnescapesCard

/-- THE TIED CARD OF 'espalierlaw02.CharsBack'. -/
def charsBackCard : Claim7 := { stood := { row := charsBackRow, standIns := [], harness := (true, "ce4aec2075aadc2c414133553f2027fcfc06f7d07346955fc6bbc91f6272a240"), looks := true }, kinds := [], alts := [], laidByText := true, laidKinds := [.data, .data, .data, .data, .sentinel, .sentinel, .data, .pinned], laidTests := true, laidLooks := .later }
def CharsBackCardSaid : Prop := Claim7.holds Tryd.pinned (.plain (OpenSpec.ofChange charsBackSpec)) charsBackCard

/-- THE TIED CARD OF 'espalierlaw02.CharsForm'. -/
def charsFormCard : Claim7 := { stood := { row := charsFormRow, standIns := [], harness := (true, "ce4aec2075aadc2c414133553f2027fcfc06f7d07346955fc6bbc91f6272a240"), looks := true }, kinds := [], alts := [], laidByText := true, laidKinds := [.data, .data, .data, .data, .sentinel, .sentinel, .data, .pinned], laidTests := true, laidLooks := .later }
def CharsFormCardSaid : Prop := Claim7.holds Tryd.pinned (.plain (OpenSpec.ofChange charsFormSpec)) charsFormCard

/-- THE TIED CARD OF 'espalierlaw02.CharsParts'. -/
def charsPartsCard : Claim7 := { stood := { row := charsPartsRow, standIns := [], harness := (true, "ce4aec2075aadc2c414133553f2027fcfc06f7d07346955fc6bbc91f6272a240"), looks := true }, kinds := [], alts := [], laidByText := true, laidKinds := [.data, .data, .data, .data, .sentinel, .sentinel, .data, .pinned], laidTests := true, laidLooks := .later }
def CharsPartsCardSaid : Prop := Claim7.holds Tryd.pinned (.plain (OpenSpec.ofChange charsPartsSpec)) charsPartsCard

/-- THE TIED CARD OF 'espalierlaw02.CharsSqueezed'. -/
def charsSqueezedCard : Claim7 := { stood := { row := charsSqueezedRow, standIns := [], harness := (true, "ce4aec2075aadc2c414133553f2027fcfc06f7d07346955fc6bbc91f6272a240"), looks := true }, kinds := [], alts := [], laidByText := true, laidKinds := [.data, .data, .data, .data, .sentinel, .sentinel, .data, .pinned], laidTests := true, laidLooks := .later }
def CharsSqueezedCardSaid : Prop := Claim7.holds Tryd.pinned (.plain (OpenSpec.ofChange charsSqueezedSpec)) charsSqueezedCard

/-- THE SECOND FORM's CARD OF 'espalierlaw02.CharsEscapes'. -/
def charsEscapesUptoCard : Claim7 := { stood := { row := charsEscapesUptoRow, standIns := [], harness := (true, "ce4aec2075aadc2c414133553f2027fcfc06f7d07346955fc6bbc91f6272a240"), looks := true }, kinds := [], alts := [], laidByText := true, laidKinds := [.data, .pinned], laidTests := true, laidLooks := .later }
def CharsEscapesUptoCardSaid : Prop := Claim7.holds Tryd.pinned (.plain (OpenSpec.upto charsEscapesSpec)) charsEscapesUptoCard

/-- THE SECOND FORM's CARD OF 'espalierlaw02.CharsTexts'. -/
def charsTextsUptoCard : Claim7 := { stood := { row := charsTextsUptoRow, standIns := [], harness := (true, "ce4aec2075aadc2c414133553f2027fcfc06f7d07346955fc6bbc91f6272a240"), looks := true }, kinds := [], alts := [], laidByText := true, laidKinds := [.data, .pinned], laidTests := true, laidLooks := .later }
def CharsTextsUptoCardSaid : Prop := Claim7.holds Tryd.pinned (.plain (OpenSpec.upto charsTextsSpec)) charsTextsUptoCard

/-- THE SECOND FORM's CARD OF 'espalierlaw02.CharsUnescapes'. -/
def charsUnescapesUptoCard : Claim7 := { stood := { row := charsUnescapesUptoRow, standIns := [], harness := (true, "ce4aec2075aadc2c414133553f2027fcfc06f7d07346955fc6bbc91f6272a240"), looks := true }, kinds := [], alts := [], laidByText := true, laidKinds := [.data, .data, .data, .data, .sentinel, .sentinel, .data, .pinned], laidTests := true, laidLooks := .later }
def CharsUnescapesUptoCardSaid : Prop := Claim7.holds Tryd.pinned (.plain (OpenSpec.upto charsUnescapesSpec)) charsUnescapesUptoCard

/-- THE SECOND FORM's CARD OF 'espalierlaw02.CharsBack'. -/
def charsBackUptoCard : Claim7 := { stood := { row := charsBackUptoRow, standIns := [], harness := (true, "ce4aec2075aadc2c414133553f2027fcfc06f7d07346955fc6bbc91f6272a240"), looks := true }, kinds := [], alts := [], laidByText := true, laidKinds := [.data, .data, .data, .data, .sentinel, .sentinel, .data, .pinned], laidTests := true, laidLooks := .later }
def CharsBackUptoCardSaid : Prop := Claim7.holds Tryd.pinned (.plain (OpenSpec.upto charsBackSpec)) charsBackUptoCard

/-- THE SECOND FORM's CARD OF 'espalierlaw02.CharsForm'. -/
def charsFormUptoCard : Claim7 := { stood := { row := charsFormUptoRow, standIns := [], harness := (true, "ce4aec2075aadc2c414133553f2027fcfc06f7d07346955fc6bbc91f6272a240"), looks := true }, kinds := [], alts := [], laidByText := true, laidKinds := [.data, .data, .data, .data, .sentinel, .sentinel, .data, .pinned], laidTests := true, laidLooks := .later }
def CharsFormUptoCardSaid : Prop := Claim7.holds Tryd.pinned (.plain (OpenSpec.upto charsFormSpec)) charsFormUptoCard

/-- THE SECOND FORM's CARD OF 'espalierlaw02.CharsParts'. -/
def charsPartsUptoCard : Claim7 := { stood := { row := charsPartsUptoRow, standIns := [], harness := (true, "ce4aec2075aadc2c414133553f2027fcfc06f7d07346955fc6bbc91f6272a240"), looks := true }, kinds := [], alts := [], laidByText := true, laidKinds := [.data, .data, .data, .data, .sentinel, .sentinel, .data, .pinned], laidTests := true, laidLooks := .later }
def CharsPartsUptoCardSaid : Prop := Claim7.holds Tryd.pinned (.plain (OpenSpec.upto charsPartsSpec)) charsPartsUptoCard

/-- THE SECOND FORM's CARD OF 'espalierlaw02.CharsSqueezed'. -/
def charsSqueezedUptoCard : Claim7 := { stood := { row := charsSqueezedUptoRow, standIns := [], harness := (true, "ce4aec2075aadc2c414133553f2027fcfc06f7d07346955fc6bbc91f6272a240"), looks := true }, kinds := [], alts := [], laidByText := true, laidKinds := [.data, .data, .data, .data, .sentinel, .sentinel, .data, .pinned], laidTests := true, laidLooks := .later }
def CharsSqueezedUptoCardSaid : Prop := Claim7.holds Tryd.pinned (.plain (OpenSpec.upto charsSqueezedSpec)) charsSqueezedUptoCard
end Rows
end Go.Proofs.YtdmeafhhdhojlaaDoor
