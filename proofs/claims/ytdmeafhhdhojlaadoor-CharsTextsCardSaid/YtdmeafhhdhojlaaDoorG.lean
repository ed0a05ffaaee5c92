/- What the listed package-level variables hold while a law runs: 'Glob' (the two tables of unicode/utf8), and that it stays. -/
import Derived.Test.YtdmeafhhdhojlaaDoorProg
import Derived.Shelf.Unicode.DecodeSlow
import Derived.Below
namespace Go.Proofs.YtdmeafhhdhojlaaDoor
open Go.RowKit
def Glob (w : World) : Prop := Lib.Utf8Tabs 1 2 w
theorem Glob.step {w w' : World} (h : Glob w) (hb : Below w.heap.size w w') : Glob w' := Utf8Tabs_below h hb
/-- The five references by names, as chars.named holds them: cell by cell. -/
def namedCells : List Value := [.string ⟨#[38, 97, 109, 112, 59]⟩, .int .u8 38, .string ⟨#[38, 108, 116, 59]⟩, .int .u8 60, .string ⟨#[38, 103, 116, 59]⟩, .int .u8 62, .string ⟨#[38, 113, 117, 111, 116, 59]⟩, .int .u8 34, .string ⟨#[38, 97, 112, 111, 115, 59]⟩, .int .u8 39]
def Glob2 (w : World) : Prop := 0 < w.heap.size ∧ ∀ i, i < 10 → w.cell? ⟨0, i, none⟩ = some (namedCells.getD i .nilIface)
theorem Glob2.step {w w' : World} (h : Glob2 w) (hb : Below w.heap.size w w') : Glob2 w' :=
  ⟨Nat.lt_of_lt_of_le h.1 hb.size, fun i hi => by rw [hb.cell (p := ⟨0, i, none⟩) h.1]; exact h.2 i hi⟩
end Go.Proofs.YtdmeafhhdhojlaaDoor
