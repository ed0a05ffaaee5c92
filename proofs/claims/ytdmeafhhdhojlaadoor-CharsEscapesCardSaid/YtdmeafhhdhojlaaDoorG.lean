/- What the listed package-level variables hold while a law runs: 'Glob' (the two tables of unicode/utf8), and that it stays. -/
import Derived.Test.YtdmeafhhdhojlaaDoorProg
import Derived.Shelf.Unicode.DecodeSlow
import Derived.Below
namespace Go.Proofs.YtdmeafhhdhojlaaDoor
open Go.RowKit
def Glob (w : World) : Prop := Lib.Utf8Tabs 1 2 w
theorem Glob.step {w w' : World} (h : Glob w) (hb : Below w.heap.size w w') : Glob w' := Utf8Tabs_below h hb
end Go.Proofs.YtdmeafhhdhojlaaDoor
