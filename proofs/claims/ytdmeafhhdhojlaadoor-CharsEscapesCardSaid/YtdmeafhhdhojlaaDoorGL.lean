/- From what a row lists to 'Glob'. -/
import Derived.Test.YtdmeafhhdhojlaaDoorG
import Derived.Test.YtdmeafhhdhojlaaDoorRows
import Derived.Test.YtdmeafhhdhojlaaDoorShelf
import Derived.Lib.LaidU8T
import Derived.PinnedBridge
namespace Go.Proofs.YtdmeafhhdhojlaaDoor
open Go.Shelf Go.Lib
theorem Glob.of_reads {w : World} (h3 : VarReads Tryd.prog w "unicode/utf8.first" Rows.laid_unicode_utf8_first) (h4 : VarReads Tryd.prog w "unicode/utf8.acceptRanges" Rows.laid_unicode_utf8_acceptRanges) : Glob w :=
  utf8Tabs_of_readsT (ρ := Tryd.lays197_ren) (U8Types.of260 { Tryd.lays197 with }) ⟨by kernel_rfl, by kernel_rfl, by kernel_rfl, by kernel_rfl, by kernel_rfl, by kernel_rfl, by kernel_rfl⟩
    (Pinned.utf8First_eq ▸ h3) ((show Rows.laid_unicode_utf8_acceptRanges = acceptData by kernel_rfl) ▸ h4)
end Go.Proofs.YtdmeafhhdhojlaaDoor
