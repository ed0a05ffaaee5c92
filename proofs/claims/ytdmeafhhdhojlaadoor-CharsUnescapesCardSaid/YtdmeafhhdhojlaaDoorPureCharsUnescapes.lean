/- The pure statement of the law CharsUnescapes: chars.Unescape answers as the reference does, for every text. -/
import Derived.Test.YtdmeafhhdhojlaaDoorPUnescape
import Derived.Test.YtdmeafhhdhojlaaDoorPA8
namespace Go.Proofs.YtdmeafhhdhojlaaDoor.Pure
open Go.RowKit Go.Proofs.YtdmeafhhdhojlaaDoor.PA Go.Proofs.YtdmeafhhdhojlaaDoorW.PrintWords Go.Proofs.YtdmeafhhdhojlaaDoorW.PrintLast
theorem CharsUnescapes : espalierlaw02_CharsUnescapes.Pure := by
  intro s hn
  refine ⟨2 * s.size + 22, ?_⟩
  unfold espalierlaw02_CharsUnescapes.f
  rw [unescape_eq s (by omega) _ (by omega), Option.bind_some, runescape_eq s (by omega) _ (by omega), Option.bind_some, if_pos rfl, if_pos rfl]
  simp
end Go.Proofs.YtdmeafhhdhojlaaDoor.Pure
