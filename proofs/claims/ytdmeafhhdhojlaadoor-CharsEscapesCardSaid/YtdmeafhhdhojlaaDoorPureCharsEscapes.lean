/- The pure statement of the law CharsEscapes: chars.Escape answers as the reference does, for every text and either kind of escaping. -/
import Derived.Test.YtdmeafhhdhojlaaDoorPEscape
import Derived.Test.YtdmeafhhdhojlaaDoorPA2
namespace Go.Proofs.YtdmeafhhdhojlaaDoor.Pure
open Go.RowKit Go.Proofs.YtdmeafhhdhojlaaDoor.PA Go.Proofs.YtdmeafhhdhojlaaDoorW.PrintWords Go.Proofs.YtdmeafhhdhojlaaDoorW.PrintLast
theorem CharsEscapes : espalierlaw02_CharsEscapes.Pure := by
  intro s q hn
  refine ⟨s.size + 8, ?_⟩
  unfold espalierlaw02_CharsEscapes.f
  rw [escape_eq s q (by omega) _ (by omega), Option.bind_some, rescape_eq s q (by omega) _ (by omega), Option.bind_some, if_pos rfl, if_pos rfl]
  simp
end Go.Proofs.YtdmeafhhdhojlaaDoor.Pure
