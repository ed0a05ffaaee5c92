/- The examples of layer 2 that every law asks first come out as the document says. -/
import Derived.Test.YtdmeafhhdhojlaaDoorPA9
namespace Go.Proofs.YtdmeafhhdhojlaaDoor.PA
open Go.RowKit Go.Proofs.YtdmeafhhdhojlaaDoorW.PrintWords Go.Proofs.YtdmeafhhdhojlaaDoorW.PrintLast Go.Proofs.YtdmeafhhdhojlaaDoorW.PrintMore
theorem lives_at : espalierlaw02_lives.f 64 = some true := by decide +kernel
theorem lives_ok (k : Nat) (hk : 64 ≤ k) : espalierlaw02_lives.f k = some true := at_rounds (g := fun k => espalierlaw02_lives.f k) (fun k => espalierlaw02_lives.mono k) hk lives_at
end Go.Proofs.YtdmeafhhdhojlaaDoor.PA
