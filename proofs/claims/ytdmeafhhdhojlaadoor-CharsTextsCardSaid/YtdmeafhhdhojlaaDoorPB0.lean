-- Written by a program of this session (wip/tools/xprint.py: the kit's print, with given functions). Not trusted: Lean checks it.
import Derived.Test.YtdmeafhhdhojlaaDoorProg
import Derived.Below
import Derived.Deep.Draws
import Derived.Deep.AppendLies
import Derived.Maps.AppendAt
import Derived.OwnWalk
import Derived.Laws.BytesArg
import Derived.Laws.MakeOwn
import Derived.Laws.OwnMore
import Derived.Deep.OwnRows
import Derived.Tactics
import Derived.Lib.ConvBytes
import Derived.Laws.Slices
import Derived.WalkKit
import Derived.KernelRfl
import Derived.RowKit3
import Derived.Deep.LoopGhost
import Derived.Deep.QuietTactic
import Derived.BigQuiet
import Derived.WideLaws
import Derived.Deep.DeepCutAuto
import Derived.Deep.CutBlock
import Derived.Deep.RegionHeld3
import Derived.Laws.Rows
import Derived.Lib.AppendStr
import Derived.ArgAppend
import Derived.Laws.IdiomCopy
import Derived.OrdersHeld
import Derived.Laws.BitsLemmas
import Derived.RowKit
import Derived.Test.YtdmeafhhdhojlaaDoorG
import Derived.Test.YtdmeafhhdhojlaaDoorWWords
import Derived.Test.YtdmeafhhdhojlaaDoorWLast
import Derived.Test.YtdmeafhhdhojlaaDoorWTab
import Derived.Test.YtdmeafhhdhojlaaDoorWFour
import Derived.Test.YtdmeafhhdhojlaaDoorWQPut
import Derived.Test.YtdmeafhhdhojlaaDoorWApart
import Derived.Test.YtdmeafhhdhojlaaDoorWArr
import Derived.Test.YtdmeafhhdhojlaaDoorWZeros
import Derived.Test.YtdmeafhhdhojlaaDoorWFoot
import Derived.Test.YtdmeafhhdhojlaaDoorWKept
import Derived.Test.YtdmeafhhdhojlaaDoorWShare
import Derived.Test.YtdmeafhhdhojlaaDoorWN
import Derived.Test.YtdmeafhhdhojlaaDoorWFootNe
import Derived.Test.YtdmeafhhdhojlaaDoorWAt
import Derived.Test.YtdmeafhhdhojlaaDoorWEqStruct
import Derived.Test.YtdmeafhhdhojlaaDoorWRepsOne
import Derived.Test.YtdmeafhhdhojlaaDoorWInv
import Derived.Test.YtdmeafhhdhojlaaDoorWInvWords
import Derived.Test.YtdmeafhhdhojlaaDoorWGuard
import Derived.Test.YtdmeafhhdhojlaaDoorWNEv
import Derived.Test.YtdmeafhhdhojlaaDoorWMore
namespace Go.Proofs.YtdmeafhhdhojlaaDoor.PB
open Go.RowKit Go.Proofs.YtdmeafhhdhojlaaDoorW.PrintWords Go.Proofs.YtdmeafhhdhojlaaDoorW.PrintLast Go.Proofs.YtdmeafhhdhojlaaDoorW.PrintMore
attribute [local go_sem] max2_int min2_int max_two min_two max_three min_three max_four min_four   -- for this text's walks alone
set_option linter.unusedVariables false
set_option linter.unusedSimpArgs false



def errW : Option Int → Value
  | none => .nilIface
  | some c => .iface 0 (.int .i64 c)
theorem errW_none : errW none = .nilIface := rfl
theorem errW_some (c : Int) : errW (some c) = .iface 0 (.int .i64 c) := rfl

theorem info5 : (Tryd.prog.info? 5).map (fun i => (i.zero, i.size, i.bytes)) = some (some (.int .u8 0), 1, 1) := by kernel_rfl
theorem info9 : (Tryd.prog.info? 9).map (fun i => (i.zero, i.size, i.bytes)) = some (some (.string ⟨#[]⟩), 1, 16) := by kernel_rfl
-- the values' own types

end Go.Proofs.YtdmeafhhdhojlaaDoor.PB
