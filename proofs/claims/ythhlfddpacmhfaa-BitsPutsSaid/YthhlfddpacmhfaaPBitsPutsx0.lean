-- printed by wip/printx.py (this session's program, over the kit's print): Lean checks it
import Derived.Test.YthhlfddpacmhfaaProg
import Derived.Below
import Derived.Deep.Draws
import Derived.Deep.AppendLies
import Derived.Maps.AppendAt
import Derived.OwnWalk
import Derived.Laws.BytesArg
import Derived.Laws.MakeOwn
import Derived.Laws.OwnMore
import Derived.Deep.OwnRows
import Derived.Tactics
import Derived.Lib.ConvBytes
import Derived.Laws.Slices
import Derived.WalkKit
import Derived.KernelRfl
import Derived.RowKit3
import Derived.Deep.LoopGhost
import Derived.Deep.QuietTactic
import Derived.BigQuiet
import Derived.WideLaws
import Derived.Deep.DeepCutAuto
import Derived.Deep.CutBlock
import Derived.Deep.RegionHeld3
import Derived.Laws.Rows
import Derived.Lib.AppendStr
import Derived.ArgAppend
import Derived.Laws.IdiomCopy
import Derived.OrdersHeld
import Derived.Laws.BitsLemmas
import Derived.RowKit
import Derived.Test.YthhlfddpacmhfaaWWords
import Derived.Test.YthhlfddpacmhfaaWLast
import Derived.Test.YthhlfddpacmhfaaWTab
import Derived.Test.YthhlfddpacmhfaaWFour
import Derived.Test.YthhlfddpacmhfaaWQPut
import Derived.Test.YthhlfddpacmhfaaWApart
import Derived.Test.YthhlfddpacmhfaaWArr
import Derived.Test.YthhlfddpacmhfaaWZeros
import Derived.Test.YthhlfddpacmhfaaWFoot
import Derived.Test.YthhlfddpacmhfaaWKept
import Derived.Test.YthhlfddpacmhfaaWShare
import Derived.Test.YthhlfddpacmhfaaWN
import Derived.Test.YthhlfddpacmhfaaWFootNe
import Derived.Test.YthhlfddpacmhfaaWAt
import Derived.Test.YthhlfddpacmhfaaWEqStruct
import Derived.Test.YthhlfddpacmhfaaWRepsOne
import Derived.Test.YthhlfddpacmhfaaWInv
import Derived.Test.YthhlfddpacmhfaaWInvWords
import Derived.Test.YthhlfddpacmhfaaWGuard
import Derived.Test.YthhlfddpacmhfaaWNEv
import Derived.Test.YthhlfddpacmhfaaWMore
namespace Go.Proofs.Ythhlfddpacmhfaa.PBitsPuts
open Go.RowKit Go.Proofs.YthhlfddpacmhfaaW.PrintWords Go.Proofs.YthhlfddpacmhfaaW.PrintLast Go.Proofs.YthhlfddpacmhfaaW.PrintMore
attribute [local go_sem] max2_int min2_int max_two min_two max_three min_three max_four min_four   -- for this text's walks alone
set_option linter.unusedVariables false
set_option linter.unusedSimpArgs false



def errW : Option Int → Value
  | none => .nilIface
  | some c => .iface 0 (.int .i64 c)
theorem errW_none : errW none = .nilIface := rfl
theorem errW_some (c : Int) : errW (some c) = .iface 0 (.int .i64 c) := rfl

theorem info5 : (Try.prog.info? 5).map (fun i => (i.zero, i.size, i.bytes)) = some (some (.int .u8 0), 1, 1) := by kernel_rfl
-- the values' own types

end Go.Proofs.Ythhlfddpacmhfaa.PBitsPuts
