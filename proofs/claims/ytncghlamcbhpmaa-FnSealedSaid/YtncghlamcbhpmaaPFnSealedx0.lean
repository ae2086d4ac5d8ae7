-- Printed by wip/print2.py (a program of this session, over the kit's printer) out of the translation.
import Derived.Test.YtncghlamcbhpmaaProg
import Derived.Below
import Derived.Deep.Draws
import Derived.Deep.AppendLies
import Derived.Maps.AppendAt
import Derived.OwnWalk
import Derived.Laws.BytesArg
import Derived.Laws.MakeOwn
import Derived.Laws.OwnMore
import Derived.Deep.OwnRows
import Derived.Tactics
import Derived.Lib.ConvBytes
import Derived.Laws.Slices
import Derived.WalkKit
import Derived.KernelRfl
import Derived.RowKit3
import Derived.Deep.LoopGhost
import Derived.Deep.QuietTactic
import Derived.BigQuiet
import Derived.WideLaws
import Derived.Deep.DeepCutAuto
import Derived.Deep.CutBlock
import Derived.Deep.RegionHeld3
import Derived.Laws.Rows
import Derived.Lib.AppendStr
import Derived.ArgAppend
import Derived.Laws.IdiomCopy
import Derived.OrdersHeld
import Derived.Laws.BitsLemmas
import Derived.RowKit
import Derived.Test.YtncghlamcbhpmaaWords2
import Derived.Test.YtncghlamcbhpmaaWWords
import Derived.Test.YtncghlamcbhpmaaWLast
import Derived.Test.YtncghlamcbhpmaaWTab
import Derived.Test.YtncghlamcbhpmaaWFour
import Derived.Test.YtncghlamcbhpmaaWQPut
import Derived.Test.YtncghlamcbhpmaaWApart
import Derived.Test.YtncghlamcbhpmaaWArr
import Derived.Test.YtncghlamcbhpmaaWZeros
import Derived.Test.YtncghlamcbhpmaaWFoot
import Derived.Test.YtncghlamcbhpmaaWKept
import Derived.Test.YtncghlamcbhpmaaWShare
import Derived.Test.YtncghlamcbhpmaaWN
import Derived.Test.YtncghlamcbhpmaaWFootNe
import Derived.Test.YtncghlamcbhpmaaWAt
import Derived.Test.YtncghlamcbhpmaaWEqStruct
import Derived.Test.YtncghlamcbhpmaaWRepsOne
import Derived.Test.YtncghlamcbhpmaaWInv
import Derived.Test.YtncghlamcbhpmaaWInvWords
import Derived.Test.YtncghlamcbhpmaaWGuard
import Derived.Test.YtncghlamcbhpmaaWNEv
import Derived.Test.YtncghlamcbhpmaaWMore
namespace Go.Proofs.Ytncghlamcbhpmaa.PFnSealed
open Go.RowKit Go.Proofs.YtncghlamcbhpmaaW.PrintWords Go.Proofs.YtncghlamcbhpmaaW.PrintLast Go.Proofs.YtncghlamcbhpmaaW.PrintMore
attribute [local go_sem] max2_int min2_int max_two min_two max_three min_three max_four min_four   -- for this text's walks alone
set_option linter.unusedVariables false
set_option linter.unusedSimpArgs false



def errW : Option Int → Value
  | none => .nilIface
  | some c => .iface 0 (.int .i64 c)
theorem errW_none : errW none = .nilIface := rfl
theorem errW_some (c : Int) : errW (some c) = .iface 0 (.int .i64 c) := rfl

theorem info5 : (Try.prog.info? 5).map (fun i => (i.zero, i.size, i.bytes)) = some (some (.int .u8 0), 1, 1) := by kernel_rfl
-- the values' own types

end Go.Proofs.Ytncghlamcbhpmaa.PFnSealed
