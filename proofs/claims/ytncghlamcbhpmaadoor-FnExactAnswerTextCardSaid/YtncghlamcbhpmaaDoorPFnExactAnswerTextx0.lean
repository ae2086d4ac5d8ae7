-- Printed by wip/print2.py (a program of this session, over the kit's printer) out of the translation.
import Derived.Test.YtncghlamcbhpmaaDoorProg
import Derived.Below
import Derived.Deep.Draws
import Derived.Deep.AppendLies
import Derived.Maps.AppendAt
import Derived.OwnWalk
import Derived.Laws.BytesArg
import Derived.Laws.MakeOwn
import Derived.Laws.OwnMore
import Derived.Deep.OwnRows
import Derived.Tactics
import Derived.Lib.ConvBytes
import Derived.Laws.Slices
import Derived.WalkKit
import Derived.KernelRfl
import Derived.RowKit3
import Derived.Deep.LoopGhost
import Derived.Deep.QuietTactic
import Derived.BigQuiet
import Derived.WideLaws
import Derived.Deep.DeepCutAuto
import Derived.Deep.CutBlock
import Derived.Deep.RegionHeld3
import Derived.Laws.Rows
import Derived.Lib.AppendStr
import Derived.ArgAppend
import Derived.Laws.IdiomCopy
import Derived.OrdersHeld
import Derived.Laws.BitsLemmas
import Derived.RowKit
import Derived.Test.YtncghlamcbhpmaaDoorWords2
import Derived.Test.YtncghlamcbhpmaaDoorWWords
import Derived.Test.YtncghlamcbhpmaaDoorWLast
import Derived.Test.YtncghlamcbhpmaaDoorWTab
import Derived.Test.YtncghlamcbhpmaaDoorWFour
import Derived.Test.YtncghlamcbhpmaaDoorWQPut
import Derived.Test.YtncghlamcbhpmaaDoorWApart
import Derived.Test.YtncghlamcbhpmaaDoorWArr
import Derived.Test.YtncghlamcbhpmaaDoorWZeros
import Derived.Test.YtncghlamcbhpmaaDoorWFoot
import Derived.Test.YtncghlamcbhpmaaDoorWKept
import Derived.Test.YtncghlamcbhpmaaDoorWShare
import Derived.Test.YtncghlamcbhpmaaDoorWN
import Derived.Test.YtncghlamcbhpmaaDoorWFootNe
import Derived.Test.YtncghlamcbhpmaaDoorWAt
import Derived.Test.YtncghlamcbhpmaaDoorWEqStruct
import Derived.Test.YtncghlamcbhpmaaDoorWRepsOne
import Derived.Test.YtncghlamcbhpmaaDoorWInv
import Derived.Test.YtncghlamcbhpmaaDoorWInvWords
import Derived.Test.YtncghlamcbhpmaaDoorWGuard
import Derived.Test.YtncghlamcbhpmaaDoorWNEv
import Derived.Test.YtncghlamcbhpmaaDoorWMore
namespace Go.Proofs.YtncghlamcbhpmaaDoor.PFnExactAnswerText
open Go.RowKit Go.Proofs.YtncghlamcbhpmaaDoorW.PrintWords Go.Proofs.YtncghlamcbhpmaaDoorW.PrintLast Go.Proofs.YtncghlamcbhpmaaDoorW.PrintMore
attribute [local go_sem] max2_int min2_int max_two min_two max_three min_three max_four min_four   -- for this text's walks alone
set_option linter.unusedVariables false
set_option linter.unusedSimpArgs false



def errW : Option Int → Value
  | none => .nilIface
  | some c => .iface 0 (.int .i64 c)
theorem errW_none : errW none = .nilIface := rfl
theorem errW_some (c : Int) : errW (some c) = .iface 0 (.int .i64 c) := rfl

theorem info5 : (Tryd.prog.info? 5).map (fun i => (i.zero, i.size, i.bytes)) = some (some (.int .u8 0), 1, 1) := by kernel_rfl
-- the values' own types

end Go.Proofs.YtncghlamcbhpmaaDoor.PFnExactAnswerText
