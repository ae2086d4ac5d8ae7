/-
  The plain statement of the law FnExactGetRecord: over numbers and lists alone.
-/
import Derived.Test.YtncghlamcbhpmaaDoorPFnExactGetRecordx6
namespace Go.Proofs.YtncghlamcbhpmaaDoor.PFnExactGetRecord
open Go.RowKit Go.Proofs.YtncghlamcbhpmaaDoorW.PrintWords Go.Proofs.YtncghlamcbhpmaaDoorW.PrintLast Go.Proofs.YtncghlamcbhpmaaDoorW.PrintMore

def laws_FnExactGetRecord.Pure : Prop := ∀ (a0 : ByteArray) (a1 : Int), a0.size ≤ maxLen → (Lit.int .i64 a1).wf = true → ∃ k, laws_FnExactGetRecord.f k a0 a1 = some true
end Go.Proofs.YtncghlamcbhpmaaDoor.PFnExactGetRecord
