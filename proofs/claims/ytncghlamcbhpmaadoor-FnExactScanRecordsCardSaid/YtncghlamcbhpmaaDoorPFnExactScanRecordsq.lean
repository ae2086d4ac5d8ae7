/-
  The plain statement of the law FnExactScanRecords: over numbers and lists alone.
-/
import Derived.Test.YtncghlamcbhpmaaDoorPFnExactScanRecordsx8
namespace Go.Proofs.YtncghlamcbhpmaaDoor.PFnExactScanRecords
open Go.RowKit Go.Proofs.YtncghlamcbhpmaaDoorW.PrintWords Go.Proofs.YtncghlamcbhpmaaDoorW.PrintLast Go.Proofs.YtncghlamcbhpmaaDoorW.PrintMore

def laws_FnExactScanRecords.Pure : Prop := ∀ (a0 : ByteArray), a0.size ≤ maxLen → ∃ k, laws_FnExactScanRecords.f k a0 = some true
end Go.Proofs.YtncghlamcbhpmaaDoor.PFnExactScanRecords
