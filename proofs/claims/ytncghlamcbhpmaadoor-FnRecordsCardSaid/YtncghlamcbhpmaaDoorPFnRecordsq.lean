/-
  The plain statement of the law FnRecords: over numbers and lists alone.
-/
import Derived.Test.YtncghlamcbhpmaaDoorPFnRecordsx10
namespace Go.Proofs.YtncghlamcbhpmaaDoor.PFnRecords
open Go.RowKit Go.Proofs.YtncghlamcbhpmaaDoorW.PrintWords Go.Proofs.YtncghlamcbhpmaaDoorW.PrintLast Go.Proofs.YtncghlamcbhpmaaDoorW.PrintMore

def laws_FnRecords.Pure : Prop := ∀ (l0 : List Int) (l1 : List Int), (l0.length ≤ maxLen ∧ ∀ y ∈ l0, (Lit.int .u8 y).wf = true) → (l1.length ≤ maxLen ∧ ∀ y ∈ l1, (Lit.int .u8 y).wf = true) → ∃ k, laws_FnRecords.f k l0 l1 = some true
end Go.Proofs.YtncghlamcbhpmaaDoor.PFnRecords
