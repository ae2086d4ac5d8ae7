/-
  The plain statement of the law FnExactAnswerText: over numbers and lists alone.
-/
import Derived.Test.YtncghlamcbhpmaaDoorPFnExactAnswerTextx3
namespace Go.Proofs.YtncghlamcbhpmaaDoor.PFnExactAnswerText
open Go.RowKit Go.Proofs.YtncghlamcbhpmaaDoorW.PrintWords Go.Proofs.YtncghlamcbhpmaaDoorW.PrintLast Go.Proofs.YtncghlamcbhpmaaDoorW.PrintMore

def laws_FnExactAnswerText.Pure : Prop := ∀ (a0 : Int) (a1 : Int) (a2 : ByteArray), (Lit.int .i64 a0).wf = true → (Lit.int .i64 a1).wf = true → a2.size ≤ maxLen → ∃ k, laws_FnExactAnswerText.f k a0 a1 a2 = some true
end Go.Proofs.YtncghlamcbhpmaaDoor.PFnExactAnswerText
