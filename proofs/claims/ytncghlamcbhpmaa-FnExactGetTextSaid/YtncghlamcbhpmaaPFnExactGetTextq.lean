/-
  The plain statement of the law FnExactGetText: over numbers and lists alone.
-/
import Derived.Test.YtncghlamcbhpmaaPFnExactGetTextx4
namespace Go.Proofs.Ytncghlamcbhpmaa.PFnExactGetText
open Go.RowKit Go.Proofs.YtncghlamcbhpmaaW.PrintWords Go.Proofs.YtncghlamcbhpmaaW.PrintLast Go.Proofs.YtncghlamcbhpmaaW.PrintMore

def laws_FnExactGetText.Pure : Prop := ∀ (a0 : ByteArray) (a1 : Int), a0.size ≤ maxLen → (Lit.int .i64 a1).wf = true → ∃ k, laws_FnExactGetText.f k a0 a1 = some true
end Go.Proofs.Ytncghlamcbhpmaa.PFnExactGetText
