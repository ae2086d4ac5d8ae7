/-
  The plain statement of the law FnExactOpenSealed: over numbers and lists alone.
-/
import Derived.Test.YtncghlamcbhpmaaPFnExactOpenSealedx9
namespace Go.Proofs.Ytncghlamcbhpmaa.PFnExactOpenSealed
open Go.RowKit Go.Proofs.YtncghlamcbhpmaaW.PrintWords Go.Proofs.YtncghlamcbhpmaaW.PrintLast Go.Proofs.YtncghlamcbhpmaaW.PrintMore

def laws_FnExactOpenSealed.Pure : Prop := ∀ (a0 : ByteArray) (a1_0 : Int) (a1_1 : ByteArray) (a1_2 : ByteArray) (a2 : Int), a0.size ≤ maxLen → (Lit.int .i64 a1_0).wf = true → a1_1.size ≤ maxLen → a1_2.size ≤ maxLen → (Lit.int .i64 a2).wf = true → ∃ k, laws_FnExactOpenSealed.f k a0 a1_0 a1_1 a1_2 a2 = some true
end Go.Proofs.Ytncghlamcbhpmaa.PFnExactOpenSealed
