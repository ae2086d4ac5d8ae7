/-
  The plain statement of the law FnNumbers: over numbers and lists alone.
-/
import Derived.Test.YtncghlamcbhpmaaPFnNumbersx9
namespace Go.Proofs.Ytncghlamcbhpmaa.PFnNumbers
open Go.RowKit Go.Proofs.YtncghlamcbhpmaaW.PrintWords Go.Proofs.YtncghlamcbhpmaaW.PrintLast Go.Proofs.YtncghlamcbhpmaaW.PrintMore

def laws_FnNumbers.Pure : Prop := ∀ (l0 : List Int) (l1 : List Int), (l0.length ≤ maxLen ∧ ∀ y ∈ l0, (Lit.int .u8 y).wf = true) → (l1.length ≤ maxLen ∧ ∀ y ∈ l1, (Lit.int .u8 y).wf = true) → ∃ k, laws_FnNumbers.f k l0 l1 = some true
end Go.Proofs.Ytncghlamcbhpmaa.PFnNumbers
