/-
  The plain statement of the law FnSealed: over numbers and lists alone.
-/
import Derived.Test.YtncghlamcbhpmaaPFnSealedx12
namespace Go.Proofs.Ytncghlamcbhpmaa.PFnSealed
open Go.RowKit Go.Proofs.YtncghlamcbhpmaaW.PrintWords Go.Proofs.YtncghlamcbhpmaaW.PrintLast Go.Proofs.YtncghlamcbhpmaaW.PrintMore

def laws_FnSealed.Pure : Prop := ∀ (l0 : List Int) (l1 : List Int), (l0.length ≤ maxLen ∧ ∀ y ∈ l0, (Lit.int .u8 y).wf = true) → (l1.length ≤ maxLen ∧ ∀ y ∈ l1, (Lit.int .u8 y).wf = true) → ∃ k, laws_FnSealed.f k l0 l1 = some true
end Go.Proofs.Ytncghlamcbhpmaa.PFnSealed
