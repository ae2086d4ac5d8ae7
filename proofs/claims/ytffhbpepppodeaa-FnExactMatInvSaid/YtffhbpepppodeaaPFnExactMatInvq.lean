/-
  The plain statement of the law FnExactMatInv: over numbers and lists alone.
-/
import Derived.Test.YtffhbpepppodeaaPFnExactMatInvx9
namespace Go.Proofs.Ytffhbpepppodeaa.PFnExactMatInv
open Go.RowKit Go.Proofs.YtffhbpepppodeaaW.PrintWords Go.Proofs.YtffhbpepppodeaaW.PrintLast Go.Proofs.YtffhbpepppodeaaW.PrintMore

def laws_FnExactMatInv.Pure : Prop := ∀ (a0_0 : Int) (a0_1 : Int) (l0_2 : List Int), (Lit.int .i64 a0_0).wf = true → (Lit.int .i64 a0_1).wf = true → (l0_2.length ≤ maxLen ∧ ∀ y ∈ l0_2, (Lit.int .i64 y).wf = true) → ∃ k, laws_FnExactMatInv.f k a0_0 a0_1 l0_2 = some true
end Go.Proofs.Ytffhbpepppodeaa.PFnExactMatInv
