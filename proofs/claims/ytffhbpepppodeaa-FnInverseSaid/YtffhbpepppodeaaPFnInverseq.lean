import Derived.Test.YtffhbpepppodeaaPFnInversex14
namespace Go.Proofs.Ytffhbpepppodeaa.PFnInverse
open Go.RowKit Go.Proofs.YtffhbpepppodeaaW.PrintWords Go.Proofs.YtffhbpepppodeaaW.PrintLast Go.Proofs.YtffhbpepppodeaaW.PrintMore

def laws_FnInverse.Pure : Prop:=∀ (l0 : List Int),(l0.length ≤ maxLen ∧ ∀ y ∈ l0,(Lit.int .u8 y).wf = true) → ∃ k,laws_FnInverse.f k l0 = some true
end Go.Proofs.Ytffhbpepppodeaa.PFnInverse
