import Derived.Test.YtffhbpepppodeaaPFnJoinedx7
namespace Go.Proofs.Ytffhbpepppodeaa.PFnJoined
open Go.RowKit Go.Proofs.YtffhbpepppodeaaW.PrintWords Go.Proofs.YtffhbpepppodeaaW.PrintLast Go.Proofs.YtffhbpepppodeaaW.PrintMore

def laws_FnJoined.Pure : Prop:=∀ (l0 : List Int) (l1 : List Int),(l0.length ≤ maxLen ∧ ∀ y ∈ l0,(Lit.int .u8 y).wf = true) → (l1.length ≤ maxLen ∧ ∀ y ∈ l1,(Lit.int .u8 y).wf = true) → ∃ k,laws_FnJoined.f k l0 l1 = some true
end Go.Proofs.Ytffhbpepppodeaa.PFnJoined
