import Derived.Test.YtffhbpepppodeaaPFnRepairedx15
namespace Go.Proofs.Ytffhbpepppodeaa.PFnRepaired
open Go.RowKit Go.Proofs.YtffhbpepppodeaaW.PrintWords Go.Proofs.YtffhbpepppodeaaW.PrintLast Go.Proofs.YtffhbpepppodeaaW.PrintMore

def laws_FnRepaired.Pure : Prop:=∀ (l0 : List Int) (l1 : List Int),(l0.length ≤ maxLen ∧ ∀ y ∈ l0,(Lit.int .u8 y).wf = true) → (l1.length ≤ maxLen ∧ ∀ y ∈ l1,(Lit.int .u8 y).wf = true) → ∃ k,laws_FnRepaired.f k l0 l1 = some true
end Go.Proofs.Ytffhbpepppodeaa.PFnRepaired
