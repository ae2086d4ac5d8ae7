import Derived.Test.YtffhbpepppodeaaPFnDecodedx19
namespace Go.Proofs.Ytffhbpepppodeaa.PFnDecoded
open Go.RowKit Go.Proofs.YtffhbpepppodeaaW.PrintWords Go.Proofs.YtffhbpepppodeaaW.PrintLast Go.Proofs.YtffhbpepppodeaaW.PrintMore

def aV.Pure : Prop:=∀ (l0 : List Int),(l0.length ≤ maxLen ∧ ∀ y ∈ l0,(Lit.int .u8 y).wf = true) → ∃ k,aV.f k l0 = some true
end Go.Proofs.Ytffhbpepppodeaa.PFnDecoded
