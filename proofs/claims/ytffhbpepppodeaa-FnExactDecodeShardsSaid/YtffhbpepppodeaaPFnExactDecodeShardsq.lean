import Derived.Test.YtffhbpepppodeaaPFnExactDecodeShardsx15
namespace Go.Proofs.Ytffhbpepppodeaa.PFnExactDecodeShards
open Go.RowKit Go.Proofs.YtffhbpepppodeaaW.PrintWords Go.Proofs.YtffhbpepppodeaaW.PrintLast Go.Proofs.YtffhbpepppodeaaW.PrintMore
def Q145 (x : S145) : Prop:=True ∧ x.f1.size ≤ maxLen
def laws_FnExactDecodeShards.Pure : Prop:=∀ (a0_0 : Int) (a0_1 : Int) (a0_2 : Int) (l1 : List (S145)),(Lit.int .i64 a0_0).wf = true → (Lit.int .i64 a0_1).wf = true → (Lit.int .i64 a0_2).wf = true → (l1.length ≤ maxLen ∧ ∀ y ∈ l1,Q145 y) → ∃ k,laws_FnExactDecodeShards.f k a0_0 a0_1 a0_2 l1 = some true
end Go.Proofs.Ytffhbpepppodeaa.PFnExactDecodeShards
