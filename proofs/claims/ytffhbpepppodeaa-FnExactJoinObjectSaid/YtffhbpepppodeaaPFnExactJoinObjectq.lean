import Derived.Test.YtffhbpepppodeaaPFnExactJoinObjectx19
namespace Go.Proofs.Ytffhbpepppodeaa.PFnExactJoinObject
open Go.RowKit Go.Proofs.YtffhbpepppodeaaW.PrintWords Go.Proofs.YtffhbpepppodeaaW.PrintLast Go.Proofs.YtffhbpepppodeaaW.PrintMore
def Q145 (x : S145) : Prop:=True ∧ x.f1.size ≤ maxLen
def Q156 (x : S156) : Prop:=(x.f0.length ≤ maxLen ∧ ∀ y ∈ x.f0,Q145 y)
def bJ.Pure : Prop:=∀ (a0_0 : Int) (a0_1 : Int) (a0_2 : Int) (a1 : Int) (a2 : Int) (l3 : List (S156)),(Lit.int .i64 a0_0).wf = true → (Lit.int .i64 a0_1).wf = true → (Lit.int .i64 a0_2).wf = true → (Lit.int .i64 a1).wf = true → (Lit.int .i64 a2).wf = true → (l3.length ≤ maxLen ∧ ∀ y ∈ l3,Q156 y) → ∃ k,bJ.f k a0_0 a0_1 a0_2 a1 a2 l3 = some true
end Go.Proofs.Ytffhbpepppodeaa.PFnExactJoinObject
