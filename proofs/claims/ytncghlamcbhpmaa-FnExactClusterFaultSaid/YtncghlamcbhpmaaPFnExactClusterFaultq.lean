/-
  The plain statement of the law FnExactClusterFault: over numbers and lists alone.
-/
import Derived.Test.YtncghlamcbhpmaaPFnExactClusterFaultx3
namespace Go.Proofs.Ytncghlamcbhpmaa.PFnExactClusterFault
open Go.RowKit Go.Proofs.YtncghlamcbhpmaaW.PrintWords Go.Proofs.YtncghlamcbhpmaaW.PrintLast Go.Proofs.YtncghlamcbhpmaaW.PrintMore
def Q127 (x : S127) : Prop := (Lit.int .i64 x.f0).wf = true ∧ (Lit.int .i64 x.f1).wf = true
def laws_FnExactClusterFault.Pure : Prop := ∀ (l0_0 : List (S127)) (a0_1 : Int) (a0_2 : Int) (a0_3 : Int) (a0_4 : Int), (l0_0.length ≤ maxLen ∧ ∀ y ∈ l0_0, Q127 y) → (Lit.int .i64 a0_1).wf = true → (Lit.int .i64 a0_2).wf = true → (Lit.int .i64 a0_3).wf = true → (Lit.int .i64 a0_4).wf = true → ∃ k, laws_FnExactClusterFault.f k l0_0 a0_1 a0_2 a0_3 a0_4 = some true
end Go.Proofs.Ytncghlamcbhpmaa.PFnExactClusterFault
