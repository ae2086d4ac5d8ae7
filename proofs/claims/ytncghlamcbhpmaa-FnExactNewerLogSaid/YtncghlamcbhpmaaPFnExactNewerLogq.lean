/-
  The plain statement of the law FnExactNewerLog: over numbers and lists alone.
-/
import Derived.Test.YtncghlamcbhpmaaPFnExactNewerLogx2
namespace Go.Proofs.Ytncghlamcbhpmaa.PFnExactNewerLog
open Go.RowKit Go.Proofs.YtncghlamcbhpmaaW.PrintWords Go.Proofs.YtncghlamcbhpmaaW.PrintLast Go.Proofs.YtncghlamcbhpmaaW.PrintMore
def Q88 (x : S88) : Prop := (Lit.int .i64 x.f0).wf = true ∧ x.f1.size ≤ maxLen
def laws_FnExactNewerLog.Pure : Prop := ∀ (l0 : List (S88)) (l1 : List (S88)), (l0.length ≤ maxLen ∧ ∀ y ∈ l0, Q88 y) → (l1.length ≤ maxLen ∧ ∀ y ∈ l1, Q88 y) → ∃ k, laws_FnExactNewerLog.f k l0 l1 = some true
end Go.Proofs.Ytncghlamcbhpmaa.PFnExactNewerLog
