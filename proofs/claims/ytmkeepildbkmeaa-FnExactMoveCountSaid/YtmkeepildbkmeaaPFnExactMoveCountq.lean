/-
  The plain statement of the law FnExactMoveCount: over numbers and lists alone.
-/
import Derived.Test.YtmkeepildbkmeaaPFnExactMoveCountx10
namespace Go.Proofs.Ytmkeepildbkmeaa.PFnExactMoveCount
open Go.RowKit Go.Proofs.YtmkeepildbkmeaaW.PrintWords Go.Proofs.YtmkeepildbkmeaaW.PrintLast Go.Proofs.YtmkeepildbkmeaaW.PrintMore
def Q107 (x : S107) : Prop := (Lit.int .i64 x.f0).wf = true ∧ (Lit.int .i64 x.f1).wf = true
def laws_FnExactMoveCount.Pure : Prop := ∀ (l0 : List (S107)) (l1 : List (S107)) (l2 : List ByteArray) (a3 : Int), (l0.length ≤ maxLen ∧ ∀ y ∈ l0, Q107 y) → (l1.length ≤ maxLen ∧ ∀ y ∈ l1, Q107 y) → (l2.length ≤ maxLen ∧ ∀ y ∈ l2, y.size ≤ maxLen) → (Lit.int .i64 a3).wf = true → ∃ k, laws_FnExactMoveCount.f k l0 l1 l2 a3 = some true
end Go.Proofs.Ytmkeepildbkmeaa.PFnExactMoveCount
