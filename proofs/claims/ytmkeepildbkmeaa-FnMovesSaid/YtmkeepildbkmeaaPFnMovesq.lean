/-
  The plain statement of the law FnMoves: over numbers and lists alone.
-/
import Derived.Test.YtmkeepildbkmeaaPFnMovesx12
namespace Go.Proofs.Ytmkeepildbkmeaa.PFnMoves
open Go.RowKit Go.Proofs.YtmkeepildbkmeaaW.PrintWords Go.Proofs.YtmkeepildbkmeaaW.PrintLast Go.Proofs.YtmkeepildbkmeaaW.PrintMore

def laws_FnMoves.Pure : Prop := ∀ (l0 : List Int) (l1 : List Int), (l0.length ≤ maxLen ∧ ∀ y ∈ l0, (Lit.int .u8 y).wf = true) → (l1.length ≤ maxLen ∧ ∀ y ∈ l1, (Lit.int .u8 y).wf = true) → ∃ k, laws_FnMoves.f k l0 l1 = some true
end Go.Proofs.Ytmkeepildbkmeaa.PFnMoves
