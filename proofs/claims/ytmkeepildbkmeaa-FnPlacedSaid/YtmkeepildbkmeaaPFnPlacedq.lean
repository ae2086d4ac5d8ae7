/-
  The plain statement of the law FnPlaced: over numbers and lists alone.
-/
import Derived.Test.YtmkeepildbkmeaaPFnPlacedx12
namespace Go.Proofs.Ytmkeepildbkmeaa.PFnPlaced
open Go.RowKit Go.Proofs.YtmkeepildbkmeaaW.PrintWords Go.Proofs.YtmkeepildbkmeaaW.PrintLast Go.Proofs.YtmkeepildbkmeaaW.PrintMore

def laws_FnPlaced.Pure : Prop := ∀ (l0 : List Int), (l0.length ≤ maxLen ∧ ∀ y ∈ l0, (Lit.int .u8 y).wf = true) → ∃ k, laws_FnPlaced.f k l0 = some true
end Go.Proofs.Ytmkeepildbkmeaa.PFnPlaced
