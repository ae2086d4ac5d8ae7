/-
  The plain statement of the law FnExactPlaceKey: over numbers and lists alone.
-/
import Derived.Test.YtmkeepildbkmeaaPFnExactPlaceKeyx8
namespace Go.Proofs.Ytmkeepildbkmeaa.PFnExactPlaceKey
open Go.RowKit Go.Proofs.YtmkeepildbkmeaaW.PrintWords Go.Proofs.YtmkeepildbkmeaaW.PrintLast Go.Proofs.YtmkeepildbkmeaaW.PrintMore
def Q107 (x : S107) : Prop := (Lit.int .i64 x.f0).wf = true ∧ (Lit.int .i64 x.f1).wf = true
def laws_FnExactPlaceKey.Pure : Prop := ∀ (l0 : List (S107)) (a1 : ByteArray) (a2 : Int), (l0.length ≤ maxLen ∧ ∀ y ∈ l0, Q107 y) → a1.size ≤ maxLen → (Lit.int .i64 a2).wf = true → ∃ k, laws_FnExactPlaceKey.f k l0 a1 a2 = some true
end Go.Proofs.Ytmkeepildbkmeaa.PFnExactPlaceKey
