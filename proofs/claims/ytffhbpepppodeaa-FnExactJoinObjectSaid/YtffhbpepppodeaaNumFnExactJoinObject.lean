import Derived.Test.YtffhbpepppodeaaBytesFnExactJoinObject
namespace Go.Proofs.Ytffhbpepppodeaa.Base
open Go.RowKit Go.Proofs.YtffhbpepppodeaaW.PrintWords Go.Proofs.YtffhbpepppodeaaW.PrintMore

def least (t : List Int) : Prop:=t.length = 1 ∨ t.getLast? ≠ some 0
instance (t : List Int) : Decidable (least t):=by unfold least;infer_instance
def form : List Int → Prop
 | []=>False
 | [c]=>c < 128
 | c :: r=>128 ≤ c ∧ form r
end Go.Proofs.Ytffhbpepppodeaa.Base
