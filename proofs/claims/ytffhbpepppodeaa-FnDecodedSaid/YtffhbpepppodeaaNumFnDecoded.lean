import Derived.Test.YtffhbpepppodeaaBytesFnDecoded
namespace Go.Proofs.Ytffhbpepppodeaa.Base
open Go.RowKit Go.Proofs.YtffhbpepppodeaaW.PrintWords Go.Proofs.YtffhbpepppodeaaW.PrintMore

def least (t : List Int) : Prop:=t.length = 1 ∨ t.getLast? ≠ some 0
instance (t : List Int) : Decidable (least t):=by unfold least;infer_instance
end Go.Proofs.Ytffhbpepppodeaa.Base
