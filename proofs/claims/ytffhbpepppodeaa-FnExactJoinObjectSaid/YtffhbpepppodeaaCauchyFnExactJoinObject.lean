import Derived.Test.YtffhbpepppodeaaInvFnExactJoinObject
namespace Go.Proofs.Ytffhbpepppodeaa.Cauchy
open Go.Proofs.Ytffhbpepppodeaa.Gf Go.Proofs.Ytffhbpepppodeaa.Reduce Go.Proofs.Ytffhbpepppodeaa.Grid Go.Proofs.Ytffhbpepppodeaa.Field Go.Proofs.Ytffhbpepppodeaa.Elim

def v (x y : Nat) : Nat:=invN (x ^^^ y)
theorem xne {x y : Nat} (h : x ≠ y) : x ^^^ y ≠ 0:=fun e=>h (xor_eq e)
end Go.Proofs.Ytffhbpepppodeaa.Cauchy
