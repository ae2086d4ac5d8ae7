import Derived.Test.YtffhbpepppodeaaZFnExactJoinObject0
namespace Go.Proofs.YtffhbpepppodeaaW.PrintWords
open Go.RowKit
namespace Kd
section
variable {P : Program} {ops : Array Oper} {rest : List Oper} {o : Oper} {a : Act} {Q : Exit → Act → World → Prop} {α : Type}
end
end Kd
end Go.Proofs.YtffhbpepppodeaaW.PrintWords
