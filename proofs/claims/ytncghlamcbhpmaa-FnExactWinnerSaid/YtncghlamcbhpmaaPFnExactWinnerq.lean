/-
  The plain statement of the law FnExactWinner: over numbers and lists alone.
-/
import Derived.Test.YtncghlamcbhpmaaPFnExactWinnerx2
namespace Go.Proofs.Ytncghlamcbhpmaa.PFnExactWinner
open Go.RowKit Go.Proofs.YtncghlamcbhpmaaW.PrintWords Go.Proofs.YtncghlamcbhpmaaW.PrintLast Go.Proofs.YtncghlamcbhpmaaW.PrintMore

def laws_FnExactWinner.Pure : Prop := ∀ (a0_0 : ByteArray) (a0_1 : Int) (a0_2 : Int) (a0_3 : Bool) (a0_4 : ByteArray) (a1_0 : ByteArray) (a1_1 : Int) (a1_2 : Int) (a1_3 : Bool) (a1_4 : ByteArray), a0_0.size ≤ maxLen → (Lit.int .i64 a0_1).wf = true → (Lit.int .i64 a0_2).wf = true → a0_4.size ≤ maxLen → a1_0.size ≤ maxLen → (Lit.int .i64 a1_1).wf = true → (Lit.int .i64 a1_2).wf = true → a1_4.size ≤ maxLen → laws_FnExactWinner.f a0_0 a0_1 a0_2 a0_3 a0_4 a1_0 a1_1 a1_2 a1_3 a1_4 = some true
end Go.Proofs.Ytncghlamcbhpmaa.PFnExactWinner
