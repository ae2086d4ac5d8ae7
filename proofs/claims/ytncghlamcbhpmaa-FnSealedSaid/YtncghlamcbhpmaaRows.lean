/-
  No cell of these rows narrows 'for every input' (looked for: loops, veiled, ifaces, maps, wideKeys, modest, calm, conditions, laid).
  DERIVED. THE GIVEN ROWS OF THIS SEAT. 8 by the template 'for every input the law returns true; each argument reads behind the call as it read before'; 0 by the template 'total and deterministic' (their statements: YtncghlamcbhpmaaTotals.lean).
  GIVEN WITH THE SEED: the statements are not yours to turn. If you find one false, say at which input.
  Laid BY PROGRAM, IN A SANDBOX (cutbox-rows.mjs): the forced cells as the released guide's own fill.sh prints them over the translation 79c4694dcf11ba67… (all of the seat's roots in one cut). By AI agents, Wed Nov 11 2026. No macro, syntax, notation, axiom, sorry.
-/
import Derived.Test.YtncghlamcbhpmaaChecked
import GoSem.Claim
import GoSem.ClaimJoined
import GoSem.ClaimMapViews
import Derived.JoinedTies
import Derived.KernelRfl
namespace Go.Proofs.Ytncghlamcbhpmaa
/- THE CELL 'sum', in the pinned program and in every row, IS THE sha256 OF THE DUMP (.gsa) THAT YtncghlamcbhpmaaProg.lean LOADS. Nothing in Lean hashes anything: it is a label: what it is worth is what the hold of that sum in a sandbox is worth. -/
noncomputable def Try.pinned : Pinned := { name := "ytncghlamcbhpmaa", sum := "79c4694dcf11ba67355261ae875f6f5e25ef283d41e56837e069f953705967a7", checked := Try.checked }
namespace Rows
def none {H : Type} : Left H := { results := [], args := [] }

/-- 'laws.FnExactWinner': WHATEVER THE INPUT: true; the input reads as it did. -/
def fnExactWinnerSpec : ChangeSpec := { name := "fnExactWinner", fn := fun _ => fun
  | [d1, d2] => { results := [.lit (.bool true)], args := [d1, d2] }
  | _ => none }
def fnExactWinnerRow : OpenClaim := { program := "ytncghlamcbhpmaa", sum := "79c4694dcf11ba67355261ae875f6f5e25ef283d41e56837e069f953705967a7", func := "loop.example/g00020/laws.FnExactWinner", spec := "fnExactWinner", apart := false }
def FnExactWinnerSaid : Prop := fnExactWinnerRow.holds Try.pinned (OpenSpec.ofChange fnExactWinnerSpec)

/-- ITS FALSE NEIGHBOUR: 'it returns false'. Refute it at one input. -/
def fnExactWinnerWrong : ChangeSpec := { name := "fnExactWinner", fn := fun _ => fun
  | [d1, d2] => { results := [.lit (.bool false)], args := [d1, d2] }
  | _ => none }
def FnExactWinnerWrongFalsely : Prop := fnExactWinnerRow.holds Try.pinned (OpenSpec.ofChange fnExactWinnerWrong)

/-- 'laws.FnWinner': WHATEVER THE INPUT: true; the input reads as it did. -/
def fnWinnerSpec : ChangeSpec := { name := "fnWinner", fn := fun _ => fun
  | [d1, d2] => { results := [.lit (.bool true)], args := [d1, d2] }
  | _ => none }
def fnWinnerRow : OpenClaim := { program := "ytncghlamcbhpmaa", sum := "79c4694dcf11ba67355261ae875f6f5e25ef283d41e56837e069f953705967a7", func := "loop.example/g00020/laws.FnWinner", spec := "fnWinner", apart := false }
def FnWinnerSaid : Prop := fnWinnerRow.holds Try.pinned (OpenSpec.ofChange fnWinnerSpec)

/-- ITS FALSE NEIGHBOUR: 'it returns false'. Refute it at one input. -/
def fnWinnerWrong : ChangeSpec := { name := "fnWinner", fn := fun _ => fun
  | [d1, d2] => { results := [.lit (.bool false)], args := [d1, d2] }
  | _ => none }
def FnWinnerWrongFalsely : Prop := fnWinnerRow.holds Try.pinned (OpenSpec.ofChange fnWinnerWrong)

/-- 'laws.FnExactNewerLog': WHATEVER THE INPUT: true; the input reads as it did. -/
def fnExactNewerLogSpec : ChangeSpec := { name := "fnExactNewerLog", fn := fun _ => fun
  | [d1, d2] => { results := [.lit (.bool true)], args := [d1, d2] }
  | _ => none }
def fnExactNewerLogRow : OpenClaim := { program := "ytncghlamcbhpmaa", sum := "79c4694dcf11ba67355261ae875f6f5e25ef283d41e56837e069f953705967a7", func := "loop.example/g00020/laws.FnExactNewerLog", spec := "fnExactNewerLog", apart := false }
def FnExactNewerLogSaid : Prop := fnExactNewerLogRow.holds Try.pinned (OpenSpec.ofChange fnExactNewerLogSpec)

/-- ITS FALSE NEIGHBOUR: 'it returns false'. Refute it at one input. -/
def fnExactNewerLogWrong : ChangeSpec := { name := "fnExactNewerLog", fn := fun _ => fun
  | [d1, d2] => { results := [.lit (.bool false)], args := [d1, d2] }
  | _ => none }
def FnExactNewerLogWrongFalsely : Prop := fnExactNewerLogRow.holds Try.pinned (OpenSpec.ofChange fnExactNewerLogWrong)

/-- 'laws.FnExactGetText': WHATEVER THE INPUT: true; the input reads as it did. -/
def fnExactGetTextSpec : ChangeSpec := { name := "fnExactGetText", fn := fun _ => fun
  | [d1, d2] => { results := [.lit (.bool true)], args := [d1, d2] }
  | _ => none }
def fnExactGetTextRow : OpenClaim := { program := "ytncghlamcbhpmaa", sum := "79c4694dcf11ba67355261ae875f6f5e25ef283d41e56837e069f953705967a7", func := "loop.example/g00020/laws.FnExactGetText", spec := "fnExactGetText", apart := false }
def FnExactGetTextSaid : Prop := fnExactGetTextRow.holds Try.pinned (OpenSpec.ofChange fnExactGetTextSpec)

/-- ITS FALSE NEIGHBOUR: 'it returns false'. Refute it at one input. -/
def fnExactGetTextWrong : ChangeSpec := { name := "fnExactGetText", fn := fun _ => fun
  | [d1, d2] => { results := [.lit (.bool false)], args := [d1, d2] }
  | _ => none }
def FnExactGetTextWrongFalsely : Prop := fnExactGetTextRow.holds Try.pinned (OpenSpec.ofChange fnExactGetTextWrong)

/-- 'laws.FnExactClusterFault': WHATEVER THE INPUT: true; the input reads as it did. -/
def fnExactClusterFaultSpec : ChangeSpec := { name := "fnExactClusterFault", fn := fun _ => fun
  | [d] => { results := [.lit (.bool true)], args := [d] }
  | _ => none }
def fnExactClusterFaultRow : OpenClaim := { program := "ytncghlamcbhpmaa", sum := "79c4694dcf11ba67355261ae875f6f5e25ef283d41e56837e069f953705967a7", func := "loop.example/g00020/laws.FnExactClusterFault", spec := "fnExactClusterFault", apart := false }
def FnExactClusterFaultSaid : Prop := fnExactClusterFaultRow.holds Try.pinned (OpenSpec.ofChange fnExactClusterFaultSpec)

/-- ITS FALSE NEIGHBOUR: 'it returns false'. Refute it at one input. -/
def fnExactClusterFaultWrong : ChangeSpec := { name := "fnExactClusterFault", fn := fun _ => fun
  | [d] => { results := [.lit (.bool false)], args := [d] }
  | _ => none }
def FnExactClusterFaultWrongFalsely : Prop := fnExactClusterFaultRow.holds Try.pinned (OpenSpec.ofChange fnExactClusterFaultWrong)

/-- 'laws.FnNumbers': WHATEVER THE INPUT: true; the input reads as it did. -/
def fnNumbersSpec : ChangeSpec := { name := "fnNumbers", fn := fun _ => fun
  | [d1, d2] => { results := [.lit (.bool true)], args := [d1, d2] }
  | _ => none }
def fnNumbersRow : OpenClaim := { program := "ytncghlamcbhpmaa", sum := "79c4694dcf11ba67355261ae875f6f5e25ef283d41e56837e069f953705967a7", func := "loop.example/g00020/laws.FnNumbers", spec := "fnNumbers", apart := false }
def FnNumbersSaid : Prop := fnNumbersRow.holds Try.pinned (OpenSpec.ofChange fnNumbersSpec)

/-- ITS FALSE NEIGHBOUR: 'it returns false'. Refute it at one input. -/
def fnNumbersWrong : ChangeSpec := { name := "fnNumbers", fn := fun _ => fun
  | [d1, d2] => { results := [.lit (.bool false)], args := [d1, d2] }
  | _ => none }
def FnNumbersWrongFalsely : Prop := fnNumbersRow.holds Try.pinned (OpenSpec.ofChange fnNumbersWrong)

/-- 'laws.FnExactOpenSealed': WHATEVER THE INPUT: true; the input reads as it did. -/
def fnExactOpenSealedSpec : ChangeSpec := { name := "fnExactOpenSealed", fn := fun _ => fun
  | [d1, d2, d3] => { results := [.lit (.bool true)], args := [d1, d2, d3] }
  | _ => none }
def fnExactOpenSealedRow : OpenClaim := { program := "ytncghlamcbhpmaa", sum := "79c4694dcf11ba67355261ae875f6f5e25ef283d41e56837e069f953705967a7", func := "loop.example/g00020/laws.FnExactOpenSealed", spec := "fnExactOpenSealed", unfollowed := true, recurses := true, apart := false }
def FnExactOpenSealedSaid : Prop := fnExactOpenSealedRow.holds Try.pinned (OpenSpec.ofChange fnExactOpenSealedSpec)

/-- ITS FALSE NEIGHBOUR: 'it returns false'. Refute it at one input. -/
def fnExactOpenSealedWrong : ChangeSpec := { name := "fnExactOpenSealed", fn := fun _ => fun
  | [d1, d2, d3] => { results := [.lit (.bool false)], args := [d1, d2, d3] }
  | _ => none }
def FnExactOpenSealedWrongFalsely : Prop := fnExactOpenSealedRow.holds Try.pinned (OpenSpec.ofChange fnExactOpenSealedWrong)

/-- 'laws.FnSealed': WHATEVER THE INPUT: true; the input reads as it did. -/
def fnSealedSpec : ChangeSpec := { name := "fnSealed", fn := fun _ => fun
  | [d1, d2] => { results := [.lit (.bool true)], args := [d1, d2] }
  | _ => none }
def fnSealedRow : OpenClaim := { program := "ytncghlamcbhpmaa", sum := "79c4694dcf11ba67355261ae875f6f5e25ef283d41e56837e069f953705967a7", func := "loop.example/g00020/laws.FnSealed", spec := "fnSealed", unfollowed := true, recurses := true, apart := false }
def FnSealedSaid : Prop := fnSealedRow.holds Try.pinned (OpenSpec.ofChange fnSealedSpec)

/-- ITS FALSE NEIGHBOUR: 'it returns false'. Refute it at one input. -/
def fnSealedWrong : ChangeSpec := { name := "fnSealed", fn := fun _ => fun
  | [d1, d2] => { results := [.lit (.bool false)], args := [d1, d2] }
  | _ => none }
def FnSealedWrongFalsely : Prop := fnSealedRow.holds Try.pinned (OpenSpec.ofChange fnSealedWrong)

/- THE SECOND FORM. 'bulk': how many values and letters a reading holds, each counted each time it is reached (what is shared counts as often as it is met; a slice's spare places count too). A statement '..UptoSaid' is the law's where the arguments, and the package variables that the reading takes, are together of bulk at most 1048576: NARROWER than '..Said'. Prove '..Said' where nothing that the law and all that it calls make is longer than what came in: it says more and counts as full. Else prove '..UptoSaid'. A law counts once. -/
mutual
def uptoBulk {H : Type} : DataW H → Nat
  | .lit (.string bytes) => bytes.length + 1
  | .lit _ => 1
  | .nil => 1
  | .ptr d => uptoBulk d + 1
  | .slice elems spare => uptoBulkAll elems + uptoBulkAll spare + 1
  | .agg parts => uptoBulkAll parts + 1
  | .iface _ d => uptoBulk d + 1
  | .map entries => uptoBulkEntries entries + 1
  | .held _ => 1
def uptoBulkAll {H : Type} : List (DataW H) → Nat
  | [] => 0
  | d :: r => uptoBulk d + uptoBulkAll r
def uptoBulkEntries {H : Type} : List (Lit × DataW H) → Nat
  | [] => 0
  | x :: r => uptoBulkEntry x + uptoBulkEntries r
def uptoBulkEntry {H : Type} : Lit × DataW H → Nat
  | (.string bytes, d) => bytes.length + uptoBulk d + 1
  | (_, d) => uptoBulk d + 1
 end
def uptoSmall : (H : Type) → List (DataW H) → Bool := fun _ ds => decide (uptoBulkAll ds ≤ 1048576)
def OpenSpec.upto (s : _root_.Go.ChangeSpec) : _root_.Go.OpenSpec := { _root_.Go.OpenSpec.ofChange s with cond := some uptoSmall }

/-- 'laws.FnExactWinner', WHERE WHAT IT READS IS OF BULK AT MOST 1048576: true; the input reads as it did. -/
def fnExactWinnerUptoRow : OpenClaim := { program := "ytncghlamcbhpmaa", sum := "79c4694dcf11ba67355261ae875f6f5e25ef283d41e56837e069f953705967a7", func := "loop.example/g00020/laws.FnExactWinner", spec := "fnExactWinner", apart := false, narrowed := true }
def FnExactWinnerUptoSaid : Prop := fnExactWinnerUptoRow.holds Try.pinned (OpenSpec.upto fnExactWinnerSpec)

/-- 'laws.FnWinner', WHERE WHAT IT READS IS OF BULK AT MOST 1048576: true; the input reads as it did. -/
def fnWinnerUptoRow : OpenClaim := { program := "ytncghlamcbhpmaa", sum := "79c4694dcf11ba67355261ae875f6f5e25ef283d41e56837e069f953705967a7", func := "loop.example/g00020/laws.FnWinner", spec := "fnWinner", apart := false, narrowed := true }
def FnWinnerUptoSaid : Prop := fnWinnerUptoRow.holds Try.pinned (OpenSpec.upto fnWinnerSpec)

/-- 'laws.FnExactNewerLog', WHERE WHAT IT READS IS OF BULK AT MOST 1048576: true; the input reads as it did. -/
def fnExactNewerLogUptoRow : OpenClaim := { program := "ytncghlamcbhpmaa", sum := "79c4694dcf11ba67355261ae875f6f5e25ef283d41e56837e069f953705967a7", func := "loop.example/g00020/laws.FnExactNewerLog", spec := "fnExactNewerLog", apart := false, narrowed := true }
def FnExactNewerLogUptoSaid : Prop := fnExactNewerLogUptoRow.holds Try.pinned (OpenSpec.upto fnExactNewerLogSpec)

/-- 'laws.FnExactGetText', WHERE WHAT IT READS IS OF BULK AT MOST 1048576: true; the input reads as it did. -/
def fnExactGetTextUptoRow : OpenClaim := { program := "ytncghlamcbhpmaa", sum := "79c4694dcf11ba67355261ae875f6f5e25ef283d41e56837e069f953705967a7", func := "loop.example/g00020/laws.FnExactGetText", spec := "fnExactGetText", apart := false, narrowed := true }
def FnExactGetTextUptoSaid : Prop := fnExactGetTextUptoRow.holds Try.pinned (OpenSpec.upto fnExactGetTextSpec)

/-- 'laws.FnExactClusterFault', WHERE WHAT IT READS IS OF BULK AT MOST 1048576: true; the input reads as it did. -/
def fnExactClusterFaultUptoRow : OpenClaim := { program := "ytncghlamcbhpmaa", sum := "79c4694dcf11ba67355261ae875f6f5e25ef283d41e56837e069f953705967a7", func := "loop.example/g00020/laws.FnExactClusterFault", spec := "fnExactClusterFault", apart := false, narrowed := true }
def FnExactClusterFaultUptoSaid : Prop := fnExactClusterFaultUptoRow.holds Try.pinned (OpenSpec.upto fnExactClusterFaultSpec)

/-- 'laws.FnNumbers', WHERE WHAT IT READS IS OF BULK AT MOST 1048576: true; the input reads as it did. -/
def fnNumbersUptoRow : OpenClaim := { program := "ytncghlamcbhpmaa", sum := "79c4694dcf11ba67355261ae875f6f5e25ef283d41e56837e069f953705967a7", func := "loop.example/g00020/laws.FnNumbers", spec := "fnNumbers", apart := false, narrowed := true }
def FnNumbersUptoSaid : Prop := fnNumbersUptoRow.holds Try.pinned (OpenSpec.upto fnNumbersSpec)

/-- 'laws.FnExactOpenSealed', WHERE WHAT IT READS IS OF BULK AT MOST 1048576: true; the input reads as it did. -/
def fnExactOpenSealedUptoRow : OpenClaim := { program := "ytncghlamcbhpmaa", sum := "79c4694dcf11ba67355261ae875f6f5e25ef283d41e56837e069f953705967a7", func := "loop.example/g00020/laws.FnExactOpenSealed", spec := "fnExactOpenSealed", unfollowed := true, recurses := true, apart := false, narrowed := true }
def FnExactOpenSealedUptoSaid : Prop := fnExactOpenSealedUptoRow.holds Try.pinned (OpenSpec.upto fnExactOpenSealedSpec)

/-- 'laws.FnSealed', WHERE WHAT IT READS IS OF BULK AT MOST 1048576: true; the input reads as it did. -/
def fnSealedUptoRow : OpenClaim := { program := "ytncghlamcbhpmaa", sum := "79c4694dcf11ba67355261ae875f6f5e25ef283d41e56837e069f953705967a7", func := "loop.example/g00020/laws.FnSealed", spec := "fnSealed", unfollowed := true, recurses := true, apart := false, narrowed := true }
def FnSealedUptoSaid : Prop := fnSealedUptoRow.holds Try.pinned (OpenSpec.upto fnSealedSpec)

end Rows
end Go.Proofs.Ytncghlamcbhpmaa
