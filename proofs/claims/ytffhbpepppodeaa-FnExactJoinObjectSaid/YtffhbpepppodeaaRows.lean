/-
  No cell of these rows narrows 'for every input' (looked for: loops, veiled, ifaces, maps, wideKeys, modest, calm, conditions, laid).
  DERIVED. THE GIVEN ROWS OF THIS SEAT. 9 by the template 'for every input the law returns true; each argument reads behind the call as it read before'; 0 by the template 'total and deterministic' (their statements: YtffhbpepppodeaaTotals.lean).
  GIVEN WITH THE SEED: the statements are not yours to turn. If you find one false, say at which input.
  Laid BY PROGRAM, IN A SANDBOX (cutbox-rows.mjs): the forced cells as the released guide's own fill.sh prints them over the translation 1b81224768296ed9… (all of the seat's roots in one cut). By AI agents, Wed Nov 11 2026. No macro, syntax, notation, axiom, sorry.
-/
import Derived.Test.YtffhbpepppodeaaChecked
import GoSem.Claim
import GoSem.ClaimJoined
import GoSem.ClaimMapViews
import Derived.JoinedTies
import Derived.KernelRfl
namespace Go.Proofs.Ytffhbpepppodeaa
/- THE CELL 'sum', in the pinned program and in every row, IS THE sha256 OF THE DUMP (.gsa) THAT YtffhbpepppodeaaProg.lean LOADS. Nothing in Lean hashes anything: it is a label: what it is worth is what the hold of that sum in a sandbox is worth. -/
noncomputable def Try.pinned : Pinned := { name := "ytffhbpepppodeaa", sum := "1b81224768296ed934b4743b3ab29a9091257784748effc9caa83c3d9899dd91", checked := Try.checked }
namespace Rows
def none {H : Type} : Left H := { results := [], args := [] }

/-- 'laws.FnExactMatRank': WHATEVER THE INPUT: true; the input reads as it did. -/
def fnExactMatRankSpec : ChangeSpec := { name := "fnExactMatRank", fn := fun _ => fun
  | [d] => { results := [.lit (.bool true)], args := [d] }
  | _ => none }
def fnExactMatRankRow : OpenClaim := { program := "ytffhbpepppodeaa", sum := "1b81224768296ed934b4743b3ab29a9091257784748effc9caa83c3d9899dd91", func := "loop.example/g00020/laws.FnExactMatRank", spec := "fnExactMatRank", apart := false }
def FnExactMatRankSaid : Prop := fnExactMatRankRow.holds Try.pinned (OpenSpec.ofChange fnExactMatRankSpec)

/-- ITS FALSE NEIGHBOUR: 'it returns false'. Refute it at one input. -/
def fnExactMatRankWrong : ChangeSpec := { name := "fnExactMatRank", fn := fun _ => fun
  | [d] => { results := [.lit (.bool false)], args := [d] }
  | _ => none }
def FnExactMatRankWrongFalsely : Prop := fnExactMatRankRow.holds Try.pinned (OpenSpec.ofChange fnExactMatRankWrong)

/-- 'laws.FnExactMatInv': WHATEVER THE INPUT: true; the input reads as it did. -/
def fnExactMatInvSpec : ChangeSpec := { name := "fnExactMatInv", fn := fun _ => fun
  | [d] => { results := [.lit (.bool true)], args := [d] }
  | _ => none }
def fnExactMatInvRow : OpenClaim := { program := "ytffhbpepppodeaa", sum := "1b81224768296ed934b4743b3ab29a9091257784748effc9caa83c3d9899dd91", func := "loop.example/g00020/laws.FnExactMatInv", spec := "fnExactMatInv", apart := false }
def FnExactMatInvSaid : Prop := fnExactMatInvRow.holds Try.pinned (OpenSpec.ofChange fnExactMatInvSpec)

/-- ITS FALSE NEIGHBOUR: 'it returns false'. Refute it at one input. -/
def fnExactMatInvWrong : ChangeSpec := { name := "fnExactMatInv", fn := fun _ => fun
  | [d] => { results := [.lit (.bool false)], args := [d] }
  | _ => none }
def FnExactMatInvWrongFalsely : Prop := fnExactMatInvRow.holds Try.pinned (OpenSpec.ofChange fnExactMatInvWrong)

/-- 'laws.FnInverse': WHATEVER THE INPUT: true; the input reads as it did. -/
def fnInverseSpec : ChangeSpec := { name := "fnInverse", fn := fun _ => fun
  | [d] => { results := [.lit (.bool true)], args := [d] }
  | _ => none }
def fnInverseRow : OpenClaim := { program := "ytffhbpepppodeaa", sum := "1b81224768296ed934b4743b3ab29a9091257784748effc9caa83c3d9899dd91", func := "loop.example/g00020/laws.FnInverse", spec := "fnInverse", apart := false }
def FnInverseSaid : Prop := fnInverseRow.holds Try.pinned (OpenSpec.ofChange fnInverseSpec)

/-- ITS FALSE NEIGHBOUR: 'it returns false'. Refute it at one input. -/
def fnInverseWrong : ChangeSpec := { name := "fnInverse", fn := fun _ => fun
  | [d] => { results := [.lit (.bool false)], args := [d] }
  | _ => none }
def FnInverseWrongFalsely : Prop := fnInverseRow.holds Try.pinned (OpenSpec.ofChange fnInverseWrong)

/-- 'laws.FnJoined': WHATEVER THE INPUT: true; the input reads as it did. -/
def fnJoinedSpec : ChangeSpec := { name := "fnJoined", fn := fun _ => fun
  | [d1, d2] => { results := [.lit (.bool true)], args := [d1, d2] }
  | _ => none }
def fnJoinedRow : OpenClaim := { program := "ytffhbpepppodeaa", sum := "1b81224768296ed934b4743b3ab29a9091257784748effc9caa83c3d9899dd91", func := "loop.example/g00020/laws.FnJoined", spec := "fnJoined", apart := false }
def FnJoinedSaid : Prop := fnJoinedRow.holds Try.pinned (OpenSpec.ofChange fnJoinedSpec)

/-- ITS FALSE NEIGHBOUR: 'it returns false'. Refute it at one input. -/
def fnJoinedWrong : ChangeSpec := { name := "fnJoined", fn := fun _ => fun
  | [d1, d2] => { results := [.lit (.bool false)], args := [d1, d2] }
  | _ => none }
def FnJoinedWrongFalsely : Prop := fnJoinedRow.holds Try.pinned (OpenSpec.ofChange fnJoinedWrong)

/-- 'laws.FnAnyK': WHATEVER THE INPUT: true; the input reads as it did. -/
def fnAnyKSpec : ChangeSpec := { name := "fnAnyK", fn := fun _ => fun
  | [d1, d2] => { results := [.lit (.bool true)], args := [d1, d2] }
  | _ => none }
def fnAnyKRow : OpenClaim := { program := "ytffhbpepppodeaa", sum := "1b81224768296ed934b4743b3ab29a9091257784748effc9caa83c3d9899dd91", func := "loop.example/g00020/laws.FnAnyK", spec := "fnAnyK", apart := false }
def FnAnyKSaid : Prop := fnAnyKRow.holds Try.pinned (OpenSpec.ofChange fnAnyKSpec)

/-- ITS FALSE NEIGHBOUR: 'it returns false'. Refute it at one input. -/
def fnAnyKWrong : ChangeSpec := { name := "fnAnyK", fn := fun _ => fun
  | [d1, d2] => { results := [.lit (.bool false)], args := [d1, d2] }
  | _ => none }
def FnAnyKWrongFalsely : Prop := fnAnyKRow.holds Try.pinned (OpenSpec.ofChange fnAnyKWrong)

/-- 'laws.FnRepaired': WHATEVER THE INPUT: true; the input reads as it did. -/
def fnRepairedSpec : ChangeSpec := { name := "fnRepaired", fn := fun _ => fun
  | [d1, d2] => { results := [.lit (.bool true)], args := [d1, d2] }
  | _ => none }
def fnRepairedRow : OpenClaim := { program := "ytffhbpepppodeaa", sum := "1b81224768296ed934b4743b3ab29a9091257784748effc9caa83c3d9899dd91", func := "loop.example/g00020/laws.FnRepaired", spec := "fnRepaired", apart := false }
def FnRepairedSaid : Prop := fnRepairedRow.holds Try.pinned (OpenSpec.ofChange fnRepairedSpec)

/-- ITS FALSE NEIGHBOUR: 'it returns false'. Refute it at one input. -/
def fnRepairedWrong : ChangeSpec := { name := "fnRepaired", fn := fun _ => fun
  | [d1, d2] => { results := [.lit (.bool false)], args := [d1, d2] }
  | _ => none }
def FnRepairedWrongFalsely : Prop := fnRepairedRow.holds Try.pinned (OpenSpec.ofChange fnRepairedWrong)

/-- 'laws.FnExactDecodeShards': WHATEVER THE INPUT: true; the input reads as it did. -/
def fnExactDecodeShardsSpec : ChangeSpec := { name := "fnExactDecodeShards", fn := fun _ => fun
  | [d1, d2] => { results := [.lit (.bool true)], args := [d1, d2] }
  | _ => none }
def fnExactDecodeShardsRow : OpenClaim := { program := "ytffhbpepppodeaa", sum := "1b81224768296ed934b4743b3ab29a9091257784748effc9caa83c3d9899dd91", func := "loop.example/g00020/laws.FnExactDecodeShards", spec := "fnExactDecodeShards", apart := false }
def FnExactDecodeShardsSaid : Prop := fnExactDecodeShardsRow.holds Try.pinned (OpenSpec.ofChange fnExactDecodeShardsSpec)

/-- ITS FALSE NEIGHBOUR: 'it returns false'. Refute it at one input. -/
def fnExactDecodeShardsWrong : ChangeSpec := { name := "fnExactDecodeShards", fn := fun _ => fun
  | [d1, d2] => { results := [.lit (.bool false)], args := [d1, d2] }
  | _ => none }
def FnExactDecodeShardsWrongFalsely : Prop := fnExactDecodeShardsRow.holds Try.pinned (OpenSpec.ofChange fnExactDecodeShardsWrong)

/-- 'laws.FnDecoded': WHATEVER THE INPUT: true; the input reads as it did. -/
def fnDecodedSpec : ChangeSpec := { name := "fnDecoded", fn := fun _ => fun
  | [d] => { results := [.lit (.bool true)], args := [d] }
  | _ => none }
def fnDecodedRow : OpenClaim := { program := "ytffhbpepppodeaa", sum := "1b81224768296ed934b4743b3ab29a9091257784748effc9caa83c3d9899dd91", func := "loop.example/g00020/laws.FnDecoded", spec := "fnDecoded", apart := false }
def FnDecodedSaid : Prop := fnDecodedRow.holds Try.pinned (OpenSpec.ofChange fnDecodedSpec)

/-- ITS FALSE NEIGHBOUR: 'it returns false'. Refute it at one input. -/
def fnDecodedWrong : ChangeSpec := { name := "fnDecoded", fn := fun _ => fun
  | [d] => { results := [.lit (.bool false)], args := [d] }
  | _ => none }
def FnDecodedWrongFalsely : Prop := fnDecodedRow.holds Try.pinned (OpenSpec.ofChange fnDecodedWrong)

/-- 'laws.FnExactJoinObject': WHATEVER THE INPUT: true; the input reads as it did. -/
def fnExactJoinObjectSpec : ChangeSpec := { name := "fnExactJoinObject", fn := fun _ => fun
  | [d1, d2, d3, d4] => { results := [.lit (.bool true)], args := [d1, d2, d3, d4] }
  | _ => none }
def fnExactJoinObjectRow : OpenClaim := { program := "ytffhbpepppodeaa", sum := "1b81224768296ed934b4743b3ab29a9091257784748effc9caa83c3d9899dd91", func := "loop.example/g00020/laws.FnExactJoinObject", spec := "fnExactJoinObject", apart := false }
def FnExactJoinObjectSaid : Prop := fnExactJoinObjectRow.holds Try.pinned (OpenSpec.ofChange fnExactJoinObjectSpec)

/-- ITS FALSE NEIGHBOUR: 'it returns false'. Refute it at one input. -/
def fnExactJoinObjectWrong : ChangeSpec := { name := "fnExactJoinObject", fn := fun _ => fun
  | [d1, d2, d3, d4] => { results := [.lit (.bool false)], args := [d1, d2, d3, d4] }
  | _ => none }
def FnExactJoinObjectWrongFalsely : Prop := fnExactJoinObjectRow.holds Try.pinned (OpenSpec.ofChange fnExactJoinObjectWrong)

/- THE SECOND FORM. 'bulk': how many values and letters a reading holds, each counted each time it is reached (what is shared counts as often as it is met; a slice's spare places count too). A statement '..UptoSaid' is the law's where the arguments, and the package variables that the reading takes, are together of bulk at most 1048576: NARROWER than '..Said'. Prove '..Said' where nothing that the law and all that it calls make is longer than what came in: it says more and counts as full. Else prove '..UptoSaid'. A law counts once. -/
mutual
def uptoBulk {H : Type} : DataW H → Nat
  | .lit (.string bytes) => bytes.length + 1
  | .lit _ => 1
  | .nil => 1
  | .ptr d => uptoBulk d + 1
  | .slice elems spare => uptoBulkAll elems + uptoBulkAll spare + 1
  | .agg parts => uptoBulkAll parts + 1
  | .iface _ d => uptoBulk d + 1
  | .map entries => uptoBulkEntries entries + 1
  | .held _ => 1
def uptoBulkAll {H : Type} : List (DataW H) → Nat
  | [] => 0
  | d :: r => uptoBulk d + uptoBulkAll r
def uptoBulkEntries {H : Type} : List (Lit × DataW H) → Nat
  | [] => 0
  | x :: r => uptoBulkEntry x + uptoBulkEntries r
def uptoBulkEntry {H : Type} : Lit × DataW H → Nat
  | (.string bytes, d) => bytes.length + uptoBulk d + 1
  | (_, d) => uptoBulk d + 1
 end
def uptoSmall : (H : Type) → List (DataW H) → Bool := fun _ ds => decide (uptoBulkAll ds ≤ 1048576)
def OpenSpec.upto (s : _root_.Go.ChangeSpec) : _root_.Go.OpenSpec := { _root_.Go.OpenSpec.ofChange s with cond := some uptoSmall }

/-- 'laws.FnExactMatRank', WHERE WHAT IT READS IS OF BULK AT MOST 1048576: true; the input reads as it did. -/
def fnExactMatRankUptoRow : OpenClaim := { program := "ytffhbpepppodeaa", sum := "1b81224768296ed934b4743b3ab29a9091257784748effc9caa83c3d9899dd91", func := "loop.example/g00020/laws.FnExactMatRank", spec := "fnExactMatRank", apart := false, narrowed := true }
def FnExactMatRankUptoSaid : Prop := fnExactMatRankUptoRow.holds Try.pinned (OpenSpec.upto fnExactMatRankSpec)

/-- 'laws.FnExactMatInv', WHERE WHAT IT READS IS OF BULK AT MOST 1048576: true; the input reads as it did. -/
def fnExactMatInvUptoRow : OpenClaim := { program := "ytffhbpepppodeaa", sum := "1b81224768296ed934b4743b3ab29a9091257784748effc9caa83c3d9899dd91", func := "loop.example/g00020/laws.FnExactMatInv", spec := "fnExactMatInv", apart := false, narrowed := true }
def FnExactMatInvUptoSaid : Prop := fnExactMatInvUptoRow.holds Try.pinned (OpenSpec.upto fnExactMatInvSpec)

/-- 'laws.FnInverse', WHERE WHAT IT READS IS OF BULK AT MOST 1048576: true; the input reads as it did. -/
def fnInverseUptoRow : OpenClaim := { program := "ytffhbpepppodeaa", sum := "1b81224768296ed934b4743b3ab29a9091257784748effc9caa83c3d9899dd91", func := "loop.example/g00020/laws.FnInverse", spec := "fnInverse", apart := false, narrowed := true }
def FnInverseUptoSaid : Prop := fnInverseUptoRow.holds Try.pinned (OpenSpec.upto fnInverseSpec)

/-- 'laws.FnJoined', WHERE WHAT IT READS IS OF BULK AT MOST 1048576: true; the input reads as it did. -/
def fnJoinedUptoRow : OpenClaim := { program := "ytffhbpepppodeaa", sum := "1b81224768296ed934b4743b3ab29a9091257784748effc9caa83c3d9899dd91", func := "loop.example/g00020/laws.FnJoined", spec := "fnJoined", apart := false, narrowed := true }
def FnJoinedUptoSaid : Prop := fnJoinedUptoRow.holds Try.pinned (OpenSpec.upto fnJoinedSpec)

/-- 'laws.FnAnyK', WHERE WHAT IT READS IS OF BULK AT MOST 1048576: true; the input reads as it did. -/
def fnAnyKUptoRow : OpenClaim := { program := "ytffhbpepppodeaa", sum := "1b81224768296ed934b4743b3ab29a9091257784748effc9caa83c3d9899dd91", func := "loop.example/g00020/laws.FnAnyK", spec := "fnAnyK", apart := false, narrowed := true }
def FnAnyKUptoSaid : Prop := fnAnyKUptoRow.holds Try.pinned (OpenSpec.upto fnAnyKSpec)

/-- 'laws.FnRepaired', WHERE WHAT IT READS IS OF BULK AT MOST 1048576: true; the input reads as it did. -/
def fnRepairedUptoRow : OpenClaim := { program := "ytffhbpepppodeaa", sum := "1b81224768296ed934b4743b3ab29a9091257784748effc9caa83c3d9899dd91", func := "loop.example/g00020/laws.FnRepaired", spec := "fnRepaired", apart := false, narrowed := true }
def FnRepairedUptoSaid : Prop := fnRepairedUptoRow.holds Try.pinned (OpenSpec.upto fnRepairedSpec)

/-- 'laws.FnExactDecodeShards', WHERE WHAT IT READS IS OF BULK AT MOST 1048576: true; the input reads as it did. -/
def fnExactDecodeShardsUptoRow : OpenClaim := { program := "ytffhbpepppodeaa", sum := "1b81224768296ed934b4743b3ab29a9091257784748effc9caa83c3d9899dd91", func := "loop.example/g00020/laws.FnExactDecodeShards", spec := "fnExactDecodeShards", apart := false, narrowed := true }
def FnExactDecodeShardsUptoSaid : Prop := fnExactDecodeShardsUptoRow.holds Try.pinned (OpenSpec.upto fnExactDecodeShardsSpec)

/-- 'laws.FnDecoded', WHERE WHAT IT READS IS OF BULK AT MOST 1048576: true; the input reads as it did. -/
def fnDecodedUptoRow : OpenClaim := { program := "ytffhbpepppodeaa", sum := "1b81224768296ed934b4743b3ab29a9091257784748effc9caa83c3d9899dd91", func := "loop.example/g00020/laws.FnDecoded", spec := "fnDecoded", apart := false, narrowed := true }
def FnDecodedUptoSaid : Prop := fnDecodedUptoRow.holds Try.pinned (OpenSpec.upto fnDecodedSpec)

/-- 'laws.FnExactJoinObject', WHERE WHAT IT READS IS OF BULK AT MOST 1048576: true; the input reads as it did. -/
def fnExactJoinObjectUptoRow : OpenClaim := { program := "ytffhbpepppodeaa", sum := "1b81224768296ed934b4743b3ab29a9091257784748effc9caa83c3d9899dd91", func := "loop.example/g00020/laws.FnExactJoinObject", spec := "fnExactJoinObject", apart := false, narrowed := true }
def FnExactJoinObjectUptoSaid : Prop := fnExactJoinObjectUptoRow.holds Try.pinned (OpenSpec.upto fnExactJoinObjectSpec)

end Rows
end Go.Proofs.Ytffhbpepppodeaa
