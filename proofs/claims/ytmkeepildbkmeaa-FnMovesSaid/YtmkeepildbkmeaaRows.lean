/-
  No cell of these rows narrows 'for every input' (looked for: loops, veiled, ifaces, maps, wideKeys, modest, calm, conditions, laid).
  DERIVED. THE GIVEN ROWS OF THIS SEAT. 8 by the template 'for every input the law returns true; each argument reads behind the call as it read before'; 0 by the template 'total and deterministic' (their statements: YtmkeepildbkmeaaTotals.lean).
  GIVEN WITH THE SEED: the statements are not yours to turn. If you find one false, say at which input.
  Laid BY PROGRAM, IN A SANDBOX (cutbox-rows.mjs): the forced cells as the released guide's own fill.sh prints them over the translation 97acf8db95a2bfb4… (all of the seat's roots in one cut). By AI agents, Wed Nov 11 2026. No macro, syntax, notation, axiom, sorry.
-/
import Derived.Test.YtmkeepildbkmeaaChecked
import GoSem.Claim
import GoSem.ClaimJoined
import GoSem.ClaimMapViews
import Derived.JoinedTies
import Derived.KernelRfl
namespace Go.Proofs.Ytmkeepildbkmeaa
/- THE CELL 'sum', in the pinned program and in every row, IS THE sha256 OF THE DUMP (.gsa) THAT YtmkeepildbkmeaaProg.lean LOADS. Nothing in Lean hashes anything: it is a label: what it is worth is what the hold of that sum in a sandbox is worth. -/
noncomputable def Try.pinned : Pinned := { name := "ytmkeepildbkmeaa", sum := "97acf8db95a2bfb46e4adedde288af4a0669f3612b2750ce640797fff2ea8cd0", checked := Try.checked }
namespace Rows
def none {H : Type} : Left H := { results := [], args := [] }

/-- 'laws.FnPlaced': WHATEVER THE INPUT: true; the input reads as it did. -/
def fnPlacedSpec : ChangeSpec := { name := "fnPlaced", fn := fun _ => fun
  | [d] => { results := [.lit (.bool true)], args := [d] }
  | _ => none }
def fnPlacedRow : OpenClaim := { program := "ytmkeepildbkmeaa", sum := "97acf8db95a2bfb46e4adedde288af4a0669f3612b2750ce640797fff2ea8cd0", func := "loop.example/g00020/laws.FnPlaced", spec := "fnPlaced", inPlace := ["slices.overlaps[loop.example/g00020/impl.scored]"], unfollowed := true, recurses := true, apart := false }
def FnPlacedSaid : Prop := fnPlacedRow.holds Try.pinned (OpenSpec.ofChange fnPlacedSpec)

/-- ITS FALSE NEIGHBOUR: 'it returns false'. Refute it at one input. -/
def fnPlacedWrong : ChangeSpec := { name := "fnPlaced", fn := fun _ => fun
  | [d] => { results := [.lit (.bool false)], args := [d] }
  | _ => none }
def FnPlacedWrongFalsely : Prop := fnPlacedRow.holds Try.pinned (OpenSpec.ofChange fnPlacedWrong)

/-- 'laws.FnExactPlaceKey': WHATEVER THE INPUT: true; the input reads as it did. -/
def fnExactPlaceKeySpec : ChangeSpec := { name := "fnExactPlaceKey", fn := fun _ => fun
  | [d1, d2, d3] => { results := [.lit (.bool true)], args := [d1, d2, d3] }
  | _ => none }
def fnExactPlaceKeyRow : OpenClaim := { program := "ytmkeepildbkmeaa", sum := "97acf8db95a2bfb46e4adedde288af4a0669f3612b2750ce640797fff2ea8cd0", func := "loop.example/g00020/laws.FnExactPlaceKey", spec := "fnExactPlaceKey", inPlace := ["slices.overlaps[loop.example/g00020/impl.scored]"], unfollowed := true, recurses := true, apart := false }
def FnExactPlaceKeySaid : Prop := fnExactPlaceKeyRow.holds Try.pinned (OpenSpec.ofChange fnExactPlaceKeySpec)

/-- ITS FALSE NEIGHBOUR: 'it returns false'. Refute it at one input. -/
def fnExactPlaceKeyWrong : ChangeSpec := { name := "fnExactPlaceKey", fn := fun _ => fun
  | [d1, d2, d3] => { results := [.lit (.bool false)], args := [d1, d2, d3] }
  | _ => none }
def FnExactPlaceKeyWrongFalsely : Prop := fnExactPlaceKeyRow.holds Try.pinned (OpenSpec.ofChange fnExactPlaceKeyWrong)

/-- 'laws.FnExactMoveCount': WHATEVER THE INPUT: true; the input reads as it did. -/
def fnExactMoveCountSpec : ChangeSpec := { name := "fnExactMoveCount", fn := fun _ => fun
  | [d1, d2, d3, d4] => { results := [.lit (.bool true)], args := [d1, d2, d3, d4] }
  | _ => none }
def fnExactMoveCountRow : OpenClaim := { program := "ytmkeepildbkmeaa", sum := "97acf8db95a2bfb46e4adedde288af4a0669f3612b2750ce640797fff2ea8cd0", func := "loop.example/g00020/laws.FnExactMoveCount", spec := "fnExactMoveCount", inPlace := ["slices.overlaps[loop.example/g00020/impl.scored]"], unfollowed := true, recurses := true, apart := false }
def FnExactMoveCountSaid : Prop := fnExactMoveCountRow.holds Try.pinned (OpenSpec.ofChange fnExactMoveCountSpec)

/-- ITS FALSE NEIGHBOUR: 'it returns false'. Refute it at one input. -/
def fnExactMoveCountWrong : ChangeSpec := { name := "fnExactMoveCount", fn := fun _ => fun
  | [d1, d2, d3, d4] => { results := [.lit (.bool false)], args := [d1, d2, d3, d4] }
  | _ => none }
def FnExactMoveCountWrongFalsely : Prop := fnExactMoveCountRow.holds Try.pinned (OpenSpec.ofChange fnExactMoveCountWrong)

/-- 'laws.FnMoves': WHATEVER THE INPUT: true; the input reads as it did. -/
def fnMovesSpec : ChangeSpec := { name := "fnMoves", fn := fun _ => fun
  | [d1, d2] => { results := [.lit (.bool true)], args := [d1, d2] }
  | _ => none }
def fnMovesRow : OpenClaim := { program := "ytmkeepildbkmeaa", sum := "97acf8db95a2bfb46e4adedde288af4a0669f3612b2750ce640797fff2ea8cd0", func := "loop.example/g00020/laws.FnMoves", spec := "fnMoves", inPlace := ["slices.overlaps[loop.example/g00020/impl.scored]"], unfollowed := true, recurses := true, apart := false }
def FnMovesSaid : Prop := fnMovesRow.holds Try.pinned (OpenSpec.ofChange fnMovesSpec)

/-- ITS FALSE NEIGHBOUR: 'it returns false'. Refute it at one input. -/
def fnMovesWrong : ChangeSpec := { name := "fnMoves", fn := fun _ => fun
  | [d1, d2] => { results := [.lit (.bool false)], args := [d1, d2] }
  | _ => none }
def FnMovesWrongFalsely : Prop := fnMovesRow.holds Try.pinned (OpenSpec.ofChange fnMovesWrong)

/-- 'laws.FnAgree': WHATEVER THE INPUT: true; the input reads as it did. -/
def fnAgreeSpec : ChangeSpec := { name := "fnAgree", fn := fun _ => fun
  | [d] => { results := [.lit (.bool true)], args := [d] }
  | _ => none }
def fnAgreeRow : OpenClaim := { program := "ytmkeepildbkmeaa", sum := "97acf8db95a2bfb46e4adedde288af4a0669f3612b2750ce640797fff2ea8cd0", func := "loop.example/g00020/laws.FnAgree", spec := "fnAgree", unfollowed := true, recurses := true, apart := false }
def FnAgreeSaid : Prop := fnAgreeRow.holds Try.pinned (OpenSpec.ofChange fnAgreeSpec)

/-- ITS FALSE NEIGHBOUR: 'it returns false'. Refute it at one input. -/
def fnAgreeWrong : ChangeSpec := { name := "fnAgree", fn := fun _ => fun
  | [d] => { results := [.lit (.bool false)], args := [d] }
  | _ => none }
def FnAgreeWrongFalsely : Prop := fnAgreeRow.holds Try.pinned (OpenSpec.ofChange fnAgreeWrong)

/-- 'laws.FnDenyWins': WHATEVER THE INPUT: true; the input reads as it did. -/
def fnDenyWinsSpec : ChangeSpec := { name := "fnDenyWins", fn := fun _ => fun
  | [d] => { results := [.lit (.bool true)], args := [d] }
  | _ => none }
def fnDenyWinsRow : OpenClaim := { program := "ytmkeepildbkmeaa", sum := "97acf8db95a2bfb46e4adedde288af4a0669f3612b2750ce640797fff2ea8cd0", func := "loop.example/g00020/laws.FnDenyWins", spec := "fnDenyWins", unfollowed := true, recurses := true, apart := false }
def FnDenyWinsSaid : Prop := fnDenyWinsRow.holds Try.pinned (OpenSpec.ofChange fnDenyWinsSpec)

/-- ITS FALSE NEIGHBOUR: 'it returns false'. Refute it at one input. -/
def fnDenyWinsWrong : ChangeSpec := { name := "fnDenyWins", fn := fun _ => fun
  | [d] => { results := [.lit (.bool false)], args := [d] }
  | _ => none }
def FnDenyWinsWrongFalsely : Prop := fnDenyWinsRow.holds Try.pinned (OpenSpec.ofChange fnDenyWinsWrong)

/-- 'laws.FnGroupGoes': WHATEVER THE INPUT: true; the input reads as it did. -/
def fnGroupGoesSpec : ChangeSpec := { name := "fnGroupGoes", fn := fun _ => fun
  | [d1, d2] => { results := [.lit (.bool true)], args := [d1, d2] }
  | _ => none }
def fnGroupGoesRow : OpenClaim := { program := "ytmkeepildbkmeaa", sum := "97acf8db95a2bfb46e4adedde288af4a0669f3612b2750ce640797fff2ea8cd0", func := "loop.example/g00020/laws.FnGroupGoes", spec := "fnGroupGoes", unfollowed := true, recurses := true, apart := false }
def FnGroupGoesSaid : Prop := fnGroupGoesRow.holds Try.pinned (OpenSpec.ofChange fnGroupGoesSpec)

/-- ITS FALSE NEIGHBOUR: 'it returns false'. Refute it at one input. -/
def fnGroupGoesWrong : ChangeSpec := { name := "fnGroupGoes", fn := fun _ => fun
  | [d1, d2] => { results := [.lit (.bool false)], args := [d1, d2] }
  | _ => none }
def FnGroupGoesWrongFalsely : Prop := fnGroupGoesRow.holds Try.pinned (OpenSpec.ofChange fnGroupGoesWrong)

/-- 'laws.FnExactRunGroup': WHATEVER THE INPUT: true; the input reads as it did. -/
def fnExactRunGroupSpec : ChangeSpec := { name := "fnExactRunGroup", fn := fun _ => fun
  | [d1, d2] => { results := [.lit (.bool true)], args := [d1, d2] }
  | _ => none }
def fnExactRunGroupRow : OpenClaim := { program := "ytmkeepildbkmeaa", sum := "97acf8db95a2bfb46e4adedde288af4a0669f3612b2750ce640797fff2ea8cd0", func := "loop.example/g00020/laws.FnExactRunGroup", spec := "fnExactRunGroup", unfollowed := true, recurses := true, apart := false }
def FnExactRunGroupSaid : Prop := fnExactRunGroupRow.holds Try.pinned (OpenSpec.ofChange fnExactRunGroupSpec)

/-- ITS FALSE NEIGHBOUR: 'it returns false'. Refute it at one input. -/
def fnExactRunGroupWrong : ChangeSpec := { name := "fnExactRunGroup", fn := fun _ => fun
  | [d1, d2] => { results := [.lit (.bool false)], args := [d1, d2] }
  | _ => none }
def FnExactRunGroupWrongFalsely : Prop := fnExactRunGroupRow.holds Try.pinned (OpenSpec.ofChange fnExactRunGroupWrong)

/- THE SECOND FORM. 'bulk': how many values and letters a reading holds, each counted each time it is reached (what is shared counts as often as it is met; a slice's spare places count too). A statement '..UptoSaid' is the law's where the arguments, and the package variables that the reading takes, are together of bulk at most 1048576: NARROWER than '..Said'. Prove '..Said' where nothing that the law and all that it calls make is longer than what came in: it says more and counts as full. Else prove '..UptoSaid'. A law counts once. -/
mutual
def uptoBulk {H : Type} : DataW H → Nat
  | .lit (.string bytes) => bytes.length + 1
  | .lit _ => 1
  | .nil => 1
  | .ptr d => uptoBulk d + 1
  | .slice elems spare => uptoBulkAll elems + uptoBulkAll spare + 1
  | .agg parts => uptoBulkAll parts + 1
  | .iface _ d => uptoBulk d + 1
  | .map entries => uptoBulkEntries entries + 1
  | .held _ => 1
def uptoBulkAll {H : Type} : List (DataW H) → Nat
  | [] => 0
  | d :: r => uptoBulk d + uptoBulkAll r
def uptoBulkEntries {H : Type} : List (Lit × DataW H) → Nat
  | [] => 0
  | x :: r => uptoBulkEntry x + uptoBulkEntries r
def uptoBulkEntry {H : Type} : Lit × DataW H → Nat
  | (.string bytes, d) => bytes.length + uptoBulk d + 1
  | (_, d) => uptoBulk d + 1
 end
def uptoSmall : (H : Type) → List (DataW H) → Bool := fun _ ds => decide (uptoBulkAll ds ≤ 1048576)
def OpenSpec.upto (s : _root_.Go.ChangeSpec) : _root_.Go.OpenSpec := { _root_.Go.OpenSpec.ofChange s with cond := some uptoSmall }

/-- 'laws.FnPlaced', WHERE WHAT IT READS IS OF BULK AT MOST 1048576: true; the input reads as it did. -/
def fnPlacedUptoRow : OpenClaim := { program := "ytmkeepildbkmeaa", sum := "97acf8db95a2bfb46e4adedde288af4a0669f3612b2750ce640797fff2ea8cd0", func := "loop.example/g00020/laws.FnPlaced", spec := "fnPlaced", inPlace := ["slices.overlaps[loop.example/g00020/impl.scored]"], unfollowed := true, recurses := true, apart := false, narrowed := true }
def FnPlacedUptoSaid : Prop := fnPlacedUptoRow.holds Try.pinned (OpenSpec.upto fnPlacedSpec)

/-- 'laws.FnExactPlaceKey', WHERE WHAT IT READS IS OF BULK AT MOST 1048576: true; the input reads as it did. -/
def fnExactPlaceKeyUptoRow : OpenClaim := { program := "ytmkeepildbkmeaa", sum := "97acf8db95a2bfb46e4adedde288af4a0669f3612b2750ce640797fff2ea8cd0", func := "loop.example/g00020/laws.FnExactPlaceKey", spec := "fnExactPlaceKey", inPlace := ["slices.overlaps[loop.example/g00020/impl.scored]"], unfollowed := true, recurses := true, apart := false, narrowed := true }
def FnExactPlaceKeyUptoSaid : Prop := fnExactPlaceKeyUptoRow.holds Try.pinned (OpenSpec.upto fnExactPlaceKeySpec)

/-- 'laws.FnExactMoveCount', WHERE WHAT IT READS IS OF BULK AT MOST 1048576: true; the input reads as it did. -/
def fnExactMoveCountUptoRow : OpenClaim := { program := "ytmkeepildbkmeaa", sum := "97acf8db95a2bfb46e4adedde288af4a0669f3612b2750ce640797fff2ea8cd0", func := "loop.example/g00020/laws.FnExactMoveCount", spec := "fnExactMoveCount", inPlace := ["slices.overlaps[loop.example/g00020/impl.scored]"], unfollowed := true, recurses := true, apart := false, narrowed := true }
def FnExactMoveCountUptoSaid : Prop := fnExactMoveCountUptoRow.holds Try.pinned (OpenSpec.upto fnExactMoveCountSpec)

/-- 'laws.FnMoves', WHERE WHAT IT READS IS OF BULK AT MOST 1048576: true; the input reads as it did. -/
def fnMovesUptoRow : OpenClaim := { program := "ytmkeepildbkmeaa", sum := "97acf8db95a2bfb46e4adedde288af4a0669f3612b2750ce640797fff2ea8cd0", func := "loop.example/g00020/laws.FnMoves", spec := "fnMoves", inPlace := ["slices.overlaps[loop.example/g00020/impl.scored]"], unfollowed := true, recurses := true, apart := false, narrowed := true }
def FnMovesUptoSaid : Prop := fnMovesUptoRow.holds Try.pinned (OpenSpec.upto fnMovesSpec)

/-- 'laws.FnAgree', WHERE WHAT IT READS IS OF BULK AT MOST 1048576: true; the input reads as it did. -/
def fnAgreeUptoRow : OpenClaim := { program := "ytmkeepildbkmeaa", sum := "97acf8db95a2bfb46e4adedde288af4a0669f3612b2750ce640797fff2ea8cd0", func := "loop.example/g00020/laws.FnAgree", spec := "fnAgree", unfollowed := true, recurses := true, apart := false, narrowed := true }
def FnAgreeUptoSaid : Prop := fnAgreeUptoRow.holds Try.pinned (OpenSpec.upto fnAgreeSpec)

/-- 'laws.FnDenyWins', WHERE WHAT IT READS IS OF BULK AT MOST 1048576: true; the input reads as it did. -/
def fnDenyWinsUptoRow : OpenClaim := { program := "ytmkeepildbkmeaa", sum := "97acf8db95a2bfb46e4adedde288af4a0669f3612b2750ce640797fff2ea8cd0", func := "loop.example/g00020/laws.FnDenyWins", spec := "fnDenyWins", unfollowed := true, recurses := true, apart := false, narrowed := true }
def FnDenyWinsUptoSaid : Prop := fnDenyWinsUptoRow.holds Try.pinned (OpenSpec.upto fnDenyWinsSpec)

/-- 'laws.FnGroupGoes', WHERE WHAT IT READS IS OF BULK AT MOST 1048576: true; the input reads as it did. -/
def fnGroupGoesUptoRow : OpenClaim := { program := "ytmkeepildbkmeaa", sum := "97acf8db95a2bfb46e4adedde288af4a0669f3612b2750ce640797fff2ea8cd0", func := "loop.example/g00020/laws.FnGroupGoes", spec := "fnGroupGoes", unfollowed := true, recurses := true, apart := false, narrowed := true }
def FnGroupGoesUptoSaid : Prop := fnGroupGoesUptoRow.holds Try.pinned (OpenSpec.upto fnGroupGoesSpec)

/-- 'laws.FnExactRunGroup', WHERE WHAT IT READS IS OF BULK AT MOST 1048576: true; the input reads as it did. -/
def fnExactRunGroupUptoRow : OpenClaim := { program := "ytmkeepildbkmeaa", sum := "97acf8db95a2bfb46e4adedde288af4a0669f3612b2750ce640797fff2ea8cd0", func := "loop.example/g00020/laws.FnExactRunGroup", spec := "fnExactRunGroup", unfollowed := true, recurses := true, apart := false, narrowed := true }
def FnExactRunGroupUptoSaid : Prop := fnExactRunGroupUptoRow.holds Try.pinned (OpenSpec.upto fnExactRunGroupSpec)

end Rows
end Go.Proofs.Ytmkeepildbkmeaa
