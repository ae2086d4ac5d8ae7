/-
  The law FnExactWinner: for every input the call returns true, and each argument reads as it did.
-/
import Derived.Test.YtncghlamcbhpmaaRows
import Derived.Test.YtncghlamcbhpmaaPureFnExactWinner
import Derived.Test.YtncghlamcbhpmaaOpens
import Derived.Test.YtncghlamcbhpmaaPFnExactWinnerx2
import Derived.WalkKit
import Derived.ProofKit
import Derived.OpenShut
import Derived.ShutString
import Derived.ChangeOld
import Derived.Below
import Derived.SizedLaws
namespace Go.Proofs.Ytncghlamcbhpmaa.fnExactWinner
open Go.ChangeShapes Go.WideShapes Go.ChangeAt Go.RowKit Go.Proofs.Ytncghlamcbhpmaa Go.Proofs.Ytncghlamcbhpmaa.Opens Go.Proofs.YtncghlamcbhpmaaW.PrintWords Go.Proofs.Ytncghlamcbhpmaa.PFnExactWinner
open Go.ChangeMaps (open_string shut_string)
set_option linter.unusedVariables false
theorem own : ownKnob Try.prog.godebug = none := by kernel_rfl
theorem laidOut : laidOutB Try.prog = true := by kernel_rfl
theorem fopens_23 : Opens Try.prog (Kd.pair Kd.string (Kd.pair (Kd.int .i64) (Kd.pair (Kd.int .i64) (Kd.pair Kd.bool Kd.string)))) 23 (fun (x : ((ByteArray) × (Int) × (Int) × (Bool) × (ByteArray))) => (((x.1).size ≤ maxLen) ∧ ((Lit.int .i64 (x.2.1)).wf = true) ∧ ((Lit.int .i64 (x.2.2.1)).wf = true) ∧ (True) ∧ ((x.2.2.2.2).size ≤ maxLen))) := by
  have hc : Try.prog.cellsOf 23 = Kd.sz (Kd.pair Kd.string (Kd.pair (Kd.int .i64) (Kd.pair (Kd.int .i64) (Kd.pair Kd.bool Kd.string)))) := by kernel_rfl
  refine OpensF.struct (d := (Kd.pair Kd.string (Kd.pair (Kd.int .i64) (Kd.pair (Kd.int .i64) (Kd.pair Kd.bool Kd.string))))) (Q := fun (x : ((ByteArray) × (Int) × (Int) × (Bool) × (ByteArray))) => (((x.1).size ≤ maxLen) ∧ ((Lit.int .i64 (x.2.1)).wf = true) ∧ ((Lit.int .i64 (x.2.2.1)).wf = true) ∧ (True) ∧ ((x.2.2.2.2).size ≤ maxLen))) ?_ Try.underlying23 hc
  refine OpensF.cons (Q := fun (x : (ByteArray)) => (x).size ≤ maxLen) (Q' := fun (x : (Int) × (Int) × (Bool) × (ByteArray)) => ((Lit.int .i64 (x.1)).wf = true) ∧ ((Lit.int .i64 (x.2.1)).wf = true) ∧ (True) ∧ ((x.2.2.2).size ≤ maxLen)) ?_ ?_
  · exact (Opens.string (t := 9) Try.underlying9 (by kernel_rfl))
  refine OpensF.cons (Q := fun (x : (Int)) => (Lit.int .i64 (x)).wf = true) (Q' := fun (x : (Int) × (Bool) × (ByteArray)) => ((Lit.int .i64 (x.1)).wf = true) ∧ (True) ∧ ((x.2.2).size ≤ maxLen)) ?_ ?_
  · exact (Opens.int (t := 2) Try.underlying2 (by kernel_rfl))
  refine OpensF.cons (Q := fun (x : (Int)) => (Lit.int .i64 (x)).wf = true) (Q' := fun (x : (Bool) × (ByteArray)) => (True) ∧ ((x.2).size ≤ maxLen)) ?_ ?_
  · exact (Opens.int (t := 2) Try.underlying2 (by kernel_rfl))
  refine OpensF.cons (Q := fun (x : (Bool)) => True) (Q' := fun (x : (ByteArray)) => ((x).size ≤ maxLen)) ?_ ?_
  · exact (Opens.bool (t := 4) Try.underlying4 (by kernel_rfl))
  refine OpensF.one (Q := fun (x : (ByteArray)) => (x).size ≤ maxLen) ?_
  exact (Opens.string (t := 9) Try.underlying9 (by kernel_rfl))
set_option maxRecDepth 100000 in
theorem lifted (os : Os) (started : os.Started) (H : Type) (enc : TypeId × Value → H) :
    ReturnsInHanded {} Try.checked os 3 .any (Rows.fnExactWinnerSpec.pre6 enc Try.prog Try.f3 Rows.fnExactWinnerRow.domain false) (Rows.fnExactWinnerSpec.post enc Try.prog Try.f3 false true false false) := by
  refine returnsInHanded_of_change_sized (C := Try.checked) own started (by kernel_rfl) Try.func3
    (ChangeSpec.witness6 (enc := enc) (C := Try.checked) false ⟨#[], #[.agg #[.string ByteArray.empty, .int .i64 0, .int .i64 0, .bool false, .string ByteArray.empty], .agg #[.string ByteArray.empty, .int .i64 0, .int .i64 0, .bool false, .string ByteArray.empty]], []⟩ 8 (by kernel_rfl) (by kernel_rfl) (by kernel_rfl) (by kernel_rfl)) ?_
  intro W base args ds gs before hval0 hW hcnd hsz0 _
  have hval : ∀ (j : Nat) t v, Try.f3.params[j]? = some t → args[j]? = some v → Value.okWide Try.prog W .any base t v := hval0
  have hW' := hW
  obtain ⟨p, q, hA0, hV, rfl, hfz, hnd⟩ := hW
  have hA : DataW.TrodAll enc Try.prog W 0 (fun _ => true) true Try.f3.params.toList args.toList ds p := hA0
  rw [Try.params3] at hA hval
  obtain ⟨v0, vs0, d0, ds0, p0, q0, hargs, rfl, rfl, h0, r0⟩ := trodAll_cons hA
  obtain ⟨v1, vs1, d1, ds1, p1, q1, rfl, rfl, rfl, h1, r1⟩ := trodAll_cons r0
  obtain ⟨rfl, rfl, rfl⟩ := trodAll_nil r1
  obtain rfl : args = #[v0, v1] := by cases args; simp_all
  obtain ⟨rfl, rfl⟩ := trodVars_none hV
  obtain ⟨cs0, rfl⟩ := Opens.okWide_struct Try.underlying23 (hval 0 23 v0 rfl rfl)
  have hk0 := h0
  have lt0 : ∀ x ∈ p0, x.block < W.heap.size := by obtain ⟨m, hm⟩ := hk0; exact DataW.trod_lt m _ _ _ hm
  obtain ⟨fu0, hf0⟩ := h0
  obtain ⟨X0, K0, Q0⟩ := fopens_23.2 H enc W 0 (fun _ => true) true fu0 _ _ hf0
  obtain ⟨caK0_0, cbK0_0, ecK0_0, KaK0_0, KbK0_0⟩ := K0
  have eq0_0 := KaK0_0
  replace eq0_0 : _ = [Value.string (X0.1)] := eq0_0
  obtain ⟨caKbK0_0_1, cbKbK0_0_1, ecKbK0_0_1, KaKbK0_0_1, KbKbK0_0_1⟩ := KbK0_0
  have eq0_1 := KaKbK0_0_1
  replace eq0_1 : _ = [Value.int .i64 (X0.2.1)] := eq0_1
  obtain ⟨caKbKbK0_0_1_2, cbKbKbK0_0_1_2, ecKbKbK0_0_1_2, KaKbKbK0_0_1_2, KbKbKbK0_0_1_2⟩ := KbKbK0_0_1
  have eq0_2 := KaKbKbK0_0_1_2
  replace eq0_2 : _ = [Value.int .i64 (X0.2.2.1)] := eq0_2
  obtain ⟨caKbKbKbK0_0_1_2_3, cbKbKbKbK0_0_1_2_3, ecKbKbKbK0_0_1_2_3, KaKbKbKbK0_0_1_2_3, KbKbKbKbK0_0_1_2_3⟩ := KbKbKbK0_0_1_2
  have eq0_3 := KaKbKbKbK0_0_1_2_3
  replace eq0_3 : _ = [Value.bool (X0.2.2.2.1)] := eq0_3
  have eq0_4 := KbKbKbKbK0_0_1_2_3
  replace eq0_4 : _ = [Value.string (X0.2.2.2.2)] := eq0_4
  obtain rfl : cs0 = #[.string (X0.1), .int .i64 (X0.2.1), .int .i64 (X0.2.2.1), .bool (X0.2.2.2.1), .string (X0.2.2.2.2)] := by
    apply Array.toList_inj.mp
    have ez : cs0.toList = (Value.agg cs0).cells.toList := rfl
    rw [ez]
    simp only [ecK0_0, eq0_0, ecKbK0_0_1, eq0_1, ecKbKbK0_0_1_2, eq0_2, ecKbKbKbK0_0_1_2_3, eq0_3, eq0_4]
    rfl
  obtain ⟨cs1, rfl⟩ := Opens.okWide_struct Try.underlying23 (hval 1 23 v1 rfl rfl)
  have hk1 := h1
  have lt1 : ∀ x ∈ p1, x.block < W.heap.size := by obtain ⟨m, hm⟩ := hk1; exact DataW.trod_lt m _ _ _ hm
  obtain ⟨fu1, hf1⟩ := h1
  obtain ⟨X1, K1, Q1⟩ := fopens_23.2 H enc W 0 (fun _ => true) true fu1 _ _ hf1
  obtain ⟨caK1_0, cbK1_0, ecK1_0, KaK1_0, KbK1_0⟩ := K1
  have eq1_0 := KaK1_0
  replace eq1_0 : _ = [Value.string (X1.1)] := eq1_0
  obtain ⟨caKbK1_0_1, cbKbK1_0_1, ecKbK1_0_1, KaKbK1_0_1, KbKbK1_0_1⟩ := KbK1_0
  have eq1_1 := KaKbK1_0_1
  replace eq1_1 : _ = [Value.int .i64 (X1.2.1)] := eq1_1
  obtain ⟨caKbKbK1_0_1_2, cbKbKbK1_0_1_2, ecKbKbK1_0_1_2, KaKbKbK1_0_1_2, KbKbKbK1_0_1_2⟩ := KbKbK1_0_1
  have eq1_2 := KaKbKbK1_0_1_2
  replace eq1_2 : _ = [Value.int .i64 (X1.2.2.1)] := eq1_2
  obtain ⟨caKbKbKbK1_0_1_2_3, cbKbKbKbK1_0_1_2_3, ecKbKbKbK1_0_1_2_3, KaKbKbKbK1_0_1_2_3, KbKbKbKbK1_0_1_2_3⟩ := KbKbKbK1_0_1_2
  have eq1_3 := KaKbKbKbK1_0_1_2_3
  replace eq1_3 : _ = [Value.bool (X1.2.2.2.1)] := eq1_3
  have eq1_4 := KbKbKbKbK1_0_1_2_3
  replace eq1_4 : _ = [Value.string (X1.2.2.2.2)] := eq1_4
  obtain rfl : cs1 = #[.string (X1.1), .int .i64 (X1.2.1), .int .i64 (X1.2.2.1), .bool (X1.2.2.2.1), .string (X1.2.2.2.2)] := by
    apply Array.toList_inj.mp
    have ez : cs1.toList = (Value.agg cs1).cells.toList := rfl
    rw [ez]
    simp only [ecK1_0, eq1_0, ecKbK1_0_1, eq1_1, ecKbKbK1_0_1_2, eq1_2, ecKbKbKbK1_0_1_2_3, eq1_3, eq1_4]
    rfl
  have hp := Pure.FnExactWinner (X0.1) (X0.2.1) (X0.2.2.1) (X0.2.2.2.1) (X0.2.2.2.2) (X1.1) (X1.2.1) (X1.2.2.1) (X1.2.2.2.1) (X1.2.2.2.2) (Q0.1) (Q0.2.1) (Q0.2.2.1) (Q0.2.2.2.2) (Q1.1) (Q1.2.1) (Q1.2.2.1) (Q1.2.2.2.2)
  refine (laws_FnExactWinner.calls (X0.1) (X0.2.1) (X0.2.2.1) (X0.2.2.2.1) (X0.2.2.2.2) (X1.1) (X1.2.1) (X1.2.2.1) (X1.2.2.2.1) (X1.2.2.2.2) true W hp).mono fun e W' ⟨he, bel0⟩ => ?_
  have bel : Below W.heap.size W W' := bel0
  subst he
  exact ⟨_, rfl, _, _, _, [], _, [], hW', trodAll_mk1 (shut_bool Try.underlying4 _), (trodAll_cons_mk (Below.trod laidOut (by kernel_rfl) (of_decide_eq_true (by kernel_rfl)) hk0 bel lt0) (trodAll_cons_mk (Below.trod laidOut (by kernel_rfl) (of_decide_eq_true (by kernel_rfl)) hk1 bel lt1) trodAll_mk0)), rfl, bel.frame _, fun h => by cases h⟩
theorem over : Rows.fnExactWinnerRow.holds Try.pinned (OpenSpec.ofChange Rows.fnExactWinnerSpec) :=
  OpenClaim.holds_of_wide 3 Try.f3 rfl rfl rfl rfl rfl rfl rfl ⟨rfl, rfl, rfl, rfl, rfl⟩ rfl rfl rfl rfl rfl (by kernel_rfl) Try.func3 (by kernel_rfl)
    (of_decide_eq_true (by kernel_rfl)) (by unfold Func.isWrapper; first | (rw [if_pos (by decide +kernel)]; kernel_rfl) | (rw [if_neg (by decide +kernel)]; exact ⟨rfl, rfl⟩))
    (fun os started H enc _ => lifted os started H enc)
theorem proved : Rows.FnExactWinnerSaid := over
#print axioms proved
end Go.Proofs.Ytncghlamcbhpmaa.fnExactWinner
namespace Go.Proofs.Ytncghlamcbhpmaa
/-- The row, under a short name, for the claim. -/
theorem fnExactWinner_holds : Rows.FnExactWinnerSaid := fnExactWinner.proved
end Go.Proofs.Ytncghlamcbhpmaa
