/-
  The law FnExactOpenSealed: for every input the call returns true, and each argument reads as it did.
-/
import Derived.Test.YtncghlamcbhpmaaRows
import Derived.Test.YtncghlamcbhpmaaPureFnExactOpenSealed
import Derived.Test.YtncghlamcbhpmaaOpens
import Derived.Test.YtncghlamcbhpmaaPFnExactOpenSealedx9
import Derived.WalkKit
import Derived.ProofKit
import Derived.OpenShut
import Derived.ShutString
import Derived.ChangeOld
import Derived.Below
import Derived.SizedLaws
namespace Go.Proofs.Ytncghlamcbhpmaa.fnExactOpenSealed
open Go.ChangeShapes Go.WideShapes Go.ChangeAt Go.RowKit Go.Proofs.Ytncghlamcbhpmaa Go.Proofs.Ytncghlamcbhpmaa.Opens Go.Proofs.YtncghlamcbhpmaaW.PrintWords Go.Proofs.Ytncghlamcbhpmaa.PFnExactOpenSealed
open Go.ChangeMaps (open_string shut_string)
set_option linter.unusedVariables false
theorem own : ownKnob Try.prog.godebug = none := by kernel_rfl
theorem laidOut : laidOutB Try.prog = true := by kernel_rfl
theorem fopens_68 : Opens Try.prog (Kd.pair (Kd.int .i64) (Kd.pair Kd.string Kd.string)) 68 (fun (x : ((Int) × (ByteArray) × (ByteArray))) => (((Lit.int .i64 (x.1)).wf = true) ∧ ((x.2.1).size ≤ maxLen) ∧ ((x.2.2).size ≤ maxLen))) := by
  have hc : Try.prog.cellsOf 68 = Kd.sz (Kd.pair (Kd.int .i64) (Kd.pair Kd.string Kd.string)) := by kernel_rfl
  refine OpensF.struct (d := (Kd.pair (Kd.int .i64) (Kd.pair Kd.string Kd.string))) (Q := fun (x : ((Int) × (ByteArray) × (ByteArray))) => (((Lit.int .i64 (x.1)).wf = true) ∧ ((x.2.1).size ≤ maxLen) ∧ ((x.2.2).size ≤ maxLen))) ?_ Try.underlying68 hc
  refine OpensF.cons (Q := fun (x : (Int)) => (Lit.int .i64 (x)).wf = true) (Q' := fun (x : (ByteArray) × (ByteArray)) => ((x.1).size ≤ maxLen) ∧ ((x.2).size ≤ maxLen)) ?_ ?_
  · exact (Opens.int (t := 2) Try.underlying2 (by kernel_rfl))
  refine OpensF.cons (Q := fun (x : (ByteArray)) => (x).size ≤ maxLen) (Q' := fun (x : (ByteArray)) => ((x).size ≤ maxLen)) ?_ ?_
  · exact (Opens.string (t := 9) Try.underlying9 (by kernel_rfl))
  refine OpensF.one (Q := fun (x : (ByteArray)) => (x).size ≤ maxLen) ?_
  exact (Opens.string (t := 9) Try.underlying9 (by kernel_rfl))
set_option maxRecDepth 100000 in
theorem lifted (os : Os) (started : os.Started) (H : Type) (enc : TypeId × Value → H) :
    ReturnsInHanded {} Try.checked os 9 .any (Rows.fnExactOpenSealedSpec.pre6 enc Try.prog Try.f9 Rows.fnExactOpenSealedRow.domain false) (Rows.fnExactOpenSealedSpec.post enc Try.prog Try.f9 false true false false) := by
  refine returnsInHanded_of_change_sized (C := Try.checked) own started (by kernel_rfl) Try.func9
    (ChangeSpec.witness6 (enc := enc) (C := Try.checked) false ⟨#[], #[.string ByteArray.empty, .agg #[.int .i64 0, .string ByteArray.empty, .string ByteArray.empty], .int .i64 0], []⟩ 8 (by kernel_rfl) (by kernel_rfl) (by kernel_rfl) (by kernel_rfl)) ?_
  intro W base args ds gs before hval0 hW hcnd hsz0 _
  have hval : ∀ (j : Nat) t v, Try.f9.params[j]? = some t → args[j]? = some v → Value.okWide Try.prog W .any base t v := hval0
  have hW' := hW
  obtain ⟨p, q, hA0, hV, rfl, hfz, hnd⟩ := hW
  have hA : DataW.TrodAll enc Try.prog W 0 (fun _ => true) true Try.f9.params.toList args.toList ds p := hA0
  rw [Try.params9] at hA hval
  obtain ⟨v0, vs0, d0, ds0, p0, q0, hargs, rfl, rfl, h0, r0⟩ := trodAll_cons hA
  obtain ⟨v1, vs1, d1, ds1, p1, q1, rfl, rfl, rfl, h1, r1⟩ := trodAll_cons r0
  obtain ⟨v2, vs2, d2, ds2, p2, q2, rfl, rfl, rfl, h2, r2⟩ := trodAll_cons r1
  obtain ⟨rfl, rfl, rfl⟩ := trodAll_nil r2
  obtain rfl : args = #[v0, v1, v2] := by cases args; simp_all
  obtain ⟨rfl, rfl⟩ := trodVars_none hV
  have hk0 := h0
  obtain ⟨a0, rfl, _, _, y0⟩ := open_string Try.underlying9 (hval 0 9 v0 rfl rfl) h0
  have lt0 : ∀ x ∈ p0, x.block < W.heap.size := by obtain ⟨m, hm⟩ := hk0; exact DataW.trod_lt m _ _ _ hm
  obtain ⟨cs1, rfl⟩ := Opens.okWide_struct Try.underlying68 (hval 1 68 v1 rfl rfl)
  have hk1 := h1
  have lt1 : ∀ x ∈ p1, x.block < W.heap.size := by obtain ⟨m, hm⟩ := hk1; exact DataW.trod_lt m _ _ _ hm
  obtain ⟨fu1, hf1⟩ := h1
  obtain ⟨X1, K1, Q1⟩ := fopens_68.2 H enc W 0 (fun _ => true) true fu1 _ _ hf1
  obtain ⟨caK1_0, cbK1_0, ecK1_0, KaK1_0, KbK1_0⟩ := K1
  have eq1_0 := KaK1_0
  replace eq1_0 : _ = [Value.int .i64 (X1.1)] := eq1_0
  obtain ⟨caKbK1_0_1, cbKbK1_0_1, ecKbK1_0_1, KaKbK1_0_1, KbKbK1_0_1⟩ := KbK1_0
  have eq1_1 := KaKbK1_0_1
  replace eq1_1 : _ = [Value.string (X1.2.1)] := eq1_1
  have eq1_2 := KbKbK1_0_1
  replace eq1_2 : _ = [Value.string (X1.2.2)] := eq1_2
  obtain rfl : cs1 = #[.int .i64 (X1.1), .string (X1.2.1), .string (X1.2.2)] := by
    apply Array.toList_inj.mp
    have ez : cs1.toList = (Value.agg cs1).cells.toList := rfl
    rw [ez]
    simp only [ecK1_0, eq1_0, ecKbK1_0_1, eq1_1, eq1_2]
    rfl
  have hk2 := h2
  obtain ⟨a2, rfl, _, _, y2⟩ := open_int Try.underlying2 (hval 2 2 v2 rfl rfl) h2
  have lt2 : ∀ x ∈ p2, x.block < W.heap.size := by obtain ⟨m, hm⟩ := hk2; exact DataW.trod_lt m _ _ _ hm
  obtain ⟨k, hp⟩ := Pure.FnExactOpenSealed a0 (X1.1) (X1.2.1) (X1.2.2) a2 y0 (Q1.1) (Q1.2.1) (Q1.2.2) y2
  refine (laws_FnExactOpenSealed.calls k a0 (X1.1) (X1.2.1) (X1.2.2) a2 true W hp).mono fun e W' ⟨he, bel0⟩ => ?_
  have bel : Below W.heap.size W W' := bel0
  subst he
  exact ⟨_, rfl, _, _, _, [], _, [], hW', trodAll_mk1 (shut_bool Try.underlying4 _), (trodAll_cons_mk (Below.trod laidOut (by kernel_rfl) (of_decide_eq_true (by kernel_rfl)) hk0 bel lt0) (trodAll_cons_mk (Below.trod laidOut (by kernel_rfl) (of_decide_eq_true (by kernel_rfl)) hk1 bel lt1) (trodAll_cons_mk (Below.trod laidOut (by kernel_rfl) (of_decide_eq_true (by kernel_rfl)) hk2 bel lt2) trodAll_mk0))), rfl, bel.frame _, fun h => by cases h⟩
theorem over : Rows.fnExactOpenSealedRow.holds Try.pinned (OpenSpec.ofChange Rows.fnExactOpenSealedSpec) :=
  OpenClaim.holds_of_wide 9 Try.f9 rfl rfl rfl rfl rfl rfl rfl ⟨rfl, rfl, rfl, rfl, rfl⟩ rfl rfl rfl rfl rfl (by kernel_rfl) Try.func9 (by kernel_rfl)
    (of_decide_eq_true (by kernel_rfl)) (by unfold Func.isWrapper; first | (rw [if_pos (by decide +kernel)]; kernel_rfl) | (rw [if_neg (by decide +kernel)]; exact ⟨rfl, rfl⟩))
    (fun os started H enc _ => lifted os started H enc)
theorem proved : Rows.FnExactOpenSealedSaid := over
#print axioms proved
end Go.Proofs.Ytncghlamcbhpmaa.fnExactOpenSealed
namespace Go.Proofs.Ytncghlamcbhpmaa
/-- The row, under a short name, for the claim. -/
theorem fnExactOpenSealed_holds : Rows.FnExactOpenSealedSaid := fnExactOpenSealed.proved
end Go.Proofs.Ytncghlamcbhpmaa
