/-
  The law FnExactMatInv: for every input the call returns true, and each argument reads as it did.
-/
import Derived.Test.YtffhbpepppodeaaRows
import Derived.Test.YtffhbpepppodeaaPureFnExactMatInv
import Derived.Test.YtffhbpepppodeaaOpensFnExactMatInv
import Derived.Test.YtffhbpepppodeaaPFnExactMatInvx9
import Derived.WalkKit
import Derived.ProofKit
import Derived.OpenShut
import Derived.ShutString
import Derived.ChangeOld
import Derived.Below
import Derived.SizedLaws
namespace Go.Proofs.Ytffhbpepppodeaa.fnExactMatInv
open Go.ChangeShapes Go.WideShapes Go.ChangeAt Go.RowKit Go.Proofs.Ytffhbpepppodeaa Go.Proofs.Ytffhbpepppodeaa.Opens Go.Proofs.YtffhbpepppodeaaW.PrintWords Go.Proofs.Ytffhbpepppodeaa.PFnExactMatInv
open Go.ChangeMaps (open_string shut_string)
set_option linter.unusedVariables false
theorem own : ownKnob Try.prog.godebug = none := by kernel_rfl
theorem laidOut : laidOutB Try.prog = true := by kernel_rfl
theorem fopens_24 : Opens Try.prog (Kd.pair (Kd.int .i64) (Kd.pair (Kd.int .i64) (Kd.slice 2 (Kd.int .i64)))) 24 (fun (x : ((Int) × (Int) × (List Int))) => (((Lit.int .i64 (x.1)).wf = true) ∧ ((Lit.int .i64 (x.2.1)).wf = true) ∧ (((x.2.2).length ≤ maxLen ∧ ∀ y ∈ (x.2.2), (Lit.int .i64 y).wf = true)))) := by
  have hc : Try.prog.cellsOf 24 = Kd.sz (Kd.pair (Kd.int .i64) (Kd.pair (Kd.int .i64) (Kd.slice 2 (Kd.int .i64)))) := by kernel_rfl
  refine OpensF.struct (d := (Kd.pair (Kd.int .i64) (Kd.pair (Kd.int .i64) (Kd.slice 2 (Kd.int .i64))))) (Q := fun (x : ((Int) × (Int) × (List Int))) => (((Lit.int .i64 (x.1)).wf = true) ∧ ((Lit.int .i64 (x.2.1)).wf = true) ∧ (((x.2.2).length ≤ maxLen ∧ ∀ y ∈ (x.2.2), (Lit.int .i64 y).wf = true)))) ?_ Try.underlying24 hc
  refine OpensF.cons (Q := fun (x : (Int)) => (Lit.int .i64 (x)).wf = true) (Q' := fun (x : (Int) × (List Int)) => ((Lit.int .i64 (x.1)).wf = true) ∧ (((x.2).length ≤ maxLen ∧ ∀ y ∈ (x.2), (Lit.int .i64 y).wf = true))) ?_ ?_
  · exact (Opens.int (t := 2) Try.underlying2 (by kernel_rfl))
  refine OpensF.cons (Q := fun (x : (Int)) => (Lit.int .i64 (x)).wf = true) (Q' := fun (x : (List Int)) => (((x).length ≤ maxLen ∧ ∀ y ∈ (x), (Lit.int .i64 y).wf = true))) ?_ ?_
  · exact (Opens.int (t := 2) Try.underlying2 (by kernel_rfl))
  refine OpensF.one (Q := fun (x : (List Int)) => ((x).length ≤ maxLen ∧ ∀ y ∈ (x), (Lit.int .i64 y).wf = true)) ?_
  exact (Opens.slice (t := 22) (Opens.int (t := 2) Try.underlying2 (by kernel_rfl)) Try.underlying22 (by kernel_rfl))
set_option maxRecDepth 100000 in
theorem lifted (os : Os) (started : os.Started) (H : Type) (enc : TypeId × Value → H) :
    ReturnsInHanded {} Try.checked os 4 .any (Rows.fnExactMatInvSpec.pre6 enc Try.prog Try.f4 Rows.fnExactMatInvRow.domain false) (Rows.fnExactMatInvSpec.post enc Try.prog Try.f4 false true false false) := by
  refine returnsInHanded_of_change_sized (C := Try.checked) own started (by kernel_rfl) Try.func4
    (ChangeSpec.witness6 (enc := enc) (C := Try.checked) false ⟨#[], #[.agg #[.int .i64 0, .int .i64 0, .slice none 0 0]], []⟩ 8 (by kernel_rfl) (by kernel_rfl) (by kernel_rfl) (by kernel_rfl)) ?_
  intro W base args ds gs before hval0 hW hcnd hsz0 _
  have hval : ∀ (j : Nat) t v, Try.f4.params[j]? = some t → args[j]? = some v → Value.okWide Try.prog W .any base t v := hval0
  have hW' := hW
  obtain ⟨p, q, hA0, hV, rfl, hfz, hnd⟩ := hW
  have hA : DataW.TrodAll enc Try.prog W 0 (fun _ => true) true Try.f4.params.toList args.toList ds p := hA0
  rw [Try.params4] at hA hval
  obtain ⟨v0, vs0, d0, ds0, p0, q0, hargs, rfl, rfl, h0, r0⟩ := trodAll_cons hA
  obtain ⟨rfl, rfl, rfl⟩ := trodAll_nil r0
  obtain rfl : args = #[v0] := by cases args; simp_all
  obtain ⟨rfl, rfl⟩ := trodVars_none hV
  obtain ⟨cs0, rfl⟩ := Opens.okWide_struct Try.underlying24 (hval 0 24 v0 rfl rfl)
  have hk0 := h0
  have lt0 : ∀ x ∈ p0, x.block < W.heap.size := by obtain ⟨m, hm⟩ := hk0; exact DataW.trod_lt m _ _ _ hm
  obtain ⟨fu0, hf0⟩ := h0
  obtain ⟨X0, K0, Q0⟩ := fopens_24.2 H enc W 0 (fun _ => true) true fu0 _ _ hf0
  obtain ⟨caK0_0, cbK0_0, ecK0_0, KaK0_0, KbK0_0⟩ := K0
  have eq0_0 := KaK0_0
  replace eq0_0 : _ = [Value.int .i64 (X0.1)] := eq0_0
  obtain ⟨caKbK0_0_1, cbKbK0_0_1, ecKbK0_0_1, KaKbK0_0_1, KbKbK0_0_1⟩ := KbK0_0
  have eq0_1 := KaKbK0_0_1
  replace eq0_1 : _ = [Value.int .i64 (X0.2.1)] := eq0_1
  obtain ⟨A0_2, c0_2, eq0_2, hc0_2, hr0_2⟩ := KbKbK0_0_1
  obtain rfl : cs0 = #[.int .i64 (X0.1), .int .i64 (X0.2.1), .slice A0_2 (X0.2.2).length c0_2] := by
    apply Array.toList_inj.mp
    have ez : cs0.toList = (Value.agg cs0).cells.toList := rfl
    rw [ez]
    simp only [ecK0_0, eq0_0, ecKbK0_0_1, eq0_1, eq0_2]
    rfl
  obtain ⟨k, hp⟩ := Pure.FnExactMatInv (X0.1) (X0.2.1) (X0.2.2) (Q0.1) (Q0.2.1) (Q0.2.2)
  refine (laws_FnExactMatInv.calls k (X0.1) (X0.2.1) A0_2 c0_2 (X0.2.2) true W hr0_2 hc0_2 hp).mono fun e W' ⟨he, bel0⟩ => ?_
  have bel : Below W.heap.size W W' := bel0
  subst he
  exact ⟨_, rfl, _, _, _, [], _, [], hW', trodAll_mk1 (shut_bool Try.underlying4 _), (trodAll_cons_mk (Below.trod laidOut (by kernel_rfl) (of_decide_eq_true (by kernel_rfl)) hk0 bel lt0) trodAll_mk0), rfl, bel.frame _, fun h => by cases h⟩
theorem over : Rows.fnExactMatInvRow.holds Try.pinned (OpenSpec.ofChange Rows.fnExactMatInvSpec) :=
  OpenClaim.holds_of_wide 4 Try.f4 rfl rfl rfl rfl rfl rfl rfl ⟨rfl, rfl, rfl, rfl, rfl⟩ rfl rfl rfl rfl rfl (by kernel_rfl) Try.func4 (by kernel_rfl)
    (of_decide_eq_true (by kernel_rfl)) (by unfold Func.isWrapper; first | (rw [if_pos (by decide +kernel)]; kernel_rfl) | (rw [if_neg (by decide +kernel)]; exact ⟨rfl, rfl⟩))
    (fun os started H enc _ => lifted os started H enc)
theorem proved : Rows.FnExactMatInvSaid := over
#print axioms proved
end Go.Proofs.Ytffhbpepppodeaa.fnExactMatInv
namespace Go.Proofs.Ytffhbpepppodeaa
/-- The row, under a short name, for the claim. -/
theorem fnExactMatInv_holds : Rows.FnExactMatInvSaid := fnExactMatInv.proved
end Go.Proofs.Ytffhbpepppodeaa
