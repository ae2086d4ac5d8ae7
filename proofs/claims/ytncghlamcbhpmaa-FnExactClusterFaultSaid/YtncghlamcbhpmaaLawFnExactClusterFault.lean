/-
  The law FnExactClusterFault: for every input the call returns true, and each argument reads as it did.
-/
import Derived.Test.YtncghlamcbhpmaaRows
import Derived.Test.YtncghlamcbhpmaaPureFnExactClusterFault
import Derived.Test.YtncghlamcbhpmaaOpens
import Derived.Test.YtncghlamcbhpmaaPFnExactClusterFaultx3
import Derived.WalkKit
import Derived.ProofKit
import Derived.OpenShut
import Derived.ShutString
import Derived.ChangeOld
import Derived.Below
import Derived.SizedLaws
namespace Go.Proofs.Ytncghlamcbhpmaa.fnExactClusterFault
open Go.ChangeShapes Go.WideShapes Go.ChangeAt Go.RowKit Go.Proofs.Ytncghlamcbhpmaa Go.Proofs.Ytncghlamcbhpmaa.Opens Go.Proofs.YtncghlamcbhpmaaW.PrintWords Go.Proofs.Ytncghlamcbhpmaa.PFnExactClusterFault
open Go.ChangeMaps (open_string shut_string)
set_option linter.unusedVariables false
theorem own : ownKnob Try.prog.godebug = none := by kernel_rfl
theorem laidOut : laidOutB Try.prog = true := by kernel_rfl
theorem opens_127 : Opens Try.prog k127 127 Q127 := by
  have hc : Try.prog.cellsOf 127 = Kd.sz (Kd.pair (Kd.int .i64) (Kd.int .i64)) := by kernel_rfl
  refine Opens.weaken (Opens.iso (OpensF.struct (d := (Kd.pair (Kd.int .i64) (Kd.int .i64))) (Q := fun (x : (Int) × (Int)) => ((Lit.int .i64 (x.1)).wf = true) ∧ ((Lit.int .i64 (x.2)).wf = true)) ?_ Try.underlying127 hc) (fun x : S127 => (x.f0, x.f1)) (fun a => ⟨a.1, a.2⟩) (fun a => rfl)) (fun a h => h)
  refine OpensF.cons (Q := fun (x : (Int)) => (Lit.int .i64 (x)).wf = true) (Q' := fun (x : (Int)) => ((Lit.int .i64 (x)).wf = true)) ?_ ?_
  · exact (Opens.int (t := 2) Try.underlying2 (by kernel_rfl))
  refine OpensF.one (Q := fun (x : (Int)) => (Lit.int .i64 (x)).wf = true) ?_
  exact (Opens.int (t := 2) Try.underlying2 (by kernel_rfl))
theorem fopens_47 : Opens Try.prog (Kd.pair (Kd.int .i64) (Kd.pair (Kd.int .i64) (Kd.int .i64))) 47 (fun (x : ((Int) × (Int) × (Int))) => (((Lit.int .i64 (x.1)).wf = true) ∧ ((Lit.int .i64 (x.2.1)).wf = true) ∧ ((Lit.int .i64 (x.2.2)).wf = true))) := by
  have hc : Try.prog.cellsOf 47 = Kd.sz (Kd.pair (Kd.int .i64) (Kd.pair (Kd.int .i64) (Kd.int .i64))) := by kernel_rfl
  refine OpensF.struct (d := (Kd.pair (Kd.int .i64) (Kd.pair (Kd.int .i64) (Kd.int .i64)))) (Q := fun (x : ((Int) × (Int) × (Int))) => (((Lit.int .i64 (x.1)).wf = true) ∧ ((Lit.int .i64 (x.2.1)).wf = true) ∧ ((Lit.int .i64 (x.2.2)).wf = true))) ?_ Try.underlying47 hc
  refine OpensF.cons (Q := fun (x : (Int)) => (Lit.int .i64 (x)).wf = true) (Q' := fun (x : (Int) × (Int)) => ((Lit.int .i64 (x.1)).wf = true) ∧ ((Lit.int .i64 (x.2)).wf = true)) ?_ ?_
  · exact (Opens.int (t := 2) Try.underlying2 (by kernel_rfl))
  refine OpensF.cons (Q := fun (x : (Int)) => (Lit.int .i64 (x)).wf = true) (Q' := fun (x : (Int)) => ((Lit.int .i64 (x)).wf = true)) ?_ ?_
  · exact (Opens.int (t := 2) Try.underlying2 (by kernel_rfl))
  refine OpensF.one (Q := fun (x : (Int)) => (Lit.int .i64 (x)).wf = true) ?_
  exact (Opens.int (t := 2) Try.underlying2 (by kernel_rfl))
theorem fopens_49 : Opens Try.prog (Kd.pair (Kd.slice 127 k127) (Kd.pair (Kd.pair (Kd.int .i64) (Kd.pair (Kd.int .i64) (Kd.int .i64))) (Kd.int .i64))) 49 (fun (x : ((List (S127)) × ((Int) × (Int) × (Int)) × (Int))) => ((((x.1).length ≤ maxLen ∧ ∀ y ∈ (x.1), Q127 y)) ∧ (((Lit.int .i64 (x.2.1.1)).wf = true) ∧ ((Lit.int .i64 (x.2.1.2.1)).wf = true) ∧ ((Lit.int .i64 (x.2.1.2.2)).wf = true)) ∧ ((Lit.int .i64 (x.2.2)).wf = true))) := by
  have hc : Try.prog.cellsOf 49 = Kd.sz (Kd.pair (Kd.slice 127 k127) (Kd.pair (Kd.pair (Kd.int .i64) (Kd.pair (Kd.int .i64) (Kd.int .i64))) (Kd.int .i64))) := by kernel_rfl
  refine OpensF.struct (d := (Kd.pair (Kd.slice 127 k127) (Kd.pair (Kd.pair (Kd.int .i64) (Kd.pair (Kd.int .i64) (Kd.int .i64))) (Kd.int .i64)))) (Q := fun (x : ((List (S127)) × ((Int) × (Int) × (Int)) × (Int))) => ((((x.1).length ≤ maxLen ∧ ∀ y ∈ (x.1), Q127 y)) ∧ (((Lit.int .i64 (x.2.1.1)).wf = true) ∧ ((Lit.int .i64 (x.2.1.2.1)).wf = true) ∧ ((Lit.int .i64 (x.2.1.2.2)).wf = true)) ∧ ((Lit.int .i64 (x.2.2)).wf = true))) ?_ Try.underlying49 hc
  refine OpensF.cons (Q := fun (x : (List (S127))) => ((x).length ≤ maxLen ∧ ∀ y ∈ (x), Q127 y)) (Q' := fun (x : ((Int) × (Int) × (Int)) × (Int)) => ((((Lit.int .i64 ((x.1).1)).wf = true) ∧ ((Lit.int .i64 ((x.1).2.1)).wf = true) ∧ ((Lit.int .i64 ((x.1).2.2)).wf = true))) ∧ ((Lit.int .i64 (x.2)).wf = true)) ?_ ?_
  · exact (Opens.slice (t := 45) opens_127 Try.underlying45 (by kernel_rfl))
  refine OpensF.cons (Q := fun (x : ((Int) × (Int) × (Int))) => (((Lit.int .i64 ((x).1)).wf = true) ∧ ((Lit.int .i64 ((x).2.1)).wf = true) ∧ ((Lit.int .i64 ((x).2.2)).wf = true))) (Q' := fun (x : (Int)) => ((Lit.int .i64 (x)).wf = true)) ?_ ?_
  · exact fopens_47
  refine OpensF.one (Q := fun (x : (Int)) => (Lit.int .i64 (x)).wf = true) ?_
  exact (Opens.int (t := 2) Try.underlying2 (by kernel_rfl))
set_option maxRecDepth 100000 in
theorem lifted (os : Os) (started : os.Started) (H : Type) (enc : TypeId × Value → H) :
    ReturnsInHanded {} Try.checked os 7 .any (Rows.fnExactClusterFaultSpec.pre6 enc Try.prog Try.f7 Rows.fnExactClusterFaultRow.domain false) (Rows.fnExactClusterFaultSpec.post enc Try.prog Try.f7 false true false false) := by
  refine returnsInHanded_of_change_sized (C := Try.checked) own started (by kernel_rfl) Try.func7
    (ChangeSpec.witness6 (enc := enc) (C := Try.checked) false ⟨#[], #[.agg #[.slice none 0 0, .int .i64 0, .int .i64 0, .int .i64 0, .int .i64 0]], []⟩ 8 (by kernel_rfl) (by kernel_rfl) (by kernel_rfl) (by kernel_rfl)) ?_
  intro W base args ds gs before hval0 hW hcnd hsz0 _
  have hval : ∀ (j : Nat) t v, Try.f7.params[j]? = some t → args[j]? = some v → Value.okWide Try.prog W .any base t v := hval0
  have hW' := hW
  obtain ⟨p, q, hA0, hV, rfl, hfz, hnd⟩ := hW
  have hA : DataW.TrodAll enc Try.prog W 0 (fun _ => true) true Try.f7.params.toList args.toList ds p := hA0
  rw [Try.params7] at hA hval
  obtain ⟨v0, vs0, d0, ds0, p0, q0, hargs, rfl, rfl, h0, r0⟩ := trodAll_cons hA
  obtain ⟨rfl, rfl, rfl⟩ := trodAll_nil r0
  obtain rfl : args = #[v0] := by cases args; simp_all
  obtain ⟨rfl, rfl⟩ := trodVars_none hV
  obtain ⟨cs0, rfl⟩ := Opens.okWide_struct Try.underlying49 (hval 0 49 v0 rfl rfl)
  have hk0 := h0
  have lt0 : ∀ x ∈ p0, x.block < W.heap.size := by obtain ⟨m, hm⟩ := hk0; exact DataW.trod_lt m _ _ _ hm
  obtain ⟨fu0, hf0⟩ := h0
  obtain ⟨X0, K0, Q0⟩ := fopens_49.2 H enc W 0 (fun _ => true) true fu0 _ _ hf0
  obtain ⟨caK0_0, cbK0_0, ecK0_0, KaK0_0, KbK0_0⟩ := K0
  obtain ⟨A0_0, c0_0, eq0_0, hc0_0, hr0_0⟩ := KaK0_0
  obtain ⟨caKbK0_0_1, cbKbK0_0_1, ecKbK0_0_1, KaKbK0_0_1, KbKbK0_0_1⟩ := KbK0_0
  obtain ⟨caKaKbK0_0_1_0, cbKaKbK0_0_1_0, ecKaKbK0_0_1_0, KaKaKbK0_0_1_0, KbKaKbK0_0_1_0⟩ := KaKbK0_0_1
  have eq0_1 := KaKaKbK0_0_1_0
  replace eq0_1 : _ = [Value.int .i64 (X0.2.1.1)] := eq0_1
  obtain ⟨caKbKaKbK0_0_1_0_1, cbKbKaKbK0_0_1_0_1, ecKbKaKbK0_0_1_0_1, KaKbKaKbK0_0_1_0_1, KbKbKaKbK0_0_1_0_1⟩ := KbKaKbK0_0_1_0
  have eq0_2 := KaKbKaKbK0_0_1_0_1
  replace eq0_2 : _ = [Value.int .i64 (X0.2.1.2.1)] := eq0_2
  have eq0_3 := KbKbKaKbK0_0_1_0_1
  replace eq0_3 : _ = [Value.int .i64 (X0.2.1.2.2)] := eq0_3
  have eq0_4 := KbKbK0_0_1
  replace eq0_4 : _ = [Value.int .i64 (X0.2.2)] := eq0_4
  obtain rfl : cs0 = #[.slice A0_0 (X0.1).length c0_0, .int .i64 (X0.2.1.1), .int .i64 (X0.2.1.2.1), .int .i64 (X0.2.1.2.2), .int .i64 (X0.2.2)] := by
    apply Array.toList_inj.mp
    have ez : cs0.toList = (Value.agg cs0).cells.toList := rfl
    rw [ez]
    simp only [ecK0_0, eq0_0, ecKbK0_0_1, ecKaKbK0_0_1_0, eq0_1, ecKbKaKbK0_0_1_0_1, eq0_2, eq0_3, eq0_4]
    rfl
  obtain ⟨k, hp⟩ := Pure.FnExactClusterFault _ _ _ _ _ (Q0.1) (Q0.2.1.1) (Q0.2.1.2.1) (Q0.2.1.2.2) (Q0.2.2)
  refine (laws_FnExactClusterFault.calls k A0_0 c0_0 X0.1 (X0.2.1.1) (X0.2.1.2.1) (X0.2.1.2.2) (X0.2.2) true W hr0_0 hc0_0 hp).mono fun e W' ⟨he, bel0⟩ => ?_
  have bel : Below W.heap.size W W' := bel0
  subst he
  exact ⟨_, rfl, _, _, _, [], _, [], hW', trodAll_mk1 (shut_bool Try.underlying4 _), (trodAll_cons_mk (Below.trod laidOut (by kernel_rfl) (of_decide_eq_true (by kernel_rfl)) hk0 bel lt0) trodAll_mk0), rfl, bel.frame _, fun h => by cases h⟩
theorem over : Rows.fnExactClusterFaultRow.holds Try.pinned (OpenSpec.ofChange Rows.fnExactClusterFaultSpec) :=
  OpenClaim.holds_of_wide 7 Try.f7 rfl rfl rfl rfl rfl rfl rfl ⟨rfl, rfl, rfl, rfl, rfl⟩ rfl rfl rfl rfl rfl (by kernel_rfl) Try.func7 (by kernel_rfl)
    (of_decide_eq_true (by kernel_rfl)) (by unfold Func.isWrapper; first | (rw [if_pos (by decide +kernel)]; kernel_rfl) | (rw [if_neg (by decide +kernel)]; exact ⟨rfl, rfl⟩))
    (fun os started H enc _ => lifted os started H enc)
theorem proved : Rows.FnExactClusterFaultSaid := over
#print axioms proved
end Go.Proofs.Ytncghlamcbhpmaa.fnExactClusterFault
namespace Go.Proofs.Ytncghlamcbhpmaa
/-- The row, under a short name, for the claim. -/
theorem fnExactClusterFault_holds : Rows.FnExactClusterFaultSaid := fnExactClusterFault.proved
end Go.Proofs.Ytncghlamcbhpmaa
