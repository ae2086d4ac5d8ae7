/-
  The law FnRepaired: for every input the call returns true, and each argument reads as it did.
-/
import Derived.Test.YtffhbpepppodeaaRows
import Derived.Test.YtffhbpepppodeaaPureFnRepaired
import Derived.Test.YtffhbpepppodeaaOpensFnRepaired
import Derived.Test.YtffhbpepppodeaaPFnRepairedx15
import Derived.WalkKit
import Derived.ProofKit
import Derived.OpenShut
import Derived.ShutString
import Derived.ChangeOld
import Derived.Below
import Derived.SizedLaws
namespace Go.Proofs.Ytffhbpepppodeaa.fnRepaired
open Go.ChangeShapes Go.WideShapes Go.ChangeAt Go.RowKit Go.Proofs.Ytffhbpepppodeaa Go.Proofs.Ytffhbpepppodeaa.Opens Go.Proofs.YtffhbpepppodeaaW.PrintWords Go.Proofs.Ytffhbpepppodeaa.PFnRepaired
open Go.ChangeMaps (open_string shut_string)
set_option linter.unusedVariables false
theorem own : ownKnob Try.prog.godebug = none := by kernel_rfl
theorem laidOut : laidOutB Try.prog = true := by kernel_rfl
set_option maxRecDepth 100000 in
theorem lifted (os : Os) (started : os.Started) (H : Type) (enc : TypeId × Value → H) :
    ReturnsInHanded {} Try.checked os 8 .any (Rows.fnRepairedSpec.pre6 enc Try.prog Try.f8 Rows.fnRepairedRow.domain false) (Rows.fnRepairedSpec.post enc Try.prog Try.f8 false true false false) := by
  refine returnsInHanded_of_change_sized (C := Try.checked) own started (by kernel_rfl) Try.func8
    (ChangeSpec.witness6 (enc := enc) (C := Try.checked) false ⟨#[], #[.slice none 0 0, .slice none 0 0], []⟩ 8 (by kernel_rfl) (by kernel_rfl) (by kernel_rfl) (by kernel_rfl)) ?_
  intro W base args ds gs before hval0 hW hcnd hsz0 _
  have hval : ∀ (j : Nat) t v, Try.f8.params[j]? = some t → args[j]? = some v → Value.okWide Try.prog W .any base t v := hval0
  have hW' := hW
  obtain ⟨p, q, hA0, hV, rfl, hfz, hnd⟩ := hW
  have hA : DataW.TrodAll enc Try.prog W 0 (fun _ => true) true Try.f8.params.toList args.toList ds p := hA0
  rw [Try.params8] at hA hval
  obtain ⟨v0, vs0, d0, ds0, p0, q0, hargs, rfl, rfl, h0, r0⟩ := trodAll_cons hA
  obtain ⟨v1, vs1, d1, ds1, p1, q1, rfl, rfl, rfl, h1, r1⟩ := trodAll_cons r0
  obtain ⟨rfl, rfl, rfl⟩ := trodAll_nil r1
  obtain rfl : args = #[v0, v1] := by cases args; simp_all
  obtain ⟨rfl, rfl⟩ := trodVars_none hV
  obtain ⟨b0, len0, cap0, rfl⟩ := okWide_slice Try.underlying37 (hval 0 37 v0 rfl rfl)
  have hk0 := h0
  have lt0 : ∀ x ∈ p0, x.block < W.heap.size := by obtain ⟨m, hm⟩ := hk0; exact DataW.trod_lt m _ _ _ hm
  obtain ⟨fu0, hf0⟩ := h0
  obtain ⟨X0, K0, Q0⟩ := (Opens.slice (t := 37) (Opens.int (t := 5) Try.underlying5 (by kernel_rfl)) Try.underlying37 (by kernel_rfl)).2 H enc W 0 (fun _ => true) true fu0 _ _ hf0
  obtain ⟨A0, c0, e0, hc0, hr0⟩ := K0
  have e0' : Value.slice b0 len0 cap0 = .slice A0 X0.length c0 := by simpa [Value.cells] using e0
  obtain ⟨rfl, rfl, rfl⟩ := Value.slice.inj e0'
  obtain ⟨b1, len1, cap1, rfl⟩ := okWide_slice Try.underlying37 (hval 1 37 v1 rfl rfl)
  have hk1 := h1
  have lt1 : ∀ x ∈ p1, x.block < W.heap.size := by obtain ⟨m, hm⟩ := hk1; exact DataW.trod_lt m _ _ _ hm
  obtain ⟨fu1, hf1⟩ := h1
  obtain ⟨X1, K1, Q1⟩ := (Opens.slice (t := 37) (Opens.int (t := 5) Try.underlying5 (by kernel_rfl)) Try.underlying37 (by kernel_rfl)).2 H enc W 0 (fun _ => true) true fu1 _ _ hf1
  obtain ⟨A1, c1, e1, hc1, hr1⟩ := K1
  have e1' : Value.slice b1 len1 cap1 = .slice A1 X1.length c1 := by simpa [Value.cells] using e1
  obtain ⟨rfl, rfl, rfl⟩ := Value.slice.inj e1'
  obtain ⟨k, hp⟩ := Pure.FnRepaired X0 X1 Q0 Q1
  refine (laws_FnRepaired.calls k _ _ X0 _ _ X1 true W hr0 hc0 hr1 hc1 hp).mono fun e W' ⟨he, bel0⟩ => ?_
  have bel : Below W.heap.size W W' := bel0
  subst he
  exact ⟨_, rfl, _, _, _, [], _, [], hW', trodAll_mk1 (shut_bool Try.underlying4 _), (trodAll_cons_mk (Below.trod laidOut (by kernel_rfl) (of_decide_eq_true (by kernel_rfl)) hk0 bel lt0) (trodAll_cons_mk (Below.trod laidOut (by kernel_rfl) (of_decide_eq_true (by kernel_rfl)) hk1 bel lt1) trodAll_mk0)), rfl, bel.frame _, fun h => by cases h⟩
theorem over : Rows.fnRepairedRow.holds Try.pinned (OpenSpec.ofChange Rows.fnRepairedSpec) :=
  OpenClaim.holds_of_wide 8 Try.f8 rfl rfl rfl rfl rfl rfl rfl ⟨rfl, rfl, rfl, rfl, rfl⟩ rfl rfl rfl rfl rfl (by kernel_rfl) Try.func8 (by kernel_rfl)
    (of_decide_eq_true (by kernel_rfl)) (by unfold Func.isWrapper; first | (rw [if_pos (by decide +kernel)]; kernel_rfl) | (rw [if_neg (by decide +kernel)]; exact ⟨rfl, rfl⟩))
    (fun os started H enc _ => lifted os started H enc)
theorem proved : Rows.FnRepairedSaid := over
#print axioms proved
end Go.Proofs.Ytffhbpepppodeaa.fnRepaired
namespace Go.Proofs.Ytffhbpepppodeaa
/-- The row, under a short name, for the claim. -/
theorem fnRepaired_holds : Rows.FnRepairedSaid := fnRepaired.proved
end Go.Proofs.Ytffhbpepppodeaa
