/-
  The law FnExactPlaceKey: for every input the call returns true, and each argument reads as it did.
-/
import Derived.Test.YtmkeepildbkmeaaRows
import Derived.Test.YtmkeepildbkmeaaPureFnExactPlaceKey
import Derived.Test.YtmkeepildbkmeaaOpensFnExactPlaceKey
import Derived.Test.YtmkeepildbkmeaaPFnExactPlaceKeyx8
import Derived.WalkKit
import Derived.ProofKit
import Derived.OpenShut
import Derived.ShutString
import Derived.ChangeOld
import Derived.Below
import Derived.SizedLaws
namespace Go.Proofs.Ytmkeepildbkmeaa.fnExactPlaceKey
open Go.ChangeShapes Go.WideShapes Go.ChangeAt Go.RowKit Go.Proofs.Ytmkeepildbkmeaa Go.Proofs.Ytmkeepildbkmeaa.Opens Go.Proofs.YtmkeepildbkmeaaW.PrintWords Go.Proofs.Ytmkeepildbkmeaa.PFnExactPlaceKey
open Go.ChangeMaps (open_string shut_string)
set_option linter.unusedVariables false
theorem own : ownKnob Try.prog.godebug = none := by kernel_rfl
theorem laidOut : laidOutB Try.prog = true := by kernel_rfl
theorem opens_107 : Opens Try.prog k107 107 Q107 := by
  have hc : Try.prog.cellsOf 107 = Kd.sz (Kd.pair (Kd.int .i64) (Kd.int .i64)) := by kernel_rfl
  refine Opens.weaken (Opens.iso (OpensF.struct (d := (Kd.pair (Kd.int .i64) (Kd.int .i64))) (Q := fun (x : (Int) × (Int)) => ((Lit.int .i64 (x.1)).wf = true) ∧ ((Lit.int .i64 (x.2)).wf = true)) ?_ Try.underlying107 hc) (fun x : S107 => (x.f0, x.f1)) (fun a => ⟨a.1, a.2⟩) (fun a => rfl)) (fun a h => h)
  refine OpensF.cons (Q := fun (x : (Int)) => (Lit.int .i64 (x)).wf = true) (Q' := fun (x : (Int)) => ((Lit.int .i64 (x)).wf = true)) ?_ ?_
  · exact (Opens.int (t := 2) Try.underlying2 (by kernel_rfl))
  refine OpensF.one (Q := fun (x : (Int)) => (Lit.int .i64 (x)).wf = true) ?_
  exact (Opens.int (t := 2) Try.underlying2 (by kernel_rfl))
set_option maxRecDepth 100000 in
theorem lifted (os : Os) (started : os.Started) (H : Type) (enc : TypeId × Value → H) :
    ReturnsInHanded {} Try.checked os 4 .any (Rows.fnExactPlaceKeySpec.pre6 enc Try.prog Try.f4 Rows.fnExactPlaceKeyRow.domain false) (Rows.fnExactPlaceKeySpec.post enc Try.prog Try.f4 false true false false) := by
  refine returnsInHanded_of_change_sized (C := Try.checked) own started (by kernel_rfl) Try.func4
    (ChangeSpec.witness6 (enc := enc) (C := Try.checked) false ⟨#[], #[.slice none 0 0, .string ByteArray.empty, .int .i64 0], []⟩ 8 (by kernel_rfl) (by kernel_rfl) (by kernel_rfl) (by kernel_rfl)) ?_
  intro W base args ds gs before hval0 hW hcnd hsz0 _
  have hval : ∀ (j : Nat) t v, Try.f4.params[j]? = some t → args[j]? = some v → Value.okWide Try.prog W .any base t v := hval0
  have hW' := hW
  obtain ⟨p, q, hA0, hV, rfl, hfz, hnd⟩ := hW
  have hA : DataW.TrodAll enc Try.prog W 0 (fun _ => true) true Try.f4.params.toList args.toList ds p := hA0
  rw [Try.params4] at hA hval
  obtain ⟨v0, vs0, d0, ds0, p0, q0, hargs, rfl, rfl, h0, r0⟩ := trodAll_cons hA
  obtain ⟨v1, vs1, d1, ds1, p1, q1, rfl, rfl, rfl, h1, r1⟩ := trodAll_cons r0
  obtain ⟨v2, vs2, d2, ds2, p2, q2, rfl, rfl, rfl, h2, r2⟩ := trodAll_cons r1
  obtain ⟨rfl, rfl, rfl⟩ := trodAll_nil r2
  obtain rfl : args = #[v0, v1, v2] := by cases args; simp_all
  obtain ⟨rfl, rfl⟩ := trodVars_none hV
  obtain ⟨b0, len0, cap0, rfl⟩ := okWide_slice Try.underlying35 (hval 0 35 v0 rfl rfl)
  have hk0 := h0
  have lt0 : ∀ x ∈ p0, x.block < W.heap.size := by obtain ⟨m, hm⟩ := hk0; exact DataW.trod_lt m _ _ _ hm
  obtain ⟨fu0, hf0⟩ := h0
  obtain ⟨X0, K0, Q0⟩ := (Opens.slice (t := 35) opens_107 Try.underlying35 (by kernel_rfl)).2 H enc W 0 (fun _ => true) true fu0 _ _ hf0
  obtain ⟨A0, c0, e0, hc0, hr0⟩ := K0
  have e0' : Value.slice b0 len0 cap0 = .slice A0 X0.length c0 := by simpa [Value.cells] using e0
  obtain ⟨rfl, rfl, rfl⟩ := Value.slice.inj e0'
  have hk1 := h1
  obtain ⟨a1, rfl, _, _, y1⟩ := open_string Try.underlying9 (hval 1 9 v1 rfl rfl) h1
  have lt1 : ∀ x ∈ p1, x.block < W.heap.size := by obtain ⟨m, hm⟩ := hk1; exact DataW.trod_lt m _ _ _ hm
  have hk2 := h2
  obtain ⟨a2, rfl, _, _, y2⟩ := open_int Try.underlying2 (hval 2 2 v2 rfl rfl) h2
  have lt2 : ∀ x ∈ p2, x.block < W.heap.size := by obtain ⟨m, hm⟩ := hk2; exact DataW.trod_lt m _ _ _ hm
  obtain ⟨k, hp⟩ := Pure.FnExactPlaceKey X0 a1 a2 Q0 y1 y2
  refine (laws_FnExactPlaceKey.calls k _ _ X0 a1 a2 true W hr0 hc0 hp).mono fun e W' ⟨he, bel0⟩ => ?_
  have bel : Below W.heap.size W W' := bel0
  subst he
  exact ⟨_, rfl, _, _, _, [], _, [], hW', trodAll_mk1 (shut_bool Try.underlying4 _), (trodAll_cons_mk (Below.trod laidOut (by kernel_rfl) (of_decide_eq_true (by kernel_rfl)) hk0 bel lt0) (trodAll_cons_mk (Below.trod laidOut (by kernel_rfl) (of_decide_eq_true (by kernel_rfl)) hk1 bel lt1) (trodAll_cons_mk (Below.trod laidOut (by kernel_rfl) (of_decide_eq_true (by kernel_rfl)) hk2 bel lt2) trodAll_mk0))), rfl, bel.frame _, fun h => by cases h⟩
theorem over : Rows.fnExactPlaceKeyRow.holds Try.pinned (OpenSpec.ofChange Rows.fnExactPlaceKeySpec) :=
  OpenClaim.holds_of_wide 4 Try.f4 rfl rfl rfl rfl rfl rfl rfl ⟨rfl, rfl, rfl, rfl, rfl⟩ rfl rfl rfl rfl rfl (by kernel_rfl) Try.func4 (by kernel_rfl)
    (of_decide_eq_true (by kernel_rfl)) (by unfold Func.isWrapper; first | (rw [if_pos (by decide +kernel)]; kernel_rfl) | (rw [if_neg (by decide +kernel)]; exact ⟨rfl, rfl⟩))
    (fun os started H enc _ => lifted os started H enc)
theorem proved : Rows.FnExactPlaceKeySaid := over
#print axioms proved
end Go.Proofs.Ytmkeepildbkmeaa.fnExactPlaceKey
namespace Go.Proofs.Ytmkeepildbkmeaa
/-- The row, under a short name, for the claim. -/
theorem fnExactPlaceKey_holds : Rows.FnExactPlaceKeySaid := fnExactPlaceKey.proved
end Go.Proofs.Ytmkeepildbkmeaa
