/-
  The law FnExactMoveCount: for every input the call returns true, and each argument reads as it did.
-/
import Derived.Test.YtmkeepildbkmeaaRows
import Derived.Test.YtmkeepildbkmeaaPureFnExactMoveCount
import Derived.Test.YtmkeepildbkmeaaOpensFnExactMoveCount
import Derived.Test.YtmkeepildbkmeaaPFnExactMoveCountx10
import Derived.WalkKit
import Derived.ProofKit
import Derived.OpenShut
import Derived.ShutString
import Derived.ChangeOld
import Derived.Below
import Derived.SizedLaws
namespace Go.Proofs.Ytmkeepildbkmeaa.fnExactMoveCount
open Go.ChangeShapes Go.WideShapes Go.ChangeAt Go.RowKit Go.Proofs.Ytmkeepildbkmeaa Go.Proofs.Ytmkeepildbkmeaa.Opens Go.Proofs.YtmkeepildbkmeaaW.PrintWords Go.Proofs.Ytmkeepildbkmeaa.PFnExactMoveCount
open Go.ChangeMaps (open_string shut_string)
set_option linter.unusedVariables false
theorem own : ownKnob Try.prog.godebug = none := by kernel_rfl
theorem laidOut : laidOutB Try.prog = true := by kernel_rfl
theorem opens_107 : Opens Try.prog k107 107 Q107 := by
  have hc : Try.prog.cellsOf 107 = Kd.sz (Kd.pair (Kd.int .i64) (Kd.int .i64)) := by kernel_rfl
  refine Opens.weaken (Opens.iso (OpensF.struct (d := (Kd.pair (Kd.int .i64) (Kd.int .i64))) (Q := fun (x : (Int) × (Int)) => ((Lit.int .i64 (x.1)).wf = true) ∧ ((Lit.int .i64 (x.2)).wf = true)) ?_ Try.underlying107 hc) (fun x : S107 => (x.f0, x.f1)) (fun a => ⟨a.1, a.2⟩) (fun a => rfl)) (fun a h => h)
  refine OpensF.cons (Q := fun (x : (Int)) => (Lit.int .i64 (x)).wf = true) (Q' := fun (x : (Int)) => ((Lit.int .i64 (x)).wf = true)) ?_ ?_
  · exact (Opens.int (t := 2) Try.underlying2 (by kernel_rfl))
  refine OpensF.one (Q := fun (x : (Int)) => (Lit.int .i64 (x)).wf = true) ?_
  exact (Opens.int (t := 2) Try.underlying2 (by kernel_rfl))
set_option maxRecDepth 100000 in
theorem lifted (os : Os) (started : os.Started) (H : Type) (enc : TypeId × Value → H) :
    ReturnsInHanded {} Try.checked os 5 .any (Rows.fnExactMoveCountSpec.pre6 enc Try.prog Try.f5 Rows.fnExactMoveCountRow.domain false) (Rows.fnExactMoveCountSpec.post enc Try.prog Try.f5 false true false false) := by
  refine returnsInHanded_of_change_sized (C := Try.checked) own started (by kernel_rfl) Try.func5
    (ChangeSpec.witness6 (enc := enc) (C := Try.checked) false ⟨#[], #[.slice none 0 0, .slice none 0 0, .slice none 0 0, .int .i64 0], []⟩ 8 (by kernel_rfl) (by kernel_rfl) (by kernel_rfl) (by kernel_rfl)) ?_
  intro W base args ds gs before hval0 hW hcnd hsz0 _
  have hval : ∀ (j : Nat) t v, Try.f5.params[j]? = some t → args[j]? = some v → Value.okWide Try.prog W .any base t v := hval0
  have hW' := hW
  obtain ⟨p, q, hA0, hV, rfl, hfz, hnd⟩ := hW
  have hA : DataW.TrodAll enc Try.prog W 0 (fun _ => true) true Try.f5.params.toList args.toList ds p := hA0
  rw [Try.params5] at hA hval
  obtain ⟨v0, vs0, d0, ds0, p0, q0, hargs, rfl, rfl, h0, r0⟩ := trodAll_cons hA
  obtain ⟨v1, vs1, d1, ds1, p1, q1, rfl, rfl, rfl, h1, r1⟩ := trodAll_cons r0
  obtain ⟨v2, vs2, d2, ds2, p2, q2, rfl, rfl, rfl, h2, r2⟩ := trodAll_cons r1
  obtain ⟨v3, vs3, d3, ds3, p3, q3, rfl, rfl, rfl, h3, r3⟩ := trodAll_cons r2
  obtain ⟨rfl, rfl, rfl⟩ := trodAll_nil r3
  obtain rfl : args = #[v0, v1, v2, v3] := by cases args; simp_all
  obtain ⟨rfl, rfl⟩ := trodVars_none hV
  obtain ⟨b0, len0, cap0, rfl⟩ := okWide_slice Try.underlying35 (hval 0 35 v0 rfl rfl)
  have hk0 := h0
  have lt0 : ∀ x ∈ p0, x.block < W.heap.size := by obtain ⟨m, hm⟩ := hk0; exact DataW.trod_lt m _ _ _ hm
  obtain ⟨fu0, hf0⟩ := h0
  obtain ⟨X0, K0, Q0⟩ := (Opens.slice (t := 35) opens_107 Try.underlying35 (by kernel_rfl)).2 H enc W 0 (fun _ => true) true fu0 _ _ hf0
  obtain ⟨A0, c0, e0, hc0, hr0⟩ := K0
  have e0' : Value.slice b0 len0 cap0 = .slice A0 X0.length c0 := by simpa [Value.cells] using e0
  obtain ⟨rfl, rfl, rfl⟩ := Value.slice.inj e0'
  obtain ⟨b1, len1, cap1, rfl⟩ := okWide_slice Try.underlying35 (hval 1 35 v1 rfl rfl)
  have hk1 := h1
  have lt1 : ∀ x ∈ p1, x.block < W.heap.size := by obtain ⟨m, hm⟩ := hk1; exact DataW.trod_lt m _ _ _ hm
  obtain ⟨fu1, hf1⟩ := h1
  obtain ⟨X1, K1, Q1⟩ := (Opens.slice (t := 35) opens_107 Try.underlying35 (by kernel_rfl)).2 H enc W 0 (fun _ => true) true fu1 _ _ hf1
  obtain ⟨A1, c1, e1, hc1, hr1⟩ := K1
  have e1' : Value.slice b1 len1 cap1 = .slice A1 X1.length c1 := by simpa [Value.cells] using e1
  obtain ⟨rfl, rfl, rfl⟩ := Value.slice.inj e1'
  obtain ⟨b2, len2, cap2, rfl⟩ := okWide_slice Try.underlying43 (hval 2 43 v2 rfl rfl)
  have hk2 := h2
  have lt2 : ∀ x ∈ p2, x.block < W.heap.size := by obtain ⟨m, hm⟩ := hk2; exact DataW.trod_lt m _ _ _ hm
  obtain ⟨fu2, hf2⟩ := h2
  obtain ⟨X2, K2, Q2⟩ := (Opens.slice (t := 43) (Opens.string (t := 9) Try.underlying9 (by kernel_rfl)) Try.underlying43 (by kernel_rfl)).2 H enc W 0 (fun _ => true) true fu2 _ _ hf2
  obtain ⟨A2, c2, e2, hc2, hr2⟩ := K2
  have e2' : Value.slice b2 len2 cap2 = .slice A2 X2.length c2 := by simpa [Value.cells] using e2
  obtain ⟨rfl, rfl, rfl⟩ := Value.slice.inj e2'
  have hk3 := h3
  obtain ⟨a3, rfl, _, _, y3⟩ := open_int Try.underlying2 (hval 3 2 v3 rfl rfl) h3
  have lt3 : ∀ x ∈ p3, x.block < W.heap.size := by obtain ⟨m, hm⟩ := hk3; exact DataW.trod_lt m _ _ _ hm
  obtain ⟨k, hp⟩ := Pure.FnExactMoveCount X0 X1 X2 a3 Q0 Q1 Q2 y3
  refine (laws_FnExactMoveCount.calls k _ _ X0 _ _ X1 _ _ X2 a3 true W hr0 hc0 hr1 hc1 hr2 hc2 hp).mono fun e W' ⟨he, bel0⟩ => ?_
  have bel : Below W.heap.size W W' := bel0
  subst he
  exact ⟨_, rfl, _, _, _, [], _, [], hW', trodAll_mk1 (shut_bool Try.underlying4 _), (trodAll_cons_mk (Below.trod laidOut (by kernel_rfl) (of_decide_eq_true (by kernel_rfl)) hk0 bel lt0) (trodAll_cons_mk (Below.trod laidOut (by kernel_rfl) (of_decide_eq_true (by kernel_rfl)) hk1 bel lt1) (trodAll_cons_mk (Below.trod laidOut (by kernel_rfl) (of_decide_eq_true (by kernel_rfl)) hk2 bel lt2) (trodAll_cons_mk (Below.trod laidOut (by kernel_rfl) (of_decide_eq_true (by kernel_rfl)) hk3 bel lt3) trodAll_mk0)))), rfl, bel.frame _, fun h => by cases h⟩
theorem over : Rows.fnExactMoveCountRow.holds Try.pinned (OpenSpec.ofChange Rows.fnExactMoveCountSpec) :=
  OpenClaim.holds_of_wide 5 Try.f5 rfl rfl rfl rfl rfl rfl rfl ⟨rfl, rfl, rfl, rfl, rfl⟩ rfl rfl rfl rfl rfl (by kernel_rfl) Try.func5 (by kernel_rfl)
    (of_decide_eq_true (by kernel_rfl)) (by unfold Func.isWrapper; first | (rw [if_pos (by decide +kernel)]; kernel_rfl) | (rw [if_neg (by decide +kernel)]; exact ⟨rfl, rfl⟩))
    (fun os started H enc _ => lifted os started H enc)
theorem proved : Rows.FnExactMoveCountSaid := over
#print axioms proved
end Go.Proofs.Ytmkeepildbkmeaa.fnExactMoveCount
namespace Go.Proofs.Ytmkeepildbkmeaa
/-- The row, under a short name, for the claim. -/
theorem fnExactMoveCount_holds : Rows.FnExactMoveCountSaid := fnExactMoveCount.proved
end Go.Proofs.Ytmkeepildbkmeaa
