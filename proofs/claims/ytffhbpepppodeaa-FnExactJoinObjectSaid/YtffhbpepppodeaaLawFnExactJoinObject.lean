/-
  The law FnExactJoinObject: for every input the call returns true, and each argument reads as it did.
-/
import Derived.Test.YtffhbpepppodeaaRows
import Derived.Test.YtffhbpepppodeaaPureFnExactJoinObject
import Derived.Test.YtffhbpepppodeaaOpensFnExactJoinObject
import Derived.Test.YtffhbpepppodeaaPFnExactJoinObjectx19
import Derived.WalkKit
import Derived.ProofKit
import Derived.OpenShut
import Derived.ShutString
import Derived.ChangeOld
import Derived.Below
import Derived.SizedLaws
namespace Go.Proofs.Ytffhbpepppodeaa.fnExactJoinObject
open Go.ChangeShapes Go.WideShapes Go.ChangeAt Go.RowKit Go.Proofs.Ytffhbpepppodeaa Go.Proofs.Ytffhbpepppodeaa.Opens Go.Proofs.YtffhbpepppodeaaW.PrintWords Go.Proofs.Ytffhbpepppodeaa.PFnExactJoinObject
open Go.ChangeMaps (open_string shut_string)
set_option linter.unusedVariables false
theorem own : ownKnob Try.prog.godebug = none := by kernel_rfl
theorem laidOut : laidOutB Try.prog = true := by kernel_rfl
theorem opens_145 : Opens Try.prog k145 145 Q145 := by
  have hc : Try.prog.cellsOf 145 = Kd.sz (Kd.pair Kd.bool Kd.string) := by kernel_rfl
  refine Opens.weaken (Opens.iso (dN.struct (d := (Kd.pair Kd.bool Kd.string)) (Q := fun (x : (Bool) × (ByteArray)) => (True) ∧ ((x.2).size ≤ maxLen)) ?_ Try.underlying145 hc) (fun x : S145 => (x.f0, x.f1)) (fun a => ⟨a.1, a.2⟩) (fun a => rfl)) (fun a h => h)
  refine dN.cons (Q := fun (x : (Bool)) => True) (Q' := fun (x : (ByteArray)) => ((x).size ≤ maxLen)) ?_ ?_
  · exact (Opens.bool (t := 4) Try.underlying4 (by kernel_rfl))
  refine dN.one (Q := fun (x : (ByteArray)) => (x).size ≤ maxLen) ?_
  exact (Opens.string (t := 9) Try.underlying9 (by kernel_rfl))
theorem opens_156 : Opens Try.prog k156 156 Q156 := by
  have hc : Try.prog.cellsOf 156 = Kd.sz (Kd.slice 145 k145) := by kernel_rfl
  refine Opens.weaken (Opens.iso (dN.struct (d := (Kd.slice 145 k145)) (Q := fun (x : (List (S145))) => (((x).length ≤ maxLen ∧ ∀ y ∈ (x), Q145 y))) ?_ Try.underlying156 hc) (fun x : S156 => (x.f0)) (fun a => ⟨a⟩) (fun a => rfl)) (fun a h => h)
  refine dN.one (Q := fun (x : (List (S145))) => ((x).length ≤ maxLen ∧ ∀ y ∈ (x), Q145 y)) ?_
  exact (Opens.slice (t := 79) opens_145 Try.underlying79 (by kernel_rfl))
theorem fopens_78 : Opens Try.prog (Kd.pair (Kd.int .i64) (Kd.pair (Kd.int .i64) (Kd.int .i64))) 78 (fun (x : ((Int) × (Int) × (Int))) => (((Lit.int .i64 (x.1)).wf = true) ∧ ((Lit.int .i64 (x.2.1)).wf = true) ∧ ((Lit.int .i64 (x.2.2)).wf = true))) := by
  have hc : Try.prog.cellsOf 78 = Kd.sz (Kd.pair (Kd.int .i64) (Kd.pair (Kd.int .i64) (Kd.int .i64))) := by kernel_rfl
  refine dN.struct (d := (Kd.pair (Kd.int .i64) (Kd.pair (Kd.int .i64) (Kd.int .i64)))) (Q := fun (x : ((Int) × (Int) × (Int))) => (((Lit.int .i64 (x.1)).wf = true) ∧ ((Lit.int .i64 (x.2.1)).wf = true) ∧ ((Lit.int .i64 (x.2.2)).wf = true))) ?_ Try.underlying78 hc
  refine dN.cons (Q := fun (x : (Int)) => (Lit.int .i64 (x)).wf = true) (Q' := fun (x : (Int) × (Int)) => ((Lit.int .i64 (x.1)).wf = true) ∧ ((Lit.int .i64 (x.2)).wf = true)) ?_ ?_
  · exact (Opens.int (t := 2) Try.underlying2 (by kernel_rfl))
  refine dN.cons (Q := fun (x : (Int)) => (Lit.int .i64 (x)).wf = true) (Q' := fun (x : (Int)) => ((Lit.int .i64 (x)).wf = true)) ?_ ?_
  · exact (Opens.int (t := 2) Try.underlying2 (by kernel_rfl))
  refine dN.one (Q := fun (x : (Int)) => (Lit.int .i64 (x)).wf = true) ?_
  exact (Opens.int (t := 2) Try.underlying2 (by kernel_rfl))
set_option maxRecDepth 100000 in
theorem lifted (os : Os) (started : os.Started) (H : Type) (enc : TypeId × Value → H) :
    ReturnsInHanded {} Try.checked os 11 .any (Rows.fnExactJoinObjectSpec.pre6 enc Try.prog Try.f11 Rows.fnExactJoinObjectRow.domain false) (Rows.fnExactJoinObjectSpec.post enc Try.prog Try.f11 false true false false) := by
  refine returnsInHanded_of_change_sized (C := Try.checked) own started (by kernel_rfl) Try.func11
    (ChangeSpec.witness6 (enc := enc) (C := Try.checked) false ⟨#[], #[.agg #[.int .i64 0, .int .i64 0, .int .i64 0], .int .i64 0, .int .i64 0, .slice none 0 0], []⟩ 8 (by kernel_rfl) (by kernel_rfl) (by kernel_rfl) (by kernel_rfl)) ?_
  intro W base args ds gs before hval0 hW hcnd hsz0 _
  have hval : ∀ (j : Nat) t v, Try.f11.params[j]? = some t → args[j]? = some v → Value.okWide Try.prog W .any base t v := hval0
  have hW' := hW
  obtain ⟨p, q, hA0, hV, rfl, hfz, hnd⟩ := hW
  have hA : DataW.TrodAll enc Try.prog W 0 (fun _ => true) true Try.f11.params.toList args.toList ds p := hA0
  rw [Try.params11] at hA hval
  obtain ⟨v0, vs0, d0, ds0, p0, q0, hargs, rfl, rfl, h0, r0⟩ := trodAll_cons hA
  obtain ⟨v1, vs1, d1, ds1, p1, q1, rfl, rfl, rfl, h1, r1⟩ := trodAll_cons r0
  obtain ⟨v2, vs2, d2, ds2, p2, q2, rfl, rfl, rfl, h2, r2⟩ := trodAll_cons r1
  obtain ⟨v3, vs3, d3, ds3, p3, q3, rfl, rfl, rfl, h3, r3⟩ := trodAll_cons r2
  obtain ⟨rfl, rfl, rfl⟩ := trodAll_nil r3
  obtain rfl : args = #[v0, v1, v2, v3] := by cases args; simp_all
  obtain ⟨rfl, rfl⟩ := trodVars_none hV
  obtain ⟨cs0, rfl⟩ := Opens.okWide_struct Try.underlying78 (hval 0 78 v0 rfl rfl)
  have hk0 := h0
  have lt0 : ∀ x ∈ p0, x.block < W.heap.size := by obtain ⟨m, hm⟩ := hk0; exact DataW.trod_lt m _ _ _ hm
  obtain ⟨fu0, hf0⟩ := h0
  obtain ⟨X0, K0, Q0⟩ := fopens_78.2 H enc W 0 (fun _ => true) true fu0 _ _ hf0
  obtain ⟨caK0_0, cbK0_0, ecK0_0, KaK0_0, KbK0_0⟩ := K0
  have eq0_0 := KaK0_0
  replace eq0_0 : _ = [Value.int .i64 (X0.1)] := eq0_0
  obtain ⟨caKbK0_0_1, cbKbK0_0_1, ecKbK0_0_1, KaKbK0_0_1, KbKbK0_0_1⟩ := KbK0_0
  have eq0_1 := KaKbK0_0_1
  replace eq0_1 : _ = [Value.int .i64 (X0.2.1)] := eq0_1
  have eq0_2 := KbKbK0_0_1
  replace eq0_2 : _ = [Value.int .i64 (X0.2.2)] := eq0_2
  obtain rfl : cs0 = #[.int .i64 (X0.1), .int .i64 (X0.2.1), .int .i64 (X0.2.2)] := by
    apply Array.toList_inj.mp
    have ez : cs0.toList = (Value.agg cs0).cells.toList := rfl
    rw [ez]
    simp only [ecK0_0, eq0_0, ecKbK0_0_1, eq0_1, eq0_2]
    rfl
  have hk1 := h1
  obtain ⟨a1, rfl, _, _, y1⟩ := open_int Try.underlying2 (hval 1 2 v1 rfl rfl) h1
  have lt1 : ∀ x ∈ p1, x.block < W.heap.size := by obtain ⟨m, hm⟩ := hk1; exact DataW.trod_lt m _ _ _ hm
  have hk2 := h2
  obtain ⟨a2, rfl, _, _, y2⟩ := open_int Try.underlying2 (hval 2 2 v2 rfl rfl) h2
  have lt2 : ∀ x ∈ p2, x.block < W.heap.size := by obtain ⟨m, hm⟩ := hk2; exact DataW.trod_lt m _ _ _ hm
  obtain ⟨b3, len3, cap3, rfl⟩ := okWide_slice Try.underlying90 (hval 3 90 v3 rfl rfl)
  have hk3 := h3
  have lt3 : ∀ x ∈ p3, x.block < W.heap.size := by obtain ⟨m, hm⟩ := hk3; exact DataW.trod_lt m _ _ _ hm
  obtain ⟨fu3, hf3⟩ := h3
  obtain ⟨X3, K3, Q3⟩ := (Opens.slice (t := 90) opens_156 Try.underlying90 (by kernel_rfl)).2 H enc W 0 (fun _ => true) true fu3 _ _ hf3
  obtain ⟨A3, c3, e3, hc3, hr3⟩ := K3
  have e3' : Value.slice b3 len3 cap3 = .slice A3 X3.length c3 := by simpa [Value.cells] using e3
  obtain ⟨rfl, rfl, rfl⟩ := Value.slice.inj e3'
  obtain ⟨k, hp⟩ := Pure.FnExactJoinObject (X0.1) (X0.2.1) (X0.2.2) a1 a2 X3 (Q0.1) (Q0.2.1) (Q0.2.2) y1 y2 Q3
  refine (bJ.calls k (X0.1) (X0.2.1) (X0.2.2) a1 a2 _ _ X3 true W hr3 hc3 hp).mono fun e W' ⟨he, bel0⟩ => ?_
  have bel : Below W.heap.size W W' := bel0
  subst he
  exact ⟨_, rfl, _, _, _, [], _, [], hW', trodAll_mk1 (shut_bool Try.underlying4 _), (trodAll_cons_mk (Below.trod laidOut (by kernel_rfl) (of_decide_eq_true (by kernel_rfl)) hk0 bel lt0) (trodAll_cons_mk (Below.trod laidOut (by kernel_rfl) (of_decide_eq_true (by kernel_rfl)) hk1 bel lt1) (trodAll_cons_mk (Below.trod laidOut (by kernel_rfl) (of_decide_eq_true (by kernel_rfl)) hk2 bel lt2) (trodAll_cons_mk (Below.trod laidOut (by kernel_rfl) (of_decide_eq_true (by kernel_rfl)) hk3 bel lt3) trodAll_mk0)))), rfl, bel.frame _, fun h => by cases h⟩
theorem over : Rows.fnExactJoinObjectRow.holds Try.pinned (OpenSpec.ofChange Rows.fnExactJoinObjectSpec) :=
  OpenClaim.holds_of_wide 11 Try.f11 rfl rfl rfl rfl rfl rfl rfl ⟨rfl, rfl, rfl, rfl, rfl⟩ rfl rfl rfl rfl rfl (by kernel_rfl) Try.func11 (by kernel_rfl)
    (of_decide_eq_true (by kernel_rfl)) (by unfold Func.isWrapper; first | (rw [if_pos (by decide +kernel)]; kernel_rfl) | (rw [if_neg (by decide +kernel)]; exact ⟨rfl, rfl⟩))
    (fun os started H enc _ => lifted os started H enc)
theorem proved : Rows.FnExactJoinObjectSaid := over
#print axioms proved
end Go.Proofs.Ytffhbpepppodeaa.fnExactJoinObject
namespace Go.Proofs.Ytffhbpepppodeaa
/-- The row, under a short name, for the claim. -/
theorem fnExactJoinObject_holds : Rows.FnExactJoinObjectSaid := fnExactJoinObject.proved
end Go.Proofs.Ytffhbpepppodeaa
