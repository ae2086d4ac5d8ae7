/-
  The law FnExactScanRecords: for every input the call returns true, and each argument reads as it did.
-/
import Derived.Test.YtncghlamcbhpmaaDoorRows
import Derived.Test.YtncghlamcbhpmaaDoorPureFnExactScanRecords
import Derived.Test.YtncghlamcbhpmaaDoorOpensFnExactScanRecords
import Derived.Test.YtncghlamcbhpmaaDoorPFnExactScanRecordsx8
import Derived.WalkKit
import Derived.ProofKit
import Derived.OpenShut
import Derived.ShutString
import Derived.ChangeOld
import Derived.Below
import Derived.SizedLaws
import Derived.ChangeSame
import Derived.ChangeVars
import Derived.JoinedOf
import Derived.RowKit
import Derived.RowKitTokens
import Derived.LaidLaws
import Derived.Stop.LaidTwo
import Derived.Stop.ErrReads
import Derived.LaidMore
import Derived.SevenTiedAt
import Derived.Test.YtncghlamcbhpmaaDoorTie
import Derived.Test.YtncghlamcbhpmaaDoorCards
namespace Go.Proofs.YtncghlamcbhpmaaDoor.fnExactScanRecords
open Go.ChangeShapes Go.WideShapes Go.ChangeAt Go.RowKit Go.Proofs.YtncghlamcbhpmaaDoor Go.Proofs.YtncghlamcbhpmaaDoor.Opens Go.Proofs.YtncghlamcbhpmaaDoorW.PrintWords Go.Proofs.YtncghlamcbhpmaaDoor.PFnExactScanRecords
open Go.ChangeMaps (open_string shut_string)
set_option linter.unusedVariables false
theorem own : ownKnob Tryd.prog.godebug = none := by kernel_rfl
theorem laidOut : laidOutB Tryd.prog = true := by kernel_rfl
theorem neg : Tryd.prog.globalNamed "loop.example/g00020/impl.errNoMark" = some 0 := by kernel_rfl
theorem big : Tryd.prog.globalNamed "loop.example/g00020/impl.errBent" = some 1 := by kernel_rfl
theorem negType : (Tryd.prog.globals[0]?).map (·.type) = some 50 := by kernel_rfl
theorem bigType : (Tryd.prog.globals[1]?).map (·.type) = some 50 := by kernel_rfl
theorem star : "*" ++ "errors.errorString" = "*errors.errorString" := by decide
theorem cellsE : Tryd.prog.cellsOf 145 = 1 := by kernel_rfl
theorem cellsS : Tryd.prog.cellsOf 9 = 1 := by kernel_rfl
theorem rowP (u : TypeId) (h : Tryd.prog.typeName? 3 u = some "*errors.errorString") : u = 121 :=
  typeName_ptr_named (nm := "errors.errorString") (by rw [star]; kernel_rfl) (by kernel_rfl) (by decide) u (by rw [star]; exact h)
abbrev laid2 : List (String × DataW Unit) := [("loop.example/g00020/impl.errNoMark", Rows.laid_loop_example_g00020_impl_errNoMark), ("loop.example/g00020/impl.errBent", Rows.laid_loop_example_g00020_impl_errBent)]
abbrev negS : ByteArray := { data := #[110, 111, 32, 109, 97, 114, 107, 32, 104, 101, 114, 101] }
abbrev bigS : ByteArray := { data := #[97, 32, 98, 101, 110, 116, 32, 114, 101, 99, 111, 114, 100] }
noncomputable def low : Nat := (World.holding Tryd.prog default ⟨#[], #[], []⟩).heap.size
/-- A world in which the two sentinels lie. -/
noncomputable def laidWorld (os : Os) : World :=
  let w0 := World.holding Tryd.prog os ⟨#[.cells #[.string negS] 145, .cells #[.string bigS] 145], #[], []⟩
  { w0 with heap := (w0.heap.modify 0 fun
      | .cells _ t frozen => .cells #[.iface 121 (.pointer (some ⟨low, 0, none⟩))] t frozen
      | o => o).modify 1 fun
      | .cells _ t frozen => .cells #[.iface 121 (.pointer (some ⟨low + 1, 0, none⟩))] t frozen
      | o => o }
theorem laidWorld_met (os : Os) (args : Array Value) : laidMet Tryd.prog laid2 ((laidWorld os).forCall (fun _ _ => 0) ⟨#[], args, []⟩).memory :=
  laidMet_of_run (ps := [.cell 0 0, .cell low 0, .cell 1 0, .cell (low + 1) 0]) 8 (by kernel_rfl) (by kernel_rfl) (by kernel_rfl)
theorem var?_below {g : Nat} {W W' : World} {n : String} {cs : Array Value} (h : Below W.heap.size W W') (hg : Tryd.prog.globalNamed n = some g) (hv : W.var? Tryd.prog n = some cs) : W'.var? Tryd.prog n = some cs := by
  unfold World.var? at hv ⊢
  rw [hg] at hv ⊢
  simp only [Option.bind_some] at hv ⊢
  have hl : g < W.heap.size := by
    rcases Nat.lt_or_ge g W.heap.size with h' | h'
    · exact h'
    · simp [Array.getElem?_eq_none h'] at hv
  rw [h.block g hl]
  exact hv
theorem vars_read {H : Type} (enc : TypeId × Value → H) {W : World} {x0 x1 : Value} (h0 : W.var? Tryd.prog "loop.example/g00020/impl.errNoMark" = some #[x0]) (h1 : W.var? Tryd.prog "loop.example/g00020/impl.errBent" = some #[x1]) (i0 : IsIface x0) (i1 : IsIface x1) (sp : Nat → Bool) :
    DataW.TrodVars enc Tryd.prog W sp ["loop.example/g00020/impl.errBent", "loop.example/g00020/impl.errNoMark"] [tok enc x1, tok enc x0] [.cell 1 0, .cell 0 0] :=
  ⟨1, 50, #[x1], 1, [], [.cell 0 0], big, bigType, h1, trod_held Tryd.underlying50 i1 0, ⟨0, 50, #[x0], 1, [], [], neg, negType, h0, trod_held Tryd.underlying50 i0 0, rfl, rfl⟩, rfl⟩
set_option maxRecDepth 100000 in
theorem lifted (os : Os) (started : os.Started) (H : Type) (enc : TypeId × Value → H) :
    ReturnsInHanded {} Tryd.checked os 6 .any (fun w args => (Rows.fnExactScanRecordsSpec.pre enc Tryd.prog Tryd.f6 [] false w args ∧ laidMet Tryd.prog laid2 w) ∧ sizedMet enc Tryd.prog Tryd.f6 (OpenSpec.ofChange Rows.fnExactScanRecordsSpec) false w args) (Rows.fnExactScanRecordsSpec.post enc Tryd.prog Tryd.f6 false true false false) := by
  refine returnsInHanded_of_change_and (C := Tryd.checked) (X := fun w _ => laidMet Tryd.prog laid2 w) (fun _ _ _ hh h => h.of_heap hh) own started (by kernel_rfl) Tryd.func6
    (ChangeSpec.witness_at (enc := enc) (C := Tryd.checked) (os := os) (X := fun w _ => laidMet Tryd.prog laid2 w) false (laidWorld os) #[.string ByteArray.empty] 8 rfl (by kernel_rfl) (by kernel_rfl) (by kernel_rfl) (by kernel_rfl) (by kernel_rfl) (laidWorld_met os _)) ?_
  intro W base args ds gs before hval0 hW _ hsz0 hL _
  have hval : ∀ (j : Nat) t v, Tryd.f6.params[j]? = some t → args[j]? = some v → Value.okWide Tryd.prog W .any base t v := hval0
  have hW' := hW
  obtain ⟨p, q, hA0, hV0, rfl, hfz, hnd⟩ := hW
  have hV : DataW.TrodVars enc Tryd.prog W (fun _ => true) ["loop.example/g00020/impl.errBent", "loop.example/g00020/impl.errNoMark"] gs q := hV0
  have hA : DataW.TrodAll enc Tryd.prog W 0 (fun _ => true) true Tryd.f6.params.toList args.toList ds p := hA0
  rw [Tryd.params6] at hA hval
  obtain ⟨v0, vs0, d0, ds0, p0, q0, hargs, rfl, rfl, h0, r0⟩ := trodAll_cons hA
  obtain ⟨rfl, rfl, rfl⟩ := trodAll_nil r0
  obtain rfl : args = #[v0] := by cases args; simp_all
  obtain ⟨s0, s1, z0, z1, zc0, zc1, zt0, zt1, hv0, hv1, hc0_, _, _, hc1_, _, _, hne_, hb0_, hb1_⟩ := laid_sentinels2 hL neg negType big bigType Tryd.underlying50 rowP Tryd.underlying121 Tryd.underlying145 rfl rfl Tryd.underlying9 cellsE cellsS
  obtain ⟨rfl, rfl⟩ := hV.unique (vars_read enc hv0 hv1 trivial trivial _)
  have hg0 : W.cell? ⟨0, 0, none⟩ = some (.iface 121 (.pointer (some s0))) := by simpa using World.var?_cell neg hv0 0
  have hg1 : W.cell? ⟨1, 0, none⟩ = some (.iface 121 (.pointer (some s1))) := by simpa using World.var?_cell big hv1 0
  have hk0 := h0
  obtain ⟨a0, rfl, _, _, y0⟩ := open_string Tryd.underlying9 (hval 0 9 v0 rfl rfl) h0
  have lt0 : ∀ x ∈ p0, x.block < W.heap.size := by obtain ⟨m, hm⟩ := hk0; exact DataW.trod_lt m _ _ _ hm
  obtain ⟨k, hp⟩ := Pure.FnExactScanRecords a0 y0
  refine (laws_FnExactScanRecords.calls k a0 true W s0 s1 ⟨hg0, hg1, hne_, ⟨_, _, hb0_⟩, ⟨_, _, hb1_⟩⟩ hp).mono fun e W' ⟨he, bel0⟩ => ?_
  have bel : Below W.heap.size W W' := bel0
  subst he
  exact ⟨_, rfl, _, _, _, [], _, [.cell 1 0, .cell 0 0], hW', trodAll_mk1 (shut_bool Tryd.underlying4 _), (trodAll_cons_mk (Below.trod laidOut (by kernel_rfl) (of_decide_eq_true (by kernel_rfl)) hk0 bel lt0) trodAll_mk0), vars_read enc (var?_below bel neg hv0) (var?_below bel big hv1) trivial trivial _, bel.frame _, fun h => by cases h⟩
theorem over : Rows.fnExactScanRecordsRow.holds Tryd.pinned (OpenSpec.ofChange Rows.fnExactScanRecordsSpec) :=
  OpenClaim.holds_of_wide 6 Tryd.f6 rfl rfl rfl rfl rfl rfl rfl ⟨rfl, rfl, rfl, rfl, rfl⟩ rfl rfl rfl rfl rfl (by kernel_rfl) Tryd.func6 (by kernel_rfl)
    (of_decide_eq_true (by kernel_rfl)) (by unfold Func.isWrapper; first | (rw [if_pos (by decide +kernel)]; kernel_rfl) | (rw [if_neg (by decide +kernel)]; exact ⟨rfl, rfl⟩))
    (fun os started H enc _ => lifted os started H enc)
theorem proved : Rows.FnExactScanRecordsCardSaid :=
  Claim7.holds_tied_plain_at .later [] [.sentinel, .sentinel] true (true, "5110ed88dabb4dd1f6aa5e8b7377b98a2019516abe8c3ea8d9da48197dedd6a7") true
    over (fun _ h => by cases h) (by kernel_rfl) (fun _ h => by cases h) fnExactScanRecords_row_tie rfl ⟨rfl, rfl⟩ (by kernel_rfl) rfl
    (fun f fn hf hfn => by
      obtain rfl : f = 6 := Option.some.inj ((show Tryd.prog.funcNamed "loop.example/g00020/laws.FnExactScanRecords" = some 6 by kernel_rfl).symm.trans hf) |>.symm
      obtain rfl : fn = Tryd.f6 := (Option.some.inj (Tryd.func6.symm.trans hfn)).symm
      exact ⟨by kernel_rfl, fun j t ht => by
        rw [Tryd.params6] at ht
        have hall : ∀ t ∈ (Tryd.f6).params.toList, Tryd.prog.wantsStandIn t = false := by
          rw [Tryd.params6]; simp only [List.mem_cons, List.not_mem_nil, or_false]; intro t ht; rcases ht with rfl <;> kernel_rfl
        refine hall t ?_
        rw [Tryd.params6]
        exact List.mem_of_getElem? (by simpa using ht)⟩)
    (by kernel_rfl)
#print axioms proved
end Go.Proofs.YtncghlamcbhpmaaDoor.fnExactScanRecords
namespace Go.Proofs.YtncghlamcbhpmaaDoor
/-- The card, under a short name, for the claim. -/
theorem fnExactScanRecords_holds : Rows.FnExactScanRecordsCardSaid := fnExactScanRecords.proved
end Go.Proofs.YtncghlamcbhpmaaDoor
