/-
  GetNum: what the call does, by the cursor's own.
-/
import Derived.Test.YtncghlamcbhpmaaPFnNumbersx0
import Derived.Test.YtncghlamcbhpmaaPFnNumbersx3
namespace Go.Proofs.Ytncghlamcbhpmaa.PFnNumbers
open Go.RowKit Go.Proofs.YtncghlamcbhpmaaW.PrintWords Go.Proofs.YtncghlamcbhpmaaW.PrintLast Go.Proofs.YtncghlamcbhpmaaW.PrintMore
def impl_GetNum.f (k : Nat) (a0 : ByteArray) (a1 : Int) : Option (Bool × Int × Int) :=
  (impl_cursor_num.f k a0 a1).bind fun b => if b.2.1 = true then some (true, b.1, b.2.2.2) else some (false, 0, 0)
theorem impl_GetNum.mono : ∀ a0 a1 k, LeO (impl_GetNum.f k a0 a1) (impl_GetNum.f (k + 1) a0 a1) := by
  intro a0 a1 k
  unfold impl_GetNum.f
  exact LeO.bind (impl_cursor_num.mono a0 a1 k) (fun _ => LeO.refl _)
set_option maxHeartbeats 8000000 in
set_option maxRecDepth 100000 in
theorem impl_GetNum.calls (k : Nat) (a0 : ByteArray) (a1 : Int) (r1 : Bool) (r2 : Int) (r3 : Int) (w : World) (h : impl_GetNum.f k a0 a1 = some (r1, r2, r3)) :
    Calls Try.prog 33 #[.string a0, .int .i64 a1] w fun e w' => e = .returned (.agg #[.bool r1, .int .i64 r2, .int .i64 r3]) ∧ Below w.heap.size w w' := by
  have hu1 := Try.underlying63
  have hu2 := Try.underlying95
  obtain ⟨⟨t1, t2, t3, t4⟩, h1, h2⟩ := Option.bind_eq_some_iff.mp h
  replace h2 : (if t2 = true then some (true, t1, t4) else some (false, 0, 0)) = some (r1, r2, r3) := h2
  have A1 := Aside0.mk h1
  clear h h1
  cases t2 with
  | true =>
    simp only [if_true, Option.some.injEq, Prod.mk.injEq] at h2
    obtain ⟨rfl, rfl, rfl⟩ := h2
    go_enter Try.func33, Try.ntmps33
    go_wp2_with (first
      | ((with_reducible refine gate_dst (N := 4) rfl ?_); (try (refine gate_guard (by rfl) ?_; dsimp only)); refine box_event ?hg (N := 4) ?hd (cs := #[.bool false, .int .i64 0, .int .i64 0]) (t := 63) ?hr ?_; (case hd => rfl); (case hg => rfl); (case hr => first | (go_simp; done) | (go_simp; rfl)); intro g1 hg w1 hbox hb; have HB := Aside0.mk hb; have B1 := Aside0.mk hbox; have G1 := Aside0.mk (show w.heap.size ≤ g1 by rw [hg]; exact Nat.le_refl _); clear hb hbox hg)
      | ((with_reducible refine gate_dst (N := 11) rfl ?_); (try (refine gate_guard (by rfl) ?_; dsimp only)); refine box_event ?hg (N := 11) ?hd (cs := #[.string a0, .int .i64 a1]) (t := 95) ?hr ?_; (case hd => rfl); (case hg => rfl); (case hr => first | (go_simp; done) | (go_simp; rfl)); intro g2 hg w2 hbox hb; have N12 := Aside0.mk (show g1 ≠ g2 by rw [hg]; exact Nat.ne_of_lt (blk_lt B1.out)); have G2 := Aside0.mk (show w.heap.size ≤ g2 by rw [hg]; exact HB.out.size); have B1' := Aside0.mk (blk_below B1.out hb); have HB' := Aside0.mk (below_step HB.out hb); have HI := Aside0.mk (show IsS95 w w2 g2 a0 a1 from ⟨hbox, G2.out⟩); clear B1 HB hb hbox hg; have B1 := B1'; have HB := HB'; clear B1' HB')
      | ((with_reducible refine gate_callee (f := 68) rfl ?_); refine goesL_ (some 14) rfl rfl Try.func68 (by kernel_rfl) rfl #[.pointer (some ⟨g2, 0, none⟩)] rfl (by (try simp only [List.map_toArray, List.map_cons, List.map_nil]); first | done | rfl) ?_; (with_reducible refine (impl_cursor_num.calls k g2 a0 a1 t1 true t3 t4 w _ HI.out HB.out A1.out).mono ?_); rintro e w3 ⟨rfl, hi, hb, hk⟩; refine ⟨_, rfl, ?_⟩; have B1' := Aside0.mk ((hk.2 g1 (blk_lt B1.out) N12.out (by simp)).trans B1.out); have HI' := Aside0.mk hi; have HB' := Aside0.mk hb; clear B1 HI HB hi hb hk; have B1 := B1'; have HB := HB'; clear B1' HB'; have hc1 : w3.cell? ⟨g2, 1, none⟩ = some (.int .i64 t4) := cellS95_1 HI'.out.1; have hcz0 : w3.cell? ⟨g1, 0, none⟩ = some (.bool false) := (blk_cell B1.out 0).trans rfl; have hcz1 : w3.cell? ⟨g1, 1, none⟩ = some (.int .i64 0) := (blk_cell B1.out 1).trans rfl; have hcz2 : w3.cell? ⟨g1, 2, none⟩ = some (.int .i64 0) := (blk_cell B1.out 2).trans rfl; have hfz0 := blk_frozen B1.out 0; have hfz1 := blk_frozen B1.out 1; have hfz2 := blk_frozen B1.out 2))
    refine bodyPost_ret (results_cell_row rfl _ _ g1 63 #[.bool true, .int .i64 t1, .int .i64 t4] (0, 0) _ rfl (by refine blk_put (cs := #[.bool true, .int .i64 t1, .int .i64 0]) ?_ 2 _ rfl; refine blk_put (cs := #[.bool true, .int .i64 0, .int .i64 0]) ?_ 1 _ rfl; refine blk_put (cs := #[.bool false, .int .i64 0, .int .i64 0]) ?_ 0 _ rfl; exact B1.out) Try.underlying63 rfl (by kernel_rfl)) rfl ?_
    exact ⟨rfl, by repeat (first | (with_reducible first | exact HB.out | refine below_set ?_ G1.out) | exact HB.out)⟩
  | false =>
    simp only [Bool.false_eq_true, if_false, Option.some.injEq, Prod.mk.injEq] at h2
    obtain ⟨rfl, rfl, rfl⟩ := h2
    go_enter Try.func33, Try.ntmps33
    go_wp2_with (first
      | ((with_reducible refine gate_dst (N := 4) rfl ?_); (try (refine gate_guard (by rfl) ?_; dsimp only)); refine box_event ?hg (N := 4) ?hd (cs := #[.bool false, .int .i64 0, .int .i64 0]) (t := 63) ?hr ?_; (case hd => rfl); (case hg => rfl); (case hr => first | (go_simp; done) | (go_simp; rfl)); intro g1 hg w1 hbox hb; have HB := Aside0.mk hb; have B1 := Aside0.mk hbox; have G1 := Aside0.mk (show w.heap.size ≤ g1 by rw [hg]; exact Nat.le_refl _); clear hb hbox hg)
      | ((with_reducible refine gate_dst (N := 11) rfl ?_); (try (refine gate_guard (by rfl) ?_; dsimp only)); refine box_event ?hg (N := 11) ?hd (cs := #[.string a0, .int .i64 a1]) (t := 95) ?hr ?_; (case hd => rfl); (case hg => rfl); (case hr => first | (go_simp; done) | (go_simp; rfl)); intro g2 hg w2 hbox hb; have N12 := Aside0.mk (show g1 ≠ g2 by rw [hg]; exact Nat.ne_of_lt (blk_lt B1.out)); have G2 := Aside0.mk (show w.heap.size ≤ g2 by rw [hg]; exact HB.out.size); have B1' := Aside0.mk (blk_below B1.out hb); have HB' := Aside0.mk (below_step HB.out hb); have HI := Aside0.mk (show IsS95 w w2 g2 a0 a1 from ⟨hbox, G2.out⟩); clear B1 HB hb hbox hg; have B1 := B1'; have HB := HB'; clear B1' HB')
      | ((with_reducible refine gate_callee (f := 68) rfl ?_); refine goesL_ (some 14) rfl rfl Try.func68 (by kernel_rfl) rfl #[.pointer (some ⟨g2, 0, none⟩)] rfl (by (try simp only [List.map_toArray, List.map_cons, List.map_nil]); first | done | rfl) ?_; (with_reducible refine (impl_cursor_num.calls k g2 a0 a1 t1 false t3 t4 w _ HI.out HB.out A1.out).mono ?_); rintro e w3 ⟨rfl, hi, hb, hk⟩; refine ⟨_, rfl, ?_⟩; have B1' := Aside0.mk ((hk.2 g1 (blk_lt B1.out) N12.out (by simp)).trans B1.out); have HB' := Aside0.mk hb; clear B1 HI HB hi hb hk; have B1 := B1'; have HB := HB'; clear B1' HB'; have hcz0 : w3.cell? ⟨g1, 0, none⟩ = some (.bool false) := (blk_cell B1.out 0).trans rfl; have hcz1 : w3.cell? ⟨g1, 1, none⟩ = some (.int .i64 0) := (blk_cell B1.out 1).trans rfl; have hcz2 : w3.cell? ⟨g1, 2, none⟩ = some (.int .i64 0) := (blk_cell B1.out 2).trans rfl; have hfz0 := blk_frozen B1.out 0; have hfz1 := blk_frozen B1.out 1; have hfz2 := blk_frozen B1.out 2))
    refine bodyPost_ret (results_cell_row rfl _ _ g1 63 #[.bool false, .int .i64 0, .int .i64 0] (0, 0) _ rfl (by refine blk_put (cs := #[.bool false, .int .i64 0, .int .i64 0]) ?_ 2 _ rfl; refine blk_put (cs := #[.bool false, .int .i64 0, .int .i64 0]) ?_ 1 _ rfl; refine blk_put (cs := #[.bool false, .int .i64 0, .int .i64 0]) ?_ 0 _ rfl; exact B1.out) Try.underlying63 rfl (by kernel_rfl)) rfl ?_
    exact ⟨rfl, by repeat (first | (with_reducible first | exact HB.out | refine below_set ?_ G1.out) | exact HB.out)⟩

end Go.Proofs.Ytncghlamcbhpmaa.PFnNumbers
