-- Printed by wip/print2.py (a program of this session, over the kit's printer) out of the translation.
import Derived.Test.YtncghlamcbhpmaaPFnExactWinnerx0
import Derived.Test.YtncghlamcbhpmaaPFnExactWinnerx1
namespace Go.Proofs.Ytncghlamcbhpmaa.PFnExactWinner
open Go.RowKit Go.Proofs.YtncghlamcbhpmaaW.PrintWords Go.Proofs.YtncghlamcbhpmaaW.PrintLast Go.Proofs.YtncghlamcbhpmaaW.PrintMore
attribute [local go_sem] max2_int min2_int max_two min_two max_three min_three max_four min_four   -- for this text's walks alone
set_option linter.unusedVariables false
set_option linter.unusedSimpArgs false

/-! ### laws_FnExactWinner: function 3 -/
def laws_FnExactWinner.f (a0_0 : ByteArray) (a0_1 : Int) (a0_2 : Int) (a0_3 : Bool) (a0_4 : ByteArray) (a1_0 : ByteArray) (a1_1 : Int) (a1_2 : Int) (a1_3 : Bool) (a1_4 : ByteArray) : Option (Bool) := (laws_szSiteEntry.f a0_0 a0_1 a0_2 a0_3 a0_4 1048576).bind fun t115 => (if t115 < 0 then (some true) else ((laws_szSiteEntry.f a1_0 a1_1 a1_2 a1_3 a1_4 t115).bind fun t116 => (if t116 < 0 then (some true) else ((laws_toSiteEntry.f a0_0 a0_1 a0_2 a0_3 a0_4).bind fun bt117 => ((laws_toSiteEntry.f a1_0 a1_1 a1_2 a1_3 a1_4).bind fun bt122 => ((spec_Winner.f bt117.1 bt117.2.1 bt117.2.2.1 bt117.2.2.2.1 bt117.2.2.2.2 bt122.1 bt122.2.1 bt122.2.2.1 bt122.2.2.2.1 bt122.2.2.2.2).bind fun bt127 => ((laws_toSiteEntry.f a0_0 a0_1 a0_2 a0_3 a0_4).bind fun bt133 => ((laws_toSiteEntry.f a1_0 a1_1 a1_2 a1_3 a1_4).bind fun bt138 => ((impl_Winner.f bt133.1 bt133.2.1 bt133.2.2.1 bt133.2.2.2.1 bt133.2.2.2.2 bt138.1 bt138.2.1 bt138.2.2.1 bt138.2.2.2.1 bt138.2.2.2.2).bind fun bt143 => ((laws_eqSiteEntry.f bt143.1 bt143.2.1 bt143.2.2.1 bt143.2.2.2.1 bt143.2.2.2.2 bt127.1 bt127.2.1 bt127.2.2.1 bt127.2.2.2.1 bt127.2.2.2.2).bind fun t149 => (if t149 = true then (some true) else (some false))))))))))))
set_option maxHeartbeats 8000000 in
set_option maxRecDepth 100000 in
theorem laws_FnExactWinner.calls (a0_0 : ByteArray) (a0_1 : Int) (a0_2 : Int) (a0_3 : Bool) (a0_4 : ByteArray) (a1_0 : ByteArray) (a1_1 : Int) (a1_2 : Int) (a1_3 : Bool) (a1_4 : ByteArray) (r : Bool) (w : World) (h : laws_FnExactWinner.f a0_0 a0_1 a0_2 a0_3 a0_4 a1_0 a1_1 a1_2 a1_3 a1_4 = some r) :
    Calls Try.prog 3 #[.agg #[.string a0_0, .int .i64 a0_1, .int .i64 a0_2, .bool a0_3, .string a0_4], .agg #[.string a1_0, .int .i64 a1_1, .int .i64 a1_2, .bool a1_3, .string a1_4]] w fun e w' => e = .returned (.bool r) ∧ Below w.heap.size w w' := by
  have hu23 := Try.underlying23
  have hu25 := Try.underlying25
  have HB := Aside0.mk (Below.refl w.heap.size w)
  have H : ((laws_szSiteEntry.f a0_0 a0_1 a0_2 a0_3 a0_4 1048576).bind fun t115 => (if t115 < 0 then (some true) else ((laws_szSiteEntry.f a1_0 a1_1 a1_2 a1_3 a1_4 t115).bind fun t116 => (if t116 < 0 then (some true) else ((laws_toSiteEntry.f a0_0 a0_1 a0_2 a0_3 a0_4).bind fun bt117 => ((laws_toSiteEntry.f a1_0 a1_1 a1_2 a1_3 a1_4).bind fun bt122 => ((spec_Winner.f bt117.1 bt117.2.1 bt117.2.2.1 bt117.2.2.2.1 bt117.2.2.2.2 bt122.1 bt122.2.1 bt122.2.2.1 bt122.2.2.2.1 bt122.2.2.2.2).bind fun bt127 => ((laws_toSiteEntry.f a0_0 a0_1 a0_2 a0_3 a0_4).bind fun bt133 => ((laws_toSiteEntry.f a1_0 a1_1 a1_2 a1_3 a1_4).bind fun bt138 => ((impl_Winner.f bt133.1 bt133.2.1 bt133.2.2.1 bt133.2.2.2.1 bt133.2.2.2.2 bt138.1 bt138.2.1 bt138.2.2.1 bt138.2.2.2.1 bt138.2.2.2.2).bind fun bt143 => ((laws_eqSiteEntry.f bt143.1 bt143.2.1 bt143.2.2.1 bt143.2.2.2.1 bt143.2.2.2.2 bt127.1 bt127.2.1 bt127.2.2.1 bt127.2.2.2.1 bt127.2.2.2.2).bind fun t149 => (if t149 = true then (some true) else (some false))))))))))))) = some r := h
  clear h
  replace H := Option.bind_eq_some_iff.mp H
  obtain ⟨t115, A30, H⟩ := H
  replace H : (if t115 < 0 then (some true) else ((laws_szSiteEntry.f a1_0 a1_1 a1_2 a1_3 a1_4 t115).bind fun t116 => (if t116 < 0 then (some true) else ((laws_toSiteEntry.f a0_0 a0_1 a0_2 a0_3 a0_4).bind fun bt117 => ((laws_toSiteEntry.f a1_0 a1_1 a1_2 a1_3 a1_4).bind fun bt122 => ((spec_Winner.f bt117.1 bt117.2.1 bt117.2.2.1 bt117.2.2.2.1 bt117.2.2.2.2 bt122.1 bt122.2.1 bt122.2.2.1 bt122.2.2.2.1 bt122.2.2.2.2).bind fun bt127 => ((laws_toSiteEntry.f a0_0 a0_1 a0_2 a0_3 a0_4).bind fun bt133 => ((laws_toSiteEntry.f a1_0 a1_1 a1_2 a1_3 a1_4).bind fun bt138 => ((impl_Winner.f bt133.1 bt133.2.1 bt133.2.2.1 bt133.2.2.2.1 bt133.2.2.2.2 bt138.1 bt138.2.1 bt138.2.2.1 bt138.2.2.2.1 bt138.2.2.2.2).bind fun bt143 => ((laws_eqSiteEntry.f bt143.1 bt143.2.1 bt143.2.2.1 bt143.2.2.2.1 bt143.2.2.2.2 bt127.1 bt127.2.1 bt127.2.2.1 bt127.2.2.2.1 bt127.2.2.2.2).bind fun t149 => (if t149 = true then (some true) else (some false)))))))))))) = some r := H
  have A3 := Aside0.mk A30
  clear A30
  by_cases c4 : t115 < 0
  · rw [if_pos c4] at H
    have c4b0 : decide (t115 < 0) = true := decide_eq_true c4
    clear c4
    obtain rfl := Option.some.inj H
    go_enter Try.func3, Try.ntmps3
    go_wp2_with (first | ((with_reducible refine gate_dst (N := 2) rfl ?_); refine box_event ?hg (N := 2) ?hd (cs := #[.string a0_0, .int .i64 a0_1, .int .i64 a0_2, .bool a0_3, .string a0_4]) (t := 23) ?hr ?_; (case hd => rfl); (case hg => rfl); (case hr => first | (go_simp; done) | (go_simp; rfl)); intro gb113 hg w5 hbox hb; have n0_ := Aside0.mk (below_step (by repeat (first | (with_reducible first | exact HB.out | apply below_alloc | apply pw_below_drewN | apply below_drew1) | exact HB.out)) hb); have n1_ := Aside0.mk (hbox); have n2_ := Aside0.mk ((by rw [hg]; exact (below_size (by repeat (first | (with_reducible first | exact HB.out | apply below_alloc | apply pw_below_drewN | apply below_drew1) | exact HB.out))) : w.heap.size ≤ gb113)); have n3_ := Aside0.mk ((by rw [hg]; exact (below_size (by repeat (first | (with_reducible first | exact HB.out | apply below_alloc | apply pw_below_drewN | apply below_drew1) | exact HB.out))) : w.heap.size ≤ gb113)); clear HB; have HB := n0_; have BK113 := n1_; have GW113 := n2_; have GE113 := n3_; clear n0_ n1_ n2_ n3_; clear hb hbox hg) | ((with_reducible refine gate_dst (N := 3) rfl ?_); refine box_event ?hg (N := 3) ?hd (cs := #[.string a1_0, .int .i64 a1_1, .int .i64 a1_2, .bool a1_3, .string a1_4]) (t := 23) ?hr ?_; (case hd => rfl); (case hg => rfl); (case hr => first | (go_simp; done) | (go_simp; rfl)); intro gb114 hg w6 hbox hb; have n0_ := Aside0.mk (blk_below (g := gb113) (o := .cells #[.string a0_0, .int .i64 a0_1, .int .i64 a0_2, .bool a0_3, .string a0_4] 23 (0, 0)) (by (with_reducible repeat refine blk_alloc ?_ _); exact BK113.out) hb); have n1_ := Aside0.mk (below_step (by repeat (first | (with_reducible first | exact HB.out | apply below_alloc | apply pw_below_drewN | apply below_drew1 | refine below_set ?_ GE113.out) | exact HB.out)) hb); have n2_ := Aside0.mk (hbox); have n3_ := Aside0.mk ((by rw [hg]; exact (below_size (by repeat (first | (with_reducible first | exact HB.out | apply below_alloc | apply pw_below_drewN | apply below_drew1 | refine below_set ?_ GE113.out) | exact HB.out))) : w.heap.size ≤ gb114)); have n4_ := Aside0.mk ((by rw [hg]; exact (below_size (by repeat (first | (with_reducible first | exact HB.out | apply below_alloc | apply pw_below_drewN | apply below_drew1 | refine below_set ?_ GE113.out) | exact HB.out))) : w.heap.size ≤ gb114)); have n5_ := Aside0.mk ((by rw [hg]; exact Nat.ne_of_lt (blk_lt (g := gb113) (o := .cells #[.string a0_0, .int .i64 a0_1, .int .i64 a0_2, .bool a0_3, .string a0_4] 23 (0, 0)) (by (with_reducible repeat refine blk_alloc ?_ _); exact BK113.out)) : gb113 ≠ gb114)); have n6_ := Aside0.mk ((by rw [hg]; exact Nat.ne_of_gt (blk_lt (g := gb113) (o := .cells #[.string a0_0, .int .i64 a0_1, .int .i64 a0_2, .bool a0_3, .string a0_4] 23 (0, 0)) (by (with_reducible repeat refine blk_alloc ?_ _); exact BK113.out)) : gb114 ≠ gb113)); clear BK113; clear HB; have BK113 := n0_; have HB := n1_; have BK114 := n2_; have GW114 := n3_; have GE114 := n4_; have NB113_114 := n5_; have NB114_113 := n6_; clear n0_ n1_ n2_ n3_ n4_ n5_ n6_; clear hb hbox hg; have hnb7 := NB113_114.out; have hnc7 := NB114_113.out; have hcz8_0 : w6.cell? ⟨gb113, 0, none⟩ = some (.string a0_0) := (blk_cell BK113.out 0).trans rfl; have hcz8_1 : w6.cell? ⟨gb113, 1, none⟩ = some (.int .i64 a0_1) := (blk_cell BK113.out 1).trans rfl; have hcz8_2 : w6.cell? ⟨gb113, 2, none⟩ = some (.int .i64 a0_2) := (blk_cell BK113.out 2).trans rfl; have hcz8_3 : w6.cell? ⟨gb113, 3, none⟩ = some (.bool a0_3) := (blk_cell BK113.out 3).trans rfl; have hcz8_4 : w6.cell? ⟨gb113, 4, none⟩ = some (.string a0_4) := (blk_cell BK113.out 4).trans rfl; have hfz8_0 := blk_frozen BK113.out 0; have hfz8_1 := blk_frozen BK113.out 1; have hfz8_2 := blk_frozen BK113.out 2; have hfz8_3 := blk_frozen BK113.out 3; have hfz8_4 := blk_frozen BK113.out 4) | ((with_reducible refine gate_callee (f := 11) rfl ?_); refine goesL_ (some 10) rfl rfl Try.func11 (by kernel_rfl) rfl #[.agg #[.string a0_0, .int .i64 a0_1, .int .i64 a0_2, .bool a0_3, .string a0_4], .int .i64 1048576] rfl (by (try simp only [List.map_toArray, List.map_cons, List.map_nil]); first | done | rfl) ?_; (with_reducible refine (laws_szSiteEntry.calls a0_0 a0_1 a0_2 a0_3 a0_4 1048576 t115 _ A3.out).mono ?_); rintro e w9 ⟨rfl, hb⟩; refine ⟨_, rfl, ?_⟩; have n0_ := Aside0.mk (blk_below (g := gb113) (o := .cells #[.string a0_0, .int .i64 a0_1, .int .i64 a0_2, .bool a0_3, .string a0_4] 23 (0, 0)) (by (with_reducible repeat refine blk_alloc ?_ _); exact BK113.out) hb); have n1_ := Aside0.mk (blk_below (g := gb114) (o := .cells #[.string a1_0, .int .i64 a1_1, .int .i64 a1_2, .bool a1_3, .string a1_4] 23 (0, 0)) (by (with_reducible repeat refine blk_alloc ?_ _); exact BK114.out) hb); have n2_ := Aside0.mk (below_step (by repeat (first | (with_reducible first | exact HB.out | apply below_alloc | apply pw_below_drewN | apply below_drew1 | refine below_set ?_ GE113.out | refine below_set ?_ GE114.out) | exact HB.out)) hb); clear BK113; clear BK114; clear HB; have BK113 := n0_; have BK114 := n1_; have HB := n2_; clear n0_ n1_ n2_; (try clear hb); (try clear hb2); (try clear hk); (try clear hi)))
    go_ret
    exact ⟨by first | rfl | (simp [errW_none, errW_some] <;> rfl) | (simp [*, errW_none, errW_some] <;> rfl), by repeat (first | (with_reducible first | exact HB.out | apply below_alloc | apply pw_below_drewN | apply below_drew1 | refine below_set ?_ GE113.out | refine below_set ?_ GE114.out) | exact HB.out)⟩
  · rw [if_neg c4] at H
    have c4b0 : decide (t115 < 0) = false := decide_eq_false c4
    clear c4
    replace H := Option.bind_eq_some_iff.mp H
    obtain ⟨t116, A100, H⟩ := H
    replace H : (if t116 < 0 then (some true) else ((laws_toSiteEntry.f a0_0 a0_1 a0_2 a0_3 a0_4).bind fun bt117 => ((laws_toSiteEntry.f a1_0 a1_1 a1_2 a1_3 a1_4).bind fun bt122 => ((spec_Winner.f bt117.1 bt117.2.1 bt117.2.2.1 bt117.2.2.2.1 bt117.2.2.2.2 bt122.1 bt122.2.1 bt122.2.2.1 bt122.2.2.2.1 bt122.2.2.2.2).bind fun bt127 => ((laws_toSiteEntry.f a0_0 a0_1 a0_2 a0_3 a0_4).bind fun bt133 => ((laws_toSiteEntry.f a1_0 a1_1 a1_2 a1_3 a1_4).bind fun bt138 => ((impl_Winner.f bt133.1 bt133.2.1 bt133.2.2.1 bt133.2.2.2.1 bt133.2.2.2.2 bt138.1 bt138.2.1 bt138.2.2.1 bt138.2.2.2.1 bt138.2.2.2.2).bind fun bt143 => ((laws_eqSiteEntry.f bt143.1 bt143.2.1 bt143.2.2.1 bt143.2.2.2.1 bt143.2.2.2.2 bt127.1 bt127.2.1 bt127.2.2.1 bt127.2.2.2.1 bt127.2.2.2.2).bind fun t149 => (if t149 = true then (some true) else (some false)))))))))) = some r := H
    have A10 := Aside0.mk A100
    clear A100
    by_cases c11 : t116 < 0
    · rw [if_pos c11] at H
      have c11b0 : decide (t116 < 0) = true := decide_eq_true c11
      clear c11
      obtain rfl := Option.some.inj H
      go_enter Try.func3, Try.ntmps3
      go_wp2_with (first | ((with_reducible refine gate_dst (N := 2) rfl ?_); refine box_event ?hg (N := 2) ?hd (cs := #[.string a0_0, .int .i64 a0_1, .int .i64 a0_2, .bool a0_3, .string a0_4]) (t := 23) ?hr ?_; (case hd => rfl); (case hg => rfl); (case hr => first | (go_simp; done) | (go_simp; rfl)); intro gb113 hg w12 hbox hb; have n0_ := Aside0.mk (below_step (by repeat (first | (with_reducible first | exact HB.out | apply below_alloc | apply pw_below_drewN | apply below_drew1) | exact HB.out)) hb); have n1_ := Aside0.mk (hbox); have n2_ := Aside0.mk ((by rw [hg]; exact (below_size (by repeat (first | (with_reducible first | exact HB.out | apply below_alloc | apply pw_below_drewN | apply below_drew1) | exact HB.out))) : w.heap.size ≤ gb113)); have n3_ := Aside0.mk ((by rw [hg]; exact (below_size (by repeat (first | (with_reducible first | exact HB.out | apply below_alloc | apply pw_below_drewN | apply below_drew1) | exact HB.out))) : w.heap.size ≤ gb113)); clear HB; have HB := n0_; have BK113 := n1_; have GW113 := n2_; have GE113 := n3_; clear n0_ n1_ n2_ n3_; clear hb hbox hg) | ((with_reducible refine gate_dst (N := 3) rfl ?_); refine box_event ?hg (N := 3) ?hd (cs := #[.string a1_0, .int .i64 a1_1, .int .i64 a1_2, .bool a1_3, .string a1_4]) (t := 23) ?hr ?_; (case hd => rfl); (case hg => rfl); (case hr => first | (go_simp; done) | (go_simp; rfl)); intro gb114 hg w13 hbox hb; have n0_ := Aside0.mk (blk_below (g := gb113) (o := .cells #[.string a0_0, .int .i64 a0_1, .int .i64 a0_2, .bool a0_3, .string a0_4] 23 (0, 0)) (by (with_reducible repeat refine blk_alloc ?_ _); exact BK113.out) hb); have n1_ := Aside0.mk (below_step (by repeat (first | (with_reducible first | exact HB.out | apply below_alloc | apply pw_below_drewN | apply below_drew1 | refine below_set ?_ GE113.out) | exact HB.out)) hb); have n2_ := Aside0.mk (hbox); have n3_ := Aside0.mk ((by rw [hg]; exact (below_size (by repeat (first | (with_reducible first | exact HB.out | apply below_alloc | apply pw_below_drewN | apply below_drew1 | refine below_set ?_ GE113.out) | exact HB.out))) : w.heap.size ≤ gb114)); have n4_ := Aside0.mk ((by rw [hg]; exact (below_size (by repeat (first | (with_reducible first | exact HB.out | apply below_alloc | apply pw_below_drewN | apply below_drew1 | refine below_set ?_ GE113.out) | exact HB.out))) : w.heap.size ≤ gb114)); have n5_ := Aside0.mk ((by rw [hg]; exact Nat.ne_of_lt (blk_lt (g := gb113) (o := .cells #[.string a0_0, .int .i64 a0_1, .int .i64 a0_2, .bool a0_3, .string a0_4] 23 (0, 0)) (by (with_reducible repeat refine blk_alloc ?_ _); exact BK113.out)) : gb113 ≠ gb114)); have n6_ := Aside0.mk ((by rw [hg]; exact Nat.ne_of_gt (blk_lt (g := gb113) (o := .cells #[.string a0_0, .int .i64 a0_1, .int .i64 a0_2, .bool a0_3, .string a0_4] 23 (0, 0)) (by (with_reducible repeat refine blk_alloc ?_ _); exact BK113.out)) : gb114 ≠ gb113)); clear BK113; clear HB; have BK113 := n0_; have HB := n1_; have BK114 := n2_; have GW114 := n3_; have GE114 := n4_; have NB113_114 := n5_; have NB114_113 := n6_; clear n0_ n1_ n2_ n3_ n4_ n5_ n6_; clear hb hbox hg; have hnb14 := NB113_114.out; have hnc14 := NB114_113.out; have hcz15_0 : w13.cell? ⟨gb113, 0, none⟩ = some (.string a0_0) := (blk_cell BK113.out 0).trans rfl; have hcz15_1 : w13.cell? ⟨gb113, 1, none⟩ = some (.int .i64 a0_1) := (blk_cell BK113.out 1).trans rfl; have hcz15_2 : w13.cell? ⟨gb113, 2, none⟩ = some (.int .i64 a0_2) := (blk_cell BK113.out 2).trans rfl; have hcz15_3 : w13.cell? ⟨gb113, 3, none⟩ = some (.bool a0_3) := (blk_cell BK113.out 3).trans rfl; have hcz15_4 : w13.cell? ⟨gb113, 4, none⟩ = some (.string a0_4) := (blk_cell BK113.out 4).trans rfl; have hfz15_0 := blk_frozen BK113.out 0; have hfz15_1 := blk_frozen BK113.out 1; have hfz15_2 := blk_frozen BK113.out 2; have hfz15_3 := blk_frozen BK113.out 3; have hfz15_4 := blk_frozen BK113.out 4) | ((with_reducible refine gate_callee (f := 11) rfl ?_); refine goesL_ (some 10) rfl rfl Try.func11 (by kernel_rfl) rfl #[.agg #[.string a0_0, .int .i64 a0_1, .int .i64 a0_2, .bool a0_3, .string a0_4], .int .i64 1048576] rfl (by (try simp only [List.map_toArray, List.map_cons, List.map_nil]); first | done | rfl) ?_; (with_reducible refine (laws_szSiteEntry.calls a0_0 a0_1 a0_2 a0_3 a0_4 1048576 t115 _ A3.out).mono ?_); rintro e w16 ⟨rfl, hb⟩; refine ⟨_, rfl, ?_⟩; have n0_ := Aside0.mk (blk_below (g := gb113) (o := .cells #[.string a0_0, .int .i64 a0_1, .int .i64 a0_2, .bool a0_3, .string a0_4] 23 (0, 0)) (by (with_reducible repeat refine blk_alloc ?_ _); exact BK113.out) hb); have n1_ := Aside0.mk (blk_below (g := gb114) (o := .cells #[.string a1_0, .int .i64 a1_1, .int .i64 a1_2, .bool a1_3, .string a1_4] 23 (0, 0)) (by (with_reducible repeat refine blk_alloc ?_ _); exact BK114.out) hb); have n2_ := Aside0.mk (below_step (by repeat (first | (with_reducible first | exact HB.out | apply below_alloc | apply pw_below_drewN | apply below_drew1 | refine below_set ?_ GE113.out | refine below_set ?_ GE114.out) | exact HB.out)) hb); clear BK113; clear BK114; clear HB; have BK113 := n0_; have BK114 := n1_; have HB := n2_; clear n0_ n1_ n2_; (try clear hb); (try clear hb2); (try clear hk); (try clear hi); have hcz17_0 : w16.cell? ⟨gb114, 0, none⟩ = some (.string a1_0) := (blk_cell BK114.out 0).trans rfl; have hcz17_1 : w16.cell? ⟨gb114, 1, none⟩ = some (.int .i64 a1_1) := (blk_cell BK114.out 1).trans rfl; have hcz17_2 : w16.cell? ⟨gb114, 2, none⟩ = some (.int .i64 a1_2) := (blk_cell BK114.out 2).trans rfl; have hcz17_3 : w16.cell? ⟨gb114, 3, none⟩ = some (.bool a1_3) := (blk_cell BK114.out 3).trans rfl; have hcz17_4 : w16.cell? ⟨gb114, 4, none⟩ = some (.string a1_4) := (blk_cell BK114.out 4).trans rfl; have hfz17_0 := blk_frozen BK114.out 0; have hfz17_1 := blk_frozen BK114.out 1; have hfz17_2 := blk_frozen BK114.out 2; have hfz17_3 := blk_frozen BK114.out 3; have hfz17_4 := blk_frozen BK114.out 4) | ((with_reducible refine gate_callee (f := 11) rfl ?_); refine goesL_ (some 15) rfl rfl Try.func11 (by kernel_rfl) rfl #[.agg #[.string a1_0, .int .i64 a1_1, .int .i64 a1_2, .bool a1_3, .string a1_4], .int .i64 t115] rfl (by (try simp only [List.map_toArray, List.map_cons, List.map_nil]); first | done | rfl) ?_; (with_reducible refine (laws_szSiteEntry.calls a1_0 a1_1 a1_2 a1_3 a1_4 t115 t116 _ A10.out).mono ?_); rintro e w18 ⟨rfl, hb⟩; refine ⟨_, rfl, ?_⟩; have n0_ := Aside0.mk (blk_below (g := gb113) (o := .cells #[.string a0_0, .int .i64 a0_1, .int .i64 a0_2, .bool a0_3, .string a0_4] 23 (0, 0)) (by (with_reducible repeat refine blk_alloc ?_ _); exact BK113.out) hb); have n1_ := Aside0.mk (blk_below (g := gb114) (o := .cells #[.string a1_0, .int .i64 a1_1, .int .i64 a1_2, .bool a1_3, .string a1_4] 23 (0, 0)) (by (with_reducible repeat refine blk_alloc ?_ _); exact BK114.out) hb); have n2_ := Aside0.mk (below_step (by repeat (first | (with_reducible first | exact HB.out | apply below_alloc | apply pw_below_drewN | apply below_drew1 | refine below_set ?_ GE113.out | refine below_set ?_ GE114.out) | exact HB.out)) hb); clear BK113; clear BK114; clear HB; have BK113 := n0_; have BK114 := n1_; have HB := n2_; clear n0_ n1_ n2_; (try clear hb); (try clear hb2); (try clear hk); (try clear hi)))
      go_ret
      exact ⟨by first | rfl | (simp [errW_none, errW_some] <;> rfl) | (simp [*, errW_none, errW_some] <;> rfl), by repeat (first | (with_reducible first | exact HB.out | apply below_alloc | apply pw_below_drewN | apply below_drew1 | refine below_set ?_ GE113.out | refine below_set ?_ GE114.out) | exact HB.out)⟩
    · rw [if_neg c11] at H
      have c11b0 : decide (t116 < 0) = false := decide_eq_false c11
      clear c11
      replace H := Option.bind_eq_some_iff.mp H
      obtain ⟨⟨t117, t118, t119, t120, t121⟩, A190, H⟩ := H
      replace H : ((laws_toSiteEntry.f a1_0 a1_1 a1_2 a1_3 a1_4).bind fun bt122 => ((spec_Winner.f t117 t118 t119 t120 t121 bt122.1 bt122.2.1 bt122.2.2.1 bt122.2.2.2.1 bt122.2.2.2.2).bind fun bt127 => ((laws_toSiteEntry.f a0_0 a0_1 a0_2 a0_3 a0_4).bind fun bt133 => ((laws_toSiteEntry.f a1_0 a1_1 a1_2 a1_3 a1_4).bind fun bt138 => ((impl_Winner.f bt133.1 bt133.2.1 bt133.2.2.1 bt133.2.2.2.1 bt133.2.2.2.2 bt138.1 bt138.2.1 bt138.2.2.1 bt138.2.2.2.1 bt138.2.2.2.2).bind fun bt143 => ((laws_eqSiteEntry.f bt143.1 bt143.2.1 bt143.2.2.1 bt143.2.2.2.1 bt143.2.2.2.2 bt127.1 bt127.2.1 bt127.2.2.1 bt127.2.2.2.1 bt127.2.2.2.2).bind fun t149 => (if t149 = true then (some true) else (some false)))))))) = some r := H
      have A19 := Aside0.mk A190
      clear A190
      replace H := Option.bind_eq_some_iff.mp H
      obtain ⟨⟨t122, t123, t124, t125, t126⟩, A200, H⟩ := H
      replace H : ((spec_Winner.f t117 t118 t119 t120 t121 t122 t123 t124 t125 t126).bind fun bt127 => ((laws_toSiteEntry.f a0_0 a0_1 a0_2 a0_3 a0_4).bind fun bt133 => ((laws_toSiteEntry.f a1_0 a1_1 a1_2 a1_3 a1_4).bind fun bt138 => ((impl_Winner.f bt133.1 bt133.2.1 bt133.2.2.1 bt133.2.2.2.1 bt133.2.2.2.2 bt138.1 bt138.2.1 bt138.2.2.1 bt138.2.2.2.1 bt138.2.2.2.2).bind fun bt143 => ((laws_eqSiteEntry.f bt143.1 bt143.2.1 bt143.2.2.1 bt143.2.2.2.1 bt143.2.2.2.2 bt127.1 bt127.2.1 bt127.2.2.1 bt127.2.2.2.1 bt127.2.2.2.2).bind fun t149 => (if t149 = true then (some true) else (some false))))))) = some r := H
      have A20 := Aside0.mk A200
      clear A200
      replace H := Option.bind_eq_some_iff.mp H
      obtain ⟨⟨t127, t128, t129, t130, t131⟩, A210, H⟩ := H
      replace H : ((laws_toSiteEntry.f a0_0 a0_1 a0_2 a0_3 a0_4).bind fun bt133 => ((laws_toSiteEntry.f a1_0 a1_1 a1_2 a1_3 a1_4).bind fun bt138 => ((impl_Winner.f bt133.1 bt133.2.1 bt133.2.2.1 bt133.2.2.2.1 bt133.2.2.2.2 bt138.1 bt138.2.1 bt138.2.2.1 bt138.2.2.2.1 bt138.2.2.2.2).bind fun bt143 => ((laws_eqSiteEntry.f bt143.1 bt143.2.1 bt143.2.2.1 bt143.2.2.2.1 bt143.2.2.2.2 t127 t128 t129 t130 t131).bind fun t149 => (if t149 = true then (some true) else (some false)))))) = some r := H
      have A21 := Aside0.mk A210
      clear A210
      replace H := Option.bind_eq_some_iff.mp H
      obtain ⟨⟨t133, t134, t135, t136, t137⟩, A220, H⟩ := H
      replace H : ((laws_toSiteEntry.f a1_0 a1_1 a1_2 a1_3 a1_4).bind fun bt138 => ((impl_Winner.f t133 t134 t135 t136 t137 bt138.1 bt138.2.1 bt138.2.2.1 bt138.2.2.2.1 bt138.2.2.2.2).bind fun bt143 => ((laws_eqSiteEntry.f bt143.1 bt143.2.1 bt143.2.2.1 bt143.2.2.2.1 bt143.2.2.2.2 t127 t128 t129 t130 t131).bind fun t149 => (if t149 = true then (some true) else (some false))))) = some r := H
      have A22 := Aside0.mk A220
      clear A220
      replace H := Option.bind_eq_some_iff.mp H
      obtain ⟨⟨t138, t139, t140, t141, t142⟩, A230, H⟩ := H
      replace H : ((impl_Winner.f t133 t134 t135 t136 t137 t138 t139 t140 t141 t142).bind fun bt143 => ((laws_eqSiteEntry.f bt143.1 bt143.2.1 bt143.2.2.1 bt143.2.2.2.1 bt143.2.2.2.2 t127 t128 t129 t130 t131).bind fun t149 => (if t149 = true then (some true) else (some false)))) = some r := H
      have A23 := Aside0.mk A230
      clear A230
      replace H := Option.bind_eq_some_iff.mp H
      obtain ⟨⟨t143, t144, t145, t146, t147⟩, A240, H⟩ := H
      replace H : ((laws_eqSiteEntry.f t143 t144 t145 t146 t147 t127 t128 t129 t130 t131).bind fun t149 => (if t149 = true then (some true) else (some false))) = some r := H
      have A24 := Aside0.mk A240
      clear A240
      replace H := Option.bind_eq_some_iff.mp H
      obtain ⟨t149, A250, H⟩ := H
      replace H : (if t149 = true then (some true) else (some false)) = some r := H
      have A25 := Aside0.mk A250
      clear A250
      by_cases c26 : t149 = true
      · subst c26
        have H1 : (some true) = some r := by rw [if_pos rfl] at H; exact H
        clear H
        have H := H1
        clear H1
        obtain rfl := Option.some.inj H
        go_enter Try.func3, Try.ntmps3
        try go_wp2_with (first | ((with_reducible refine gate_dst (N := 2) rfl ?_); refine box_event ?hg (N := 2) ?hd (cs := #[.string a0_0, .int .i64 a0_1, .int .i64 a0_2, .bool a0_3, .string a0_4]) (t := 23) ?hr ?_; (case hd => rfl); (case hg => rfl); (case hr => first | (go_simp; done) | (go_simp; rfl)); intro gb113 hg w27 hbox hb; have n0_ := Aside0.mk (below_step (by repeat (first | (with_reducible first | exact HB.out | apply below_alloc | apply pw_below_drewN | apply below_drew1) | exact HB.out)) hb); have n1_ := Aside0.mk (hbox); have n2_ := Aside0.mk ((by rw [hg]; exact (below_size (by repeat (first | (with_reducible first | exact HB.out | apply below_alloc | apply pw_below_drewN | apply below_drew1) | exact HB.out))) : w.heap.size ≤ gb113)); have n3_ := Aside0.mk ((by rw [hg]; exact (below_size (by repeat (first | (with_reducible first | exact HB.out | apply below_alloc | apply pw_below_drewN | apply below_drew1) | exact HB.out))) : w.heap.size ≤ gb113)); clear HB; have HB := n0_; have BK113 := n1_; have GW113 := n2_; have GE113 := n3_; clear n0_ n1_ n2_ n3_; clear hb hbox hg) | ((with_reducible refine gate_dst (N := 3) rfl ?_); refine box_event ?hg (N := 3) ?hd (cs := #[.string a1_0, .int .i64 a1_1, .int .i64 a1_2, .bool a1_3, .string a1_4]) (t := 23) ?hr ?_; (case hd => rfl); (case hg => rfl); (case hr => first | (go_simp; done) | (go_simp; rfl)); intro gb114 hg w28 hbox hb; have n0_ := Aside0.mk (blk_below (g := gb113) (o := .cells #[.string a0_0, .int .i64 a0_1, .int .i64 a0_2, .bool a0_3, .string a0_4] 23 (0, 0)) (by (with_reducible repeat refine blk_alloc ?_ _); exact BK113.out) hb); have n1_ := Aside0.mk (below_step (by repeat (first | (with_reducible first | exact HB.out | apply below_alloc | apply pw_below_drewN | apply below_drew1 | refine below_set ?_ GE113.out) | exact HB.out)) hb); have n2_ := Aside0.mk (hbox); have n3_ := Aside0.mk ((by rw [hg]; exact (below_size (by repeat (first | (with_reducible first | exact HB.out | apply below_alloc | apply pw_below_drewN | apply below_drew1 | refine below_set ?_ GE113.out) | exact HB.out))) : w.heap.size ≤ gb114)); have n4_ := Aside0.mk ((by rw [hg]; exact (below_size (by repeat (first | (with_reducible first | exact HB.out | apply below_alloc | apply pw_below_drewN | apply below_drew1 | refine below_set ?_ GE113.out) | exact HB.out))) : w.heap.size ≤ gb114)); have n5_ := Aside0.mk ((by rw [hg]; exact Nat.ne_of_lt (blk_lt (g := gb113) (o := .cells #[.string a0_0, .int .i64 a0_1, .int .i64 a0_2, .bool a0_3, .string a0_4] 23 (0, 0)) (by (with_reducible repeat refine blk_alloc ?_ _); exact BK113.out)) : gb113 ≠ gb114)); have n6_ := Aside0.mk ((by rw [hg]; exact Nat.ne_of_gt (blk_lt (g := gb113) (o := .cells #[.string a0_0, .int .i64 a0_1, .int .i64 a0_2, .bool a0_3, .string a0_4] 23 (0, 0)) (by (with_reducible repeat refine blk_alloc ?_ _); exact BK113.out)) : gb114 ≠ gb113)); clear BK113; clear HB; have BK113 := n0_; have HB := n1_; have BK114 := n2_; have GW114 := n3_; have GE114 := n4_; have NB113_114 := n5_; have NB114_113 := n6_; clear n0_ n1_ n2_ n3_ n4_ n5_ n6_; clear hb hbox hg; have hnb29 := NB113_114.out; have hnc29 := NB114_113.out; have hcz30_0 : w28.cell? ⟨gb113, 0, none⟩ = some (.string a0_0) := (blk_cell BK113.out 0).trans rfl; have hcz30_1 : w28.cell? ⟨gb113, 1, none⟩ = some (.int .i64 a0_1) := (blk_cell BK113.out 1).trans rfl; have hcz30_2 : w28.cell? ⟨gb113, 2, none⟩ = some (.int .i64 a0_2) := (blk_cell BK113.out 2).trans rfl; have hcz30_3 : w28.cell? ⟨gb113, 3, none⟩ = some (.bool a0_3) := (blk_cell BK113.out 3).trans rfl; have hcz30_4 : w28.cell? ⟨gb113, 4, none⟩ = some (.string a0_4) := (blk_cell BK113.out 4).trans rfl; have hfz30_0 := blk_frozen BK113.out 0; have hfz30_1 := blk_frozen BK113.out 1; have hfz30_2 := blk_frozen BK113.out 2; have hfz30_3 := blk_frozen BK113.out 3; have hfz30_4 := blk_frozen BK113.out 4) | ((with_reducible refine gate_callee (f := 11) rfl ?_); refine goesL_ (some 10) rfl rfl Try.func11 (by kernel_rfl) rfl #[.agg #[.string a0_0, .int .i64 a0_1, .int .i64 a0_2, .bool a0_3, .string a0_4], .int .i64 1048576] rfl (by (try simp only [List.map_toArray, List.map_cons, List.map_nil]); first | done | rfl) ?_; (with_reducible refine (laws_szSiteEntry.calls a0_0 a0_1 a0_2 a0_3 a0_4 1048576 t115 _ A3.out).mono ?_); rintro e w31 ⟨rfl, hb⟩; refine ⟨_, rfl, ?_⟩; have n0_ := Aside0.mk (blk_below (g := gb113) (o := .cells #[.string a0_0, .int .i64 a0_1, .int .i64 a0_2, .bool a0_3, .string a0_4] 23 (0, 0)) (by (with_reducible repeat refine blk_alloc ?_ _); exact BK113.out) hb); have n1_ := Aside0.mk (blk_below (g := gb114) (o := .cells #[.string a1_0, .int .i64 a1_1, .int .i64 a1_2, .bool a1_3, .string a1_4] 23 (0, 0)) (by (with_reducible repeat refine blk_alloc ?_ _); exact BK114.out) hb); have n2_ := Aside0.mk (below_step (by repeat (first | (with_reducible first | exact HB.out | apply below_alloc | apply pw_below_drewN | apply below_drew1 | refine below_set ?_ GE113.out | refine below_set ?_ GE114.out) | exact HB.out)) hb); clear BK113; clear BK114; clear HB; have BK113 := n0_; have BK114 := n1_; have HB := n2_; clear n0_ n1_ n2_; (try clear hb); (try clear hb2); (try clear hk); (try clear hi); have hcz32_0 : w31.cell? ⟨gb114, 0, none⟩ = some (.string a1_0) := (blk_cell BK114.out 0).trans rfl; have hcz32_1 : w31.cell? ⟨gb114, 1, none⟩ = some (.int .i64 a1_1) := (blk_cell BK114.out 1).trans rfl; have hcz32_2 : w31.cell? ⟨gb114, 2, none⟩ = some (.int .i64 a1_2) := (blk_cell BK114.out 2).trans rfl; have hcz32_3 : w31.cell? ⟨gb114, 3, none⟩ = some (.bool a1_3) := (blk_cell BK114.out 3).trans rfl; have hcz32_4 : w31.cell? ⟨gb114, 4, none⟩ = some (.string a1_4) := (blk_cell BK114.out 4).trans rfl; have hfz32_0 := blk_frozen BK114.out 0; have hfz32_1 := blk_frozen BK114.out 1; have hfz32_2 := blk_frozen BK114.out 2; have hfz32_3 := blk_frozen BK114.out 3; have hfz32_4 := blk_frozen BK114.out 4) | ((with_reducible refine gate_callee (f := 11) rfl ?_); refine goesL_ (some 15) rfl rfl Try.func11 (by kernel_rfl) rfl #[.agg #[.string a1_0, .int .i64 a1_1, .int .i64 a1_2, .bool a1_3, .string a1_4], .int .i64 t115] rfl (by (try simp only [List.map_toArray, List.map_cons, List.map_nil]); first | done | rfl) ?_; (with_reducible refine (laws_szSiteEntry.calls a1_0 a1_1 a1_2 a1_3 a1_4 t115 t116 _ A10.out).mono ?_); rintro e w33 ⟨rfl, hb⟩; refine ⟨_, rfl, ?_⟩; have n0_ := Aside0.mk (blk_below (g := gb113) (o := .cells #[.string a0_0, .int .i64 a0_1, .int .i64 a0_2, .bool a0_3, .string a0_4] 23 (0, 0)) (by (with_reducible repeat refine blk_alloc ?_ _); exact BK113.out) hb); have n1_ := Aside0.mk (blk_below (g := gb114) (o := .cells #[.string a1_0, .int .i64 a1_1, .int .i64 a1_2, .bool a1_3, .string a1_4] 23 (0, 0)) (by (with_reducible repeat refine blk_alloc ?_ _); exact BK114.out) hb); have n2_ := Aside0.mk (below_step (by repeat (first | (with_reducible first | exact HB.out | apply below_alloc | apply pw_below_drewN | apply below_drew1 | refine below_set ?_ GE113.out | refine below_set ?_ GE114.out) | exact HB.out)) hb); clear BK113; clear BK114; clear HB; have BK113 := n0_; have BK114 := n1_; have HB := n2_; clear n0_ n1_ n2_; (try clear hb); (try clear hb2); (try clear hk); (try clear hi)))
        have n0_ := Aside0.mk (blk_drew BK113.out)
        have n1_ := Aside0.mk (blk_drew BK114.out)
        have n2_ := Aside0.mk (below_drew1 HB.out)
        clear BK113
        clear BK114
        clear HB
        have BK113 := n0_
        have BK114 := n1_
        have HB := n2_
        clear n0_ n1_ n2_
        refine start_ (n := 7) (S := fun w' => w'.cell? ⟨gb113, 0, none⟩ = some (.string a0_0) ∧ w'.cell? ⟨gb113, 1, none⟩ = some (.int .i64 a0_1) ∧ w'.cell? ⟨gb113, 2, none⟩ = some (.int .i64 a0_2) ∧ w'.cell? ⟨gb113, 3, none⟩ = some (.bool a0_3) ∧ w'.cell? ⟨gb113, 4, none⟩ = some (.string a0_4) ∧ w'.cell? ⟨gb114, 0, none⟩ = some (.string a1_0) ∧ w'.cell? ⟨gb114, 1, none⟩ = some (.int .i64 a1_1) ∧ w'.cell? ⟨gb114, 2, none⟩ = some (.int .i64 a1_2) ∧ w'.cell? ⟨gb114, 3, none⟩ = some (.bool a1_3) ∧ w'.cell? ⟨gb114, 4, none⟩ = some (.string a1_4)) (ds := []) #[false, false, false, false, false, false, false] (by kernel_rfl) rfl rfl ⟨(blk_cell BK113.out 0).trans rfl, (blk_cell BK113.out 1).trans rfl, (blk_cell BK113.out 2).trans rfl, (blk_cell BK113.out 3).trans rfl, (blk_cell BK113.out 4).trans rfl, (blk_cell BK114.out 0).trans rfl, (blk_cell BK114.out 1).trans rfl, (blk_cell BK114.out 2).trans rfl, (blk_cell BK114.out 3).trans rfl, (blk_cell BK114.out 4).trans rfl⟩ (fun hHeld => ?_)
        generalize w33.drew = w34 at BK113 BK114 HB hHeld ⊢
        refine take_ (i := 0) (N := some 18) (v := ?_) (a' := ?_) #[true, false, false, false, false, false, false] rfl rfl (by kernel_rfl) (fun _ _ _ h => h) (Or.inl ⟨by rfl, ?_⟩) hHeld ?_ ?_
        rotate_left
        · rintro w' ⟨s0, s1, s2, s3, s4, s5, s6, s7, s8, s9⟩
          go_simp
          with_reducible rfl
        rotate_left
        · simp only [Act.put, List.setIfInBounds_toArray, List.set_cons_zero, List.set_cons_succ, i64_w, i32_w]
          rfl
        refine take_ (i := 2) (N := some 20) (v := ?_) (a' := ?_) #[true, false, true, false, false, false, false] rfl rfl (by kernel_rfl) (fun _ _ _ h => h) (Or.inl ⟨by rfl, ?_⟩) hHeld ?_ ?_
        rotate_left
        · rintro w' ⟨s0, s1, s2, s3, s4, s5, s6, s7, s8, s9⟩
          go_simp
          with_reducible rfl
        rotate_left
        · simp only [Act.put, List.setIfInBounds_toArray, List.set_cons_zero, List.set_cons_succ, i64_w, i32_w]
          rfl
        refine join_ (σ := Nat) 1 #[true, true, true, true, true, true, false] (fun s_ => [(19, .agg #[.string t117, .int .i64 t118, .int .i64 t119, .bool t120, .string t121]), (21, .agg #[.string t122, .int .i64 t123, .int .i64 t124, .bool t125, .string t126]), (22, .agg #[.string t127, .int .i64 t128, .int .i64 t129, .bool t130, .string t131]), (6, .pointer (some ⟨s_, 0, none⟩))]) (fun s_ w' => (w'.cell? ⟨gb113, 0, none⟩ = some (.string a0_0) ∧ w'.cell? ⟨gb113, 1, none⟩ = some (.int .i64 a0_1) ∧ w'.cell? ⟨gb113, 2, none⟩ = some (.int .i64 a0_2) ∧ w'.cell? ⟨gb113, 3, none⟩ = some (.bool a0_3) ∧ w'.cell? ⟨gb113, 4, none⟩ = some (.string a0_4) ∧ w'.cell? ⟨gb114, 0, none⟩ = some (.string a1_0) ∧ w'.cell? ⟨gb114, 1, none⟩ = some (.int .i64 a1_1) ∧ w'.cell? ⟨gb114, 2, none⟩ = some (.int .i64 a1_2) ∧ w'.cell? ⟨gb114, 3, none⟩ = some (.bool a1_3) ∧ w'.cell? ⟨gb114, 4, none⟩ = some (.string a1_4)) ∧ (w'.heap[gb113]? = some (.cells #[.string a0_0, .int .i64 a0_1, .int .i64 a0_2, .bool a0_3, .string a0_4] 23 (0, 0))) ∧ (w'.heap[gb114]? = some (.cells #[.string a1_0, .int .i64 a1_1, .int .i64 a1_2, .bool a1_3, .string a1_4] 23 (0, 0))) ∧ (w'.heap[s_]? = some (.cells #[.string (⟨#[]⟩ : ByteArray), .int .i64 0, .int .i64 0, .bool false, .string (⟨#[]⟩ : ByteArray)] 25 (0, 0))) ∧ (w.heap.size ≤ s_) ∧ (w.heap.size ≤ s_) ∧ (gb113 ≠ s_) ∧ (s_ ≠ gb113) ∧ (gb114 ≠ s_) ∧ (s_ ≠ gb114) ∧ (Below w.heap.size w w')) ?_ ?_
        rotate_left
        · intro hCont
          refine two_ (i := 1) (j := 5) (Ni := some 19) (Nj := some 6) #[true, true, true, false, false, false, false] #[true, false, true, false, false, true, false] rfl rfl rfl rfl (by kernel_rfl) (by decide) (by decide) (fun K hK => ?_) (fun K hK => ?_)
          · skip
            refine goes_ Try.func13 (by kernel_rfl) rfl #[.agg #[.string a0_0, .int .i64 a0_1, .int .i64 a0_2, .bool a0_3, .string a0_4]] (by rfl) rfl rfl (by (try simp only [List.map_toArray, List.map_cons, List.map_nil]); first | done | rfl) ?_
            with_reducible refine (laws_toSiteEntry.calls a0_0 a0_1 a0_2 a0_3 a0_4 t117 t118 t119 t120 t121 _ A19.out).mono ?_
            rintro e w35 ⟨rfl, hb⟩
            refine ⟨_, rfl, ?_⟩
            have n0_ := Aside0.mk (blk_below (g := gb113) (o := .cells #[.string a0_0, .int .i64 a0_1, .int .i64 a0_2, .bool a0_3, .string a0_4] 23 (0, 0)) (by (with_reducible repeat refine blk_alloc ?_ _); exact BK113.out) hb)
            have n1_ := Aside0.mk (blk_below (g := gb114) (o := .cells #[.string a1_0, .int .i64 a1_1, .int .i64 a1_2, .bool a1_3, .string a1_4] 23 (0, 0)) (by (with_reducible repeat refine blk_alloc ?_ _); exact BK114.out) hb)
            have n2_ := Aside0.mk (below_step (by repeat (first | (with_reducible first | exact HB.out | apply below_alloc | apply pw_below_drewN | apply below_drew1 | refine below_set ?_ GE113.out | refine below_set ?_ GE114.out) | exact HB.out)) hb)
            clear BK113
            clear BK114
            clear HB
            have BK113 := n0_
            have BK114 := n1_
            have HB := n2_
            clear n0_ n1_ n2_
            (try clear hb)
            (try clear hb2)
            (try clear hk)
            (try clear hi)
            refine hK.out _ _ ⟨(blk_cell BK113.out 0).trans rfl, (blk_cell BK113.out 1).trans rfl, (blk_cell BK113.out 2).trans rfl, (blk_cell BK113.out 3).trans rfl, (blk_cell BK113.out 4).trans rfl, (blk_cell BK114.out 0).trans rfl, (blk_cell BK114.out 1).trans rfl, (blk_cell BK114.out 2).trans rfl, (blk_cell BK114.out 3).trans rfl, (blk_cell BK114.out 4).trans rfl⟩ (fun hHeld => ?_)
            clear hK K
            refine norm_ (a' := ?_) ?_ ?_
            rotate_left
            · show Act.put _ (some 19) _ = _
              simp only [Act.put, List.setIfInBounds_toArray, List.set_cons_zero, List.set_cons_succ, i64_w, i32_w]
              rfl
            refine two_ (i := 3) (j := 5) (Ni := some 21) (Nj := some 6) #[true, true, true, true, false, false, false] #[true, true, true, false, false, true, false] rfl rfl rfl rfl (by kernel_rfl) (by decide) (by decide) (fun K hK => ?_) (fun K hK => ?_)
            · skip
              refine goes_ Try.func13 (by kernel_rfl) rfl #[.agg #[.string a1_0, .int .i64 a1_1, .int .i64 a1_2, .bool a1_3, .string a1_4]] (by rfl) rfl rfl (by (try simp only [List.map_toArray, List.map_cons, List.map_nil]); first | done | rfl) ?_
              with_reducible refine (laws_toSiteEntry.calls a1_0 a1_1 a1_2 a1_3 a1_4 t122 t123 t124 t125 t126 _ A20.out).mono ?_
              rintro e w36 ⟨rfl, hb⟩
              refine ⟨_, rfl, ?_⟩
              have n0_ := Aside0.mk (blk_below (g := gb113) (o := .cells #[.string a0_0, .int .i64 a0_1, .int .i64 a0_2, .bool a0_3, .string a0_4] 23 (0, 0)) (by (with_reducible repeat refine blk_alloc ?_ _); exact BK113.out) hb)
              have n1_ := Aside0.mk (blk_below (g := gb114) (o := .cells #[.string a1_0, .int .i64 a1_1, .int .i64 a1_2, .bool a1_3, .string a1_4] 23 (0, 0)) (by (with_reducible repeat refine blk_alloc ?_ _); exact BK114.out) hb)
              have n2_ := Aside0.mk (below_step (by repeat (first | (with_reducible first | exact HB.out | apply below_alloc | apply pw_below_drewN | apply below_drew1 | refine below_set ?_ GE113.out | refine below_set ?_ GE114.out) | exact HB.out)) hb)
              clear BK113
              clear BK114
              clear HB
              have BK113 := n0_
              have BK114 := n1_
              have HB := n2_
              clear n0_ n1_ n2_
              (try clear hb)
              (try clear hb2)
              (try clear hk)
              (try clear hi)
              refine hK.out _ _ ⟨(blk_cell BK113.out 0).trans rfl, (blk_cell BK113.out 1).trans rfl, (blk_cell BK113.out 2).trans rfl, (blk_cell BK113.out 3).trans rfl, (blk_cell BK113.out 4).trans rfl, (blk_cell BK114.out 0).trans rfl, (blk_cell BK114.out 1).trans rfl, (blk_cell BK114.out 2).trans rfl, (blk_cell BK114.out 3).trans rfl, (blk_cell BK114.out 4).trans rfl⟩ (fun hHeld => ?_)
              clear hK K
              refine norm_ (a' := ?_) ?_ ?_
              rotate_left
              · show Act.put _ (some 21) _ = _
                simp only [Act.put, List.setIfInBounds_toArray, List.set_cons_zero, List.set_cons_succ, i64_w, i32_w]
                rfl
              refine two_ (i := 4) (j := 5) (Ni := some 22) (Nj := some 6) #[true, true, true, true, true, false, false] #[true, true, true, true, false, true, false] rfl rfl rfl rfl (by kernel_rfl) (by decide) (by decide) (fun K hK => ?_) (fun K hK => ?_)
              · skip
                refine goes_ Try.func12 (by kernel_rfl) rfl #[.agg #[.string t117, .int .i64 t118, .int .i64 t119, .bool t120, .string t121], .agg #[.string t122, .int .i64 t123, .int .i64 t124, .bool t125, .string t126]] (by rfl) rfl rfl (by (try simp only [List.map_toArray, List.map_cons, List.map_nil]); first | done | rfl) ?_
                with_reducible refine (spec_Winner.calls t117 t118 t119 t120 t121 t122 t123 t124 t125 t126 t127 t128 t129 t130 t131 _ A21.out).mono ?_
                rintro e w37 ⟨rfl, hb⟩
                refine ⟨_, rfl, ?_⟩
                have n0_ := Aside0.mk (blk_below (g := gb113) (o := .cells #[.string a0_0, .int .i64 a0_1, .int .i64 a0_2, .bool a0_3, .string a0_4] 23 (0, 0)) (by (with_reducible repeat refine blk_alloc ?_ _); exact BK113.out) hb)
                have n1_ := Aside0.mk (blk_below (g := gb114) (o := .cells #[.string a1_0, .int .i64 a1_1, .int .i64 a1_2, .bool a1_3, .string a1_4] 23 (0, 0)) (by (with_reducible repeat refine blk_alloc ?_ _); exact BK114.out) hb)
                have n2_ := Aside0.mk (below_step (by repeat (first | (with_reducible first | exact HB.out | apply below_alloc | apply pw_below_drewN | apply below_drew1 | refine below_set ?_ GE113.out | refine below_set ?_ GE114.out) | exact HB.out)) hb)
                clear BK113
                clear BK114
                clear HB
                have BK113 := n0_
                have BK114 := n1_
                have HB := n2_
                clear n0_ n1_ n2_
                (try clear hb)
                (try clear hb2)
                (try clear hk)
                (try clear hi)
                refine hK.out _ _ ⟨(blk_cell BK113.out 0).trans rfl, (blk_cell BK113.out 1).trans rfl, (blk_cell BK113.out 2).trans rfl, (blk_cell BK113.out 3).trans rfl, (blk_cell BK113.out 4).trans rfl, (blk_cell BK114.out 0).trans rfl, (blk_cell BK114.out 1).trans rfl, (blk_cell BK114.out 2).trans rfl, (blk_cell BK114.out 3).trans rfl, (blk_cell BK114.out 4).trans rfl⟩ (fun hHeld => ?_)
                clear hK K
                refine norm_ (a' := ?_) ?_ ?_
                rotate_left
                · show Act.put _ (some 22) _ = _
                  simp only [Act.put, List.setIfInBounds_toArray, List.set_cons_zero, List.set_cons_succ, i64_w, i32_w]
                  rfl
                refine one_ (i := 5) (N := some 6) #[true, true, true, true, true, true, false] rfl rfl (by kernel_rfl) (by decide) (fun K hK => ?_)
                refine box_step ?hg (N := 6) ?hd (cs := #[.string (⟨#[]⟩ : ByteArray), .int .i64 0, .int .i64 0, .bool false, .string (⟨#[]⟩ : ByteArray)]) (t := 25) ?hr ?_; (case hd => rfl); (case hg => rfl); (case hr => first | (go_simp; done) | (go_simp; rfl))
                intro gb132 hg w38 hbox hb
                have n0_ := Aside0.mk (blk_below (g := gb113) (o := .cells #[.string a0_0, .int .i64 a0_1, .int .i64 a0_2, .bool a0_3, .string a0_4] 23 (0, 0)) (by (with_reducible repeat refine blk_alloc ?_ _); exact BK113.out) hb)
                have n1_ := Aside0.mk (blk_below (g := gb114) (o := .cells #[.string a1_0, .int .i64 a1_1, .int .i64 a1_2, .bool a1_3, .string a1_4] 23 (0, 0)) (by (with_reducible repeat refine blk_alloc ?_ _); exact BK114.out) hb)
                have n2_ := Aside0.mk (below_step (by repeat (first | (with_reducible first | exact HB.out | apply below_alloc | apply pw_below_drewN | apply below_drew1 | refine below_set ?_ GE113.out | refine below_set ?_ GE114.out) | exact HB.out)) hb)
                have n3_ := Aside0.mk (hbox)
                have n4_ := Aside0.mk ((by rw [hg]; exact (below_size (by repeat (first | (with_reducible first | exact HB.out | apply below_alloc | apply pw_below_drewN | apply below_drew1 | refine below_set ?_ GE113.out | refine below_set ?_ GE114.out) | exact HB.out))) : w.heap.size ≤ gb132))
                have n5_ := Aside0.mk ((by rw [hg]; exact (below_size (by repeat (first | (with_reducible first | exact HB.out | apply below_alloc | apply pw_below_drewN | apply below_drew1 | refine below_set ?_ GE113.out | refine below_set ?_ GE114.out) | exact HB.out))) : w.heap.size ≤ gb132))
                have n6_ := Aside0.mk ((by rw [hg]; exact Nat.ne_of_lt (blk_lt (g := gb113) (o := .cells #[.string a0_0, .int .i64 a0_1, .int .i64 a0_2, .bool a0_3, .string a0_4] 23 (0, 0)) (by (with_reducible repeat refine blk_alloc ?_ _); exact BK113.out)) : gb113 ≠ gb132))
                have n7_ := Aside0.mk ((by rw [hg]; exact Nat.ne_of_gt (blk_lt (g := gb113) (o := .cells #[.string a0_0, .int .i64 a0_1, .int .i64 a0_2, .bool a0_3, .string a0_4] 23 (0, 0)) (by (with_reducible repeat refine blk_alloc ?_ _); exact BK113.out)) : gb132 ≠ gb113))
                have n8_ := Aside0.mk ((by rw [hg]; exact Nat.ne_of_lt (blk_lt (g := gb114) (o := .cells #[.string a1_0, .int .i64 a1_1, .int .i64 a1_2, .bool a1_3, .string a1_4] 23 (0, 0)) (by (with_reducible repeat refine blk_alloc ?_ _); exact BK114.out)) : gb114 ≠ gb132))
                have n9_ := Aside0.mk ((by rw [hg]; exact Nat.ne_of_gt (blk_lt (g := gb114) (o := .cells #[.string a1_0, .int .i64 a1_1, .int .i64 a1_2, .bool a1_3, .string a1_4] 23 (0, 0)) (by (with_reducible repeat refine blk_alloc ?_ _); exact BK114.out)) : gb132 ≠ gb114))
                clear BK113
                clear BK114
                clear HB
                have BK113 := n0_
                have BK114 := n1_
                have HB := n2_
                have BK132 := n3_
                have GW132 := n4_
                have GE132 := n5_
                have NB113_132 := n6_
                have NB132_113 := n7_
                have NB114_132 := n8_
                have NB132_114 := n9_
                clear n0_ n1_ n2_ n3_ n4_ n5_ n6_ n7_ n8_ n9_
                clear hb hbox hg
                refine hK.out _ _ ⟨(blk_cell BK113.out 0).trans rfl, (blk_cell BK113.out 1).trans rfl, (blk_cell BK113.out 2).trans rfl, (blk_cell BK113.out 3).trans rfl, (blk_cell BK113.out 4).trans rfl, (blk_cell BK114.out 0).trans rfl, (blk_cell BK114.out 1).trans rfl, (blk_cell BK114.out 2).trans rfl, (blk_cell BK114.out 3).trans rfl, (blk_cell BK114.out 4).trans rfl⟩ (fun hHeld => ?_)
                clear hK K
                refine norm_ (a' := ?_) ?_ ?_
                rotate_left
                · show Act.put _ (some 6) _ = _
                  simp only [Act.put, List.setIfInBounds_toArray, List.set_cons_zero, List.set_cons_succ, i64_w, i32_w]
                  rfl
                exact norm_ (by simp only [putAll, Act.put, List.setIfInBounds_toArray, List.set_cons_zero, List.set_cons_succ]) (hCont (gb132) _ ⟨hHeld, (by (with_reducible repeat refine blk_alloc ?_ _); exact BK113.out), (by (with_reducible repeat refine blk_alloc ?_ _); exact BK114.out), (by (with_reducible repeat refine blk_alloc ?_ _); exact BK132.out), GW132.out, GE132.out, NB113_132.out, NB132_113.out, NB114_132.out, NB132_114.out, (by repeat (first | (with_reducible first | exact HB.out | apply below_alloc | apply pw_below_drewN | apply below_drew1 | refine below_set ?_ GE113.out | refine below_set ?_ GE114.out | refine below_set ?_ GE132.out) | exact HB.out))⟩)
              · skip
                refine box_step ?hg (N := 6) ?hd (cs := #[.string (⟨#[]⟩ : ByteArray), .int .i64 0, .int .i64 0, .bool false, .string (⟨#[]⟩ : ByteArray)]) (t := 25) ?hr ?_; (case hd => rfl); (case hg => rfl); (case hr => first | (go_simp; done) | (go_simp; rfl))
                intro gb132 hg w37 hbox hb
                have n0_ := Aside0.mk (blk_below (g := gb113) (o := .cells #[.string a0_0, .int .i64 a0_1, .int .i64 a0_2, .bool a0_3, .string a0_4] 23 (0, 0)) (by (with_reducible repeat refine blk_alloc ?_ _); exact BK113.out) hb)
                have n1_ := Aside0.mk (blk_below (g := gb114) (o := .cells #[.string a1_0, .int .i64 a1_1, .int .i64 a1_2, .bool a1_3, .string a1_4] 23 (0, 0)) (by (with_reducible repeat refine blk_alloc ?_ _); exact BK114.out) hb)
                have n2_ := Aside0.mk (below_step (by repeat (first | (with_reducible first | exact HB.out | apply below_alloc | apply pw_below_drewN | apply below_drew1 | refine below_set ?_ GE113.out | refine below_set ?_ GE114.out) | exact HB.out)) hb)
                have n3_ := Aside0.mk (hbox)
                have n4_ := Aside0.mk ((by rw [hg]; exact (below_size (by repeat (first | (with_reducible first | exact HB.out | apply below_alloc | apply pw_below_drewN | apply below_drew1 | refine below_set ?_ GE113.out | refine below_set ?_ GE114.out) | exact HB.out))) : w.heap.size ≤ gb132))
                have n5_ := Aside0.mk ((by rw [hg]; exact (below_size (by repeat (first | (with_reducible first | exact HB.out | apply below_alloc | apply pw_below_drewN | apply below_drew1 | refine below_set ?_ GE113.out | refine below_set ?_ GE114.out) | exact HB.out))) : w.heap.size ≤ gb132))
                have n6_ := Aside0.mk ((by rw [hg]; exact Nat.ne_of_lt (blk_lt (g := gb113) (o := .cells #[.string a0_0, .int .i64 a0_1, .int .i64 a0_2, .bool a0_3, .string a0_4] 23 (0, 0)) (by (with_reducible repeat refine blk_alloc ?_ _); exact BK113.out)) : gb113 ≠ gb132))
                have n7_ := Aside0.mk ((by rw [hg]; exact Nat.ne_of_gt (blk_lt (g := gb113) (o := .cells #[.string a0_0, .int .i64 a0_1, .int .i64 a0_2, .bool a0_3, .string a0_4] 23 (0, 0)) (by (with_reducible repeat refine blk_alloc ?_ _); exact BK113.out)) : gb132 ≠ gb113))
                have n8_ := Aside0.mk ((by rw [hg]; exact Nat.ne_of_lt (blk_lt (g := gb114) (o := .cells #[.string a1_0, .int .i64 a1_1, .int .i64 a1_2, .bool a1_3, .string a1_4] 23 (0, 0)) (by (with_reducible repeat refine blk_alloc ?_ _); exact BK114.out)) : gb114 ≠ gb132))
                have n9_ := Aside0.mk ((by rw [hg]; exact Nat.ne_of_gt (blk_lt (g := gb114) (o := .cells #[.string a1_0, .int .i64 a1_1, .int .i64 a1_2, .bool a1_3, .string a1_4] 23 (0, 0)) (by (with_reducible repeat refine blk_alloc ?_ _); exact BK114.out)) : gb132 ≠ gb114))
                clear BK113
                clear BK114
                clear HB
                have BK113 := n0_
                have BK114 := n1_
                have HB := n2_
                have BK132 := n3_
                have GW132 := n4_
                have GE132 := n5_
                have NB113_132 := n6_
                have NB132_113 := n7_
                have NB114_132 := n8_
                have NB132_114 := n9_
                clear n0_ n1_ n2_ n3_ n4_ n5_ n6_ n7_ n8_ n9_
                clear hb hbox hg
                refine hK.out _ _ ⟨(blk_cell BK113.out 0).trans rfl, (blk_cell BK113.out 1).trans rfl, (blk_cell BK113.out 2).trans rfl, (blk_cell BK113.out 3).trans rfl, (blk_cell BK113.out 4).trans rfl, (blk_cell BK114.out 0).trans rfl, (blk_cell BK114.out 1).trans rfl, (blk_cell BK114.out 2).trans rfl, (blk_cell BK114.out 3).trans rfl, (blk_cell BK114.out 4).trans rfl⟩ (fun hHeld => ?_)
                clear hK K
                refine norm_ (a' := ?_) ?_ ?_
                rotate_left
                · show Act.put _ (some 6) _ = _
                  simp only [Act.put, List.setIfInBounds_toArray, List.set_cons_zero, List.set_cons_succ, i64_w, i32_w]
                  rfl
                refine one_ (i := 4) (N := some 22) #[true, true, true, true, true, true, false] rfl rfl (by kernel_rfl) (by decide) (fun K hK => ?_)
                refine goes_ Try.func12 (by kernel_rfl) rfl #[.agg #[.string t117, .int .i64 t118, .int .i64 t119, .bool t120, .string t121], .agg #[.string t122, .int .i64 t123, .int .i64 t124, .bool t125, .string t126]] (by rfl) rfl rfl (by (try simp only [List.map_toArray, List.map_cons, List.map_nil]); first | done | rfl) ?_
                with_reducible refine (spec_Winner.calls t117 t118 t119 t120 t121 t122 t123 t124 t125 t126 t127 t128 t129 t130 t131 _ A21.out).mono ?_
                rintro e w38 ⟨rfl, hb⟩
                refine ⟨_, rfl, ?_⟩
                have n0_ := Aside0.mk (blk_below (g := gb113) (o := .cells #[.string a0_0, .int .i64 a0_1, .int .i64 a0_2, .bool a0_3, .string a0_4] 23 (0, 0)) (by (with_reducible repeat refine blk_alloc ?_ _); exact BK113.out) hb)
                have n1_ := Aside0.mk (blk_below (g := gb114) (o := .cells #[.string a1_0, .int .i64 a1_1, .int .i64 a1_2, .bool a1_3, .string a1_4] 23 (0, 0)) (by (with_reducible repeat refine blk_alloc ?_ _); exact BK114.out) hb)
                have n2_ := Aside0.mk (blk_below (g := gb132) (o := .cells #[.string (⟨#[]⟩ : ByteArray), .int .i64 0, .int .i64 0, .bool false, .string (⟨#[]⟩ : ByteArray)] 25 (0, 0)) (by (with_reducible repeat refine blk_alloc ?_ _); exact BK132.out) hb)
                have n3_ := Aside0.mk (below_step (by repeat (first | (with_reducible first | exact HB.out | apply below_alloc | apply pw_below_drewN | apply below_drew1 | refine below_set ?_ GE113.out | refine below_set ?_ GE114.out | refine below_set ?_ GE132.out) | exact HB.out)) hb)
                clear BK113
                clear BK114
                clear BK132
                clear HB
                have BK113 := n0_
                have BK114 := n1_
                have BK132 := n2_
                have HB := n3_
                clear n0_ n1_ n2_ n3_
                (try clear hb)
                (try clear hb2)
                (try clear hk)
                (try clear hi)
                refine hK.out _ _ ⟨(blk_cell BK113.out 0).trans rfl, (blk_cell BK113.out 1).trans rfl, (blk_cell BK113.out 2).trans rfl, (blk_cell BK113.out 3).trans rfl, (blk_cell BK113.out 4).trans rfl, (blk_cell BK114.out 0).trans rfl, (blk_cell BK114.out 1).trans rfl, (blk_cell BK114.out 2).trans rfl, (blk_cell BK114.out 3).trans rfl, (blk_cell BK114.out 4).trans rfl⟩ (fun hHeld => ?_)
                clear hK K
                refine norm_ (a' := ?_) ?_ ?_
                rotate_left
                · show Act.put _ (some 22) _ = _
                  simp only [Act.put, List.setIfInBounds_toArray, List.set_cons_zero, List.set_cons_succ, i64_w, i32_w]
                  rfl
                exact norm_ (by simp only [putAll, Act.put, List.setIfInBounds_toArray, List.set_cons_zero, List.set_cons_succ]) (hCont (gb132) _ ⟨hHeld, (by (with_reducible repeat refine blk_alloc ?_ _); exact BK113.out), (by (with_reducible repeat refine blk_alloc ?_ _); exact BK114.out), (by (with_reducible repeat refine blk_alloc ?_ _); exact BK132.out), GW132.out, GE132.out, NB113_132.out, NB132_113.out, NB114_132.out, NB132_114.out, (by repeat (first | (with_reducible first | exact HB.out | apply below_alloc | apply pw_below_drewN | apply below_drew1 | refine below_set ?_ GE113.out | refine below_set ?_ GE114.out | refine below_set ?_ GE132.out) | exact HB.out))⟩)
            · skip
              refine box_step ?hg (N := 6) ?hd (cs := #[.string (⟨#[]⟩ : ByteArray), .int .i64 0, .int .i64 0, .bool false, .string (⟨#[]⟩ : ByteArray)]) (t := 25) ?hr ?_; (case hd => rfl); (case hg => rfl); (case hr => first | (go_simp; done) | (go_simp; rfl))
              intro gb132 hg w36 hbox hb
              have n0_ := Aside0.mk (blk_below (g := gb113) (o := .cells #[.string a0_0, .int .i64 a0_1, .int .i64 a0_2, .bool a0_3, .string a0_4] 23 (0, 0)) (by (with_reducible repeat refine blk_alloc ?_ _); exact BK113.out) hb)
              have n1_ := Aside0.mk (blk_below (g := gb114) (o := .cells #[.string a1_0, .int .i64 a1_1, .int .i64 a1_2, .bool a1_3, .string a1_4] 23 (0, 0)) (by (with_reducible repeat refine blk_alloc ?_ _); exact BK114.out) hb)
              have n2_ := Aside0.mk (below_step (by repeat (first | (with_reducible first | exact HB.out | apply below_alloc | apply pw_below_drewN | apply below_drew1 | refine below_set ?_ GE113.out | refine below_set ?_ GE114.out) | exact HB.out)) hb)
              have n3_ := Aside0.mk (hbox)
              have n4_ := Aside0.mk ((by rw [hg]; exact (below_size (by repeat (first | (with_reducible first | exact HB.out | apply below_alloc | apply pw_below_drewN | apply below_drew1 | refine below_set ?_ GE113.out | refine below_set ?_ GE114.out) | exact HB.out))) : w.heap.size ≤ gb132))
              have n5_ := Aside0.mk ((by rw [hg]; exact (below_size (by repeat (first | (with_reducible first | exact HB.out | apply below_alloc | apply pw_below_drewN | apply below_drew1 | refine below_set ?_ GE113.out | refine below_set ?_ GE114.out) | exact HB.out))) : w.heap.size ≤ gb132))
              have n6_ := Aside0.mk ((by rw [hg]; exact Nat.ne_of_lt (blk_lt (g := gb113) (o := .cells #[.string a0_0, .int .i64 a0_1, .int .i64 a0_2, .bool a0_3, .string a0_4] 23 (0, 0)) (by (with_reducible repeat refine blk_alloc ?_ _); exact BK113.out)) : gb113 ≠ gb132))
              have n7_ := Aside0.mk ((by rw [hg]; exact Nat.ne_of_gt (blk_lt (g := gb113) (o := .cells #[.string a0_0, .int .i64 a0_1, .int .i64 a0_2, .bool a0_3, .string a0_4] 23 (0, 0)) (by (with_reducible repeat refine blk_alloc ?_ _); exact BK113.out)) : gb132 ≠ gb113))
              have n8_ := Aside0.mk ((by rw [hg]; exact Nat.ne_of_lt (blk_lt (g := gb114) (o := .cells #[.string a1_0, .int .i64 a1_1, .int .i64 a1_2, .bool a1_3, .string a1_4] 23 (0, 0)) (by (with_reducible repeat refine blk_alloc ?_ _); exact BK114.out)) : gb114 ≠ gb132))
              have n9_ := Aside0.mk ((by rw [hg]; exact Nat.ne_of_gt (blk_lt (g := gb114) (o := .cells #[.string a1_0, .int .i64 a1_1, .int .i64 a1_2, .bool a1_3, .string a1_4] 23 (0, 0)) (by (with_reducible repeat refine blk_alloc ?_ _); exact BK114.out)) : gb132 ≠ gb114))
              clear BK113
              clear BK114
              clear HB
              have BK113 := n0_
              have BK114 := n1_
              have HB := n2_
              have BK132 := n3_
              have GW132 := n4_
              have GE132 := n5_
              have NB113_132 := n6_
              have NB132_113 := n7_
              have NB114_132 := n8_
              have NB132_114 := n9_
              clear n0_ n1_ n2_ n3_ n4_ n5_ n6_ n7_ n8_ n9_
              clear hb hbox hg
              refine hK.out _ _ ⟨(blk_cell BK113.out 0).trans rfl, (blk_cell BK113.out 1).trans rfl, (blk_cell BK113.out 2).trans rfl, (blk_cell BK113.out 3).trans rfl, (blk_cell BK113.out 4).trans rfl, (blk_cell BK114.out 0).trans rfl, (blk_cell BK114.out 1).trans rfl, (blk_cell BK114.out 2).trans rfl, (blk_cell BK114.out 3).trans rfl, (blk_cell BK114.out 4).trans rfl⟩ (fun hHeld => ?_)
              clear hK K
              refine norm_ (a' := ?_) ?_ ?_
              rotate_left
              · show Act.put _ (some 6) _ = _
                simp only [Act.put, List.setIfInBounds_toArray, List.set_cons_zero, List.set_cons_succ, i64_w, i32_w]
                rfl
              refine one_ (i := 3) (N := some 21) #[true, true, true, true, false, true, false] rfl rfl (by kernel_rfl) (by decide) (fun K hK => ?_)
              refine goes_ Try.func13 (by kernel_rfl) rfl #[.agg #[.string a1_0, .int .i64 a1_1, .int .i64 a1_2, .bool a1_3, .string a1_4]] (by rfl) rfl rfl (by (try simp only [List.map_toArray, List.map_cons, List.map_nil]); first | done | rfl) ?_
              with_reducible refine (laws_toSiteEntry.calls a1_0 a1_1 a1_2 a1_3 a1_4 t122 t123 t124 t125 t126 _ A20.out).mono ?_
              rintro e w37 ⟨rfl, hb⟩
              refine ⟨_, rfl, ?_⟩
              have n0_ := Aside0.mk (blk_below (g := gb113) (o := .cells #[.string a0_0, .int .i64 a0_1, .int .i64 a0_2, .bool a0_3, .string a0_4] 23 (0, 0)) (by (with_reducible repeat refine blk_alloc ?_ _); exact BK113.out) hb)
              have n1_ := Aside0.mk (blk_below (g := gb114) (o := .cells #[.string a1_0, .int .i64 a1_1, .int .i64 a1_2, .bool a1_3, .string a1_4] 23 (0, 0)) (by (with_reducible repeat refine blk_alloc ?_ _); exact BK114.out) hb)
              have n2_ := Aside0.mk (blk_below (g := gb132) (o := .cells #[.string (⟨#[]⟩ : ByteArray), .int .i64 0, .int .i64 0, .bool false, .string (⟨#[]⟩ : ByteArray)] 25 (0, 0)) (by (with_reducible repeat refine blk_alloc ?_ _); exact BK132.out) hb)
              have n3_ := Aside0.mk (below_step (by repeat (first | (with_reducible first | exact HB.out | apply below_alloc | apply pw_below_drewN | apply below_drew1 | refine below_set ?_ GE113.out | refine below_set ?_ GE114.out | refine below_set ?_ GE132.out) | exact HB.out)) hb)
              clear BK113
              clear BK114
              clear BK132
              clear HB
              have BK113 := n0_
              have BK114 := n1_
              have BK132 := n2_
              have HB := n3_
              clear n0_ n1_ n2_ n3_
              (try clear hb)
              (try clear hb2)
              (try clear hk)
              (try clear hi)
              refine hK.out _ _ ⟨(blk_cell BK113.out 0).trans rfl, (blk_cell BK113.out 1).trans rfl, (blk_cell BK113.out 2).trans rfl, (blk_cell BK113.out 3).trans rfl, (blk_cell BK113.out 4).trans rfl, (blk_cell BK114.out 0).trans rfl, (blk_cell BK114.out 1).trans rfl, (blk_cell BK114.out 2).trans rfl, (blk_cell BK114.out 3).trans rfl, (blk_cell BK114.out 4).trans rfl⟩ (fun hHeld => ?_)
              clear hK K
              refine norm_ (a' := ?_) ?_ ?_
              rotate_left
              · show Act.put _ (some 21) _ = _
                simp only [Act.put, List.setIfInBounds_toArray, List.set_cons_zero, List.set_cons_succ, i64_w, i32_w]
                rfl
              refine one_ (i := 4) (N := some 22) #[true, true, true, true, true, true, false] rfl rfl (by kernel_rfl) (by decide) (fun K hK => ?_)
              refine goes_ Try.func12 (by kernel_rfl) rfl #[.agg #[.string t117, .int .i64 t118, .int .i64 t119, .bool t120, .string t121], .agg #[.string t122, .int .i64 t123, .int .i64 t124, .bool t125, .string t126]] (by rfl) rfl rfl (by (try simp only [List.map_toArray, List.map_cons, List.map_nil]); first | done | rfl) ?_
              with_reducible refine (spec_Winner.calls t117 t118 t119 t120 t121 t122 t123 t124 t125 t126 t127 t128 t129 t130 t131 _ A21.out).mono ?_
              rintro e w38 ⟨rfl, hb⟩
              refine ⟨_, rfl, ?_⟩
              have n0_ := Aside0.mk (blk_below (g := gb113) (o := .cells #[.string a0_0, .int .i64 a0_1, .int .i64 a0_2, .bool a0_3, .string a0_4] 23 (0, 0)) (by (with_reducible repeat refine blk_alloc ?_ _); exact BK113.out) hb)
              have n1_ := Aside0.mk (blk_below (g := gb114) (o := .cells #[.string a1_0, .int .i64 a1_1, .int .i64 a1_2, .bool a1_3, .string a1_4] 23 (0, 0)) (by (with_reducible repeat refine blk_alloc ?_ _); exact BK114.out) hb)
              have n2_ := Aside0.mk (blk_below (g := gb132) (o := .cells #[.string (⟨#[]⟩ : ByteArray), .int .i64 0, .int .i64 0, .bool false, .string (⟨#[]⟩ : ByteArray)] 25 (0, 0)) (by (with_reducible repeat refine blk_alloc ?_ _); exact BK132.out) hb)
              have n3_ := Aside0.mk (below_step (by repeat (first | (with_reducible first | exact HB.out | apply below_alloc | apply pw_below_drewN | apply below_drew1 | refine below_set ?_ GE113.out | refine below_set ?_ GE114.out | refine below_set ?_ GE132.out) | exact HB.out)) hb)
              clear BK113
              clear BK114
              clear BK132
              clear HB
              have BK113 := n0_
              have BK114 := n1_
              have BK132 := n2_
              have HB := n3_
              clear n0_ n1_ n2_ n3_
              (try clear hb)
              (try clear hb2)
              (try clear hk)
              (try clear hi)
              refine hK.out _ _ ⟨(blk_cell BK113.out 0).trans rfl, (blk_cell BK113.out 1).trans rfl, (blk_cell BK113.out 2).trans rfl, (blk_cell BK113.out 3).trans rfl, (blk_cell BK113.out 4).trans rfl, (blk_cell BK114.out 0).trans rfl, (blk_cell BK114.out 1).trans rfl, (blk_cell BK114.out 2).trans rfl, (blk_cell BK114.out 3).trans rfl, (blk_cell BK114.out 4).trans rfl⟩ (fun hHeld => ?_)
              clear hK K
              refine norm_ (a' := ?_) ?_ ?_
              rotate_left
              · show Act.put _ (some 22) _ = _
                simp only [Act.put, List.setIfInBounds_toArray, List.set_cons_zero, List.set_cons_succ, i64_w, i32_w]
                rfl
              exact norm_ (by simp only [putAll, Act.put, List.setIfInBounds_toArray, List.set_cons_zero, List.set_cons_succ]) (hCont (gb132) _ ⟨hHeld, (by (with_reducible repeat refine blk_alloc ?_ _); exact BK113.out), (by (with_reducible repeat refine blk_alloc ?_ _); exact BK114.out), (by (with_reducible repeat refine blk_alloc ?_ _); exact BK132.out), GW132.out, GE132.out, NB113_132.out, NB132_113.out, NB114_132.out, NB132_114.out, (by repeat (first | (with_reducible first | exact HB.out | apply below_alloc | apply pw_below_drewN | apply below_drew1 | refine below_set ?_ GE113.out | refine below_set ?_ GE114.out | refine below_set ?_ GE132.out) | exact HB.out))⟩)
          · skip
            refine box_step ?hg (N := 6) ?hd (cs := #[.string (⟨#[]⟩ : ByteArray), .int .i64 0, .int .i64 0, .bool false, .string (⟨#[]⟩ : ByteArray)]) (t := 25) ?hr ?_; (case hd => rfl); (case hg => rfl); (case hr => first | (go_simp; done) | (go_simp; rfl))
            intro gb132 hg w35 hbox hb
            have n0_ := Aside0.mk (blk_below (g := gb113) (o := .cells #[.string a0_0, .int .i64 a0_1, .int .i64 a0_2, .bool a0_3, .string a0_4] 23 (0, 0)) (by (with_reducible repeat refine blk_alloc ?_ _); exact BK113.out) hb)
            have n1_ := Aside0.mk (blk_below (g := gb114) (o := .cells #[.string a1_0, .int .i64 a1_1, .int .i64 a1_2, .bool a1_3, .string a1_4] 23 (0, 0)) (by (with_reducible repeat refine blk_alloc ?_ _); exact BK114.out) hb)
            have n2_ := Aside0.mk (below_step (by repeat (first | (with_reducible first | exact HB.out | apply below_alloc | apply pw_below_drewN | apply below_drew1 | refine below_set ?_ GE113.out | refine below_set ?_ GE114.out) | exact HB.out)) hb)
            have n3_ := Aside0.mk (hbox)
            have n4_ := Aside0.mk ((by rw [hg]; exact (below_size (by repeat (first | (with_reducible first | exact HB.out | apply below_alloc | apply pw_below_drewN | apply below_drew1 | refine below_set ?_ GE113.out | refine below_set ?_ GE114.out) | exact HB.out))) : w.heap.size ≤ gb132))
            have n5_ := Aside0.mk ((by rw [hg]; exact (below_size (by repeat (first | (with_reducible first | exact HB.out | apply below_alloc | apply pw_below_drewN | apply below_drew1 | refine below_set ?_ GE113.out | refine below_set ?_ GE114.out) | exact HB.out))) : w.heap.size ≤ gb132))
            have n6_ := Aside0.mk ((by rw [hg]; exact Nat.ne_of_lt (blk_lt (g := gb113) (o := .cells #[.string a0_0, .int .i64 a0_1, .int .i64 a0_2, .bool a0_3, .string a0_4] 23 (0, 0)) (by (with_reducible repeat refine blk_alloc ?_ _); exact BK113.out)) : gb113 ≠ gb132))
            have n7_ := Aside0.mk ((by rw [hg]; exact Nat.ne_of_gt (blk_lt (g := gb113) (o := .cells #[.string a0_0, .int .i64 a0_1, .int .i64 a0_2, .bool a0_3, .string a0_4] 23 (0, 0)) (by (with_reducible repeat refine blk_alloc ?_ _); exact BK113.out)) : gb132 ≠ gb113))
            have n8_ := Aside0.mk ((by rw [hg]; exact Nat.ne_of_lt (blk_lt (g := gb114) (o := .cells #[.string a1_0, .int .i64 a1_1, .int .i64 a1_2, .bool a1_3, .string a1_4] 23 (0, 0)) (by (with_reducible repeat refine blk_alloc ?_ _); exact BK114.out)) : gb114 ≠ gb132))
            have n9_ := Aside0.mk ((by rw [hg]; exact Nat.ne_of_gt (blk_lt (g := gb114) (o := .cells #[.string a1_0, .int .i64 a1_1, .int .i64 a1_2, .bool a1_3, .string a1_4] 23 (0, 0)) (by (with_reducible repeat refine blk_alloc ?_ _); exact BK114.out)) : gb132 ≠ gb114))
            clear BK113
            clear BK114
            clear HB
            have BK113 := n0_
            have BK114 := n1_
            have HB := n2_
            have BK132 := n3_
            have GW132 := n4_
            have GE132 := n5_
            have NB113_132 := n6_
            have NB132_113 := n7_
            have NB114_132 := n8_
            have NB132_114 := n9_
            clear n0_ n1_ n2_ n3_ n4_ n5_ n6_ n7_ n8_ n9_
            clear hb hbox hg
            refine hK.out _ _ ⟨(blk_cell BK113.out 0).trans rfl, (blk_cell BK113.out 1).trans rfl, (blk_cell BK113.out 2).trans rfl, (blk_cell BK113.out 3).trans rfl, (blk_cell BK113.out 4).trans rfl, (blk_cell BK114.out 0).trans rfl, (blk_cell BK114.out 1).trans rfl, (blk_cell BK114.out 2).trans rfl, (blk_cell BK114.out 3).trans rfl, (blk_cell BK114.out 4).trans rfl⟩ (fun hHeld => ?_)
            clear hK K
            refine norm_ (a' := ?_) ?_ ?_
            rotate_left
            · show Act.put _ (some 6) _ = _
              simp only [Act.put, List.setIfInBounds_toArray, List.set_cons_zero, List.set_cons_succ, i64_w, i32_w]
              rfl
            refine one_ (i := 1) (N := some 19) #[true, true, true, false, false, true, false] rfl rfl (by kernel_rfl) (by decide) (fun K hK => ?_)
            refine goes_ Try.func13 (by kernel_rfl) rfl #[.agg #[.string a0_0, .int .i64 a0_1, .int .i64 a0_2, .bool a0_3, .string a0_4]] (by rfl) rfl rfl (by (try simp only [List.map_toArray, List.map_cons, List.map_nil]); first | done | rfl) ?_
            with_reducible refine (laws_toSiteEntry.calls a0_0 a0_1 a0_2 a0_3 a0_4 t117 t118 t119 t120 t121 _ A19.out).mono ?_
            rintro e w36 ⟨rfl, hb⟩
            refine ⟨_, rfl, ?_⟩
            have n0_ := Aside0.mk (blk_below (g := gb113) (o := .cells #[.string a0_0, .int .i64 a0_1, .int .i64 a0_2, .bool a0_3, .string a0_4] 23 (0, 0)) (by (with_reducible repeat refine blk_alloc ?_ _); exact BK113.out) hb)
            have n1_ := Aside0.mk (blk_below (g := gb114) (o := .cells #[.string a1_0, .int .i64 a1_1, .int .i64 a1_2, .bool a1_3, .string a1_4] 23 (0, 0)) (by (with_reducible repeat refine blk_alloc ?_ _); exact BK114.out) hb)
            have n2_ := Aside0.mk (blk_below (g := gb132) (o := .cells #[.string (⟨#[]⟩ : ByteArray), .int .i64 0, .int .i64 0, .bool false, .string (⟨#[]⟩ : ByteArray)] 25 (0, 0)) (by (with_reducible repeat refine blk_alloc ?_ _); exact BK132.out) hb)
            have n3_ := Aside0.mk (below_step (by repeat (first | (with_reducible first | exact HB.out | apply below_alloc | apply pw_below_drewN | apply below_drew1 | refine below_set ?_ GE113.out | refine below_set ?_ GE114.out | refine below_set ?_ GE132.out) | exact HB.out)) hb)
            clear BK113
            clear BK114
            clear BK132
            clear HB
            have BK113 := n0_
            have BK114 := n1_
            have BK132 := n2_
            have HB := n3_
            clear n0_ n1_ n2_ n3_
            (try clear hb)
            (try clear hb2)
            (try clear hk)
            (try clear hi)
            refine hK.out _ _ ⟨(blk_cell BK113.out 0).trans rfl, (blk_cell BK113.out 1).trans rfl, (blk_cell BK113.out 2).trans rfl, (blk_cell BK113.out 3).trans rfl, (blk_cell BK113.out 4).trans rfl, (blk_cell BK114.out 0).trans rfl, (blk_cell BK114.out 1).trans rfl, (blk_cell BK114.out 2).trans rfl, (blk_cell BK114.out 3).trans rfl, (blk_cell BK114.out 4).trans rfl⟩ (fun hHeld => ?_)
            clear hK K
            refine norm_ (a' := ?_) ?_ ?_
            rotate_left
            · show Act.put _ (some 19) _ = _
              simp only [Act.put, List.setIfInBounds_toArray, List.set_cons_zero, List.set_cons_succ, i64_w, i32_w]
              rfl
            refine one_ (i := 3) (N := some 21) #[true, true, true, true, false, true, false] rfl rfl (by kernel_rfl) (by decide) (fun K hK => ?_)
            refine goes_ Try.func13 (by kernel_rfl) rfl #[.agg #[.string a1_0, .int .i64 a1_1, .int .i64 a1_2, .bool a1_3, .string a1_4]] (by rfl) rfl rfl (by (try simp only [List.map_toArray, List.map_cons, List.map_nil]); first | done | rfl) ?_
            with_reducible refine (laws_toSiteEntry.calls a1_0 a1_1 a1_2 a1_3 a1_4 t122 t123 t124 t125 t126 _ A20.out).mono ?_
            rintro e w37 ⟨rfl, hb⟩
            refine ⟨_, rfl, ?_⟩
            have n0_ := Aside0.mk (blk_below (g := gb113) (o := .cells #[.string a0_0, .int .i64 a0_1, .int .i64 a0_2, .bool a0_3, .string a0_4] 23 (0, 0)) (by (with_reducible repeat refine blk_alloc ?_ _); exact BK113.out) hb)
            have n1_ := Aside0.mk (blk_below (g := gb114) (o := .cells #[.string a1_0, .int .i64 a1_1, .int .i64 a1_2, .bool a1_3, .string a1_4] 23 (0, 0)) (by (with_reducible repeat refine blk_alloc ?_ _); exact BK114.out) hb)
            have n2_ := Aside0.mk (blk_below (g := gb132) (o := .cells #[.string (⟨#[]⟩ : ByteArray), .int .i64 0, .int .i64 0, .bool false, .string (⟨#[]⟩ : ByteArray)] 25 (0, 0)) (by (with_reducible repeat refine blk_alloc ?_ _); exact BK132.out) hb)
            have n3_ := Aside0.mk (below_step (by repeat (first | (with_reducible first | exact HB.out | apply below_alloc | apply pw_below_drewN | apply below_drew1 | refine below_set ?_ GE113.out | refine below_set ?_ GE114.out | refine below_set ?_ GE132.out) | exact HB.out)) hb)
            clear BK113
            clear BK114
            clear BK132
            clear HB
            have BK113 := n0_
            have BK114 := n1_
            have BK132 := n2_
            have HB := n3_
            clear n0_ n1_ n2_ n3_
            (try clear hb)
            (try clear hb2)
            (try clear hk)
            (try clear hi)
            refine hK.out _ _ ⟨(blk_cell BK113.out 0).trans rfl, (blk_cell BK113.out 1).trans rfl, (blk_cell BK113.out 2).trans rfl, (blk_cell BK113.out 3).trans rfl, (blk_cell BK113.out 4).trans rfl, (blk_cell BK114.out 0).trans rfl, (blk_cell BK114.out 1).trans rfl, (blk_cell BK114.out 2).trans rfl, (blk_cell BK114.out 3).trans rfl, (blk_cell BK114.out 4).trans rfl⟩ (fun hHeld => ?_)
            clear hK K
            refine norm_ (a' := ?_) ?_ ?_
            rotate_left
            · show Act.put _ (some 21) _ = _
              simp only [Act.put, List.setIfInBounds_toArray, List.set_cons_zero, List.set_cons_succ, i64_w, i32_w]
              rfl
            refine one_ (i := 4) (N := some 22) #[true, true, true, true, true, true, false] rfl rfl (by kernel_rfl) (by decide) (fun K hK => ?_)
            refine goes_ Try.func12 (by kernel_rfl) rfl #[.agg #[.string t117, .int .i64 t118, .int .i64 t119, .bool t120, .string t121], .agg #[.string t122, .int .i64 t123, .int .i64 t124, .bool t125, .string t126]] (by rfl) rfl rfl (by (try simp only [List.map_toArray, List.map_cons, List.map_nil]); first | done | rfl) ?_
            with_reducible refine (spec_Winner.calls t117 t118 t119 t120 t121 t122 t123 t124 t125 t126 t127 t128 t129 t130 t131 _ A21.out).mono ?_
            rintro e w38 ⟨rfl, hb⟩
            refine ⟨_, rfl, ?_⟩
            have n0_ := Aside0.mk (blk_below (g := gb113) (o := .cells #[.string a0_0, .int .i64 a0_1, .int .i64 a0_2, .bool a0_3, .string a0_4] 23 (0, 0)) (by (with_reducible repeat refine blk_alloc ?_ _); exact BK113.out) hb)
            have n1_ := Aside0.mk (blk_below (g := gb114) (o := .cells #[.string a1_0, .int .i64 a1_1, .int .i64 a1_2, .bool a1_3, .string a1_4] 23 (0, 0)) (by (with_reducible repeat refine blk_alloc ?_ _); exact BK114.out) hb)
            have n2_ := Aside0.mk (blk_below (g := gb132) (o := .cells #[.string (⟨#[]⟩ : ByteArray), .int .i64 0, .int .i64 0, .bool false, .string (⟨#[]⟩ : ByteArray)] 25 (0, 0)) (by (with_reducible repeat refine blk_alloc ?_ _); exact BK132.out) hb)
            have n3_ := Aside0.mk (below_step (by repeat (first | (with_reducible first | exact HB.out | apply below_alloc | apply pw_below_drewN | apply below_drew1 | refine below_set ?_ GE113.out | refine below_set ?_ GE114.out | refine below_set ?_ GE132.out) | exact HB.out)) hb)
            clear BK113
            clear BK114
            clear BK132
            clear HB
            have BK113 := n0_
            have BK114 := n1_
            have BK132 := n2_
            have HB := n3_
            clear n0_ n1_ n2_ n3_
            (try clear hb)
            (try clear hb2)
            (try clear hk)
            (try clear hi)
            refine hK.out _ _ ⟨(blk_cell BK113.out 0).trans rfl, (blk_cell BK113.out 1).trans rfl, (blk_cell BK113.out 2).trans rfl, (blk_cell BK113.out 3).trans rfl, (blk_cell BK113.out 4).trans rfl, (blk_cell BK114.out 0).trans rfl, (blk_cell BK114.out 1).trans rfl, (blk_cell BK114.out 2).trans rfl, (blk_cell BK114.out 3).trans rfl, (blk_cell BK114.out 4).trans rfl⟩ (fun hHeld => ?_)
            clear hK K
            refine norm_ (a' := ?_) ?_ ?_
            rotate_left
            · show Act.put _ (some 22) _ = _
              simp only [Act.put, List.setIfInBounds_toArray, List.set_cons_zero, List.set_cons_succ, i64_w, i32_w]
              rfl
            exact norm_ (by simp only [putAll, Act.put, List.setIfInBounds_toArray, List.set_cons_zero, List.set_cons_succ]) (hCont (gb132) _ ⟨hHeld, (by (with_reducible repeat refine blk_alloc ?_ _); exact BK113.out), (by (with_reducible repeat refine blk_alloc ?_ _); exact BK114.out), (by (with_reducible repeat refine blk_alloc ?_ _); exact BK132.out), GW132.out, GE132.out, NB113_132.out, NB132_113.out, NB114_132.out, NB132_114.out, (by repeat (first | (with_reducible first | exact HB.out | apply below_alloc | apply pw_below_drewN | apply below_drew1 | refine below_set ?_ GE113.out | refine below_set ?_ GE114.out | refine below_set ?_ GE132.out) | exact HB.out))⟩)
        rintro gb132 w39 ⟨hS_, h0_, h1_, h2_, h3_, h4_, h5_, h6_, h7_, h8_, h9_⟩
        have n0_ : Aside0 (w39.heap[gb113]? = some (.cells #[.string a0_0, .int .i64 a0_1, .int .i64 a0_2, .bool a0_3, .string a0_4] 23 (0, 0))) := ⟨h0_⟩
        have n1_ : Aside0 (w39.heap[gb114]? = some (.cells #[.string a1_0, .int .i64 a1_1, .int .i64 a1_2, .bool a1_3, .string a1_4] 23 (0, 0))) := ⟨h1_⟩
        have n2_ : Aside0 (w39.heap[gb132]? = some (.cells #[.string (⟨#[]⟩ : ByteArray), .int .i64 0, .int .i64 0, .bool false, .string (⟨#[]⟩ : ByteArray)] 25 (0, 0))) := ⟨h2_⟩
        have n3_ : Aside0 (w.heap.size ≤ gb132) := ⟨h3_⟩
        have n4_ : Aside0 (w.heap.size ≤ gb132) := ⟨h4_⟩
        have n5_ : Aside0 (gb113 ≠ gb132) := ⟨h5_⟩
        have n6_ : Aside0 (gb132 ≠ gb113) := ⟨h6_⟩
        have n7_ : Aside0 (gb114 ≠ gb132) := ⟨h7_⟩
        have n8_ : Aside0 (gb132 ≠ gb114) := ⟨h8_⟩
        have n9_ : Aside0 (Below w.heap.size w w39) := ⟨h9_⟩
        clear BK113
        clear BK114
        clear HB
        clear h0_ h1_ h2_ h3_ h4_ h5_ h6_ h7_ h8_ h9_
        have BK113 := n0_
        have BK114 := n1_
        have BK132 := n2_
        have GW132 := n3_
        have GE132 := n4_
        have NB113_132 := n5_
        have NB132_113 := n6_
        have NB114_132 := n7_
        have NB132_114 := n8_
        have HB := n9_
        clear n0_ n1_ n2_ n3_ n4_ n5_ n6_ n7_ n8_ n9_
        have hHeld : w39.cell? ⟨gb113, 0, none⟩ = some (.string a0_0) ∧ w39.cell? ⟨gb113, 1, none⟩ = some (.int .i64 a0_1) ∧ w39.cell? ⟨gb113, 2, none⟩ = some (.int .i64 a0_2) ∧ w39.cell? ⟨gb113, 3, none⟩ = some (.bool a0_3) ∧ w39.cell? ⟨gb113, 4, none⟩ = some (.string a0_4) ∧ w39.cell? ⟨gb114, 0, none⟩ = some (.string a1_0) ∧ w39.cell? ⟨gb114, 1, none⟩ = some (.int .i64 a1_1) ∧ w39.cell? ⟨gb114, 2, none⟩ = some (.int .i64 a1_2) ∧ w39.cell? ⟨gb114, 3, none⟩ = some (.bool a1_3) ∧ w39.cell? ⟨gb114, 4, none⟩ = some (.string a1_4) := hS_
        refine norm_ (a' := ?_) ?_ ?_
        rotate_left
        · simp only [putAll, Act.put, List.setIfInBounds_toArray, List.set_cons_zero, List.set_cons_succ]
          rfl
        refine one_ (i := 6) (N := none) #[true, true, true, true, true, true, true] rfl rfl (by kernel_rfl) (by decide) (fun K hK => ?_)
        have hs40 : w39.cell? ⟨gb132, 0, none⟩ = some (.string (⟨#[]⟩ : ByteArray)) := (blk_cell BK132.out 0).trans rfl
        have hfs40 := blk_frozen BK132.out 0
        have hns40_0 := NB113_132.out
        have hns40_1 := NB114_132.out
        have hms40_0 := NB132_113.out
        have hms40_1 := NB132_114.out
        have hs41 : w39.cell? ⟨gb132, 1, none⟩ = some (.int .i64 0) := (blk_cell BK132.out 1).trans rfl
        have hfs41 := blk_frozen BK132.out 1
        have hns41_0 := NB113_132.out
        have hns41_1 := NB114_132.out
        have hms41_0 := NB132_113.out
        have hms41_1 := NB132_114.out
        have hs42 : w39.cell? ⟨gb132, 2, none⟩ = some (.int .i64 0) := (blk_cell BK132.out 2).trans rfl
        have hfs42 := blk_frozen BK132.out 2
        have hns42_0 := NB113_132.out
        have hns42_1 := NB114_132.out
        have hms42_0 := NB132_113.out
        have hms42_1 := NB132_114.out
        have hs43 : w39.cell? ⟨gb132, 3, none⟩ = some (.bool false) := (blk_cell BK132.out 3).trans rfl
        have hfs43 := blk_frozen BK132.out 3
        have hns43_0 := NB113_132.out
        have hns43_1 := NB114_132.out
        have hms43_0 := NB132_113.out
        have hms43_1 := NB132_114.out
        have hs44 : w39.cell? ⟨gb132, 4, none⟩ = some (.string (⟨#[]⟩ : ByteArray)) := (blk_cell BK132.out 4).trans rfl
        have hfs44 := blk_frozen BK132.out 4
        have hns44_0 := NB113_132.out
        have hns44_1 := NB114_132.out
        have hms44_0 := NB132_113.out
        have hms44_1 := NB132_114.out
        refine skip_ (w1 := ?_) (by rfl) rfl ?_ ?_
        rotate_left
        · go_simp
          rfl
        refine hK.out _ _ ⟨((cell_far (p := ⟨gb132, _, none⟩) NB113_132.out _).trans (((cell_far (p := ⟨gb132, _, none⟩) NB113_132.out _).trans (((cell_far (p := ⟨gb132, _, none⟩) NB113_132.out _).trans (((cell_far (p := ⟨gb132, _, none⟩) NB113_132.out _).trans (((cell_far (p := ⟨gb132, _, none⟩) NB113_132.out _).trans (hHeld.1)))))))))), ((cell_far (p := ⟨gb132, _, none⟩) NB113_132.out _).trans (((cell_far (p := ⟨gb132, _, none⟩) NB113_132.out _).trans (((cell_far (p := ⟨gb132, _, none⟩) NB113_132.out _).trans (((cell_far (p := ⟨gb132, _, none⟩) NB113_132.out _).trans (((cell_far (p := ⟨gb132, _, none⟩) NB113_132.out _).trans (hHeld.2.1)))))))))), ((cell_far (p := ⟨gb132, _, none⟩) NB113_132.out _).trans (((cell_far (p := ⟨gb132, _, none⟩) NB113_132.out _).trans (((cell_far (p := ⟨gb132, _, none⟩) NB113_132.out _).trans (((cell_far (p := ⟨gb132, _, none⟩) NB113_132.out _).trans (((cell_far (p := ⟨gb132, _, none⟩) NB113_132.out _).trans (hHeld.2.2.1)))))))))), ((cell_far (p := ⟨gb132, _, none⟩) NB113_132.out _).trans (((cell_far (p := ⟨gb132, _, none⟩) NB113_132.out _).trans (((cell_far (p := ⟨gb132, _, none⟩) NB113_132.out _).trans (((cell_far (p := ⟨gb132, _, none⟩) NB113_132.out _).trans (((cell_far (p := ⟨gb132, _, none⟩) NB113_132.out _).trans (hHeld.2.2.2.1)))))))))), ((cell_far (p := ⟨gb132, _, none⟩) NB113_132.out _).trans (((cell_far (p := ⟨gb132, _, none⟩) NB113_132.out _).trans (((cell_far (p := ⟨gb132, _, none⟩) NB113_132.out _).trans (((cell_far (p := ⟨gb132, _, none⟩) NB113_132.out _).trans (((cell_far (p := ⟨gb132, _, none⟩) NB113_132.out _).trans (hHeld.2.2.2.2.1)))))))))), ((cell_far (p := ⟨gb132, _, none⟩) NB114_132.out _).trans (((cell_far (p := ⟨gb132, _, none⟩) NB114_132.out _).trans (((cell_far (p := ⟨gb132, _, none⟩) NB114_132.out _).trans (((cell_far (p := ⟨gb132, _, none⟩) NB114_132.out _).trans (((cell_far (p := ⟨gb132, _, none⟩) NB114_132.out _).trans (hHeld.2.2.2.2.2.1)))))))))), ((cell_far (p := ⟨gb132, _, none⟩) NB114_132.out _).trans (((cell_far (p := ⟨gb132, _, none⟩) NB114_132.out _).trans (((cell_far (p := ⟨gb132, _, none⟩) NB114_132.out _).trans (((cell_far (p := ⟨gb132, _, none⟩) NB114_132.out _).trans (((cell_far (p := ⟨gb132, _, none⟩) NB114_132.out _).trans (hHeld.2.2.2.2.2.2.1)))))))))), ((cell_far (p := ⟨gb132, _, none⟩) NB114_132.out _).trans (((cell_far (p := ⟨gb132, _, none⟩) NB114_132.out _).trans (((cell_far (p := ⟨gb132, _, none⟩) NB114_132.out _).trans (((cell_far (p := ⟨gb132, _, none⟩) NB114_132.out _).trans (((cell_far (p := ⟨gb132, _, none⟩) NB114_132.out _).trans (hHeld.2.2.2.2.2.2.2.1)))))))))), ((cell_far (p := ⟨gb132, _, none⟩) NB114_132.out _).trans (((cell_far (p := ⟨gb132, _, none⟩) NB114_132.out _).trans (((cell_far (p := ⟨gb132, _, none⟩) NB114_132.out _).trans (((cell_far (p := ⟨gb132, _, none⟩) NB114_132.out _).trans (((cell_far (p := ⟨gb132, _, none⟩) NB114_132.out _).trans (hHeld.2.2.2.2.2.2.2.2.1)))))))))), ((cell_far (p := ⟨gb132, _, none⟩) NB114_132.out _).trans (((cell_far (p := ⟨gb132, _, none⟩) NB114_132.out _).trans (((cell_far (p := ⟨gb132, _, none⟩) NB114_132.out _).trans (((cell_far (p := ⟨gb132, _, none⟩) NB114_132.out _).trans (((cell_far (p := ⟨gb132, _, none⟩) NB114_132.out _).trans (hHeld.2.2.2.2.2.2.2.2.2))))))))))⟩ (fun hHeld => ?_)
        clear hK K
        refine done_ (by kernel_rfl) ?_
        try go_wp2
        have n0_ : Aside0 ((((((w39.setCell ⟨gb132, 0, none⟩ (.string t127)).setCell ⟨gb132, 1, none⟩ (.int .i64 t128)).setCell ⟨gb132, 2, none⟩ (.int .i64 t129)).setCell ⟨gb132, 3, none⟩ (.bool t130)).setCell ⟨gb132, 4, none⟩ (.string t131)).heap[gb113]? = some (.cells #[.string a0_0, .int .i64 a0_1, .int .i64 a0_2, .bool a0_3, .string a0_4] 23 (0, 0))) := ⟨by (with_reducible repeat refine blk_alloc ?_ _); refine blk_far ?_ NB113_132.out _; (with_reducible repeat refine blk_alloc ?_ _); refine blk_far ?_ NB113_132.out _; (with_reducible repeat refine blk_alloc ?_ _); refine blk_far ?_ NB113_132.out _; (with_reducible repeat refine blk_alloc ?_ _); refine blk_far ?_ NB113_132.out _; (with_reducible repeat refine blk_alloc ?_ _); refine blk_far ?_ NB113_132.out _; (with_reducible repeat refine blk_alloc ?_ _); exact BK113.out⟩
        have n1_ : Aside0 ((((((w39.setCell ⟨gb132, 0, none⟩ (.string t127)).setCell ⟨gb132, 1, none⟩ (.int .i64 t128)).setCell ⟨gb132, 2, none⟩ (.int .i64 t129)).setCell ⟨gb132, 3, none⟩ (.bool t130)).setCell ⟨gb132, 4, none⟩ (.string t131)).heap[gb114]? = some (.cells #[.string a1_0, .int .i64 a1_1, .int .i64 a1_2, .bool a1_3, .string a1_4] 23 (0, 0))) := ⟨by (with_reducible repeat refine blk_alloc ?_ _); refine blk_far ?_ NB114_132.out _; (with_reducible repeat refine blk_alloc ?_ _); refine blk_far ?_ NB114_132.out _; (with_reducible repeat refine blk_alloc ?_ _); refine blk_far ?_ NB114_132.out _; (with_reducible repeat refine blk_alloc ?_ _); refine blk_far ?_ NB114_132.out _; (with_reducible repeat refine blk_alloc ?_ _); refine blk_far ?_ NB114_132.out _; (with_reducible repeat refine blk_alloc ?_ _); exact BK114.out⟩
        have n2_ : Aside0 ((((((w39.setCell ⟨gb132, 0, none⟩ (.string t127)).setCell ⟨gb132, 1, none⟩ (.int .i64 t128)).setCell ⟨gb132, 2, none⟩ (.int .i64 t129)).setCell ⟨gb132, 3, none⟩ (.bool t130)).setCell ⟨gb132, 4, none⟩ (.string t131)).heap[gb132]? = some (.cells #[.string t127, .int .i64 t128, .int .i64 t129, .bool t130, .string t131] 25 (0, 0))) := ⟨by (with_reducible repeat refine blk_alloc ?_ _); refine blk_put (cs := #[.string t127, .int .i64 t128, .int .i64 t129, .bool t130, .string (⟨#[]⟩ : ByteArray)]) ?_ 4 _ rfl; (with_reducible repeat refine blk_alloc ?_ _); refine blk_put (cs := #[.string t127, .int .i64 t128, .int .i64 t129, .bool false, .string (⟨#[]⟩ : ByteArray)]) ?_ 3 _ rfl; (with_reducible repeat refine blk_alloc ?_ _); refine blk_put (cs := #[.string t127, .int .i64 t128, .int .i64 0, .bool false, .string (⟨#[]⟩ : ByteArray)]) ?_ 2 _ rfl; (with_reducible repeat refine blk_alloc ?_ _); refine blk_put (cs := #[.string t127, .int .i64 0, .int .i64 0, .bool false, .string (⟨#[]⟩ : ByteArray)]) ?_ 1 _ rfl; (with_reducible repeat refine blk_alloc ?_ _); refine blk_put (cs := #[.string (⟨#[]⟩ : ByteArray), .int .i64 0, .int .i64 0, .bool false, .string (⟨#[]⟩ : ByteArray)]) ?_ 0 _ rfl; (with_reducible repeat refine blk_alloc ?_ _); exact BK132.out⟩
        have n3_ : Aside0 (Below w.heap.size w (((((w39.setCell ⟨gb132, 0, none⟩ (.string t127)).setCell ⟨gb132, 1, none⟩ (.int .i64 t128)).setCell ⟨gb132, 2, none⟩ (.int .i64 t129)).setCell ⟨gb132, 3, none⟩ (.bool t130)).setCell ⟨gb132, 4, none⟩ (.string t131))) := ⟨by repeat (first | (with_reducible first | exact HB.out | apply below_alloc | apply pw_below_drewN | apply below_drew1 | refine below_set ?_ GE113.out | refine below_set ?_ GE114.out | refine below_set ?_ GE132.out) | exact HB.out)⟩
        (try clear BK113)
        (try clear BK114)
        (try clear BK132)
        (try clear HB)
        generalize (((((w39.setCell ⟨gb132, 0, none⟩ (.string t127)).setCell ⟨gb132, 1, none⟩ (.int .i64 t128)).setCell ⟨gb132, 2, none⟩ (.int .i64 t129)).setCell ⟨gb132, 3, none⟩ (.bool t130)).setCell ⟨gb132, 4, none⟩ (.string t131)) = w45 at n0_ n1_ n2_ n3_ ⊢
        have BK113 := n0_
        have BK114 := n1_
        have BK132 := n2_
        have HB := n3_
        clear n0_ n1_ n2_ n3_
        have n0_ := Aside0.mk (blk_drew BK113.out)
        have n1_ := Aside0.mk (blk_drew BK114.out)
        have n2_ := Aside0.mk (blk_drew BK132.out)
        have n3_ := Aside0.mk (below_drew1 HB.out)
        clear BK113
        clear BK114
        clear BK132
        clear HB
        have BK113 := n0_
        have BK114 := n1_
        have BK132 := n2_
        have HB := n3_
        clear n0_ n1_ n2_ n3_
        refine start_ (n := 7) (S := fun w' => w'.cell? ⟨gb113, 0, none⟩ = some (.string a0_0) ∧ w'.cell? ⟨gb113, 1, none⟩ = some (.int .i64 a0_1) ∧ w'.cell? ⟨gb113, 2, none⟩ = some (.int .i64 a0_2) ∧ w'.cell? ⟨gb113, 3, none⟩ = some (.bool a0_3) ∧ w'.cell? ⟨gb113, 4, none⟩ = some (.string a0_4) ∧ w'.cell? ⟨gb114, 0, none⟩ = some (.string a1_0) ∧ w'.cell? ⟨gb114, 1, none⟩ = some (.int .i64 a1_1) ∧ w'.cell? ⟨gb114, 2, none⟩ = some (.int .i64 a1_2) ∧ w'.cell? ⟨gb114, 3, none⟩ = some (.bool a1_3) ∧ w'.cell? ⟨gb114, 4, none⟩ = some (.string a1_4)) (ds := []) #[false, false, false, false, false, false, false] (by kernel_rfl) rfl rfl ⟨(blk_cell BK113.out 0).trans rfl, (blk_cell BK113.out 1).trans rfl, (blk_cell BK113.out 2).trans rfl, (blk_cell BK113.out 3).trans rfl, (blk_cell BK113.out 4).trans rfl, (blk_cell BK114.out 0).trans rfl, (blk_cell BK114.out 1).trans rfl, (blk_cell BK114.out 2).trans rfl, (blk_cell BK114.out 3).trans rfl, (blk_cell BK114.out 4).trans rfl⟩ (fun hHeld => ?_)
        generalize w45.drew = w46 at BK113 BK114 BK132 HB hHeld ⊢
        refine take_ (i := 0) (N := some 23) (v := ?_) (a' := ?_) #[true, false, false, false, false, false, false] rfl rfl (by kernel_rfl) (fun _ _ _ h => h) (Or.inl ⟨by rfl, ?_⟩) hHeld ?_ ?_
        rotate_left
        · rintro w' ⟨s0, s1, s2, s3, s4, s5, s6, s7, s8, s9⟩
          go_simp
          with_reducible rfl
        rotate_left
        · simp only [Act.put, List.setIfInBounds_toArray, List.set_cons_zero, List.set_cons_succ, i64_w, i32_w]
          rfl
        refine take_ (i := 2) (N := some 25) (v := ?_) (a' := ?_) #[true, false, true, false, false, false, false] rfl rfl (by kernel_rfl) (fun _ _ _ h => h) (Or.inl ⟨by rfl, ?_⟩) hHeld ?_ ?_
        rotate_left
        · rintro w' ⟨s0, s1, s2, s3, s4, s5, s6, s7, s8, s9⟩
          go_simp
          with_reducible rfl
        rotate_left
        · simp only [Act.put, List.setIfInBounds_toArray, List.set_cons_zero, List.set_cons_succ, i64_w, i32_w]
          rfl
        refine join_ (σ := Nat) 1 #[true, true, true, true, true, true, false] (fun s_ => [(24, .agg #[.string t133, .int .i64 t134, .int .i64 t135, .bool t136, .string t137]), (26, .agg #[.string t138, .int .i64 t139, .int .i64 t140, .bool t141, .string t142]), (27, .agg #[.string t143, .int .i64 t144, .int .i64 t145, .bool t146, .string t147]), (7, .pointer (some ⟨s_, 0, none⟩))]) (fun s_ w' => (w'.cell? ⟨gb113, 0, none⟩ = some (.string a0_0) ∧ w'.cell? ⟨gb113, 1, none⟩ = some (.int .i64 a0_1) ∧ w'.cell? ⟨gb113, 2, none⟩ = some (.int .i64 a0_2) ∧ w'.cell? ⟨gb113, 3, none⟩ = some (.bool a0_3) ∧ w'.cell? ⟨gb113, 4, none⟩ = some (.string a0_4) ∧ w'.cell? ⟨gb114, 0, none⟩ = some (.string a1_0) ∧ w'.cell? ⟨gb114, 1, none⟩ = some (.int .i64 a1_1) ∧ w'.cell? ⟨gb114, 2, none⟩ = some (.int .i64 a1_2) ∧ w'.cell? ⟨gb114, 3, none⟩ = some (.bool a1_3) ∧ w'.cell? ⟨gb114, 4, none⟩ = some (.string a1_4)) ∧ (w'.heap[gb113]? = some (.cells #[.string a0_0, .int .i64 a0_1, .int .i64 a0_2, .bool a0_3, .string a0_4] 23 (0, 0))) ∧ (w'.heap[gb114]? = some (.cells #[.string a1_0, .int .i64 a1_1, .int .i64 a1_2, .bool a1_3, .string a1_4] 23 (0, 0))) ∧ (w'.heap[gb132]? = some (.cells #[.string t127, .int .i64 t128, .int .i64 t129, .bool t130, .string t131] 25 (0, 0))) ∧ (w'.heap[s_]? = some (.cells #[.string (⟨#[]⟩ : ByteArray), .int .i64 0, .int .i64 0, .bool false, .string (⟨#[]⟩ : ByteArray)] 25 (0, 0))) ∧ (w.heap.size ≤ s_) ∧ (w.heap.size ≤ s_) ∧ (gb113 ≠ s_) ∧ (s_ ≠ gb113) ∧ (gb114 ≠ s_) ∧ (s_ ≠ gb114) ∧ (gb132 ≠ s_) ∧ (s_ ≠ gb132) ∧ (Below w.heap.size w w')) ?_ ?_
        rotate_left
        · intro hCont
          refine two_ (i := 1) (j := 5) (Ni := some 24) (Nj := some 7) #[true, true, true, false, false, false, false] #[true, false, true, false, false, true, false] rfl rfl rfl rfl (by kernel_rfl) (by decide) (by decide) (fun K hK => ?_) (fun K hK => ?_)
          · skip
            refine goes_ Try.func13 (by kernel_rfl) rfl #[.agg #[.string a0_0, .int .i64 a0_1, .int .i64 a0_2, .bool a0_3, .string a0_4]] (by rfl) rfl rfl (by (try simp only [List.map_toArray, List.map_cons, List.map_nil]); first | done | rfl) ?_
            with_reducible refine (laws_toSiteEntry.calls a0_0 a0_1 a0_2 a0_3 a0_4 t133 t134 t135 t136 t137 _ A22.out).mono ?_
            rintro e w47 ⟨rfl, hb⟩
            refine ⟨_, rfl, ?_⟩
            have n0_ := Aside0.mk (blk_below (g := gb113) (o := .cells #[.string a0_0, .int .i64 a0_1, .int .i64 a0_2, .bool a0_3, .string a0_4] 23 (0, 0)) (by (with_reducible repeat refine blk_alloc ?_ _); exact BK113.out) hb)
            have n1_ := Aside0.mk (blk_below (g := gb114) (o := .cells #[.string a1_0, .int .i64 a1_1, .int .i64 a1_2, .bool a1_3, .string a1_4] 23 (0, 0)) (by (with_reducible repeat refine blk_alloc ?_ _); exact BK114.out) hb)
            have n2_ := Aside0.mk (blk_below (g := gb132) (o := .cells #[.string t127, .int .i64 t128, .int .i64 t129, .bool t130, .string t131] 25 (0, 0)) (by (with_reducible repeat refine blk_alloc ?_ _); exact BK132.out) hb)
            have n3_ := Aside0.mk (below_step (by repeat (first | (with_reducible first | exact HB.out | apply below_alloc | apply pw_below_drewN | apply below_drew1 | refine below_set ?_ GE113.out | refine below_set ?_ GE114.out | refine below_set ?_ GE132.out) | exact HB.out)) hb)
            clear BK113
            clear BK114
            clear BK132
            clear HB
            have BK113 := n0_
            have BK114 := n1_
            have BK132 := n2_
            have HB := n3_
            clear n0_ n1_ n2_ n3_
            (try clear hb)
            (try clear hb2)
            (try clear hk)
            (try clear hi)
            refine hK.out _ _ ⟨(blk_cell BK113.out 0).trans rfl, (blk_cell BK113.out 1).trans rfl, (blk_cell BK113.out 2).trans rfl, (blk_cell BK113.out 3).trans rfl, (blk_cell BK113.out 4).trans rfl, (blk_cell BK114.out 0).trans rfl, (blk_cell BK114.out 1).trans rfl, (blk_cell BK114.out 2).trans rfl, (blk_cell BK114.out 3).trans rfl, (blk_cell BK114.out 4).trans rfl⟩ (fun hHeld => ?_)
            clear hK K
            refine norm_ (a' := ?_) ?_ ?_
            rotate_left
            · show Act.put _ (some 24) _ = _
              simp only [Act.put, List.setIfInBounds_toArray, List.set_cons_zero, List.set_cons_succ, i64_w, i32_w]
              rfl
            refine two_ (i := 3) (j := 5) (Ni := some 26) (Nj := some 7) #[true, true, true, true, false, false, false] #[true, true, true, false, false, true, false] rfl rfl rfl rfl (by kernel_rfl) (by decide) (by decide) (fun K hK => ?_) (fun K hK => ?_)
            · skip
              refine goes_ Try.func13 (by kernel_rfl) rfl #[.agg #[.string a1_0, .int .i64 a1_1, .int .i64 a1_2, .bool a1_3, .string a1_4]] (by rfl) rfl rfl (by (try simp only [List.map_toArray, List.map_cons, List.map_nil]); first | done | rfl) ?_
              with_reducible refine (laws_toSiteEntry.calls a1_0 a1_1 a1_2 a1_3 a1_4 t138 t139 t140 t141 t142 _ A23.out).mono ?_
              rintro e w48 ⟨rfl, hb⟩
              refine ⟨_, rfl, ?_⟩
              have n0_ := Aside0.mk (blk_below (g := gb113) (o := .cells #[.string a0_0, .int .i64 a0_1, .int .i64 a0_2, .bool a0_3, .string a0_4] 23 (0, 0)) (by (with_reducible repeat refine blk_alloc ?_ _); exact BK113.out) hb)
              have n1_ := Aside0.mk (blk_below (g := gb114) (o := .cells #[.string a1_0, .int .i64 a1_1, .int .i64 a1_2, .bool a1_3, .string a1_4] 23 (0, 0)) (by (with_reducible repeat refine blk_alloc ?_ _); exact BK114.out) hb)
              have n2_ := Aside0.mk (blk_below (g := gb132) (o := .cells #[.string t127, .int .i64 t128, .int .i64 t129, .bool t130, .string t131] 25 (0, 0)) (by (with_reducible repeat refine blk_alloc ?_ _); exact BK132.out) hb)
              have n3_ := Aside0.mk (below_step (by repeat (first | (with_reducible first | exact HB.out | apply below_alloc | apply pw_below_drewN | apply below_drew1 | refine below_set ?_ GE113.out | refine below_set ?_ GE114.out | refine below_set ?_ GE132.out) | exact HB.out)) hb)
              clear BK113
              clear BK114
              clear BK132
              clear HB
              have BK113 := n0_
              have BK114 := n1_
              have BK132 := n2_
              have HB := n3_
              clear n0_ n1_ n2_ n3_
              (try clear hb)
              (try clear hb2)
              (try clear hk)
              (try clear hi)
              refine hK.out _ _ ⟨(blk_cell BK113.out 0).trans rfl, (blk_cell BK113.out 1).trans rfl, (blk_cell BK113.out 2).trans rfl, (blk_cell BK113.out 3).trans rfl, (blk_cell BK113.out 4).trans rfl, (blk_cell BK114.out 0).trans rfl, (blk_cell BK114.out 1).trans rfl, (blk_cell BK114.out 2).trans rfl, (blk_cell BK114.out 3).trans rfl, (blk_cell BK114.out 4).trans rfl⟩ (fun hHeld => ?_)
              clear hK K
              refine norm_ (a' := ?_) ?_ ?_
              rotate_left
              · show Act.put _ (some 26) _ = _
                simp only [Act.put, List.setIfInBounds_toArray, List.set_cons_zero, List.set_cons_succ, i64_w, i32_w]
                rfl
              refine two_ (i := 4) (j := 5) (Ni := some 27) (Nj := some 7) #[true, true, true, true, true, false, false] #[true, true, true, true, false, true, false] rfl rfl rfl rfl (by kernel_rfl) (by decide) (by decide) (fun K hK => ?_) (fun K hK => ?_)
              · skip
                refine goes_ Try.func14 (by kernel_rfl) rfl #[.agg #[.string t133, .int .i64 t134, .int .i64 t135, .bool t136, .string t137], .agg #[.string t138, .int .i64 t139, .int .i64 t140, .bool t141, .string t142]] (by rfl) rfl rfl (by (try simp only [List.map_toArray, List.map_cons, List.map_nil]); first | done | rfl) ?_
                with_reducible refine (impl_Winner.calls t133 t134 t135 t136 t137 t138 t139 t140 t141 t142 t143 t144 t145 t146 t147 _ A24.out).mono ?_
                rintro e w49 ⟨rfl, hb⟩
                refine ⟨_, rfl, ?_⟩
                have n0_ := Aside0.mk (blk_below (g := gb113) (o := .cells #[.string a0_0, .int .i64 a0_1, .int .i64 a0_2, .bool a0_3, .string a0_4] 23 (0, 0)) (by (with_reducible repeat refine blk_alloc ?_ _); exact BK113.out) hb)
                have n1_ := Aside0.mk (blk_below (g := gb114) (o := .cells #[.string a1_0, .int .i64 a1_1, .int .i64 a1_2, .bool a1_3, .string a1_4] 23 (0, 0)) (by (with_reducible repeat refine blk_alloc ?_ _); exact BK114.out) hb)
                have n2_ := Aside0.mk (blk_below (g := gb132) (o := .cells #[.string t127, .int .i64 t128, .int .i64 t129, .bool t130, .string t131] 25 (0, 0)) (by (with_reducible repeat refine blk_alloc ?_ _); exact BK132.out) hb)
                have n3_ := Aside0.mk (below_step (by repeat (first | (with_reducible first | exact HB.out | apply below_alloc | apply pw_below_drewN | apply below_drew1 | refine below_set ?_ GE113.out | refine below_set ?_ GE114.out | refine below_set ?_ GE132.out) | exact HB.out)) hb)
                clear BK113
                clear BK114
                clear BK132
                clear HB
                have BK113 := n0_
                have BK114 := n1_
                have BK132 := n2_
                have HB := n3_
                clear n0_ n1_ n2_ n3_
                (try clear hb)
                (try clear hb2)
                (try clear hk)
                (try clear hi)
                refine hK.out _ _ ⟨(blk_cell BK113.out 0).trans rfl, (blk_cell BK113.out 1).trans rfl, (blk_cell BK113.out 2).trans rfl, (blk_cell BK113.out 3).trans rfl, (blk_cell BK113.out 4).trans rfl, (blk_cell BK114.out 0).trans rfl, (blk_cell BK114.out 1).trans rfl, (blk_cell BK114.out 2).trans rfl, (blk_cell BK114.out 3).trans rfl, (blk_cell BK114.out 4).trans rfl⟩ (fun hHeld => ?_)
                clear hK K
                refine norm_ (a' := ?_) ?_ ?_
                rotate_left
                · show Act.put _ (some 27) _ = _
                  simp only [Act.put, List.setIfInBounds_toArray, List.set_cons_zero, List.set_cons_succ, i64_w, i32_w]
                  rfl
                refine one_ (i := 5) (N := some 7) #[true, true, true, true, true, true, false] rfl rfl (by kernel_rfl) (by decide) (fun K hK => ?_)
                refine box_step ?hg (N := 7) ?hd (cs := #[.string (⟨#[]⟩ : ByteArray), .int .i64 0, .int .i64 0, .bool false, .string (⟨#[]⟩ : ByteArray)]) (t := 25) ?hr ?_; (case hd => rfl); (case hg => rfl); (case hr => first | (go_simp; done) | (go_simp; rfl))
                intro gb148 hg w50 hbox hb
                have n0_ := Aside0.mk (blk_below (g := gb113) (o := .cells #[.string a0_0, .int .i64 a0_1, .int .i64 a0_2, .bool a0_3, .string a0_4] 23 (0, 0)) (by (with_reducible repeat refine blk_alloc ?_ _); exact BK113.out) hb)
                have n1_ := Aside0.mk (blk_below (g := gb114) (o := .cells #[.string a1_0, .int .i64 a1_1, .int .i64 a1_2, .bool a1_3, .string a1_4] 23 (0, 0)) (by (with_reducible repeat refine blk_alloc ?_ _); exact BK114.out) hb)
                have n2_ := Aside0.mk (blk_below (g := gb132) (o := .cells #[.string t127, .int .i64 t128, .int .i64 t129, .bool t130, .string t131] 25 (0, 0)) (by (with_reducible repeat refine blk_alloc ?_ _); exact BK132.out) hb)
                have n3_ := Aside0.mk (below_step (by repeat (first | (with_reducible first | exact HB.out | apply below_alloc | apply pw_below_drewN | apply below_drew1 | refine below_set ?_ GE113.out | refine below_set ?_ GE114.out | refine below_set ?_ GE132.out) | exact HB.out)) hb)
                have n4_ := Aside0.mk (hbox)
                have n5_ := Aside0.mk ((by rw [hg]; exact (below_size (by repeat (first | (with_reducible first | exact HB.out | apply below_alloc | apply pw_below_drewN | apply below_drew1 | refine below_set ?_ GE113.out | refine below_set ?_ GE114.out | refine below_set ?_ GE132.out) | exact HB.out))) : w.heap.size ≤ gb148))
                have n6_ := Aside0.mk ((by rw [hg]; exact (below_size (by repeat (first | (with_reducible first | exact HB.out | apply below_alloc | apply pw_below_drewN | apply below_drew1 | refine below_set ?_ GE113.out | refine below_set ?_ GE114.out | refine below_set ?_ GE132.out) | exact HB.out))) : w.heap.size ≤ gb148))
                have n7_ := Aside0.mk ((by rw [hg]; exact Nat.ne_of_lt (blk_lt (g := gb113) (o := .cells #[.string a0_0, .int .i64 a0_1, .int .i64 a0_2, .bool a0_3, .string a0_4] 23 (0, 0)) (by (with_reducible repeat refine blk_alloc ?_ _); exact BK113.out)) : gb113 ≠ gb148))
                have n8_ := Aside0.mk ((by rw [hg]; exact Nat.ne_of_gt (blk_lt (g := gb113) (o := .cells #[.string a0_0, .int .i64 a0_1, .int .i64 a0_2, .bool a0_3, .string a0_4] 23 (0, 0)) (by (with_reducible repeat refine blk_alloc ?_ _); exact BK113.out)) : gb148 ≠ gb113))
                have n9_ := Aside0.mk ((by rw [hg]; exact Nat.ne_of_lt (blk_lt (g := gb114) (o := .cells #[.string a1_0, .int .i64 a1_1, .int .i64 a1_2, .bool a1_3, .string a1_4] 23 (0, 0)) (by (with_reducible repeat refine blk_alloc ?_ _); exact BK114.out)) : gb114 ≠ gb148))
                have n10_ := Aside0.mk ((by rw [hg]; exact Nat.ne_of_gt (blk_lt (g := gb114) (o := .cells #[.string a1_0, .int .i64 a1_1, .int .i64 a1_2, .bool a1_3, .string a1_4] 23 (0, 0)) (by (with_reducible repeat refine blk_alloc ?_ _); exact BK114.out)) : gb148 ≠ gb114))
                have n11_ := Aside0.mk ((by rw [hg]; exact Nat.ne_of_lt (blk_lt (g := gb132) (o := .cells #[.string t127, .int .i64 t128, .int .i64 t129, .bool t130, .string t131] 25 (0, 0)) (by (with_reducible repeat refine blk_alloc ?_ _); exact BK132.out)) : gb132 ≠ gb148))
                have n12_ := Aside0.mk ((by rw [hg]; exact Nat.ne_of_gt (blk_lt (g := gb132) (o := .cells #[.string t127, .int .i64 t128, .int .i64 t129, .bool t130, .string t131] 25 (0, 0)) (by (with_reducible repeat refine blk_alloc ?_ _); exact BK132.out)) : gb148 ≠ gb132))
                clear BK113
                clear BK114
                clear BK132
                clear HB
                have BK113 := n0_
                have BK114 := n1_
                have BK132 := n2_
                have HB := n3_
                have BK148 := n4_
                have GW148 := n5_
                have GE148 := n6_
                have NB113_148 := n7_
                have NB148_113 := n8_
                have NB114_148 := n9_
                have NB148_114 := n10_
                have NB132_148 := n11_
                have NB148_132 := n12_
                clear n0_ n1_ n2_ n3_ n4_ n5_ n6_ n7_ n8_ n9_ n10_ n11_ n12_
                clear hb hbox hg
                refine hK.out _ _ ⟨(blk_cell BK113.out 0).trans rfl, (blk_cell BK113.out 1).trans rfl, (blk_cell BK113.out 2).trans rfl, (blk_cell BK113.out 3).trans rfl, (blk_cell BK113.out 4).trans rfl, (blk_cell BK114.out 0).trans rfl, (blk_cell BK114.out 1).trans rfl, (blk_cell BK114.out 2).trans rfl, (blk_cell BK114.out 3).trans rfl, (blk_cell BK114.out 4).trans rfl⟩ (fun hHeld => ?_)
                clear hK K
                refine norm_ (a' := ?_) ?_ ?_
                rotate_left
                · show Act.put _ (some 7) _ = _
                  simp only [Act.put, List.setIfInBounds_toArray, List.set_cons_zero, List.set_cons_succ, i64_w, i32_w]
                  rfl
                exact norm_ (by simp only [putAll, Act.put, List.setIfInBounds_toArray, List.set_cons_zero, List.set_cons_succ]) (hCont (gb148) _ ⟨hHeld, (by (with_reducible repeat refine blk_alloc ?_ _); exact BK113.out), (by (with_reducible repeat refine blk_alloc ?_ _); exact BK114.out), (by (with_reducible repeat refine blk_alloc ?_ _); exact BK132.out), (by (with_reducible repeat refine blk_alloc ?_ _); exact BK148.out), GW148.out, GE148.out, NB113_148.out, NB148_113.out, NB114_148.out, NB148_114.out, NB132_148.out, NB148_132.out, (by repeat (first | (with_reducible first | exact HB.out | apply below_alloc | apply pw_below_drewN | apply below_drew1 | refine below_set ?_ GE113.out | refine below_set ?_ GE114.out | refine below_set ?_ GE132.out | refine below_set ?_ GE148.out) | exact HB.out))⟩)
              · skip
                refine box_step ?hg (N := 7) ?hd (cs := #[.string (⟨#[]⟩ : ByteArray), .int .i64 0, .int .i64 0, .bool false, .string (⟨#[]⟩ : ByteArray)]) (t := 25) ?hr ?_; (case hd => rfl); (case hg => rfl); (case hr => first | (go_simp; done) | (go_simp; rfl))
                intro gb148 hg w49 hbox hb
                have n0_ := Aside0.mk (blk_below (g := gb113) (o := .cells #[.string a0_0, .int .i64 a0_1, .int .i64 a0_2, .bool a0_3, .string a0_4] 23 (0, 0)) (by (with_reducible repeat refine blk_alloc ?_ _); exact BK113.out) hb)
                have n1_ := Aside0.mk (blk_below (g := gb114) (o := .cells #[.string a1_0, .int .i64 a1_1, .int .i64 a1_2, .bool a1_3, .string a1_4] 23 (0, 0)) (by (with_reducible repeat refine blk_alloc ?_ _); exact BK114.out) hb)
                have n2_ := Aside0.mk (blk_below (g := gb132) (o := .cells #[.string t127, .int .i64 t128, .int .i64 t129, .bool t130, .string t131] 25 (0, 0)) (by (with_reducible repeat refine blk_alloc ?_ _); exact BK132.out) hb)
                have n3_ := Aside0.mk (below_step (by repeat (first | (with_reducible first | exact HB.out | apply below_alloc | apply pw_below_drewN | apply below_drew1 | refine below_set ?_ GE113.out | refine below_set ?_ GE114.out | refine below_set ?_ GE132.out) | exact HB.out)) hb)
                have n4_ := Aside0.mk (hbox)
                have n5_ := Aside0.mk ((by rw [hg]; exact (below_size (by repeat (first | (with_reducible first | exact HB.out | apply below_alloc | apply pw_below_drewN | apply below_drew1 | refine below_set ?_ GE113.out | refine below_set ?_ GE114.out | refine below_set ?_ GE132.out) | exact HB.out))) : w.heap.size ≤ gb148))
                have n6_ := Aside0.mk ((by rw [hg]; exact (below_size (by repeat (first | (with_reducible first | exact HB.out | apply below_alloc | apply pw_below_drewN | apply below_drew1 | refine below_set ?_ GE113.out | refine below_set ?_ GE114.out | refine below_set ?_ GE132.out) | exact HB.out))) : w.heap.size ≤ gb148))
                have n7_ := Aside0.mk ((by rw [hg]; exact Nat.ne_of_lt (blk_lt (g := gb113) (o := .cells #[.string a0_0, .int .i64 a0_1, .int .i64 a0_2, .bool a0_3, .string a0_4] 23 (0, 0)) (by (with_reducible repeat refine blk_alloc ?_ _); exact BK113.out)) : gb113 ≠ gb148))
                have n8_ := Aside0.mk ((by rw [hg]; exact Nat.ne_of_gt (blk_lt (g := gb113) (o := .cells #[.string a0_0, .int .i64 a0_1, .int .i64 a0_2, .bool a0_3, .string a0_4] 23 (0, 0)) (by (with_reducible repeat refine blk_alloc ?_ _); exact BK113.out)) : gb148 ≠ gb113))
                have n9_ := Aside0.mk ((by rw [hg]; exact Nat.ne_of_lt (blk_lt (g := gb114) (o := .cells #[.string a1_0, .int .i64 a1_1, .int .i64 a1_2, .bool a1_3, .string a1_4] 23 (0, 0)) (by (with_reducible repeat refine blk_alloc ?_ _); exact BK114.out)) : gb114 ≠ gb148))
                have n10_ := Aside0.mk ((by rw [hg]; exact Nat.ne_of_gt (blk_lt (g := gb114) (o := .cells #[.string a1_0, .int .i64 a1_1, .int .i64 a1_2, .bool a1_3, .string a1_4] 23 (0, 0)) (by (with_reducible repeat refine blk_alloc ?_ _); exact BK114.out)) : gb148 ≠ gb114))
                have n11_ := Aside0.mk ((by rw [hg]; exact Nat.ne_of_lt (blk_lt (g := gb132) (o := .cells #[.string t127, .int .i64 t128, .int .i64 t129, .bool t130, .string t131] 25 (0, 0)) (by (with_reducible repeat refine blk_alloc ?_ _); exact BK132.out)) : gb132 ≠ gb148))
                have n12_ := Aside0.mk ((by rw [hg]; exact Nat.ne_of_gt (blk_lt (g := gb132) (o := .cells #[.string t127, .int .i64 t128, .int .i64 t129, .bool t130, .string t131] 25 (0, 0)) (by (with_reducible repeat refine blk_alloc ?_ _); exact BK132.out)) : gb148 ≠ gb132))
                clear BK113
                clear BK114
                clear BK132
                clear HB
                have BK113 := n0_
                have BK114 := n1_
                have BK132 := n2_
                have HB := n3_
                have BK148 := n4_
                have GW148 := n5_
                have GE148 := n6_
                have NB113_148 := n7_
                have NB148_113 := n8_
                have NB114_148 := n9_
                have NB148_114 := n10_
                have NB132_148 := n11_
                have NB148_132 := n12_
                clear n0_ n1_ n2_ n3_ n4_ n5_ n6_ n7_ n8_ n9_ n10_ n11_ n12_
                clear hb hbox hg
                refine hK.out _ _ ⟨(blk_cell BK113.out 0).trans rfl, (blk_cell BK113.out 1).trans rfl, (blk_cell BK113.out 2).trans rfl, (blk_cell BK113.out 3).trans rfl, (blk_cell BK113.out 4).trans rfl, (blk_cell BK114.out 0).trans rfl, (blk_cell BK114.out 1).trans rfl, (blk_cell BK114.out 2).trans rfl, (blk_cell BK114.out 3).trans rfl, (blk_cell BK114.out 4).trans rfl⟩ (fun hHeld => ?_)
                clear hK K
                refine norm_ (a' := ?_) ?_ ?_
                rotate_left
                · show Act.put _ (some 7) _ = _
                  simp only [Act.put, List.setIfInBounds_toArray, List.set_cons_zero, List.set_cons_succ, i64_w, i32_w]
                  rfl
                refine one_ (i := 4) (N := some 27) #[true, true, true, true, true, true, false] rfl rfl (by kernel_rfl) (by decide) (fun K hK => ?_)
                refine goes_ Try.func14 (by kernel_rfl) rfl #[.agg #[.string t133, .int .i64 t134, .int .i64 t135, .bool t136, .string t137], .agg #[.string t138, .int .i64 t139, .int .i64 t140, .bool t141, .string t142]] (by rfl) rfl rfl (by (try simp only [List.map_toArray, List.map_cons, List.map_nil]); first | done | rfl) ?_
                with_reducible refine (impl_Winner.calls t133 t134 t135 t136 t137 t138 t139 t140 t141 t142 t143 t144 t145 t146 t147 _ A24.out).mono ?_
                rintro e w50 ⟨rfl, hb⟩
                refine ⟨_, rfl, ?_⟩
                have n0_ := Aside0.mk (blk_below (g := gb113) (o := .cells #[.string a0_0, .int .i64 a0_1, .int .i64 a0_2, .bool a0_3, .string a0_4] 23 (0, 0)) (by (with_reducible repeat refine blk_alloc ?_ _); exact BK113.out) hb)
                have n1_ := Aside0.mk (blk_below (g := gb114) (o := .cells #[.string a1_0, .int .i64 a1_1, .int .i64 a1_2, .bool a1_3, .string a1_4] 23 (0, 0)) (by (with_reducible repeat refine blk_alloc ?_ _); exact BK114.out) hb)
                have n2_ := Aside0.mk (blk_below (g := gb132) (o := .cells #[.string t127, .int .i64 t128, .int .i64 t129, .bool t130, .string t131] 25 (0, 0)) (by (with_reducible repeat refine blk_alloc ?_ _); exact BK132.out) hb)
                have n3_ := Aside0.mk (blk_below (g := gb148) (o := .cells #[.string (⟨#[]⟩ : ByteArray), .int .i64 0, .int .i64 0, .bool false, .string (⟨#[]⟩ : ByteArray)] 25 (0, 0)) (by (with_reducible repeat refine blk_alloc ?_ _); exact BK148.out) hb)
                have n4_ := Aside0.mk (below_step (by repeat (first | (with_reducible first | exact HB.out | apply below_alloc | apply pw_below_drewN | apply below_drew1 | refine below_set ?_ GE113.out | refine below_set ?_ GE114.out | refine below_set ?_ GE132.out | refine below_set ?_ GE148.out) | exact HB.out)) hb)
                clear BK113
                clear BK114
                clear BK132
                clear BK148
                clear HB
                have BK113 := n0_
                have BK114 := n1_
                have BK132 := n2_
                have BK148 := n3_
                have HB := n4_
                clear n0_ n1_ n2_ n3_ n4_
                (try clear hb)
                (try clear hb2)
                (try clear hk)
                (try clear hi)
                refine hK.out _ _ ⟨(blk_cell BK113.out 0).trans rfl, (blk_cell BK113.out 1).trans rfl, (blk_cell BK113.out 2).trans rfl, (blk_cell BK113.out 3).trans rfl, (blk_cell BK113.out 4).trans rfl, (blk_cell BK114.out 0).trans rfl, (blk_cell BK114.out 1).trans rfl, (blk_cell BK114.out 2).trans rfl, (blk_cell BK114.out 3).trans rfl, (blk_cell BK114.out 4).trans rfl⟩ (fun hHeld => ?_)
                clear hK K
                refine norm_ (a' := ?_) ?_ ?_
                rotate_left
                · show Act.put _ (some 27) _ = _
                  simp only [Act.put, List.setIfInBounds_toArray, List.set_cons_zero, List.set_cons_succ, i64_w, i32_w]
                  rfl
                exact norm_ (by simp only [putAll, Act.put, List.setIfInBounds_toArray, List.set_cons_zero, List.set_cons_succ]) (hCont (gb148) _ ⟨hHeld, (by (with_reducible repeat refine blk_alloc ?_ _); exact BK113.out), (by (with_reducible repeat refine blk_alloc ?_ _); exact BK114.out), (by (with_reducible repeat refine blk_alloc ?_ _); exact BK132.out), (by (with_reducible repeat refine blk_alloc ?_ _); exact BK148.out), GW148.out, GE148.out, NB113_148.out, NB148_113.out, NB114_148.out, NB148_114.out, NB132_148.out, NB148_132.out, (by repeat (first | (with_reducible first | exact HB.out | apply below_alloc | apply pw_below_drewN | apply below_drew1 | refine below_set ?_ GE113.out | refine below_set ?_ GE114.out | refine below_set ?_ GE132.out | refine below_set ?_ GE148.out) | exact HB.out))⟩)
            · skip
              refine box_step ?hg (N := 7) ?hd (cs := #[.string (⟨#[]⟩ : ByteArray), .int .i64 0, .int .i64 0, .bool false, .string (⟨#[]⟩ : ByteArray)]) (t := 25) ?hr ?_; (case hd => rfl); (case hg => rfl); (case hr => first | (go_simp; done) | (go_simp; rfl))
              intro gb148 hg w48 hbox hb
              have n0_ := Aside0.mk (blk_below (g := gb113) (o := .cells #[.string a0_0, .int .i64 a0_1, .int .i64 a0_2, .bool a0_3, .string a0_4] 23 (0, 0)) (by (with_reducible repeat refine blk_alloc ?_ _); exact BK113.out) hb)
              have n1_ := Aside0.mk (blk_below (g := gb114) (o := .cells #[.string a1_0, .int .i64 a1_1, .int .i64 a1_2, .bool a1_3, .string a1_4] 23 (0, 0)) (by (with_reducible repeat refine blk_alloc ?_ _); exact BK114.out) hb)
              have n2_ := Aside0.mk (blk_below (g := gb132) (o := .cells #[.string t127, .int .i64 t128, .int .i64 t129, .bool t130, .string t131] 25 (0, 0)) (by (with_reducible repeat refine blk_alloc ?_ _); exact BK132.out) hb)
              have n3_ := Aside0.mk (below_step (by repeat (first | (with_reducible first | exact HB.out | apply below_alloc | apply pw_below_drewN | apply below_drew1 | refine below_set ?_ GE113.out | refine below_set ?_ GE114.out | refine below_set ?_ GE132.out) | exact HB.out)) hb)
              have n4_ := Aside0.mk (hbox)
              have n5_ := Aside0.mk ((by rw [hg]; exact (below_size (by repeat (first | (with_reducible first | exact HB.out | apply below_alloc | apply pw_below_drewN | apply below_drew1 | refine below_set ?_ GE113.out | refine below_set ?_ GE114.out | refine below_set ?_ GE132.out) | exact HB.out))) : w.heap.size ≤ gb148))
              have n6_ := Aside0.mk ((by rw [hg]; exact (below_size (by repeat (first | (with_reducible first | exact HB.out | apply below_alloc | apply pw_below_drewN | apply below_drew1 | refine below_set ?_ GE113.out | refine below_set ?_ GE114.out | refine below_set ?_ GE132.out) | exact HB.out))) : w.heap.size ≤ gb148))
              have n7_ := Aside0.mk ((by rw [hg]; exact Nat.ne_of_lt (blk_lt (g := gb113) (o := .cells #[.string a0_0, .int .i64 a0_1, .int .i64 a0_2, .bool a0_3, .string a0_4] 23 (0, 0)) (by (with_reducible repeat refine blk_alloc ?_ _); exact BK113.out)) : gb113 ≠ gb148))
              have n8_ := Aside0.mk ((by rw [hg]; exact Nat.ne_of_gt (blk_lt (g := gb113) (o := .cells #[.string a0_0, .int .i64 a0_1, .int .i64 a0_2, .bool a0_3, .string a0_4] 23 (0, 0)) (by (with_reducible repeat refine blk_alloc ?_ _); exact BK113.out)) : gb148 ≠ gb113))
              have n9_ := Aside0.mk ((by rw [hg]; exact Nat.ne_of_lt (blk_lt (g := gb114) (o := .cells #[.string a1_0, .int .i64 a1_1, .int .i64 a1_2, .bool a1_3, .string a1_4] 23 (0, 0)) (by (with_reducible repeat refine blk_alloc ?_ _); exact BK114.out)) : gb114 ≠ gb148))
              have n10_ := Aside0.mk ((by rw [hg]; exact Nat.ne_of_gt (blk_lt (g := gb114) (o := .cells #[.string a1_0, .int .i64 a1_1, .int .i64 a1_2, .bool a1_3, .string a1_4] 23 (0, 0)) (by (with_reducible repeat refine blk_alloc ?_ _); exact BK114.out)) : gb148 ≠ gb114))
              have n11_ := Aside0.mk ((by rw [hg]; exact Nat.ne_of_lt (blk_lt (g := gb132) (o := .cells #[.string t127, .int .i64 t128, .int .i64 t129, .bool t130, .string t131] 25 (0, 0)) (by (with_reducible repeat refine blk_alloc ?_ _); exact BK132.out)) : gb132 ≠ gb148))
              have n12_ := Aside0.mk ((by rw [hg]; exact Nat.ne_of_gt (blk_lt (g := gb132) (o := .cells #[.string t127, .int .i64 t128, .int .i64 t129, .bool t130, .string t131] 25 (0, 0)) (by (with_reducible repeat refine blk_alloc ?_ _); exact BK132.out)) : gb148 ≠ gb132))
              clear BK113
              clear BK114
              clear BK132
              clear HB
              have BK113 := n0_
              have BK114 := n1_
              have BK132 := n2_
              have HB := n3_
              have BK148 := n4_
              have GW148 := n5_
              have GE148 := n6_
              have NB113_148 := n7_
              have NB148_113 := n8_
              have NB114_148 := n9_
              have NB148_114 := n10_
              have NB132_148 := n11_
              have NB148_132 := n12_
              clear n0_ n1_ n2_ n3_ n4_ n5_ n6_ n7_ n8_ n9_ n10_ n11_ n12_
              clear hb hbox hg
              refine hK.out _ _ ⟨(blk_cell BK113.out 0).trans rfl, (blk_cell BK113.out 1).trans rfl, (blk_cell BK113.out 2).trans rfl, (blk_cell BK113.out 3).trans rfl, (blk_cell BK113.out 4).trans rfl, (blk_cell BK114.out 0).trans rfl, (blk_cell BK114.out 1).trans rfl, (blk_cell BK114.out 2).trans rfl, (blk_cell BK114.out 3).trans rfl, (blk_cell BK114.out 4).trans rfl⟩ (fun hHeld => ?_)
              clear hK K
              refine norm_ (a' := ?_) ?_ ?_
              rotate_left
              · show Act.put _ (some 7) _ = _
                simp only [Act.put, List.setIfInBounds_toArray, List.set_cons_zero, List.set_cons_succ, i64_w, i32_w]
                rfl
              refine one_ (i := 3) (N := some 26) #[true, true, true, true, false, true, false] rfl rfl (by kernel_rfl) (by decide) (fun K hK => ?_)
              refine goes_ Try.func13 (by kernel_rfl) rfl #[.agg #[.string a1_0, .int .i64 a1_1, .int .i64 a1_2, .bool a1_3, .string a1_4]] (by rfl) rfl rfl (by (try simp only [List.map_toArray, List.map_cons, List.map_nil]); first | done | rfl) ?_
              with_reducible refine (laws_toSiteEntry.calls a1_0 a1_1 a1_2 a1_3 a1_4 t138 t139 t140 t141 t142 _ A23.out).mono ?_
              rintro e w49 ⟨rfl, hb⟩
              refine ⟨_, rfl, ?_⟩
              have n0_ := Aside0.mk (blk_below (g := gb113) (o := .cells #[.string a0_0, .int .i64 a0_1, .int .i64 a0_2, .bool a0_3, .string a0_4] 23 (0, 0)) (by (with_reducible repeat refine blk_alloc ?_ _); exact BK113.out) hb)
              have n1_ := Aside0.mk (blk_below (g := gb114) (o := .cells #[.string a1_0, .int .i64 a1_1, .int .i64 a1_2, .bool a1_3, .string a1_4] 23 (0, 0)) (by (with_reducible repeat refine blk_alloc ?_ _); exact BK114.out) hb)
              have n2_ := Aside0.mk (blk_below (g := gb132) (o := .cells #[.string t127, .int .i64 t128, .int .i64 t129, .bool t130, .string t131] 25 (0, 0)) (by (with_reducible repeat refine blk_alloc ?_ _); exact BK132.out) hb)
              have n3_ := Aside0.mk (blk_below (g := gb148) (o := .cells #[.string (⟨#[]⟩ : ByteArray), .int .i64 0, .int .i64 0, .bool false, .string (⟨#[]⟩ : ByteArray)] 25 (0, 0)) (by (with_reducible repeat refine blk_alloc ?_ _); exact BK148.out) hb)
              have n4_ := Aside0.mk (below_step (by repeat (first | (with_reducible first | exact HB.out | apply below_alloc | apply pw_below_drewN | apply below_drew1 | refine below_set ?_ GE113.out | refine below_set ?_ GE114.out | refine below_set ?_ GE132.out | refine below_set ?_ GE148.out) | exact HB.out)) hb)
              clear BK113
              clear BK114
              clear BK132
              clear BK148
              clear HB
              have BK113 := n0_
              have BK114 := n1_
              have BK132 := n2_
              have BK148 := n3_
              have HB := n4_
              clear n0_ n1_ n2_ n3_ n4_
              (try clear hb)
              (try clear hb2)
              (try clear hk)
              (try clear hi)
              refine hK.out _ _ ⟨(blk_cell BK113.out 0).trans rfl, (blk_cell BK113.out 1).trans rfl, (blk_cell BK113.out 2).trans rfl, (blk_cell BK113.out 3).trans rfl, (blk_cell BK113.out 4).trans rfl, (blk_cell BK114.out 0).trans rfl, (blk_cell BK114.out 1).trans rfl, (blk_cell BK114.out 2).trans rfl, (blk_cell BK114.out 3).trans rfl, (blk_cell BK114.out 4).trans rfl⟩ (fun hHeld => ?_)
              clear hK K
              refine norm_ (a' := ?_) ?_ ?_
              rotate_left
              · show Act.put _ (some 26) _ = _
                simp only [Act.put, List.setIfInBounds_toArray, List.set_cons_zero, List.set_cons_succ, i64_w, i32_w]
                rfl
              refine one_ (i := 4) (N := some 27) #[true, true, true, true, true, true, false] rfl rfl (by kernel_rfl) (by decide) (fun K hK => ?_)
              refine goes_ Try.func14 (by kernel_rfl) rfl #[.agg #[.string t133, .int .i64 t134, .int .i64 t135, .bool t136, .string t137], .agg #[.string t138, .int .i64 t139, .int .i64 t140, .bool t141, .string t142]] (by rfl) rfl rfl (by (try simp only [List.map_toArray, List.map_cons, List.map_nil]); first | done | rfl) ?_
              with_reducible refine (impl_Winner.calls t133 t134 t135 t136 t137 t138 t139 t140 t141 t142 t143 t144 t145 t146 t147 _ A24.out).mono ?_
              rintro e w50 ⟨rfl, hb⟩
              refine ⟨_, rfl, ?_⟩
              have n0_ := Aside0.mk (blk_below (g := gb113) (o := .cells #[.string a0_0, .int .i64 a0_1, .int .i64 a0_2, .bool a0_3, .string a0_4] 23 (0, 0)) (by (with_reducible repeat refine blk_alloc ?_ _); exact BK113.out) hb)
              have n1_ := Aside0.mk (blk_below (g := gb114) (o := .cells #[.string a1_0, .int .i64 a1_1, .int .i64 a1_2, .bool a1_3, .string a1_4] 23 (0, 0)) (by (with_reducible repeat refine blk_alloc ?_ _); exact BK114.out) hb)
              have n2_ := Aside0.mk (blk_below (g := gb132) (o := .cells #[.string t127, .int .i64 t128, .int .i64 t129, .bool t130, .string t131] 25 (0, 0)) (by (with_reducible repeat refine blk_alloc ?_ _); exact BK132.out) hb)
              have n3_ := Aside0.mk (blk_below (g := gb148) (o := .cells #[.string (⟨#[]⟩ : ByteArray), .int .i64 0, .int .i64 0, .bool false, .string (⟨#[]⟩ : ByteArray)] 25 (0, 0)) (by (with_reducible repeat refine blk_alloc ?_ _); exact BK148.out) hb)
              have n4_ := Aside0.mk (below_step (by repeat (first | (with_reducible first | exact HB.out | apply below_alloc | apply pw_below_drewN | apply below_drew1 | refine below_set ?_ GE113.out | refine below_set ?_ GE114.out | refine below_set ?_ GE132.out | refine below_set ?_ GE148.out) | exact HB.out)) hb)
              clear BK113
              clear BK114
              clear BK132
              clear BK148
              clear HB
              have BK113 := n0_
              have BK114 := n1_
              have BK132 := n2_
              have BK148 := n3_
              have HB := n4_
              clear n0_ n1_ n2_ n3_ n4_
              (try clear hb)
              (try clear hb2)
              (try clear hk)
              (try clear hi)
              refine hK.out _ _ ⟨(blk_cell BK113.out 0).trans rfl, (blk_cell BK113.out 1).trans rfl, (blk_cell BK113.out 2).trans rfl, (blk_cell BK113.out 3).trans rfl, (blk_cell BK113.out 4).trans rfl, (blk_cell BK114.out 0).trans rfl, (blk_cell BK114.out 1).trans rfl, (blk_cell BK114.out 2).trans rfl, (blk_cell BK114.out 3).trans rfl, (blk_cell BK114.out 4).trans rfl⟩ (fun hHeld => ?_)
              clear hK K
              refine norm_ (a' := ?_) ?_ ?_
              rotate_left
              · show Act.put _ (some 27) _ = _
                simp only [Act.put, List.setIfInBounds_toArray, List.set_cons_zero, List.set_cons_succ, i64_w, i32_w]
                rfl
              exact norm_ (by simp only [putAll, Act.put, List.setIfInBounds_toArray, List.set_cons_zero, List.set_cons_succ]) (hCont (gb148) _ ⟨hHeld, (by (with_reducible repeat refine blk_alloc ?_ _); exact BK113.out), (by (with_reducible repeat refine blk_alloc ?_ _); exact BK114.out), (by (with_reducible repeat refine blk_alloc ?_ _); exact BK132.out), (by (with_reducible repeat refine blk_alloc ?_ _); exact BK148.out), GW148.out, GE148.out, NB113_148.out, NB148_113.out, NB114_148.out, NB148_114.out, NB132_148.out, NB148_132.out, (by repeat (first | (with_reducible first | exact HB.out | apply below_alloc | apply pw_below_drewN | apply below_drew1 | refine below_set ?_ GE113.out | refine below_set ?_ GE114.out | refine below_set ?_ GE132.out | refine below_set ?_ GE148.out) | exact HB.out))⟩)
          · skip
            refine box_step ?hg (N := 7) ?hd (cs := #[.string (⟨#[]⟩ : ByteArray), .int .i64 0, .int .i64 0, .bool false, .string (⟨#[]⟩ : ByteArray)]) (t := 25) ?hr ?_; (case hd => rfl); (case hg => rfl); (case hr => first | (go_simp; done) | (go_simp; rfl))
            intro gb148 hg w47 hbox hb
            have n0_ := Aside0.mk (blk_below (g := gb113) (o := .cells #[.string a0_0, .int .i64 a0_1, .int .i64 a0_2, .bool a0_3, .string a0_4] 23 (0, 0)) (by (with_reducible repeat refine blk_alloc ?_ _); exact BK113.out) hb)
            have n1_ := Aside0.mk (blk_below (g := gb114) (o := .cells #[.string a1_0, .int .i64 a1_1, .int .i64 a1_2, .bool a1_3, .string a1_4] 23 (0, 0)) (by (with_reducible repeat refine blk_alloc ?_ _); exact BK114.out) hb)
            have n2_ := Aside0.mk (blk_below (g := gb132) (o := .cells #[.string t127, .int .i64 t128, .int .i64 t129, .bool t130, .string t131] 25 (0, 0)) (by (with_reducible repeat refine blk_alloc ?_ _); exact BK132.out) hb)
            have n3_ := Aside0.mk (below_step (by repeat (first | (with_reducible first | exact HB.out | apply below_alloc | apply pw_below_drewN | apply below_drew1 | refine below_set ?_ GE113.out | refine below_set ?_ GE114.out | refine below_set ?_ GE132.out) | exact HB.out)) hb)
            have n4_ := Aside0.mk (hbox)
            have n5_ := Aside0.mk ((by rw [hg]; exact (below_size (by repeat (first | (with_reducible first | exact HB.out | apply below_alloc | apply pw_below_drewN | apply below_drew1 | refine below_set ?_ GE113.out | refine below_set ?_ GE114.out | refine below_set ?_ GE132.out) | exact HB.out))) : w.heap.size ≤ gb148))
            have n6_ := Aside0.mk ((by rw [hg]; exact (below_size (by repeat (first | (with_reducible first | exact HB.out | apply below_alloc | apply pw_below_drewN | apply below_drew1 | refine below_set ?_ GE113.out | refine below_set ?_ GE114.out | refine below_set ?_ GE132.out) | exact HB.out))) : w.heap.size ≤ gb148))
            have n7_ := Aside0.mk ((by rw [hg]; exact Nat.ne_of_lt (blk_lt (g := gb113) (o := .cells #[.string a0_0, .int .i64 a0_1, .int .i64 a0_2, .bool a0_3, .string a0_4] 23 (0, 0)) (by (with_reducible repeat refine blk_alloc ?_ _); exact BK113.out)) : gb113 ≠ gb148))
            have n8_ := Aside0.mk ((by rw [hg]; exact Nat.ne_of_gt (blk_lt (g := gb113) (o := .cells #[.string a0_0, .int .i64 a0_1, .int .i64 a0_2, .bool a0_3, .string a0_4] 23 (0, 0)) (by (with_reducible repeat refine blk_alloc ?_ _); exact BK113.out)) : gb148 ≠ gb113))
            have n9_ := Aside0.mk ((by rw [hg]; exact Nat.ne_of_lt (blk_lt (g := gb114) (o := .cells #[.string a1_0, .int .i64 a1_1, .int .i64 a1_2, .bool a1_3, .string a1_4] 23 (0, 0)) (by (with_reducible repeat refine blk_alloc ?_ _); exact BK114.out)) : gb114 ≠ gb148))
            have n10_ := Aside0.mk ((by rw [hg]; exact Nat.ne_of_gt (blk_lt (g := gb114) (o := .cells #[.string a1_0, .int .i64 a1_1, .int .i64 a1_2, .bool a1_3, .string a1_4] 23 (0, 0)) (by (with_reducible repeat refine blk_alloc ?_ _); exact BK114.out)) : gb148 ≠ gb114))
            have n11_ := Aside0.mk ((by rw [hg]; exact Nat.ne_of_lt (blk_lt (g := gb132) (o := .cells #[.string t127, .int .i64 t128, .int .i64 t129, .bool t130, .string t131] 25 (0, 0)) (by (with_reducible repeat refine blk_alloc ?_ _); exact BK132.out)) : gb132 ≠ gb148))
            have n12_ := Aside0.mk ((by rw [hg]; exact Nat.ne_of_gt (blk_lt (g := gb132) (o := .cells #[.string t127, .int .i64 t128, .int .i64 t129, .bool t130, .string t131] 25 (0, 0)) (by (with_reducible repeat refine blk_alloc ?_ _); exact BK132.out)) : gb148 ≠ gb132))
            clear BK113
            clear BK114
            clear BK132
            clear HB
            have BK113 := n0_
            have BK114 := n1_
            have BK132 := n2_
            have HB := n3_
            have BK148 := n4_
            have GW148 := n5_
            have GE148 := n6_
            have NB113_148 := n7_
            have NB148_113 := n8_
            have NB114_148 := n9_
            have NB148_114 := n10_
            have NB132_148 := n11_
            have NB148_132 := n12_
            clear n0_ n1_ n2_ n3_ n4_ n5_ n6_ n7_ n8_ n9_ n10_ n11_ n12_
            clear hb hbox hg
            refine hK.out _ _ ⟨(blk_cell BK113.out 0).trans rfl, (blk_cell BK113.out 1).trans rfl, (blk_cell BK113.out 2).trans rfl, (blk_cell BK113.out 3).trans rfl, (blk_cell BK113.out 4).trans rfl, (blk_cell BK114.out 0).trans rfl, (blk_cell BK114.out 1).trans rfl, (blk_cell BK114.out 2).trans rfl, (blk_cell BK114.out 3).trans rfl, (blk_cell BK114.out 4).trans rfl⟩ (fun hHeld => ?_)
            clear hK K
            refine norm_ (a' := ?_) ?_ ?_
            rotate_left
            · show Act.put _ (some 7) _ = _
              simp only [Act.put, List.setIfInBounds_toArray, List.set_cons_zero, List.set_cons_succ, i64_w, i32_w]
              rfl
            refine one_ (i := 1) (N := some 24) #[true, true, true, false, false, true, false] rfl rfl (by kernel_rfl) (by decide) (fun K hK => ?_)
            refine goes_ Try.func13 (by kernel_rfl) rfl #[.agg #[.string a0_0, .int .i64 a0_1, .int .i64 a0_2, .bool a0_3, .string a0_4]] (by rfl) rfl rfl (by (try simp only [List.map_toArray, List.map_cons, List.map_nil]); first | done | rfl) ?_
            with_reducible refine (laws_toSiteEntry.calls a0_0 a0_1 a0_2 a0_3 a0_4 t133 t134 t135 t136 t137 _ A22.out).mono ?_
            rintro e w48 ⟨rfl, hb⟩
            refine ⟨_, rfl, ?_⟩
            have n0_ := Aside0.mk (blk_below (g := gb113) (o := .cells #[.string a0_0, .int .i64 a0_1, .int .i64 a0_2, .bool a0_3, .string a0_4] 23 (0, 0)) (by (with_reducible repeat refine blk_alloc ?_ _); exact BK113.out) hb)
            have n1_ := Aside0.mk (blk_below (g := gb114) (o := .cells #[.string a1_0, .int .i64 a1_1, .int .i64 a1_2, .bool a1_3, .string a1_4] 23 (0, 0)) (by (with_reducible repeat refine blk_alloc ?_ _); exact BK114.out) hb)
            have n2_ := Aside0.mk (blk_below (g := gb132) (o := .cells #[.string t127, .int .i64 t128, .int .i64 t129, .bool t130, .string t131] 25 (0, 0)) (by (with_reducible repeat refine blk_alloc ?_ _); exact BK132.out) hb)
            have n3_ := Aside0.mk (blk_below (g := gb148) (o := .cells #[.string (⟨#[]⟩ : ByteArray), .int .i64 0, .int .i64 0, .bool false, .string (⟨#[]⟩ : ByteArray)] 25 (0, 0)) (by (with_reducible repeat refine blk_alloc ?_ _); exact BK148.out) hb)
            have n4_ := Aside0.mk (below_step (by repeat (first | (with_reducible first | exact HB.out | apply below_alloc | apply pw_below_drewN | apply below_drew1 | refine below_set ?_ GE113.out | refine below_set ?_ GE114.out | refine below_set ?_ GE132.out | refine below_set ?_ GE148.out) | exact HB.out)) hb)
            clear BK113
            clear BK114
            clear BK132
            clear BK148
            clear HB
            have BK113 := n0_
            have BK114 := n1_
            have BK132 := n2_
            have BK148 := n3_
            have HB := n4_
            clear n0_ n1_ n2_ n3_ n4_
            (try clear hb)
            (try clear hb2)
            (try clear hk)
            (try clear hi)
            refine hK.out _ _ ⟨(blk_cell BK113.out 0).trans rfl, (blk_cell BK113.out 1).trans rfl, (blk_cell BK113.out 2).trans rfl, (blk_cell BK113.out 3).trans rfl, (blk_cell BK113.out 4).trans rfl, (blk_cell BK114.out 0).trans rfl, (blk_cell BK114.out 1).trans rfl, (blk_cell BK114.out 2).trans rfl, (blk_cell BK114.out 3).trans rfl, (blk_cell BK114.out 4).trans rfl⟩ (fun hHeld => ?_)
            clear hK K
            refine norm_ (a' := ?_) ?_ ?_
            rotate_left
            · show Act.put _ (some 24) _ = _
              simp only [Act.put, List.setIfInBounds_toArray, List.set_cons_zero, List.set_cons_succ, i64_w, i32_w]
              rfl
            refine one_ (i := 3) (N := some 26) #[true, true, true, true, false, true, false] rfl rfl (by kernel_rfl) (by decide) (fun K hK => ?_)
            refine goes_ Try.func13 (by kernel_rfl) rfl #[.agg #[.string a1_0, .int .i64 a1_1, .int .i64 a1_2, .bool a1_3, .string a1_4]] (by rfl) rfl rfl (by (try simp only [List.map_toArray, List.map_cons, List.map_nil]); first | done | rfl) ?_
            with_reducible refine (laws_toSiteEntry.calls a1_0 a1_1 a1_2 a1_3 a1_4 t138 t139 t140 t141 t142 _ A23.out).mono ?_
            rintro e w49 ⟨rfl, hb⟩
            refine ⟨_, rfl, ?_⟩
            have n0_ := Aside0.mk (blk_below (g := gb113) (o := .cells #[.string a0_0, .int .i64 a0_1, .int .i64 a0_2, .bool a0_3, .string a0_4] 23 (0, 0)) (by (with_reducible repeat refine blk_alloc ?_ _); exact BK113.out) hb)
            have n1_ := Aside0.mk (blk_below (g := gb114) (o := .cells #[.string a1_0, .int .i64 a1_1, .int .i64 a1_2, .bool a1_3, .string a1_4] 23 (0, 0)) (by (with_reducible repeat refine blk_alloc ?_ _); exact BK114.out) hb)
            have n2_ := Aside0.mk (blk_below (g := gb132) (o := .cells #[.string t127, .int .i64 t128, .int .i64 t129, .bool t130, .string t131] 25 (0, 0)) (by (with_reducible repeat refine blk_alloc ?_ _); exact BK132.out) hb)
            have n3_ := Aside0.mk (blk_below (g := gb148) (o := .cells #[.string (⟨#[]⟩ : ByteArray), .int .i64 0, .int .i64 0, .bool false, .string (⟨#[]⟩ : ByteArray)] 25 (0, 0)) (by (with_reducible repeat refine blk_alloc ?_ _); exact BK148.out) hb)
            have n4_ := Aside0.mk (below_step (by repeat (first | (with_reducible first | exact HB.out | apply below_alloc | apply pw_below_drewN | apply below_drew1 | refine below_set ?_ GE113.out | refine below_set ?_ GE114.out | refine below_set ?_ GE132.out | refine below_set ?_ GE148.out) | exact HB.out)) hb)
            clear BK113
            clear BK114
            clear BK132
            clear BK148
            clear HB
            have BK113 := n0_
            have BK114 := n1_
            have BK132 := n2_
            have BK148 := n3_
            have HB := n4_
            clear n0_ n1_ n2_ n3_ n4_
            (try clear hb)
            (try clear hb2)
            (try clear hk)
            (try clear hi)
            refine hK.out _ _ ⟨(blk_cell BK113.out 0).trans rfl, (blk_cell BK113.out 1).trans rfl, (blk_cell BK113.out 2).trans rfl, (blk_cell BK113.out 3).trans rfl, (blk_cell BK113.out 4).trans rfl, (blk_cell BK114.out 0).trans rfl, (blk_cell BK114.out 1).trans rfl, (blk_cell BK114.out 2).trans rfl, (blk_cell BK114.out 3).trans rfl, (blk_cell BK114.out 4).trans rfl⟩ (fun hHeld => ?_)
            clear hK K
            refine norm_ (a' := ?_) ?_ ?_
            rotate_left
            · show Act.put _ (some 26) _ = _
              simp only [Act.put, List.setIfInBounds_toArray, List.set_cons_zero, List.set_cons_succ, i64_w, i32_w]
              rfl
            refine one_ (i := 4) (N := some 27) #[true, true, true, true, true, true, false] rfl rfl (by kernel_rfl) (by decide) (fun K hK => ?_)
            refine goes_ Try.func14 (by kernel_rfl) rfl #[.agg #[.string t133, .int .i64 t134, .int .i64 t135, .bool t136, .string t137], .agg #[.string t138, .int .i64 t139, .int .i64 t140, .bool t141, .string t142]] (by rfl) rfl rfl (by (try simp only [List.map_toArray, List.map_cons, List.map_nil]); first | done | rfl) ?_
            with_reducible refine (impl_Winner.calls t133 t134 t135 t136 t137 t138 t139 t140 t141 t142 t143 t144 t145 t146 t147 _ A24.out).mono ?_
            rintro e w50 ⟨rfl, hb⟩
            refine ⟨_, rfl, ?_⟩
            have n0_ := Aside0.mk (blk_below (g := gb113) (o := .cells #[.string a0_0, .int .i64 a0_1, .int .i64 a0_2, .bool a0_3, .string a0_4] 23 (0, 0)) (by (with_reducible repeat refine blk_alloc ?_ _); exact BK113.out) hb)
            have n1_ := Aside0.mk (blk_below (g := gb114) (o := .cells #[.string a1_0, .int .i64 a1_1, .int .i64 a1_2, .bool a1_3, .string a1_4] 23 (0, 0)) (by (with_reducible repeat refine blk_alloc ?_ _); exact BK114.out) hb)
            have n2_ := Aside0.mk (blk_below (g := gb132) (o := .cells #[.string t127, .int .i64 t128, .int .i64 t129, .bool t130, .string t131] 25 (0, 0)) (by (with_reducible repeat refine blk_alloc ?_ _); exact BK132.out) hb)
            have n3_ := Aside0.mk (blk_below (g := gb148) (o := .cells #[.string (⟨#[]⟩ : ByteArray), .int .i64 0, .int .i64 0, .bool false, .string (⟨#[]⟩ : ByteArray)] 25 (0, 0)) (by (with_reducible repeat refine blk_alloc ?_ _); exact BK148.out) hb)
            have n4_ := Aside0.mk (below_step (by repeat (first | (with_reducible first | exact HB.out | apply below_alloc | apply pw_below_drewN | apply below_drew1 | refine below_set ?_ GE113.out | refine below_set ?_ GE114.out | refine below_set ?_ GE132.out | refine below_set ?_ GE148.out) | exact HB.out)) hb)
            clear BK113
            clear BK114
            clear BK132
            clear BK148
            clear HB
            have BK113 := n0_
            have BK114 := n1_
            have BK132 := n2_
            have BK148 := n3_
            have HB := n4_
            clear n0_ n1_ n2_ n3_ n4_
            (try clear hb)
            (try clear hb2)
            (try clear hk)
            (try clear hi)
            refine hK.out _ _ ⟨(blk_cell BK113.out 0).trans rfl, (blk_cell BK113.out 1).trans rfl, (blk_cell BK113.out 2).trans rfl, (blk_cell BK113.out 3).trans rfl, (blk_cell BK113.out 4).trans rfl, (blk_cell BK114.out 0).trans rfl, (blk_cell BK114.out 1).trans rfl, (blk_cell BK114.out 2).trans rfl, (blk_cell BK114.out 3).trans rfl, (blk_cell BK114.out 4).trans rfl⟩ (fun hHeld => ?_)
            clear hK K
            refine norm_ (a' := ?_) ?_ ?_
            rotate_left
            · show Act.put _ (some 27) _ = _
              simp only [Act.put, List.setIfInBounds_toArray, List.set_cons_zero, List.set_cons_succ, i64_w, i32_w]
              rfl
            exact norm_ (by simp only [putAll, Act.put, List.setIfInBounds_toArray, List.set_cons_zero, List.set_cons_succ]) (hCont (gb148) _ ⟨hHeld, (by (with_reducible repeat refine blk_alloc ?_ _); exact BK113.out), (by (with_reducible repeat refine blk_alloc ?_ _); exact BK114.out), (by (with_reducible repeat refine blk_alloc ?_ _); exact BK132.out), (by (with_reducible repeat refine blk_alloc ?_ _); exact BK148.out), GW148.out, GE148.out, NB113_148.out, NB148_113.out, NB114_148.out, NB148_114.out, NB132_148.out, NB148_132.out, (by repeat (first | (with_reducible first | exact HB.out | apply below_alloc | apply pw_below_drewN | apply below_drew1 | refine below_set ?_ GE113.out | refine below_set ?_ GE114.out | refine below_set ?_ GE132.out | refine below_set ?_ GE148.out) | exact HB.out))⟩)
        rintro gb148 w51 ⟨hS_, h0_, h1_, h2_, h3_, h4_, h5_, h6_, h7_, h8_, h9_, h10_, h11_, h12_⟩
        have n0_ : Aside0 (w51.heap[gb113]? = some (.cells #[.string a0_0, .int .i64 a0_1, .int .i64 a0_2, .bool a0_3, .string a0_4] 23 (0, 0))) := ⟨h0_⟩
        have n1_ : Aside0 (w51.heap[gb114]? = some (.cells #[.string a1_0, .int .i64 a1_1, .int .i64 a1_2, .bool a1_3, .string a1_4] 23 (0, 0))) := ⟨h1_⟩
        have n2_ : Aside0 (w51.heap[gb132]? = some (.cells #[.string t127, .int .i64 t128, .int .i64 t129, .bool t130, .string t131] 25 (0, 0))) := ⟨h2_⟩
        have n3_ : Aside0 (w51.heap[gb148]? = some (.cells #[.string (⟨#[]⟩ : ByteArray), .int .i64 0, .int .i64 0, .bool false, .string (⟨#[]⟩ : ByteArray)] 25 (0, 0))) := ⟨h3_⟩
        have n4_ : Aside0 (w.heap.size ≤ gb148) := ⟨h4_⟩
        have n5_ : Aside0 (w.heap.size ≤ gb148) := ⟨h5_⟩
        have n6_ : Aside0 (gb113 ≠ gb148) := ⟨h6_⟩
        have n7_ : Aside0 (gb148 ≠ gb113) := ⟨h7_⟩
        have n8_ : Aside0 (gb114 ≠ gb148) := ⟨h8_⟩
        have n9_ : Aside0 (gb148 ≠ gb114) := ⟨h9_⟩
        have n10_ : Aside0 (gb132 ≠ gb148) := ⟨h10_⟩
        have n11_ : Aside0 (gb148 ≠ gb132) := ⟨h11_⟩
        have n12_ : Aside0 (Below w.heap.size w w51) := ⟨h12_⟩
        clear BK113
        clear BK114
        clear BK132
        clear HB
        clear h0_ h1_ h2_ h3_ h4_ h5_ h6_ h7_ h8_ h9_ h10_ h11_ h12_
        have BK113 := n0_
        have BK114 := n1_
        have BK132 := n2_
        have BK148 := n3_
        have GW148 := n4_
        have GE148 := n5_
        have NB113_148 := n6_
        have NB148_113 := n7_
        have NB114_148 := n8_
        have NB148_114 := n9_
        have NB132_148 := n10_
        have NB148_132 := n11_
        have HB := n12_
        clear n0_ n1_ n2_ n3_ n4_ n5_ n6_ n7_ n8_ n9_ n10_ n11_ n12_
        have hHeld : w51.cell? ⟨gb113, 0, none⟩ = some (.string a0_0) ∧ w51.cell? ⟨gb113, 1, none⟩ = some (.int .i64 a0_1) ∧ w51.cell? ⟨gb113, 2, none⟩ = some (.int .i64 a0_2) ∧ w51.cell? ⟨gb113, 3, none⟩ = some (.bool a0_3) ∧ w51.cell? ⟨gb113, 4, none⟩ = some (.string a0_4) ∧ w51.cell? ⟨gb114, 0, none⟩ = some (.string a1_0) ∧ w51.cell? ⟨gb114, 1, none⟩ = some (.int .i64 a1_1) ∧ w51.cell? ⟨gb114, 2, none⟩ = some (.int .i64 a1_2) ∧ w51.cell? ⟨gb114, 3, none⟩ = some (.bool a1_3) ∧ w51.cell? ⟨gb114, 4, none⟩ = some (.string a1_4) := hS_
        refine norm_ (a' := ?_) ?_ ?_
        rotate_left
        · simp only [putAll, Act.put, List.setIfInBounds_toArray, List.set_cons_zero, List.set_cons_succ]
          rfl
        refine one_ (i := 6) (N := none) #[true, true, true, true, true, true, true] rfl rfl (by kernel_rfl) (by decide) (fun K hK => ?_)
        have hs52 : w51.cell? ⟨gb148, 0, none⟩ = some (.string (⟨#[]⟩ : ByteArray)) := (blk_cell BK148.out 0).trans rfl
        have hfs52 := blk_frozen BK148.out 0
        have hns52_0 := NB113_148.out
        have hns52_1 := NB114_148.out
        have hns52_2 := NB132_148.out
        have hms52_0 := NB148_113.out
        have hms52_1 := NB148_114.out
        have hms52_2 := NB148_132.out
        have hs53 : w51.cell? ⟨gb148, 1, none⟩ = some (.int .i64 0) := (blk_cell BK148.out 1).trans rfl
        have hfs53 := blk_frozen BK148.out 1
        have hns53_0 := NB113_148.out
        have hns53_1 := NB114_148.out
        have hns53_2 := NB132_148.out
        have hms53_0 := NB148_113.out
        have hms53_1 := NB148_114.out
        have hms53_2 := NB148_132.out
        have hs54 : w51.cell? ⟨gb148, 2, none⟩ = some (.int .i64 0) := (blk_cell BK148.out 2).trans rfl
        have hfs54 := blk_frozen BK148.out 2
        have hns54_0 := NB113_148.out
        have hns54_1 := NB114_148.out
        have hns54_2 := NB132_148.out
        have hms54_0 := NB148_113.out
        have hms54_1 := NB148_114.out
        have hms54_2 := NB148_132.out
        have hs55 : w51.cell? ⟨gb148, 3, none⟩ = some (.bool false) := (blk_cell BK148.out 3).trans rfl
        have hfs55 := blk_frozen BK148.out 3
        have hns55_0 := NB113_148.out
        have hns55_1 := NB114_148.out
        have hns55_2 := NB132_148.out
        have hms55_0 := NB148_113.out
        have hms55_1 := NB148_114.out
        have hms55_2 := NB148_132.out
        have hs56 : w51.cell? ⟨gb148, 4, none⟩ = some (.string (⟨#[]⟩ : ByteArray)) := (blk_cell BK148.out 4).trans rfl
        have hfs56 := blk_frozen BK148.out 4
        have hns56_0 := NB113_148.out
        have hns56_1 := NB114_148.out
        have hns56_2 := NB132_148.out
        have hms56_0 := NB148_113.out
        have hms56_1 := NB148_114.out
        have hms56_2 := NB148_132.out
        refine skip_ (w1 := ?_) (by rfl) rfl ?_ ?_
        rotate_left
        · go_simp
          rfl
        refine hK.out _ _ ⟨((cell_far (p := ⟨gb148, _, none⟩) NB113_148.out _).trans (((cell_far (p := ⟨gb148, _, none⟩) NB113_148.out _).trans (((cell_far (p := ⟨gb148, _, none⟩) NB113_148.out _).trans (((cell_far (p := ⟨gb148, _, none⟩) NB113_148.out _).trans (((cell_far (p := ⟨gb148, _, none⟩) NB113_148.out _).trans (hHeld.1)))))))))), ((cell_far (p := ⟨gb148, _, none⟩) NB113_148.out _).trans (((cell_far (p := ⟨gb148, _, none⟩) NB113_148.out _).trans (((cell_far (p := ⟨gb148, _, none⟩) NB113_148.out _).trans (((cell_far (p := ⟨gb148, _, none⟩) NB113_148.out _).trans (((cell_far (p := ⟨gb148, _, none⟩) NB113_148.out _).trans (hHeld.2.1)))))))))), ((cell_far (p := ⟨gb148, _, none⟩) NB113_148.out _).trans (((cell_far (p := ⟨gb148, _, none⟩) NB113_148.out _).trans (((cell_far (p := ⟨gb148, _, none⟩) NB113_148.out _).trans (((cell_far (p := ⟨gb148, _, none⟩) NB113_148.out _).trans (((cell_far (p := ⟨gb148, _, none⟩) NB113_148.out _).trans (hHeld.2.2.1)))))))))), ((cell_far (p := ⟨gb148, _, none⟩) NB113_148.out _).trans (((cell_far (p := ⟨gb148, _, none⟩) NB113_148.out _).trans (((cell_far (p := ⟨gb148, _, none⟩) NB113_148.out _).trans (((cell_far (p := ⟨gb148, _, none⟩) NB113_148.out _).trans (((cell_far (p := ⟨gb148, _, none⟩) NB113_148.out _).trans (hHeld.2.2.2.1)))))))))), ((cell_far (p := ⟨gb148, _, none⟩) NB113_148.out _).trans (((cell_far (p := ⟨gb148, _, none⟩) NB113_148.out _).trans (((cell_far (p := ⟨gb148, _, none⟩) NB113_148.out _).trans (((cell_far (p := ⟨gb148, _, none⟩) NB113_148.out _).trans (((cell_far (p := ⟨gb148, _, none⟩) NB113_148.out _).trans (hHeld.2.2.2.2.1)))))))))), ((cell_far (p := ⟨gb148, _, none⟩) NB114_148.out _).trans (((cell_far (p := ⟨gb148, _, none⟩) NB114_148.out _).trans (((cell_far (p := ⟨gb148, _, none⟩) NB114_148.out _).trans (((cell_far (p := ⟨gb148, _, none⟩) NB114_148.out _).trans (((cell_far (p := ⟨gb148, _, none⟩) NB114_148.out _).trans (hHeld.2.2.2.2.2.1)))))))))), ((cell_far (p := ⟨gb148, _, none⟩) NB114_148.out _).trans (((cell_far (p := ⟨gb148, _, none⟩) NB114_148.out _).trans (((cell_far (p := ⟨gb148, _, none⟩) NB114_148.out _).trans (((cell_far (p := ⟨gb148, _, none⟩) NB114_148.out _).trans (((cell_far (p := ⟨gb148, _, none⟩) NB114_148.out _).trans (hHeld.2.2.2.2.2.2.1)))))))))), ((cell_far (p := ⟨gb148, _, none⟩) NB114_148.out _).trans (((cell_far (p := ⟨gb148, _, none⟩) NB114_148.out _).trans (((cell_far (p := ⟨gb148, _, none⟩) NB114_148.out _).trans (((cell_far (p := ⟨gb148, _, none⟩) NB114_148.out _).trans (((cell_far (p := ⟨gb148, _, none⟩) NB114_148.out _).trans (hHeld.2.2.2.2.2.2.2.1)))))))))), ((cell_far (p := ⟨gb148, _, none⟩) NB114_148.out _).trans (((cell_far (p := ⟨gb148, _, none⟩) NB114_148.out _).trans (((cell_far (p := ⟨gb148, _, none⟩) NB114_148.out _).trans (((cell_far (p := ⟨gb148, _, none⟩) NB114_148.out _).trans (((cell_far (p := ⟨gb148, _, none⟩) NB114_148.out _).trans (hHeld.2.2.2.2.2.2.2.2.1)))))))))), ((cell_far (p := ⟨gb148, _, none⟩) NB114_148.out _).trans (((cell_far (p := ⟨gb148, _, none⟩) NB114_148.out _).trans (((cell_far (p := ⟨gb148, _, none⟩) NB114_148.out _).trans (((cell_far (p := ⟨gb148, _, none⟩) NB114_148.out _).trans (((cell_far (p := ⟨gb148, _, none⟩) NB114_148.out _).trans (hHeld.2.2.2.2.2.2.2.2.2))))))))))⟩ (fun hHeld => ?_)
        clear hK K
        refine done_ (by kernel_rfl) ?_
        have hnb57 := NB148_113.out
        have hnc57 := NB113_148.out
        have hnb58 := NB148_114.out
        have hnc58 := NB114_148.out
        have hnb59 := NB148_132.out
        have hnc59 := NB132_148.out
        have hcz60_0 : w51.cell? ⟨gb148, 0, none⟩ = some (.string (⟨#[]⟩ : ByteArray)) := (blk_cell BK148.out 0).trans rfl
        have hcz60_1 : w51.cell? ⟨gb148, 1, none⟩ = some (.int .i64 0) := (blk_cell BK148.out 1).trans rfl
        have hcz60_2 : w51.cell? ⟨gb148, 2, none⟩ = some (.int .i64 0) := (blk_cell BK148.out 2).trans rfl
        have hcz60_3 : w51.cell? ⟨gb148, 3, none⟩ = some (.bool false) := (blk_cell BK148.out 3).trans rfl
        have hcz60_4 : w51.cell? ⟨gb148, 4, none⟩ = some (.string (⟨#[]⟩ : ByteArray)) := (blk_cell BK148.out 4).trans rfl
        have hfz60_0 := blk_frozen BK148.out 0
        have hfz60_1 := blk_frozen BK148.out 1
        have hfz60_2 := blk_frozen BK148.out 2
        have hfz60_3 := blk_frozen BK148.out 3
        have hfz60_4 := blk_frozen BK148.out 4
        have hnb61 := NB132_113.out
        have hnc61 := NB113_132.out
        have hnb62 := NB132_114.out
        have hnc62 := NB114_132.out
        have hcz63_0 : w51.cell? ⟨gb132, 0, none⟩ = some (.string t127) := (blk_cell BK132.out 0).trans rfl
        have hcz63_1 : w51.cell? ⟨gb132, 1, none⟩ = some (.int .i64 t128) := (blk_cell BK132.out 1).trans rfl
        have hcz63_2 : w51.cell? ⟨gb132, 2, none⟩ = some (.int .i64 t129) := (blk_cell BK132.out 2).trans rfl
        have hcz63_3 : w51.cell? ⟨gb132, 3, none⟩ = some (.bool t130) := (blk_cell BK132.out 3).trans rfl
        have hcz63_4 : w51.cell? ⟨gb132, 4, none⟩ = some (.string t131) := (blk_cell BK132.out 4).trans rfl
        have hfz63_0 := blk_frozen BK132.out 0
        have hfz63_1 := blk_frozen BK132.out 1
        have hfz63_2 := blk_frozen BK132.out 2
        have hfz63_3 := blk_frozen BK132.out 3
        have hfz63_4 := blk_frozen BK132.out 4
        try go_wp2_with (first | ((with_reducible refine gate_callee (f := 15) rfl ?_); refine goesL_ (some 30) rfl rfl Try.func15 (by kernel_rfl) rfl #[.agg #[.string t143, .int .i64 t144, .int .i64 t145, .bool t146, .string t147], .agg #[.string t127, .int .i64 t128, .int .i64 t129, .bool t130, .string t131]] rfl (by (try simp only [List.map_toArray, List.map_cons, List.map_nil]); first | done | rfl) ?_; (with_reducible refine (laws_eqSiteEntry.calls t143 t144 t145 t146 t147 t127 t128 t129 t130 t131 true _ A25.out).mono ?_); rintro e w64 ⟨rfl, hb⟩; refine ⟨_, rfl, ?_⟩; have n0_ := Aside0.mk (blk_below (g := gb113) (o := .cells #[.string a0_0, .int .i64 a0_1, .int .i64 a0_2, .bool a0_3, .string a0_4] 23 (0, 0)) (by (with_reducible repeat refine blk_alloc ?_ _); refine blk_far ?_ NB113_148.out _; (with_reducible repeat refine blk_alloc ?_ _); refine blk_far ?_ NB113_148.out _; (with_reducible repeat refine blk_alloc ?_ _); refine blk_far ?_ NB113_148.out _; (with_reducible repeat refine blk_alloc ?_ _); refine blk_far ?_ NB113_148.out _; (with_reducible repeat refine blk_alloc ?_ _); refine blk_far ?_ NB113_148.out _; (with_reducible repeat refine blk_alloc ?_ _); exact BK113.out) hb); have n1_ := Aside0.mk (blk_below (g := gb114) (o := .cells #[.string a1_0, .int .i64 a1_1, .int .i64 a1_2, .bool a1_3, .string a1_4] 23 (0, 0)) (by (with_reducible repeat refine blk_alloc ?_ _); refine blk_far ?_ NB114_148.out _; (with_reducible repeat refine blk_alloc ?_ _); refine blk_far ?_ NB114_148.out _; (with_reducible repeat refine blk_alloc ?_ _); refine blk_far ?_ NB114_148.out _; (with_reducible repeat refine blk_alloc ?_ _); refine blk_far ?_ NB114_148.out _; (with_reducible repeat refine blk_alloc ?_ _); refine blk_far ?_ NB114_148.out _; (with_reducible repeat refine blk_alloc ?_ _); exact BK114.out) hb); have n2_ := Aside0.mk (blk_below (g := gb132) (o := .cells #[.string t127, .int .i64 t128, .int .i64 t129, .bool t130, .string t131] 25 (0, 0)) (by (with_reducible repeat refine blk_alloc ?_ _); refine blk_far ?_ NB132_148.out _; (with_reducible repeat refine blk_alloc ?_ _); refine blk_far ?_ NB132_148.out _; (with_reducible repeat refine blk_alloc ?_ _); refine blk_far ?_ NB132_148.out _; (with_reducible repeat refine blk_alloc ?_ _); refine blk_far ?_ NB132_148.out _; (with_reducible repeat refine blk_alloc ?_ _); refine blk_far ?_ NB132_148.out _; (with_reducible repeat refine blk_alloc ?_ _); exact BK132.out) hb); have n3_ := Aside0.mk (blk_below (g := gb148) (o := .cells #[.string t143, .int .i64 t144, .int .i64 t145, .bool t146, .string t147] 25 (0, 0)) (by (with_reducible repeat refine blk_alloc ?_ _); refine blk_put (cs := #[.string t143, .int .i64 t144, .int .i64 t145, .bool t146, .string (⟨#[]⟩ : ByteArray)]) ?_ 4 _ rfl; (with_reducible repeat refine blk_alloc ?_ _); refine blk_put (cs := #[.string t143, .int .i64 t144, .int .i64 t145, .bool false, .string (⟨#[]⟩ : ByteArray)]) ?_ 3 _ rfl; (with_reducible repeat refine blk_alloc ?_ _); refine blk_put (cs := #[.string t143, .int .i64 t144, .int .i64 0, .bool false, .string (⟨#[]⟩ : ByteArray)]) ?_ 2 _ rfl; (with_reducible repeat refine blk_alloc ?_ _); refine blk_put (cs := #[.string t143, .int .i64 0, .int .i64 0, .bool false, .string (⟨#[]⟩ : ByteArray)]) ?_ 1 _ rfl; (with_reducible repeat refine blk_alloc ?_ _); refine blk_put (cs := #[.string (⟨#[]⟩ : ByteArray), .int .i64 0, .int .i64 0, .bool false, .string (⟨#[]⟩ : ByteArray)]) ?_ 0 _ rfl; (with_reducible repeat refine blk_alloc ?_ _); exact BK148.out) hb); have n4_ := Aside0.mk (below_step (by repeat (first | (with_reducible first | exact HB.out | apply below_alloc | apply pw_below_drewN | apply below_drew1 | refine below_set ?_ GE113.out | refine below_set ?_ GE114.out | refine below_set ?_ GE132.out | refine below_set ?_ GE148.out) | exact HB.out)) hb); clear BK113; clear BK114; clear BK132; clear BK148; clear HB; have BK113 := n0_; have BK114 := n1_; have BK132 := n2_; have BK148 := n3_; have HB := n4_; clear n0_ n1_ n2_ n3_ n4_; (try clear hb); (try clear hb2); (try clear hk); (try clear hi)))
        go_ret
        exact ⟨by first | rfl | (simp [errW_none, errW_some] <;> rfl) | (simp [*, errW_none, errW_some] <;> rfl), by repeat (first | (with_reducible first | exact HB.out | apply below_alloc | apply pw_below_drewN | apply below_drew1 | refine below_set ?_ GE113.out | refine below_set ?_ GE114.out | refine below_set ?_ GE132.out | refine below_set ?_ GE148.out) | exact HB.out)⟩
      · replace c26 := Bool.eq_false_iff.mpr c26
        subst c26
        have H1 : (some false) = some r := by rw [if_neg (show ¬ (false = true) by decide)] at H; exact H
        clear H
        have H := H1
        clear H1
        obtain rfl := Option.some.inj H
        go_enter Try.func3, Try.ntmps3
        try go_wp2_with (first | ((with_reducible refine gate_dst (N := 2) rfl ?_); refine box_event ?hg (N := 2) ?hd (cs := #[.string a0_0, .int .i64 a0_1, .int .i64 a0_2, .bool a0_3, .string a0_4]) (t := 23) ?hr ?_; (case hd => rfl); (case hg => rfl); (case hr => first | (go_simp; done) | (go_simp; rfl)); intro gb113 hg w65 hbox hb; have n0_ := Aside0.mk (below_step (by repeat (first | (with_reducible first | exact HB.out | apply below_alloc | apply pw_below_drewN | apply below_drew1) | exact HB.out)) hb); have n1_ := Aside0.mk (hbox); have n2_ := Aside0.mk ((by rw [hg]; exact (below_size (by repeat (first | (with_reducible first | exact HB.out | apply below_alloc | apply pw_below_drewN | apply below_drew1) | exact HB.out))) : w.heap.size ≤ gb113)); have n3_ := Aside0.mk ((by rw [hg]; exact (below_size (by repeat (first | (with_reducible first | exact HB.out | apply below_alloc | apply pw_below_drewN | apply below_drew1) | exact HB.out))) : w.heap.size ≤ gb113)); clear HB; have HB := n0_; have BK113 := n1_; have GW113 := n2_; have GE113 := n3_; clear n0_ n1_ n2_ n3_; clear hb hbox hg) | ((with_reducible refine gate_dst (N := 3) rfl ?_); refine box_event ?hg (N := 3) ?hd (cs := #[.string a1_0, .int .i64 a1_1, .int .i64 a1_2, .bool a1_3, .string a1_4]) (t := 23) ?hr ?_; (case hd => rfl); (case hg => rfl); (case hr => first | (go_simp; done) | (go_simp; rfl)); intro gb114 hg w66 hbox hb; have n0_ := Aside0.mk (blk_below (g := gb113) (o := .cells #[.string a0_0, .int .i64 a0_1, .int .i64 a0_2, .bool a0_3, .string a0_4] 23 (0, 0)) (by (with_reducible repeat refine blk_alloc ?_ _); exact BK113.out) hb); have n1_ := Aside0.mk (below_step (by repeat (first | (with_reducible first | exact HB.out | apply below_alloc | apply pw_below_drewN | apply below_drew1 | refine below_set ?_ GE113.out) | exact HB.out)) hb); have n2_ := Aside0.mk (hbox); have n3_ := Aside0.mk ((by rw [hg]; exact (below_size (by repeat (first | (with_reducible first | exact HB.out | apply below_alloc | apply pw_below_drewN | apply below_drew1 | refine below_set ?_ GE113.out) | exact HB.out))) : w.heap.size ≤ gb114)); have n4_ := Aside0.mk ((by rw [hg]; exact (below_size (by repeat (first | (with_reducible first | exact HB.out | apply below_alloc | apply pw_below_drewN | apply below_drew1 | refine below_set ?_ GE113.out) | exact HB.out))) : w.heap.size ≤ gb114)); have n5_ := Aside0.mk ((by rw [hg]; exact Nat.ne_of_lt (blk_lt (g := gb113) (o := .cells #[.string a0_0, .int .i64 a0_1, .int .i64 a0_2, .bool a0_3, .string a0_4] 23 (0, 0)) (by (with_reducible repeat refine blk_alloc ?_ _); exact BK113.out)) : gb113 ≠ gb114)); have n6_ := Aside0.mk ((by rw [hg]; exact Nat.ne_of_gt (blk_lt (g := gb113) (o := .cells #[.string a0_0, .int .i64 a0_1, .int .i64 a0_2, .bool a0_3, .string a0_4] 23 (0, 0)) (by (with_reducible repeat refine blk_alloc ?_ _); exact BK113.out)) : gb114 ≠ gb113)); clear BK113; clear HB; have BK113 := n0_; have HB := n1_; have BK114 := n2_; have GW114 := n3_; have GE114 := n4_; have NB113_114 := n5_; have NB114_113 := n6_; clear n0_ n1_ n2_ n3_ n4_ n5_ n6_; clear hb hbox hg; have hnb67 := NB113_114.out; have hnc67 := NB114_113.out; have hcz68_0 : w66.cell? ⟨gb113, 0, none⟩ = some (.string a0_0) := (blk_cell BK113.out 0).trans rfl; have hcz68_1 : w66.cell? ⟨gb113, 1, none⟩ = some (.int .i64 a0_1) := (blk_cell BK113.out 1).trans rfl; have hcz68_2 : w66.cell? ⟨gb113, 2, none⟩ = some (.int .i64 a0_2) := (blk_cell BK113.out 2).trans rfl; have hcz68_3 : w66.cell? ⟨gb113, 3, none⟩ = some (.bool a0_3) := (blk_cell BK113.out 3).trans rfl; have hcz68_4 : w66.cell? ⟨gb113, 4, none⟩ = some (.string a0_4) := (blk_cell BK113.out 4).trans rfl; have hfz68_0 := blk_frozen BK113.out 0; have hfz68_1 := blk_frozen BK113.out 1; have hfz68_2 := blk_frozen BK113.out 2; have hfz68_3 := blk_frozen BK113.out 3; have hfz68_4 := blk_frozen BK113.out 4) | ((with_reducible refine gate_callee (f := 11) rfl ?_); refine goesL_ (some 10) rfl rfl Try.func11 (by kernel_rfl) rfl #[.agg #[.string a0_0, .int .i64 a0_1, .int .i64 a0_2, .bool a0_3, .string a0_4], .int .i64 1048576] rfl (by (try simp only [List.map_toArray, List.map_cons, List.map_nil]); first | done | rfl) ?_; (with_reducible refine (laws_szSiteEntry.calls a0_0 a0_1 a0_2 a0_3 a0_4 1048576 t115 _ A3.out).mono ?_); rintro e w69 ⟨rfl, hb⟩; refine ⟨_, rfl, ?_⟩; have n0_ := Aside0.mk (blk_below (g := gb113) (o := .cells #[.string a0_0, .int .i64 a0_1, .int .i64 a0_2, .bool a0_3, .string a0_4] 23 (0, 0)) (by (with_reducible repeat refine blk_alloc ?_ _); exact BK113.out) hb); have n1_ := Aside0.mk (blk_below (g := gb114) (o := .cells #[.string a1_0, .int .i64 a1_1, .int .i64 a1_2, .bool a1_3, .string a1_4] 23 (0, 0)) (by (with_reducible repeat refine blk_alloc ?_ _); exact BK114.out) hb); have n2_ := Aside0.mk (below_step (by repeat (first | (with_reducible first | exact HB.out | apply below_alloc | apply pw_below_drewN | apply below_drew1 | refine below_set ?_ GE113.out | refine below_set ?_ GE114.out) | exact HB.out)) hb); clear BK113; clear BK114; clear HB; have BK113 := n0_; have BK114 := n1_; have HB := n2_; clear n0_ n1_ n2_; (try clear hb); (try clear hb2); (try clear hk); (try clear hi); have hcz70_0 : w69.cell? ⟨gb114, 0, none⟩ = some (.string a1_0) := (blk_cell BK114.out 0).trans rfl; have hcz70_1 : w69.cell? ⟨gb114, 1, none⟩ = some (.int .i64 a1_1) := (blk_cell BK114.out 1).trans rfl; have hcz70_2 : w69.cell? ⟨gb114, 2, none⟩ = some (.int .i64 a1_2) := (blk_cell BK114.out 2).trans rfl; have hcz70_3 : w69.cell? ⟨gb114, 3, none⟩ = some (.bool a1_3) := (blk_cell BK114.out 3).trans rfl; have hcz70_4 : w69.cell? ⟨gb114, 4, none⟩ = some (.string a1_4) := (blk_cell BK114.out 4).trans rfl; have hfz70_0 := blk_frozen BK114.out 0; have hfz70_1 := blk_frozen BK114.out 1; have hfz70_2 := blk_frozen BK114.out 2; have hfz70_3 := blk_frozen BK114.out 3; have hfz70_4 := blk_frozen BK114.out 4) | ((with_reducible refine gate_callee (f := 11) rfl ?_); refine goesL_ (some 15) rfl rfl Try.func11 (by kernel_rfl) rfl #[.agg #[.string a1_0, .int .i64 a1_1, .int .i64 a1_2, .bool a1_3, .string a1_4], .int .i64 t115] rfl (by (try simp only [List.map_toArray, List.map_cons, List.map_nil]); first | done | rfl) ?_; (with_reducible refine (laws_szSiteEntry.calls a1_0 a1_1 a1_2 a1_3 a1_4 t115 t116 _ A10.out).mono ?_); rintro e w71 ⟨rfl, hb⟩; refine ⟨_, rfl, ?_⟩; have n0_ := Aside0.mk (blk_below (g := gb113) (o := .cells #[.string a0_0, .int .i64 a0_1, .int .i64 a0_2, .bool a0_3, .string a0_4] 23 (0, 0)) (by (with_reducible repeat refine blk_alloc ?_ _); exact BK113.out) hb); have n1_ := Aside0.mk (blk_below (g := gb114) (o := .cells #[.string a1_0, .int .i64 a1_1, .int .i64 a1_2, .bool a1_3, .string a1_4] 23 (0, 0)) (by (with_reducible repeat refine blk_alloc ?_ _); exact BK114.out) hb); have n2_ := Aside0.mk (below_step (by repeat (first | (with_reducible first | exact HB.out | apply below_alloc | apply pw_below_drewN | apply below_drew1 | refine below_set ?_ GE113.out | refine below_set ?_ GE114.out) | exact HB.out)) hb); clear BK113; clear BK114; clear HB; have BK113 := n0_; have BK114 := n1_; have HB := n2_; clear n0_ n1_ n2_; (try clear hb); (try clear hb2); (try clear hk); (try clear hi)))
        have n0_ := Aside0.mk (blk_drew BK113.out)
        have n1_ := Aside0.mk (blk_drew BK114.out)
        have n2_ := Aside0.mk (below_drew1 HB.out)
        clear BK113
        clear BK114
        clear HB
        have BK113 := n0_
        have BK114 := n1_
        have HB := n2_
        clear n0_ n1_ n2_
        refine start_ (n := 7) (S := fun w' => w'.cell? ⟨gb113, 0, none⟩ = some (.string a0_0) ∧ w'.cell? ⟨gb113, 1, none⟩ = some (.int .i64 a0_1) ∧ w'.cell? ⟨gb113, 2, none⟩ = some (.int .i64 a0_2) ∧ w'.cell? ⟨gb113, 3, none⟩ = some (.bool a0_3) ∧ w'.cell? ⟨gb113, 4, none⟩ = some (.string a0_4) ∧ w'.cell? ⟨gb114, 0, none⟩ = some (.string a1_0) ∧ w'.cell? ⟨gb114, 1, none⟩ = some (.int .i64 a1_1) ∧ w'.cell? ⟨gb114, 2, none⟩ = some (.int .i64 a1_2) ∧ w'.cell? ⟨gb114, 3, none⟩ = some (.bool a1_3) ∧ w'.cell? ⟨gb114, 4, none⟩ = some (.string a1_4)) (ds := []) #[false, false, false, false, false, false, false] (by kernel_rfl) rfl rfl ⟨(blk_cell BK113.out 0).trans rfl, (blk_cell BK113.out 1).trans rfl, (blk_cell BK113.out 2).trans rfl, (blk_cell BK113.out 3).trans rfl, (blk_cell BK113.out 4).trans rfl, (blk_cell BK114.out 0).trans rfl, (blk_cell BK114.out 1).trans rfl, (blk_cell BK114.out 2).trans rfl, (blk_cell BK114.out 3).trans rfl, (blk_cell BK114.out 4).trans rfl⟩ (fun hHeld => ?_)
        generalize w71.drew = w72 at BK113 BK114 HB hHeld ⊢
        refine take_ (i := 0) (N := some 18) (v := ?_) (a' := ?_) #[true, false, false, false, false, false, false] rfl rfl (by kernel_rfl) (fun _ _ _ h => h) (Or.inl ⟨by rfl, ?_⟩) hHeld ?_ ?_
        rotate_left
        · rintro w' ⟨s0, s1, s2, s3, s4, s5, s6, s7, s8, s9⟩
          go_simp
          with_reducible rfl
        rotate_left
        · simp only [Act.put, List.setIfInBounds_toArray, List.set_cons_zero, List.set_cons_succ, i64_w, i32_w]
          rfl
        refine take_ (i := 2) (N := some 20) (v := ?_) (a' := ?_) #[true, false, true, false, false, false, false] rfl rfl (by kernel_rfl) (fun _ _ _ h => h) (Or.inl ⟨by rfl, ?_⟩) hHeld ?_ ?_
        rotate_left
        · rintro w' ⟨s0, s1, s2, s3, s4, s5, s6, s7, s8, s9⟩
          go_simp
          with_reducible rfl
        rotate_left
        · simp only [Act.put, List.setIfInBounds_toArray, List.set_cons_zero, List.set_cons_succ, i64_w, i32_w]
          rfl
        refine join_ (σ := Nat) 1 #[true, true, true, true, true, true, false] (fun s_ => [(19, .agg #[.string t117, .int .i64 t118, .int .i64 t119, .bool t120, .string t121]), (21, .agg #[.string t122, .int .i64 t123, .int .i64 t124, .bool t125, .string t126]), (22, .agg #[.string t127, .int .i64 t128, .int .i64 t129, .bool t130, .string t131]), (6, .pointer (some ⟨s_, 0, none⟩))]) (fun s_ w' => (w'.cell? ⟨gb113, 0, none⟩ = some (.string a0_0) ∧ w'.cell? ⟨gb113, 1, none⟩ = some (.int .i64 a0_1) ∧ w'.cell? ⟨gb113, 2, none⟩ = some (.int .i64 a0_2) ∧ w'.cell? ⟨gb113, 3, none⟩ = some (.bool a0_3) ∧ w'.cell? ⟨gb113, 4, none⟩ = some (.string a0_4) ∧ w'.cell? ⟨gb114, 0, none⟩ = some (.string a1_0) ∧ w'.cell? ⟨gb114, 1, none⟩ = some (.int .i64 a1_1) ∧ w'.cell? ⟨gb114, 2, none⟩ = some (.int .i64 a1_2) ∧ w'.cell? ⟨gb114, 3, none⟩ = some (.bool a1_3) ∧ w'.cell? ⟨gb114, 4, none⟩ = some (.string a1_4)) ∧ (w'.heap[gb113]? = some (.cells #[.string a0_0, .int .i64 a0_1, .int .i64 a0_2, .bool a0_3, .string a0_4] 23 (0, 0))) ∧ (w'.heap[gb114]? = some (.cells #[.string a1_0, .int .i64 a1_1, .int .i64 a1_2, .bool a1_3, .string a1_4] 23 (0, 0))) ∧ (w'.heap[s_]? = some (.cells #[.string (⟨#[]⟩ : ByteArray), .int .i64 0, .int .i64 0, .bool false, .string (⟨#[]⟩ : ByteArray)] 25 (0, 0))) ∧ (w.heap.size ≤ s_) ∧ (w.heap.size ≤ s_) ∧ (gb113 ≠ s_) ∧ (s_ ≠ gb113) ∧ (gb114 ≠ s_) ∧ (s_ ≠ gb114) ∧ (Below w.heap.size w w')) ?_ ?_
        rotate_left
        · intro hCont
          refine two_ (i := 1) (j := 5) (Ni := some 19) (Nj := some 6) #[true, true, true, false, false, false, false] #[true, false, true, false, false, true, false] rfl rfl rfl rfl (by kernel_rfl) (by decide) (by decide) (fun K hK => ?_) (fun K hK => ?_)
          · skip
            refine goes_ Try.func13 (by kernel_rfl) rfl #[.agg #[.string a0_0, .int .i64 a0_1, .int .i64 a0_2, .bool a0_3, .string a0_4]] (by rfl) rfl rfl (by (try simp only [List.map_toArray, List.map_cons, List.map_nil]); first | done | rfl) ?_
            with_reducible refine (laws_toSiteEntry.calls a0_0 a0_1 a0_2 a0_3 a0_4 t117 t118 t119 t120 t121 _ A19.out).mono ?_
            rintro e w73 ⟨rfl, hb⟩
            refine ⟨_, rfl, ?_⟩
            have n0_ := Aside0.mk (blk_below (g := gb113) (o := .cells #[.string a0_0, .int .i64 a0_1, .int .i64 a0_2, .bool a0_3, .string a0_4] 23 (0, 0)) (by (with_reducible repeat refine blk_alloc ?_ _); exact BK113.out) hb)
            have n1_ := Aside0.mk (blk_below (g := gb114) (o := .cells #[.string a1_0, .int .i64 a1_1, .int .i64 a1_2, .bool a1_3, .string a1_4] 23 (0, 0)) (by (with_reducible repeat refine blk_alloc ?_ _); exact BK114.out) hb)
            have n2_ := Aside0.mk (below_step (by repeat (first | (with_reducible first | exact HB.out | apply below_alloc | apply pw_below_drewN | apply below_drew1 | refine below_set ?_ GE113.out | refine below_set ?_ GE114.out) | exact HB.out)) hb)
            clear BK113
            clear BK114
            clear HB
            have BK113 := n0_
            have BK114 := n1_
            have HB := n2_
            clear n0_ n1_ n2_
            (try clear hb)
            (try clear hb2)
            (try clear hk)
            (try clear hi)
            refine hK.out _ _ ⟨(blk_cell BK113.out 0).trans rfl, (blk_cell BK113.out 1).trans rfl, (blk_cell BK113.out 2).trans rfl, (blk_cell BK113.out 3).trans rfl, (blk_cell BK113.out 4).trans rfl, (blk_cell BK114.out 0).trans rfl, (blk_cell BK114.out 1).trans rfl, (blk_cell BK114.out 2).trans rfl, (blk_cell BK114.out 3).trans rfl, (blk_cell BK114.out 4).trans rfl⟩ (fun hHeld => ?_)
            clear hK K
            refine norm_ (a' := ?_) ?_ ?_
            rotate_left
            · show Act.put _ (some 19) _ = _
              simp only [Act.put, List.setIfInBounds_toArray, List.set_cons_zero, List.set_cons_succ, i64_w, i32_w]
              rfl
            refine two_ (i := 3) (j := 5) (Ni := some 21) (Nj := some 6) #[true, true, true, true, false, false, false] #[true, true, true, false, false, true, false] rfl rfl rfl rfl (by kernel_rfl) (by decide) (by decide) (fun K hK => ?_) (fun K hK => ?_)
            · skip
              refine goes_ Try.func13 (by kernel_rfl) rfl #[.agg #[.string a1_0, .int .i64 a1_1, .int .i64 a1_2, .bool a1_3, .string a1_4]] (by rfl) rfl rfl (by (try simp only [List.map_toArray, List.map_cons, List.map_nil]); first | done | rfl) ?_
              with_reducible refine (laws_toSiteEntry.calls a1_0 a1_1 a1_2 a1_3 a1_4 t122 t123 t124 t125 t126 _ A20.out).mono ?_
              rintro e w74 ⟨rfl, hb⟩
              refine ⟨_, rfl, ?_⟩
              have n0_ := Aside0.mk (blk_below (g := gb113) (o := .cells #[.string a0_0, .int .i64 a0_1, .int .i64 a0_2, .bool a0_3, .string a0_4] 23 (0, 0)) (by (with_reducible repeat refine blk_alloc ?_ _); exact BK113.out) hb)
              have n1_ := Aside0.mk (blk_below (g := gb114) (o := .cells #[.string a1_0, .int .i64 a1_1, .int .i64 a1_2, .bool a1_3, .string a1_4] 23 (0, 0)) (by (with_reducible repeat refine blk_alloc ?_ _); exact BK114.out) hb)
              have n2_ := Aside0.mk (below_step (by repeat (first | (with_reducible first | exact HB.out | apply below_alloc | apply pw_below_drewN | apply below_drew1 | refine below_set ?_ GE113.out | refine below_set ?_ GE114.out) | exact HB.out)) hb)
              clear BK113
              clear BK114
              clear HB
              have BK113 := n0_
              have BK114 := n1_
              have HB := n2_
              clear n0_ n1_ n2_
              (try clear hb)
              (try clear hb2)
              (try clear hk)
              (try clear hi)
              refine hK.out _ _ ⟨(blk_cell BK113.out 0).trans rfl, (blk_cell BK113.out 1).trans rfl, (blk_cell BK113.out 2).trans rfl, (blk_cell BK113.out 3).trans rfl, (blk_cell BK113.out 4).trans rfl, (blk_cell BK114.out 0).trans rfl, (blk_cell BK114.out 1).trans rfl, (blk_cell BK114.out 2).trans rfl, (blk_cell BK114.out 3).trans rfl, (blk_cell BK114.out 4).trans rfl⟩ (fun hHeld => ?_)
              clear hK K
              refine norm_ (a' := ?_) ?_ ?_
              rotate_left
              · show Act.put _ (some 21) _ = _
                simp only [Act.put, List.setIfInBounds_toArray, List.set_cons_zero, List.set_cons_succ, i64_w, i32_w]
                rfl
              refine two_ (i := 4) (j := 5) (Ni := some 22) (Nj := some 6) #[true, true, true, true, true, false, false] #[true, true, true, true, false, true, false] rfl rfl rfl rfl (by kernel_rfl) (by decide) (by decide) (fun K hK => ?_) (fun K hK => ?_)
              · skip
                refine goes_ Try.func12 (by kernel_rfl) rfl #[.agg #[.string t117, .int .i64 t118, .int .i64 t119, .bool t120, .string t121], .agg #[.string t122, .int .i64 t123, .int .i64 t124, .bool t125, .string t126]] (by rfl) rfl rfl (by (try simp only [List.map_toArray, List.map_cons, List.map_nil]); first | done | rfl) ?_
                with_reducible refine (spec_Winner.calls t117 t118 t119 t120 t121 t122 t123 t124 t125 t126 t127 t128 t129 t130 t131 _ A21.out).mono ?_
                rintro e w75 ⟨rfl, hb⟩
                refine ⟨_, rfl, ?_⟩
                have n0_ := Aside0.mk (blk_below (g := gb113) (o := .cells #[.string a0_0, .int .i64 a0_1, .int .i64 a0_2, .bool a0_3, .string a0_4] 23 (0, 0)) (by (with_reducible repeat refine blk_alloc ?_ _); exact BK113.out) hb)
                have n1_ := Aside0.mk (blk_below (g := gb114) (o := .cells #[.string a1_0, .int .i64 a1_1, .int .i64 a1_2, .bool a1_3, .string a1_4] 23 (0, 0)) (by (with_reducible repeat refine blk_alloc ?_ _); exact BK114.out) hb)
                have n2_ := Aside0.mk (below_step (by repeat (first | (with_reducible first | exact HB.out | apply below_alloc | apply pw_below_drewN | apply below_drew1 | refine below_set ?_ GE113.out | refine below_set ?_ GE114.out) | exact HB.out)) hb)
                clear BK113
                clear BK114
                clear HB
                have BK113 := n0_
                have BK114 := n1_
                have HB := n2_
                clear n0_ n1_ n2_
                (try clear hb)
                (try clear hb2)
                (try clear hk)
                (try clear hi)
                refine hK.out _ _ ⟨(blk_cell BK113.out 0).trans rfl, (blk_cell BK113.out 1).trans rfl, (blk_cell BK113.out 2).trans rfl, (blk_cell BK113.out 3).trans rfl, (blk_cell BK113.out 4).trans rfl, (blk_cell BK114.out 0).trans rfl, (blk_cell BK114.out 1).trans rfl, (blk_cell BK114.out 2).trans rfl, (blk_cell BK114.out 3).trans rfl, (blk_cell BK114.out 4).trans rfl⟩ (fun hHeld => ?_)
                clear hK K
                refine norm_ (a' := ?_) ?_ ?_
                rotate_left
                · show Act.put _ (some 22) _ = _
                  simp only [Act.put, List.setIfInBounds_toArray, List.set_cons_zero, List.set_cons_succ, i64_w, i32_w]
                  rfl
                refine one_ (i := 5) (N := some 6) #[true, true, true, true, true, true, false] rfl rfl (by kernel_rfl) (by decide) (fun K hK => ?_)
                refine box_step ?hg (N := 6) ?hd (cs := #[.string (⟨#[]⟩ : ByteArray), .int .i64 0, .int .i64 0, .bool false, .string (⟨#[]⟩ : ByteArray)]) (t := 25) ?hr ?_; (case hd => rfl); (case hg => rfl); (case hr => first | (go_simp; done) | (go_simp; rfl))
                intro gb132 hg w76 hbox hb
                have n0_ := Aside0.mk (blk_below (g := gb113) (o := .cells #[.string a0_0, .int .i64 a0_1, .int .i64 a0_2, .bool a0_3, .string a0_4] 23 (0, 0)) (by (with_reducible repeat refine blk_alloc ?_ _); exact BK113.out) hb)
                have n1_ := Aside0.mk (blk_below (g := gb114) (o := .cells #[.string a1_0, .int .i64 a1_1, .int .i64 a1_2, .bool a1_3, .string a1_4] 23 (0, 0)) (by (with_reducible repeat refine blk_alloc ?_ _); exact BK114.out) hb)
                have n2_ := Aside0.mk (below_step (by repeat (first | (with_reducible first | exact HB.out | apply below_alloc | apply pw_below_drewN | apply below_drew1 | refine below_set ?_ GE113.out | refine below_set ?_ GE114.out) | exact HB.out)) hb)
                have n3_ := Aside0.mk (hbox)
                have n4_ := Aside0.mk ((by rw [hg]; exact (below_size (by repeat (first | (with_reducible first | exact HB.out | apply below_alloc | apply pw_below_drewN | apply below_drew1 | refine below_set ?_ GE113.out | refine below_set ?_ GE114.out) | exact HB.out))) : w.heap.size ≤ gb132))
                have n5_ := Aside0.mk ((by rw [hg]; exact (below_size (by repeat (first | (with_reducible first | exact HB.out | apply below_alloc | apply pw_below_drewN | apply below_drew1 | refine below_set ?_ GE113.out | refine below_set ?_ GE114.out) | exact HB.out))) : w.heap.size ≤ gb132))
                have n6_ := Aside0.mk ((by rw [hg]; exact Nat.ne_of_lt (blk_lt (g := gb113) (o := .cells #[.string a0_0, .int .i64 a0_1, .int .i64 a0_2, .bool a0_3, .string a0_4] 23 (0, 0)) (by (with_reducible repeat refine blk_alloc ?_ _); exact BK113.out)) : gb113 ≠ gb132))
                have n7_ := Aside0.mk ((by rw [hg]; exact Nat.ne_of_gt (blk_lt (g := gb113) (o := .cells #[.string a0_0, .int .i64 a0_1, .int .i64 a0_2, .bool a0_3, .string a0_4] 23 (0, 0)) (by (with_reducible repeat refine blk_alloc ?_ _); exact BK113.out)) : gb132 ≠ gb113))
                have n8_ := Aside0.mk ((by rw [hg]; exact Nat.ne_of_lt (blk_lt (g := gb114) (o := .cells #[.string a1_0, .int .i64 a1_1, .int .i64 a1_2, .bool a1_3, .string a1_4] 23 (0, 0)) (by (with_reducible repeat refine blk_alloc ?_ _); exact BK114.out)) : gb114 ≠ gb132))
                have n9_ := Aside0.mk ((by rw [hg]; exact Nat.ne_of_gt (blk_lt (g := gb114) (o := .cells #[.string a1_0, .int .i64 a1_1, .int .i64 a1_2, .bool a1_3, .string a1_4] 23 (0, 0)) (by (with_reducible repeat refine blk_alloc ?_ _); exact BK114.out)) : gb132 ≠ gb114))
                clear BK113
                clear BK114
                clear HB
                have BK113 := n0_
                have BK114 := n1_
                have HB := n2_
                have BK132 := n3_
                have GW132 := n4_
                have GE132 := n5_
                have NB113_132 := n6_
                have NB132_113 := n7_
                have NB114_132 := n8_
                have NB132_114 := n9_
                clear n0_ n1_ n2_ n3_ n4_ n5_ n6_ n7_ n8_ n9_
                clear hb hbox hg
                refine hK.out _ _ ⟨(blk_cell BK113.out 0).trans rfl, (blk_cell BK113.out 1).trans rfl, (blk_cell BK113.out 2).trans rfl, (blk_cell BK113.out 3).trans rfl, (blk_cell BK113.out 4).trans rfl, (blk_cell BK114.out 0).trans rfl, (blk_cell BK114.out 1).trans rfl, (blk_cell BK114.out 2).trans rfl, (blk_cell BK114.out 3).trans rfl, (blk_cell BK114.out 4).trans rfl⟩ (fun hHeld => ?_)
                clear hK K
                refine norm_ (a' := ?_) ?_ ?_
                rotate_left
                · show Act.put _ (some 6) _ = _
                  simp only [Act.put, List.setIfInBounds_toArray, List.set_cons_zero, List.set_cons_succ, i64_w, i32_w]
                  rfl
                exact norm_ (by simp only [putAll, Act.put, List.setIfInBounds_toArray, List.set_cons_zero, List.set_cons_succ]) (hCont (gb132) _ ⟨hHeld, (by (with_reducible repeat refine blk_alloc ?_ _); exact BK113.out), (by (with_reducible repeat refine blk_alloc ?_ _); exact BK114.out), (by (with_reducible repeat refine blk_alloc ?_ _); exact BK132.out), GW132.out, GE132.out, NB113_132.out, NB132_113.out, NB114_132.out, NB132_114.out, (by repeat (first | (with_reducible first | exact HB.out | apply below_alloc | apply pw_below_drewN | apply below_drew1 | refine below_set ?_ GE113.out | refine below_set ?_ GE114.out | refine below_set ?_ GE132.out) | exact HB.out))⟩)
              · skip
                refine box_step ?hg (N := 6) ?hd (cs := #[.string (⟨#[]⟩ : ByteArray), .int .i64 0, .int .i64 0, .bool false, .string (⟨#[]⟩ : ByteArray)]) (t := 25) ?hr ?_; (case hd => rfl); (case hg => rfl); (case hr => first | (go_simp; done) | (go_simp; rfl))
                intro gb132 hg w75 hbox hb
                have n0_ := Aside0.mk (blk_below (g := gb113) (o := .cells #[.string a0_0, .int .i64 a0_1, .int .i64 a0_2, .bool a0_3, .string a0_4] 23 (0, 0)) (by (with_reducible repeat refine blk_alloc ?_ _); exact BK113.out) hb)
                have n1_ := Aside0.mk (blk_below (g := gb114) (o := .cells #[.string a1_0, .int .i64 a1_1, .int .i64 a1_2, .bool a1_3, .string a1_4] 23 (0, 0)) (by (with_reducible repeat refine blk_alloc ?_ _); exact BK114.out) hb)
                have n2_ := Aside0.mk (below_step (by repeat (first | (with_reducible first | exact HB.out | apply below_alloc | apply pw_below_drewN | apply below_drew1 | refine below_set ?_ GE113.out | refine below_set ?_ GE114.out) | exact HB.out)) hb)
                have n3_ := Aside0.mk (hbox)
                have n4_ := Aside0.mk ((by rw [hg]; exact (below_size (by repeat (first | (with_reducible first | exact HB.out | apply below_alloc | apply pw_below_drewN | apply below_drew1 | refine below_set ?_ GE113.out | refine below_set ?_ GE114.out) | exact HB.out))) : w.heap.size ≤ gb132))
                have n5_ := Aside0.mk ((by rw [hg]; exact (below_size (by repeat (first | (with_reducible first | exact HB.out | apply below_alloc | apply pw_below_drewN | apply below_drew1 | refine below_set ?_ GE113.out | refine below_set ?_ GE114.out) | exact HB.out))) : w.heap.size ≤ gb132))
                have n6_ := Aside0.mk ((by rw [hg]; exact Nat.ne_of_lt (blk_lt (g := gb113) (o := .cells #[.string a0_0, .int .i64 a0_1, .int .i64 a0_2, .bool a0_3, .string a0_4] 23 (0, 0)) (by (with_reducible repeat refine blk_alloc ?_ _); exact BK113.out)) : gb113 ≠ gb132))
                have n7_ := Aside0.mk ((by rw [hg]; exact Nat.ne_of_gt (blk_lt (g := gb113) (o := .cells #[.string a0_0, .int .i64 a0_1, .int .i64 a0_2, .bool a0_3, .string a0_4] 23 (0, 0)) (by (with_reducible repeat refine blk_alloc ?_ _); exact BK113.out)) : gb132 ≠ gb113))
                have n8_ := Aside0.mk ((by rw [hg]; exact Nat.ne_of_lt (blk_lt (g := gb114) (o := .cells #[.string a1_0, .int .i64 a1_1, .int .i64 a1_2, .bool a1_3, .string a1_4] 23 (0, 0)) (by (with_reducible repeat refine blk_alloc ?_ _); exact BK114.out)) : gb114 ≠ gb132))
                have n9_ := Aside0.mk ((by rw [hg]; exact Nat.ne_of_gt (blk_lt (g := gb114) (o := .cells #[.string a1_0, .int .i64 a1_1, .int .i64 a1_2, .bool a1_3, .string a1_4] 23 (0, 0)) (by (with_reducible repeat refine blk_alloc ?_ _); exact BK114.out)) : gb132 ≠ gb114))
                clear BK113
                clear BK114
                clear HB
                have BK113 := n0_
                have BK114 := n1_
                have HB := n2_
                have BK132 := n3_
                have GW132 := n4_
                have GE132 := n5_
                have NB113_132 := n6_
                have NB132_113 := n7_
                have NB114_132 := n8_
                have NB132_114 := n9_
                clear n0_ n1_ n2_ n3_ n4_ n5_ n6_ n7_ n8_ n9_
                clear hb hbox hg
                refine hK.out _ _ ⟨(blk_cell BK113.out 0).trans rfl, (blk_cell BK113.out 1).trans rfl, (blk_cell BK113.out 2).trans rfl, (blk_cell BK113.out 3).trans rfl, (blk_cell BK113.out 4).trans rfl, (blk_cell BK114.out 0).trans rfl, (blk_cell BK114.out 1).trans rfl, (blk_cell BK114.out 2).trans rfl, (blk_cell BK114.out 3).trans rfl, (blk_cell BK114.out 4).trans rfl⟩ (fun hHeld => ?_)
                clear hK K
                refine norm_ (a' := ?_) ?_ ?_
                rotate_left
                · show Act.put _ (some 6) _ = _
                  simp only [Act.put, List.setIfInBounds_toArray, List.set_cons_zero, List.set_cons_succ, i64_w, i32_w]
                  rfl
                refine one_ (i := 4) (N := some 22) #[true, true, true, true, true, true, false] rfl rfl (by kernel_rfl) (by decide) (fun K hK => ?_)
                refine goes_ Try.func12 (by kernel_rfl) rfl #[.agg #[.string t117, .int .i64 t118, .int .i64 t119, .bool t120, .string t121], .agg #[.string t122, .int .i64 t123, .int .i64 t124, .bool t125, .string t126]] (by rfl) rfl rfl (by (try simp only [List.map_toArray, List.map_cons, List.map_nil]); first | done | rfl) ?_
                with_reducible refine (spec_Winner.calls t117 t118 t119 t120 t121 t122 t123 t124 t125 t126 t127 t128 t129 t130 t131 _ A21.out).mono ?_
                rintro e w76 ⟨rfl, hb⟩
                refine ⟨_, rfl, ?_⟩
                have n0_ := Aside0.mk (blk_below (g := gb113) (o := .cells #[.string a0_0, .int .i64 a0_1, .int .i64 a0_2, .bool a0_3, .string a0_4] 23 (0, 0)) (by (with_reducible repeat refine blk_alloc ?_ _); exact BK113.out) hb)
                have n1_ := Aside0.mk (blk_below (g := gb114) (o := .cells #[.string a1_0, .int .i64 a1_1, .int .i64 a1_2, .bool a1_3, .string a1_4] 23 (0, 0)) (by (with_reducible repeat refine blk_alloc ?_ _); exact BK114.out) hb)
                have n2_ := Aside0.mk (blk_below (g := gb132) (o := .cells #[.string (⟨#[]⟩ : ByteArray), .int .i64 0, .int .i64 0, .bool false, .string (⟨#[]⟩ : ByteArray)] 25 (0, 0)) (by (with_reducible repeat refine blk_alloc ?_ _); exact BK132.out) hb)
                have n3_ := Aside0.mk (below_step (by repeat (first | (with_reducible first | exact HB.out | apply below_alloc | apply pw_below_drewN | apply below_drew1 | refine below_set ?_ GE113.out | refine below_set ?_ GE114.out | refine below_set ?_ GE132.out) | exact HB.out)) hb)
                clear BK113
                clear BK114
                clear BK132
                clear HB
                have BK113 := n0_
                have BK114 := n1_
                have BK132 := n2_
                have HB := n3_
                clear n0_ n1_ n2_ n3_
                (try clear hb)
                (try clear hb2)
                (try clear hk)
                (try clear hi)
                refine hK.out _ _ ⟨(blk_cell BK113.out 0).trans rfl, (blk_cell BK113.out 1).trans rfl, (blk_cell BK113.out 2).trans rfl, (blk_cell BK113.out 3).trans rfl, (blk_cell BK113.out 4).trans rfl, (blk_cell BK114.out 0).trans rfl, (blk_cell BK114.out 1).trans rfl, (blk_cell BK114.out 2).trans rfl, (blk_cell BK114.out 3).trans rfl, (blk_cell BK114.out 4).trans rfl⟩ (fun hHeld => ?_)
                clear hK K
                refine norm_ (a' := ?_) ?_ ?_
                rotate_left
                · show Act.put _ (some 22) _ = _
                  simp only [Act.put, List.setIfInBounds_toArray, List.set_cons_zero, List.set_cons_succ, i64_w, i32_w]
                  rfl
                exact norm_ (by simp only [putAll, Act.put, List.setIfInBounds_toArray, List.set_cons_zero, List.set_cons_succ]) (hCont (gb132) _ ⟨hHeld, (by (with_reducible repeat refine blk_alloc ?_ _); exact BK113.out), (by (with_reducible repeat refine blk_alloc ?_ _); exact BK114.out), (by (with_reducible repeat refine blk_alloc ?_ _); exact BK132.out), GW132.out, GE132.out, NB113_132.out, NB132_113.out, NB114_132.out, NB132_114.out, (by repeat (first | (with_reducible first | exact HB.out | apply below_alloc | apply pw_below_drewN | apply below_drew1 | refine below_set ?_ GE113.out | refine below_set ?_ GE114.out | refine below_set ?_ GE132.out) | exact HB.out))⟩)
            · skip
              refine box_step ?hg (N := 6) ?hd (cs := #[.string (⟨#[]⟩ : ByteArray), .int .i64 0, .int .i64 0, .bool false, .string (⟨#[]⟩ : ByteArray)]) (t := 25) ?hr ?_; (case hd => rfl); (case hg => rfl); (case hr => first | (go_simp; done) | (go_simp; rfl))
              intro gb132 hg w74 hbox hb
              have n0_ := Aside0.mk (blk_below (g := gb113) (o := .cells #[.string a0_0, .int .i64 a0_1, .int .i64 a0_2, .bool a0_3, .string a0_4] 23 (0, 0)) (by (with_reducible repeat refine blk_alloc ?_ _); exact BK113.out) hb)
              have n1_ := Aside0.mk (blk_below (g := gb114) (o := .cells #[.string a1_0, .int .i64 a1_1, .int .i64 a1_2, .bool a1_3, .string a1_4] 23 (0, 0)) (by (with_reducible repeat refine blk_alloc ?_ _); exact BK114.out) hb)
              have n2_ := Aside0.mk (below_step (by repeat (first | (with_reducible first | exact HB.out | apply below_alloc | apply pw_below_drewN | apply below_drew1 | refine below_set ?_ GE113.out | refine below_set ?_ GE114.out) | exact HB.out)) hb)
              have n3_ := Aside0.mk (hbox)
              have n4_ := Aside0.mk ((by rw [hg]; exact (below_size (by repeat (first | (with_reducible first | exact HB.out | apply below_alloc | apply pw_below_drewN | apply below_drew1 | refine below_set ?_ GE113.out | refine below_set ?_ GE114.out) | exact HB.out))) : w.heap.size ≤ gb132))
              have n5_ := Aside0.mk ((by rw [hg]; exact (below_size (by repeat (first | (with_reducible first | exact HB.out | apply below_alloc | apply pw_below_drewN | apply below_drew1 | refine below_set ?_ GE113.out | refine below_set ?_ GE114.out) | exact HB.out))) : w.heap.size ≤ gb132))
              have n6_ := Aside0.mk ((by rw [hg]; exact Nat.ne_of_lt (blk_lt (g := gb113) (o := .cells #[.string a0_0, .int .i64 a0_1, .int .i64 a0_2, .bool a0_3, .string a0_4] 23 (0, 0)) (by (with_reducible repeat refine blk_alloc ?_ _); exact BK113.out)) : gb113 ≠ gb132))
              have n7_ := Aside0.mk ((by rw [hg]; exact Nat.ne_of_gt (blk_lt (g := gb113) (o := .cells #[.string a0_0, .int .i64 a0_1, .int .i64 a0_2, .bool a0_3, .string a0_4] 23 (0, 0)) (by (with_reducible repeat refine blk_alloc ?_ _); exact BK113.out)) : gb132 ≠ gb113))
              have n8_ := Aside0.mk ((by rw [hg]; exact Nat.ne_of_lt (blk_lt (g := gb114) (o := .cells #[.string a1_0, .int .i64 a1_1, .int .i64 a1_2, .bool a1_3, .string a1_4] 23 (0, 0)) (by (with_reducible repeat refine blk_alloc ?_ _); exact BK114.out)) : gb114 ≠ gb132))
              have n9_ := Aside0.mk ((by rw [hg]; exact Nat.ne_of_gt (blk_lt (g := gb114) (o := .cells #[.string a1_0, .int .i64 a1_1, .int .i64 a1_2, .bool a1_3, .string a1_4] 23 (0, 0)) (by (with_reducible repeat refine blk_alloc ?_ _); exact BK114.out)) : gb132 ≠ gb114))
              clear BK113
              clear BK114
              clear HB
              have BK113 := n0_
              have BK114 := n1_
              have HB := n2_
              have BK132 := n3_
              have GW132 := n4_
              have GE132 := n5_
              have NB113_132 := n6_
              have NB132_113 := n7_
              have NB114_132 := n8_
              have NB132_114 := n9_
              clear n0_ n1_ n2_ n3_ n4_ n5_ n6_ n7_ n8_ n9_
              clear hb hbox hg
              refine hK.out _ _ ⟨(blk_cell BK113.out 0).trans rfl, (blk_cell BK113.out 1).trans rfl, (blk_cell BK113.out 2).trans rfl, (blk_cell BK113.out 3).trans rfl, (blk_cell BK113.out 4).trans rfl, (blk_cell BK114.out 0).trans rfl, (blk_cell BK114.out 1).trans rfl, (blk_cell BK114.out 2).trans rfl, (blk_cell BK114.out 3).trans rfl, (blk_cell BK114.out 4).trans rfl⟩ (fun hHeld => ?_)
              clear hK K
              refine norm_ (a' := ?_) ?_ ?_
              rotate_left
              · show Act.put _ (some 6) _ = _
                simp only [Act.put, List.setIfInBounds_toArray, List.set_cons_zero, List.set_cons_succ, i64_w, i32_w]
                rfl
              refine one_ (i := 3) (N := some 21) #[true, true, true, true, false, true, false] rfl rfl (by kernel_rfl) (by decide) (fun K hK => ?_)
              refine goes_ Try.func13 (by kernel_rfl) rfl #[.agg #[.string a1_0, .int .i64 a1_1, .int .i64 a1_2, .bool a1_3, .string a1_4]] (by rfl) rfl rfl (by (try simp only [List.map_toArray, List.map_cons, List.map_nil]); first | done | rfl) ?_
              with_reducible refine (laws_toSiteEntry.calls a1_0 a1_1 a1_2 a1_3 a1_4 t122 t123 t124 t125 t126 _ A20.out).mono ?_
              rintro e w75 ⟨rfl, hb⟩
              refine ⟨_, rfl, ?_⟩
              have n0_ := Aside0.mk (blk_below (g := gb113) (o := .cells #[.string a0_0, .int .i64 a0_1, .int .i64 a0_2, .bool a0_3, .string a0_4] 23 (0, 0)) (by (with_reducible repeat refine blk_alloc ?_ _); exact BK113.out) hb)
              have n1_ := Aside0.mk (blk_below (g := gb114) (o := .cells #[.string a1_0, .int .i64 a1_1, .int .i64 a1_2, .bool a1_3, .string a1_4] 23 (0, 0)) (by (with_reducible repeat refine blk_alloc ?_ _); exact BK114.out) hb)
              have n2_ := Aside0.mk (blk_below (g := gb132) (o := .cells #[.string (⟨#[]⟩ : ByteArray), .int .i64 0, .int .i64 0, .bool false, .string (⟨#[]⟩ : ByteArray)] 25 (0, 0)) (by (with_reducible repeat refine blk_alloc ?_ _); exact BK132.out) hb)
              have n3_ := Aside0.mk (below_step (by repeat (first | (with_reducible first | exact HB.out | apply below_alloc | apply pw_below_drewN | apply below_drew1 | refine below_set ?_ GE113.out | refine below_set ?_ GE114.out | refine below_set ?_ GE132.out) | exact HB.out)) hb)
              clear BK113
              clear BK114
              clear BK132
              clear HB
              have BK113 := n0_
              have BK114 := n1_
              have BK132 := n2_
              have HB := n3_
              clear n0_ n1_ n2_ n3_
              (try clear hb)
              (try clear hb2)
              (try clear hk)
              (try clear hi)
              refine hK.out _ _ ⟨(blk_cell BK113.out 0).trans rfl, (blk_cell BK113.out 1).trans rfl, (blk_cell BK113.out 2).trans rfl, (blk_cell BK113.out 3).trans rfl, (blk_cell BK113.out 4).trans rfl, (blk_cell BK114.out 0).trans rfl, (blk_cell BK114.out 1).trans rfl, (blk_cell BK114.out 2).trans rfl, (blk_cell BK114.out 3).trans rfl, (blk_cell BK114.out 4).trans rfl⟩ (fun hHeld => ?_)
              clear hK K
              refine norm_ (a' := ?_) ?_ ?_
              rotate_left
              · show Act.put _ (some 21) _ = _
                simp only [Act.put, List.setIfInBounds_toArray, List.set_cons_zero, List.set_cons_succ, i64_w, i32_w]
                rfl
              refine one_ (i := 4) (N := some 22) #[true, true, true, true, true, true, false] rfl rfl (by kernel_rfl) (by decide) (fun K hK => ?_)
              refine goes_ Try.func12 (by kernel_rfl) rfl #[.agg #[.string t117, .int .i64 t118, .int .i64 t119, .bool t120, .string t121], .agg #[.string t122, .int .i64 t123, .int .i64 t124, .bool t125, .string t126]] (by rfl) rfl rfl (by (try simp only [List.map_toArray, List.map_cons, List.map_nil]); first | done | rfl) ?_
              with_reducible refine (spec_Winner.calls t117 t118 t119 t120 t121 t122 t123 t124 t125 t126 t127 t128 t129 t130 t131 _ A21.out).mono ?_
              rintro e w76 ⟨rfl, hb⟩
              refine ⟨_, rfl, ?_⟩
              have n0_ := Aside0.mk (blk_below (g := gb113) (o := .cells #[.string a0_0, .int .i64 a0_1, .int .i64 a0_2, .bool a0_3, .string a0_4] 23 (0, 0)) (by (with_reducible repeat refine blk_alloc ?_ _); exact BK113.out) hb)
              have n1_ := Aside0.mk (blk_below (g := gb114) (o := .cells #[.string a1_0, .int .i64 a1_1, .int .i64 a1_2, .bool a1_3, .string a1_4] 23 (0, 0)) (by (with_reducible repeat refine blk_alloc ?_ _); exact BK114.out) hb)
              have n2_ := Aside0.mk (blk_below (g := gb132) (o := .cells #[.string (⟨#[]⟩ : ByteArray), .int .i64 0, .int .i64 0, .bool false, .string (⟨#[]⟩ : ByteArray)] 25 (0, 0)) (by (with_reducible repeat refine blk_alloc ?_ _); exact BK132.out) hb)
              have n3_ := Aside0.mk (below_step (by repeat (first | (with_reducible first | exact HB.out | apply below_alloc | apply pw_below_drewN | apply below_drew1 | refine below_set ?_ GE113.out | refine below_set ?_ GE114.out | refine below_set ?_ GE132.out) | exact HB.out)) hb)
              clear BK113
              clear BK114
              clear BK132
              clear HB
              have BK113 := n0_
              have BK114 := n1_
              have BK132 := n2_
              have HB := n3_
              clear n0_ n1_ n2_ n3_
              (try clear hb)
              (try clear hb2)
              (try clear hk)
              (try clear hi)
              refine hK.out _ _ ⟨(blk_cell BK113.out 0).trans rfl, (blk_cell BK113.out 1).trans rfl, (blk_cell BK113.out 2).trans rfl, (blk_cell BK113.out 3).trans rfl, (blk_cell BK113.out 4).trans rfl, (blk_cell BK114.out 0).trans rfl, (blk_cell BK114.out 1).trans rfl, (blk_cell BK114.out 2).trans rfl, (blk_cell BK114.out 3).trans rfl, (blk_cell BK114.out 4).trans rfl⟩ (fun hHeld => ?_)
              clear hK K
              refine norm_ (a' := ?_) ?_ ?_
              rotate_left
              · show Act.put _ (some 22) _ = _
                simp only [Act.put, List.setIfInBounds_toArray, List.set_cons_zero, List.set_cons_succ, i64_w, i32_w]
                rfl
              exact norm_ (by simp only [putAll, Act.put, List.setIfInBounds_toArray, List.set_cons_zero, List.set_cons_succ]) (hCont (gb132) _ ⟨hHeld, (by (with_reducible repeat refine blk_alloc ?_ _); exact BK113.out), (by (with_reducible repeat refine blk_alloc ?_ _); exact BK114.out), (by (with_reducible repeat refine blk_alloc ?_ _); exact BK132.out), GW132.out, GE132.out, NB113_132.out, NB132_113.out, NB114_132.out, NB132_114.out, (by repeat (first | (with_reducible first | exact HB.out | apply below_alloc | apply pw_below_drewN | apply below_drew1 | refine below_set ?_ GE113.out | refine below_set ?_ GE114.out | refine below_set ?_ GE132.out) | exact HB.out))⟩)
          · skip
            refine box_step ?hg (N := 6) ?hd (cs := #[.string (⟨#[]⟩ : ByteArray), .int .i64 0, .int .i64 0, .bool false, .string (⟨#[]⟩ : ByteArray)]) (t := 25) ?hr ?_; (case hd => rfl); (case hg => rfl); (case hr => first | (go_simp; done) | (go_simp; rfl))
            intro gb132 hg w73 hbox hb
            have n0_ := Aside0.mk (blk_below (g := gb113) (o := .cells #[.string a0_0, .int .i64 a0_1, .int .i64 a0_2, .bool a0_3, .string a0_4] 23 (0, 0)) (by (with_reducible repeat refine blk_alloc ?_ _); exact BK113.out) hb)
            have n1_ := Aside0.mk (blk_below (g := gb114) (o := .cells #[.string a1_0, .int .i64 a1_1, .int .i64 a1_2, .bool a1_3, .string a1_4] 23 (0, 0)) (by (with_reducible repeat refine blk_alloc ?_ _); exact BK114.out) hb)
            have n2_ := Aside0.mk (below_step (by repeat (first | (with_reducible first | exact HB.out | apply below_alloc | apply pw_below_drewN | apply below_drew1 | refine below_set ?_ GE113.out | refine below_set ?_ GE114.out) | exact HB.out)) hb)
            have n3_ := Aside0.mk (hbox)
            have n4_ := Aside0.mk ((by rw [hg]; exact (below_size (by repeat (first | (with_reducible first | exact HB.out | apply below_alloc | apply pw_below_drewN | apply below_drew1 | refine below_set ?_ GE113.out | refine below_set ?_ GE114.out) | exact HB.out))) : w.heap.size ≤ gb132))
            have n5_ := Aside0.mk ((by rw [hg]; exact (below_size (by repeat (first | (with_reducible first | exact HB.out | apply below_alloc | apply pw_below_drewN | apply below_drew1 | refine below_set ?_ GE113.out | refine below_set ?_ GE114.out) | exact HB.out))) : w.heap.size ≤ gb132))
            have n6_ := Aside0.mk ((by rw [hg]; exact Nat.ne_of_lt (blk_lt (g := gb113) (o := .cells #[.string a0_0, .int .i64 a0_1, .int .i64 a0_2, .bool a0_3, .string a0_4] 23 (0, 0)) (by (with_reducible repeat refine blk_alloc ?_ _); exact BK113.out)) : gb113 ≠ gb132))
            have n7_ := Aside0.mk ((by rw [hg]; exact Nat.ne_of_gt (blk_lt (g := gb113) (o := .cells #[.string a0_0, .int .i64 a0_1, .int .i64 a0_2, .bool a0_3, .string a0_4] 23 (0, 0)) (by (with_reducible repeat refine blk_alloc ?_ _); exact BK113.out)) : gb132 ≠ gb113))
            have n8_ := Aside0.mk ((by rw [hg]; exact Nat.ne_of_lt (blk_lt (g := gb114) (o := .cells #[.string a1_0, .int .i64 a1_1, .int .i64 a1_2, .bool a1_3, .string a1_4] 23 (0, 0)) (by (with_reducible repeat refine blk_alloc ?_ _); exact BK114.out)) : gb114 ≠ gb132))
            have n9_ := Aside0.mk ((by rw [hg]; exact Nat.ne_of_gt (blk_lt (g := gb114) (o := .cells #[.string a1_0, .int .i64 a1_1, .int .i64 a1_2, .bool a1_3, .string a1_4] 23 (0, 0)) (by (with_reducible repeat refine blk_alloc ?_ _); exact BK114.out)) : gb132 ≠ gb114))
            clear BK113
            clear BK114
            clear HB
            have BK113 := n0_
            have BK114 := n1_
            have HB := n2_
            have BK132 := n3_
            have GW132 := n4_
            have GE132 := n5_
            have NB113_132 := n6_
            have NB132_113 := n7_
            have NB114_132 := n8_
            have NB132_114 := n9_
            clear n0_ n1_ n2_ n3_ n4_ n5_ n6_ n7_ n8_ n9_
            clear hb hbox hg
            refine hK.out _ _ ⟨(blk_cell BK113.out 0).trans rfl, (blk_cell BK113.out 1).trans rfl, (blk_cell BK113.out 2).trans rfl, (blk_cell BK113.out 3).trans rfl, (blk_cell BK113.out 4).trans rfl, (blk_cell BK114.out 0).trans rfl, (blk_cell BK114.out 1).trans rfl, (blk_cell BK114.out 2).trans rfl, (blk_cell BK114.out 3).trans rfl, (blk_cell BK114.out 4).trans rfl⟩ (fun hHeld => ?_)
            clear hK K
            refine norm_ (a' := ?_) ?_ ?_
            rotate_left
            · show Act.put _ (some 6) _ = _
              simp only [Act.put, List.setIfInBounds_toArray, List.set_cons_zero, List.set_cons_succ, i64_w, i32_w]
              rfl
            refine one_ (i := 1) (N := some 19) #[true, true, true, false, false, true, false] rfl rfl (by kernel_rfl) (by decide) (fun K hK => ?_)
            refine goes_ Try.func13 (by kernel_rfl) rfl #[.agg #[.string a0_0, .int .i64 a0_1, .int .i64 a0_2, .bool a0_3, .string a0_4]] (by rfl) rfl rfl (by (try simp only [List.map_toArray, List.map_cons, List.map_nil]); first | done | rfl) ?_
            with_reducible refine (laws_toSiteEntry.calls a0_0 a0_1 a0_2 a0_3 a0_4 t117 t118 t119 t120 t121 _ A19.out).mono ?_
            rintro e w74 ⟨rfl, hb⟩
            refine ⟨_, rfl, ?_⟩
            have n0_ := Aside0.mk (blk_below (g := gb113) (o := .cells #[.string a0_0, .int .i64 a0_1, .int .i64 a0_2, .bool a0_3, .string a0_4] 23 (0, 0)) (by (with_reducible repeat refine blk_alloc ?_ _); exact BK113.out) hb)
            have n1_ := Aside0.mk (blk_below (g := gb114) (o := .cells #[.string a1_0, .int .i64 a1_1, .int .i64 a1_2, .bool a1_3, .string a1_4] 23 (0, 0)) (by (with_reducible repeat refine blk_alloc ?_ _); exact BK114.out) hb)
            have n2_ := Aside0.mk (blk_below (g := gb132) (o := .cells #[.string (⟨#[]⟩ : ByteArray), .int .i64 0, .int .i64 0, .bool false, .string (⟨#[]⟩ : ByteArray)] 25 (0, 0)) (by (with_reducible repeat refine blk_alloc ?_ _); exact BK132.out) hb)
            have n3_ := Aside0.mk (below_step (by repeat (first | (with_reducible first | exact HB.out | apply below_alloc | apply pw_below_drewN | apply below_drew1 | refine below_set ?_ GE113.out | refine below_set ?_ GE114.out | refine below_set ?_ GE132.out) | exact HB.out)) hb)
            clear BK113
            clear BK114
            clear BK132
            clear HB
            have BK113 := n0_
            have BK114 := n1_
            have BK132 := n2_
            have HB := n3_
            clear n0_ n1_ n2_ n3_
            (try clear hb)
            (try clear hb2)
            (try clear hk)
            (try clear hi)
            refine hK.out _ _ ⟨(blk_cell BK113.out 0).trans rfl, (blk_cell BK113.out 1).trans rfl, (blk_cell BK113.out 2).trans rfl, (blk_cell BK113.out 3).trans rfl, (blk_cell BK113.out 4).trans rfl, (blk_cell BK114.out 0).trans rfl, (blk_cell BK114.out 1).trans rfl, (blk_cell BK114.out 2).trans rfl, (blk_cell BK114.out 3).trans rfl, (blk_cell BK114.out 4).trans rfl⟩ (fun hHeld => ?_)
            clear hK K
            refine norm_ (a' := ?_) ?_ ?_
            rotate_left
            · show Act.put _ (some 19) _ = _
              simp only [Act.put, List.setIfInBounds_toArray, List.set_cons_zero, List.set_cons_succ, i64_w, i32_w]
              rfl
            refine one_ (i := 3) (N := some 21) #[true, true, true, true, false, true, false] rfl rfl (by kernel_rfl) (by decide) (fun K hK => ?_)
            refine goes_ Try.func13 (by kernel_rfl) rfl #[.agg #[.string a1_0, .int .i64 a1_1, .int .i64 a1_2, .bool a1_3, .string a1_4]] (by rfl) rfl rfl (by (try simp only [List.map_toArray, List.map_cons, List.map_nil]); first | done | rfl) ?_
            with_reducible refine (laws_toSiteEntry.calls a1_0 a1_1 a1_2 a1_3 a1_4 t122 t123 t124 t125 t126 _ A20.out).mono ?_
            rintro e w75 ⟨rfl, hb⟩
            refine ⟨_, rfl, ?_⟩
            have n0_ := Aside0.mk (blk_below (g := gb113) (o := .cells #[.string a0_0, .int .i64 a0_1, .int .i64 a0_2, .bool a0_3, .string a0_4] 23 (0, 0)) (by (with_reducible repeat refine blk_alloc ?_ _); exact BK113.out) hb)
            have n1_ := Aside0.mk (blk_below (g := gb114) (o := .cells #[.string a1_0, .int .i64 a1_1, .int .i64 a1_2, .bool a1_3, .string a1_4] 23 (0, 0)) (by (with_reducible repeat refine blk_alloc ?_ _); exact BK114.out) hb)
            have n2_ := Aside0.mk (blk_below (g := gb132) (o := .cells #[.string (⟨#[]⟩ : ByteArray), .int .i64 0, .int .i64 0, .bool false, .string (⟨#[]⟩ : ByteArray)] 25 (0, 0)) (by (with_reducible repeat refine blk_alloc ?_ _); exact BK132.out) hb)
            have n3_ := Aside0.mk (below_step (by repeat (first | (with_reducible first | exact HB.out | apply below_alloc | apply pw_below_drewN | apply below_drew1 | refine below_set ?_ GE113.out | refine below_set ?_ GE114.out | refine below_set ?_ GE132.out) | exact HB.out)) hb)
            clear BK113
            clear BK114
            clear BK132
            clear HB
            have BK113 := n0_
            have BK114 := n1_
            have BK132 := n2_
            have HB := n3_
            clear n0_ n1_ n2_ n3_
            (try clear hb)
            (try clear hb2)
            (try clear hk)
            (try clear hi)
            refine hK.out _ _ ⟨(blk_cell BK113.out 0).trans rfl, (blk_cell BK113.out 1).trans rfl, (blk_cell BK113.out 2).trans rfl, (blk_cell BK113.out 3).trans rfl, (blk_cell BK113.out 4).trans rfl, (blk_cell BK114.out 0).trans rfl, (blk_cell BK114.out 1).trans rfl, (blk_cell BK114.out 2).trans rfl, (blk_cell BK114.out 3).trans rfl, (blk_cell BK114.out 4).trans rfl⟩ (fun hHeld => ?_)
            clear hK K
            refine norm_ (a' := ?_) ?_ ?_
            rotate_left
            · show Act.put _ (some 21) _ = _
              simp only [Act.put, List.setIfInBounds_toArray, List.set_cons_zero, List.set_cons_succ, i64_w, i32_w]
              rfl
            refine one_ (i := 4) (N := some 22) #[true, true, true, true, true, true, false] rfl rfl (by kernel_rfl) (by decide) (fun K hK => ?_)
            refine goes_ Try.func12 (by kernel_rfl) rfl #[.agg #[.string t117, .int .i64 t118, .int .i64 t119, .bool t120, .string t121], .agg #[.string t122, .int .i64 t123, .int .i64 t124, .bool t125, .string t126]] (by rfl) rfl rfl (by (try simp only [List.map_toArray, List.map_cons, List.map_nil]); first | done | rfl) ?_
            with_reducible refine (spec_Winner.calls t117 t118 t119 t120 t121 t122 t123 t124 t125 t126 t127 t128 t129 t130 t131 _ A21.out).mono ?_
            rintro e w76 ⟨rfl, hb⟩
            refine ⟨_, rfl, ?_⟩
            have n0_ := Aside0.mk (blk_below (g := gb113) (o := .cells #[.string a0_0, .int .i64 a0_1, .int .i64 a0_2, .bool a0_3, .string a0_4] 23 (0, 0)) (by (with_reducible repeat refine blk_alloc ?_ _); exact BK113.out) hb)
            have n1_ := Aside0.mk (blk_below (g := gb114) (o := .cells #[.string a1_0, .int .i64 a1_1, .int .i64 a1_2, .bool a1_3, .string a1_4] 23 (0, 0)) (by (with_reducible repeat refine blk_alloc ?_ _); exact BK114.out) hb)
            have n2_ := Aside0.mk (blk_below (g := gb132) (o := .cells #[.string (⟨#[]⟩ : ByteArray), .int .i64 0, .int .i64 0, .bool false, .string (⟨#[]⟩ : ByteArray)] 25 (0, 0)) (by (with_reducible repeat refine blk_alloc ?_ _); exact BK132.out) hb)
            have n3_ := Aside0.mk (below_step (by repeat (first | (with_reducible first | exact HB.out | apply below_alloc | apply pw_below_drewN | apply below_drew1 | refine below_set ?_ GE113.out | refine below_set ?_ GE114.out | refine below_set ?_ GE132.out) | exact HB.out)) hb)
            clear BK113
            clear BK114
            clear BK132
            clear HB
            have BK113 := n0_
            have BK114 := n1_
            have BK132 := n2_
            have HB := n3_
            clear n0_ n1_ n2_ n3_
            (try clear hb)
            (try clear hb2)
            (try clear hk)
            (try clear hi)
            refine hK.out _ _ ⟨(blk_cell BK113.out 0).trans rfl, (blk_cell BK113.out 1).trans rfl, (blk_cell BK113.out 2).trans rfl, (blk_cell BK113.out 3).trans rfl, (blk_cell BK113.out 4).trans rfl, (blk_cell BK114.out 0).trans rfl, (blk_cell BK114.out 1).trans rfl, (blk_cell BK114.out 2).trans rfl, (blk_cell BK114.out 3).trans rfl, (blk_cell BK114.out 4).trans rfl⟩ (fun hHeld => ?_)
            clear hK K
            refine norm_ (a' := ?_) ?_ ?_
            rotate_left
            · show Act.put _ (some 22) _ = _
              simp only [Act.put, List.setIfInBounds_toArray, List.set_cons_zero, List.set_cons_succ, i64_w, i32_w]
              rfl
            exact norm_ (by simp only [putAll, Act.put, List.setIfInBounds_toArray, List.set_cons_zero, List.set_cons_succ]) (hCont (gb132) _ ⟨hHeld, (by (with_reducible repeat refine blk_alloc ?_ _); exact BK113.out), (by (with_reducible repeat refine blk_alloc ?_ _); exact BK114.out), (by (with_reducible repeat refine blk_alloc ?_ _); exact BK132.out), GW132.out, GE132.out, NB113_132.out, NB132_113.out, NB114_132.out, NB132_114.out, (by repeat (first | (with_reducible first | exact HB.out | apply below_alloc | apply pw_below_drewN | apply below_drew1 | refine below_set ?_ GE113.out | refine below_set ?_ GE114.out | refine below_set ?_ GE132.out) | exact HB.out))⟩)
        rintro gb132 w77 ⟨hS_, h0_, h1_, h2_, h3_, h4_, h5_, h6_, h7_, h8_, h9_⟩
        have n0_ : Aside0 (w77.heap[gb113]? = some (.cells #[.string a0_0, .int .i64 a0_1, .int .i64 a0_2, .bool a0_3, .string a0_4] 23 (0, 0))) := ⟨h0_⟩
        have n1_ : Aside0 (w77.heap[gb114]? = some (.cells #[.string a1_0, .int .i64 a1_1, .int .i64 a1_2, .bool a1_3, .string a1_4] 23 (0, 0))) := ⟨h1_⟩
        have n2_ : Aside0 (w77.heap[gb132]? = some (.cells #[.string (⟨#[]⟩ : ByteArray), .int .i64 0, .int .i64 0, .bool false, .string (⟨#[]⟩ : ByteArray)] 25 (0, 0))) := ⟨h2_⟩
        have n3_ : Aside0 (w.heap.size ≤ gb132) := ⟨h3_⟩
        have n4_ : Aside0 (w.heap.size ≤ gb132) := ⟨h4_⟩
        have n5_ : Aside0 (gb113 ≠ gb132) := ⟨h5_⟩
        have n6_ : Aside0 (gb132 ≠ gb113) := ⟨h6_⟩
        have n7_ : Aside0 (gb114 ≠ gb132) := ⟨h7_⟩
        have n8_ : Aside0 (gb132 ≠ gb114) := ⟨h8_⟩
        have n9_ : Aside0 (Below w.heap.size w w77) := ⟨h9_⟩
        clear BK113
        clear BK114
        clear HB
        clear h0_ h1_ h2_ h3_ h4_ h5_ h6_ h7_ h8_ h9_
        have BK113 := n0_
        have BK114 := n1_
        have BK132 := n2_
        have GW132 := n3_
        have GE132 := n4_
        have NB113_132 := n5_
        have NB132_113 := n6_
        have NB114_132 := n7_
        have NB132_114 := n8_
        have HB := n9_
        clear n0_ n1_ n2_ n3_ n4_ n5_ n6_ n7_ n8_ n9_
        have hHeld : w77.cell? ⟨gb113, 0, none⟩ = some (.string a0_0) ∧ w77.cell? ⟨gb113, 1, none⟩ = some (.int .i64 a0_1) ∧ w77.cell? ⟨gb113, 2, none⟩ = some (.int .i64 a0_2) ∧ w77.cell? ⟨gb113, 3, none⟩ = some (.bool a0_3) ∧ w77.cell? ⟨gb113, 4, none⟩ = some (.string a0_4) ∧ w77.cell? ⟨gb114, 0, none⟩ = some (.string a1_0) ∧ w77.cell? ⟨gb114, 1, none⟩ = some (.int .i64 a1_1) ∧ w77.cell? ⟨gb114, 2, none⟩ = some (.int .i64 a1_2) ∧ w77.cell? ⟨gb114, 3, none⟩ = some (.bool a1_3) ∧ w77.cell? ⟨gb114, 4, none⟩ = some (.string a1_4) := hS_
        refine norm_ (a' := ?_) ?_ ?_
        rotate_left
        · simp only [putAll, Act.put, List.setIfInBounds_toArray, List.set_cons_zero, List.set_cons_succ]
          rfl
        refine one_ (i := 6) (N := none) #[true, true, true, true, true, true, true] rfl rfl (by kernel_rfl) (by decide) (fun K hK => ?_)
        have hs78 : w77.cell? ⟨gb132, 0, none⟩ = some (.string (⟨#[]⟩ : ByteArray)) := (blk_cell BK132.out 0).trans rfl
        have hfs78 := blk_frozen BK132.out 0
        have hns78_0 := NB113_132.out
        have hns78_1 := NB114_132.out
        have hms78_0 := NB132_113.out
        have hms78_1 := NB132_114.out
        have hs79 : w77.cell? ⟨gb132, 1, none⟩ = some (.int .i64 0) := (blk_cell BK132.out 1).trans rfl
        have hfs79 := blk_frozen BK132.out 1
        have hns79_0 := NB113_132.out
        have hns79_1 := NB114_132.out
        have hms79_0 := NB132_113.out
        have hms79_1 := NB132_114.out
        have hs80 : w77.cell? ⟨gb132, 2, none⟩ = some (.int .i64 0) := (blk_cell BK132.out 2).trans rfl
        have hfs80 := blk_frozen BK132.out 2
        have hns80_0 := NB113_132.out
        have hns80_1 := NB114_132.out
        have hms80_0 := NB132_113.out
        have hms80_1 := NB132_114.out
        have hs81 : w77.cell? ⟨gb132, 3, none⟩ = some (.bool false) := (blk_cell BK132.out 3).trans rfl
        have hfs81 := blk_frozen BK132.out 3
        have hns81_0 := NB113_132.out
        have hns81_1 := NB114_132.out
        have hms81_0 := NB132_113.out
        have hms81_1 := NB132_114.out
        have hs82 : w77.cell? ⟨gb132, 4, none⟩ = some (.string (⟨#[]⟩ : ByteArray)) := (blk_cell BK132.out 4).trans rfl
        have hfs82 := blk_frozen BK132.out 4
        have hns82_0 := NB113_132.out
        have hns82_1 := NB114_132.out
        have hms82_0 := NB132_113.out
        have hms82_1 := NB132_114.out
        refine skip_ (w1 := ?_) (by rfl) rfl ?_ ?_
        rotate_left
        · go_simp
          rfl
        refine hK.out _ _ ⟨((cell_far (p := ⟨gb132, _, none⟩) NB113_132.out _).trans (((cell_far (p := ⟨gb132, _, none⟩) NB113_132.out _).trans (((cell_far (p := ⟨gb132, _, none⟩) NB113_132.out _).trans (((cell_far (p := ⟨gb132, _, none⟩) NB113_132.out _).trans (((cell_far (p := ⟨gb132, _, none⟩) NB113_132.out _).trans (hHeld.1)))))))))), ((cell_far (p := ⟨gb132, _, none⟩) NB113_132.out _).trans (((cell_far (p := ⟨gb132, _, none⟩) NB113_132.out _).trans (((cell_far (p := ⟨gb132, _, none⟩) NB113_132.out _).trans (((cell_far (p := ⟨gb132, _, none⟩) NB113_132.out _).trans (((cell_far (p := ⟨gb132, _, none⟩) NB113_132.out _).trans (hHeld.2.1)))))))))), ((cell_far (p := ⟨gb132, _, none⟩) NB113_132.out _).trans (((cell_far (p := ⟨gb132, _, none⟩) NB113_132.out _).trans (((cell_far (p := ⟨gb132, _, none⟩) NB113_132.out _).trans (((cell_far (p := ⟨gb132, _, none⟩) NB113_132.out _).trans (((cell_far (p := ⟨gb132, _, none⟩) NB113_132.out _).trans (hHeld.2.2.1)))))))))), ((cell_far (p := ⟨gb132, _, none⟩) NB113_132.out _).trans (((cell_far (p := ⟨gb132, _, none⟩) NB113_132.out _).trans (((cell_far (p := ⟨gb132, _, none⟩) NB113_132.out _).trans (((cell_far (p := ⟨gb132, _, none⟩) NB113_132.out _).trans (((cell_far (p := ⟨gb132, _, none⟩) NB113_132.out _).trans (hHeld.2.2.2.1)))))))))), ((cell_far (p := ⟨gb132, _, none⟩) NB113_132.out _).trans (((cell_far (p := ⟨gb132, _, none⟩) NB113_132.out _).trans (((cell_far (p := ⟨gb132, _, none⟩) NB113_132.out _).trans (((cell_far (p := ⟨gb132, _, none⟩) NB113_132.out _).trans (((cell_far (p := ⟨gb132, _, none⟩) NB113_132.out _).trans (hHeld.2.2.2.2.1)))))))))), ((cell_far (p := ⟨gb132, _, none⟩) NB114_132.out _).trans (((cell_far (p := ⟨gb132, _, none⟩) NB114_132.out _).trans (((cell_far (p := ⟨gb132, _, none⟩) NB114_132.out _).trans (((cell_far (p := ⟨gb132, _, none⟩) NB114_132.out _).trans (((cell_far (p := ⟨gb132, _, none⟩) NB114_132.out _).trans (hHeld.2.2.2.2.2.1)))))))))), ((cell_far (p := ⟨gb132, _, none⟩) NB114_132.out _).trans (((cell_far (p := ⟨gb132, _, none⟩) NB114_132.out _).trans (((cell_far (p := ⟨gb132, _, none⟩) NB114_132.out _).trans (((cell_far (p := ⟨gb132, _, none⟩) NB114_132.out _).trans (((cell_far (p := ⟨gb132, _, none⟩) NB114_132.out _).trans (hHeld.2.2.2.2.2.2.1)))))))))), ((cell_far (p := ⟨gb132, _, none⟩) NB114_132.out _).trans (((cell_far (p := ⟨gb132, _, none⟩) NB114_132.out _).trans (((cell_far (p := ⟨gb132, _, none⟩) NB114_132.out _).trans (((cell_far (p := ⟨gb132, _, none⟩) NB114_132.out _).trans (((cell_far (p := ⟨gb132, _, none⟩) NB114_132.out _).trans (hHeld.2.2.2.2.2.2.2.1)))))))))), ((cell_far (p := ⟨gb132, _, none⟩) NB114_132.out _).trans (((cell_far (p := ⟨gb132, _, none⟩) NB114_132.out _).trans (((cell_far (p := ⟨gb132, _, none⟩) NB114_132.out _).trans (((cell_far (p := ⟨gb132, _, none⟩) NB114_132.out _).trans (((cell_far (p := ⟨gb132, _, none⟩) NB114_132.out _).trans (hHeld.2.2.2.2.2.2.2.2.1)))))))))), ((cell_far (p := ⟨gb132, _, none⟩) NB114_132.out _).trans (((cell_far (p := ⟨gb132, _, none⟩) NB114_132.out _).trans (((cell_far (p := ⟨gb132, _, none⟩) NB114_132.out _).trans (((cell_far (p := ⟨gb132, _, none⟩) NB114_132.out _).trans (((cell_far (p := ⟨gb132, _, none⟩) NB114_132.out _).trans (hHeld.2.2.2.2.2.2.2.2.2))))))))))⟩ (fun hHeld => ?_)
        clear hK K
        refine done_ (by kernel_rfl) ?_
        try go_wp2
        have n0_ : Aside0 ((((((w77.setCell ⟨gb132, 0, none⟩ (.string t127)).setCell ⟨gb132, 1, none⟩ (.int .i64 t128)).setCell ⟨gb132, 2, none⟩ (.int .i64 t129)).setCell ⟨gb132, 3, none⟩ (.bool t130)).setCell ⟨gb132, 4, none⟩ (.string t131)).heap[gb113]? = some (.cells #[.string a0_0, .int .i64 a0_1, .int .i64 a0_2, .bool a0_3, .string a0_4] 23 (0, 0))) := ⟨by (with_reducible repeat refine blk_alloc ?_ _); refine blk_far ?_ NB113_132.out _; (with_reducible repeat refine blk_alloc ?_ _); refine blk_far ?_ NB113_132.out _; (with_reducible repeat refine blk_alloc ?_ _); refine blk_far ?_ NB113_132.out _; (with_reducible repeat refine blk_alloc ?_ _); refine blk_far ?_ NB113_132.out _; (with_reducible repeat refine blk_alloc ?_ _); refine blk_far ?_ NB113_132.out _; (with_reducible repeat refine blk_alloc ?_ _); exact BK113.out⟩
        have n1_ : Aside0 ((((((w77.setCell ⟨gb132, 0, none⟩ (.string t127)).setCell ⟨gb132, 1, none⟩ (.int .i64 t128)).setCell ⟨gb132, 2, none⟩ (.int .i64 t129)).setCell ⟨gb132, 3, none⟩ (.bool t130)).setCell ⟨gb132, 4, none⟩ (.string t131)).heap[gb114]? = some (.cells #[.string a1_0, .int .i64 a1_1, .int .i64 a1_2, .bool a1_3, .string a1_4] 23 (0, 0))) := ⟨by (with_reducible repeat refine blk_alloc ?_ _); refine blk_far ?_ NB114_132.out _; (with_reducible repeat refine blk_alloc ?_ _); refine blk_far ?_ NB114_132.out _; (with_reducible repeat refine blk_alloc ?_ _); refine blk_far ?_ NB114_132.out _; (with_reducible repeat refine blk_alloc ?_ _); refine blk_far ?_ NB114_132.out _; (with_reducible repeat refine blk_alloc ?_ _); refine blk_far ?_ NB114_132.out _; (with_reducible repeat refine blk_alloc ?_ _); exact BK114.out⟩
        have n2_ : Aside0 ((((((w77.setCell ⟨gb132, 0, none⟩ (.string t127)).setCell ⟨gb132, 1, none⟩ (.int .i64 t128)).setCell ⟨gb132, 2, none⟩ (.int .i64 t129)).setCell ⟨gb132, 3, none⟩ (.bool t130)).setCell ⟨gb132, 4, none⟩ (.string t131)).heap[gb132]? = some (.cells #[.string t127, .int .i64 t128, .int .i64 t129, .bool t130, .string t131] 25 (0, 0))) := ⟨by (with_reducible repeat refine blk_alloc ?_ _); refine blk_put (cs := #[.string t127, .int .i64 t128, .int .i64 t129, .bool t130, .string (⟨#[]⟩ : ByteArray)]) ?_ 4 _ rfl; (with_reducible repeat refine blk_alloc ?_ _); refine blk_put (cs := #[.string t127, .int .i64 t128, .int .i64 t129, .bool false, .string (⟨#[]⟩ : ByteArray)]) ?_ 3 _ rfl; (with_reducible repeat refine blk_alloc ?_ _); refine blk_put (cs := #[.string t127, .int .i64 t128, .int .i64 0, .bool false, .string (⟨#[]⟩ : ByteArray)]) ?_ 2 _ rfl; (with_reducible repeat refine blk_alloc ?_ _); refine blk_put (cs := #[.string t127, .int .i64 0, .int .i64 0, .bool false, .string (⟨#[]⟩ : ByteArray)]) ?_ 1 _ rfl; (with_reducible repeat refine blk_alloc ?_ _); refine blk_put (cs := #[.string (⟨#[]⟩ : ByteArray), .int .i64 0, .int .i64 0, .bool false, .string (⟨#[]⟩ : ByteArray)]) ?_ 0 _ rfl; (with_reducible repeat refine blk_alloc ?_ _); exact BK132.out⟩
        have n3_ : Aside0 (Below w.heap.size w (((((w77.setCell ⟨gb132, 0, none⟩ (.string t127)).setCell ⟨gb132, 1, none⟩ (.int .i64 t128)).setCell ⟨gb132, 2, none⟩ (.int .i64 t129)).setCell ⟨gb132, 3, none⟩ (.bool t130)).setCell ⟨gb132, 4, none⟩ (.string t131))) := ⟨by repeat (first | (with_reducible first | exact HB.out | apply below_alloc | apply pw_below_drewN | apply below_drew1 | refine below_set ?_ GE113.out | refine below_set ?_ GE114.out | refine below_set ?_ GE132.out) | exact HB.out)⟩
        (try clear BK113)
        (try clear BK114)
        (try clear BK132)
        (try clear HB)
        generalize (((((w77.setCell ⟨gb132, 0, none⟩ (.string t127)).setCell ⟨gb132, 1, none⟩ (.int .i64 t128)).setCell ⟨gb132, 2, none⟩ (.int .i64 t129)).setCell ⟨gb132, 3, none⟩ (.bool t130)).setCell ⟨gb132, 4, none⟩ (.string t131)) = w83 at n0_ n1_ n2_ n3_ ⊢
        have BK113 := n0_
        have BK114 := n1_
        have BK132 := n2_
        have HB := n3_
        clear n0_ n1_ n2_ n3_
        have n0_ := Aside0.mk (blk_drew BK113.out)
        have n1_ := Aside0.mk (blk_drew BK114.out)
        have n2_ := Aside0.mk (blk_drew BK132.out)
        have n3_ := Aside0.mk (below_drew1 HB.out)
        clear BK113
        clear BK114
        clear BK132
        clear HB
        have BK113 := n0_
        have BK114 := n1_
        have BK132 := n2_
        have HB := n3_
        clear n0_ n1_ n2_ n3_
        refine start_ (n := 7) (S := fun w' => w'.cell? ⟨gb113, 0, none⟩ = some (.string a0_0) ∧ w'.cell? ⟨gb113, 1, none⟩ = some (.int .i64 a0_1) ∧ w'.cell? ⟨gb113, 2, none⟩ = some (.int .i64 a0_2) ∧ w'.cell? ⟨gb113, 3, none⟩ = some (.bool a0_3) ∧ w'.cell? ⟨gb113, 4, none⟩ = some (.string a0_4) ∧ w'.cell? ⟨gb114, 0, none⟩ = some (.string a1_0) ∧ w'.cell? ⟨gb114, 1, none⟩ = some (.int .i64 a1_1) ∧ w'.cell? ⟨gb114, 2, none⟩ = some (.int .i64 a1_2) ∧ w'.cell? ⟨gb114, 3, none⟩ = some (.bool a1_3) ∧ w'.cell? ⟨gb114, 4, none⟩ = some (.string a1_4)) (ds := []) #[false, false, false, false, false, false, false] (by kernel_rfl) rfl rfl ⟨(blk_cell BK113.out 0).trans rfl, (blk_cell BK113.out 1).trans rfl, (blk_cell BK113.out 2).trans rfl, (blk_cell BK113.out 3).trans rfl, (blk_cell BK113.out 4).trans rfl, (blk_cell BK114.out 0).trans rfl, (blk_cell BK114.out 1).trans rfl, (blk_cell BK114.out 2).trans rfl, (blk_cell BK114.out 3).trans rfl, (blk_cell BK114.out 4).trans rfl⟩ (fun hHeld => ?_)
        generalize w83.drew = w84 at BK113 BK114 BK132 HB hHeld ⊢
        refine take_ (i := 0) (N := some 23) (v := ?_) (a' := ?_) #[true, false, false, false, false, false, false] rfl rfl (by kernel_rfl) (fun _ _ _ h => h) (Or.inl ⟨by rfl, ?_⟩) hHeld ?_ ?_
        rotate_left
        · rintro w' ⟨s0, s1, s2, s3, s4, s5, s6, s7, s8, s9⟩
          go_simp
          with_reducible rfl
        rotate_left
        · simp only [Act.put, List.setIfInBounds_toArray, List.set_cons_zero, List.set_cons_succ, i64_w, i32_w]
          rfl
        refine take_ (i := 2) (N := some 25) (v := ?_) (a' := ?_) #[true, false, true, false, false, false, false] rfl rfl (by kernel_rfl) (fun _ _ _ h => h) (Or.inl ⟨by rfl, ?_⟩) hHeld ?_ ?_
        rotate_left
        · rintro w' ⟨s0, s1, s2, s3, s4, s5, s6, s7, s8, s9⟩
          go_simp
          with_reducible rfl
        rotate_left
        · simp only [Act.put, List.setIfInBounds_toArray, List.set_cons_zero, List.set_cons_succ, i64_w, i32_w]
          rfl
        refine join_ (σ := Nat) 1 #[true, true, true, true, true, true, false] (fun s_ => [(24, .agg #[.string t133, .int .i64 t134, .int .i64 t135, .bool t136, .string t137]), (26, .agg #[.string t138, .int .i64 t139, .int .i64 t140, .bool t141, .string t142]), (27, .agg #[.string t143, .int .i64 t144, .int .i64 t145, .bool t146, .string t147]), (7, .pointer (some ⟨s_, 0, none⟩))]) (fun s_ w' => (w'.cell? ⟨gb113, 0, none⟩ = some (.string a0_0) ∧ w'.cell? ⟨gb113, 1, none⟩ = some (.int .i64 a0_1) ∧ w'.cell? ⟨gb113, 2, none⟩ = some (.int .i64 a0_2) ∧ w'.cell? ⟨gb113, 3, none⟩ = some (.bool a0_3) ∧ w'.cell? ⟨gb113, 4, none⟩ = some (.string a0_4) ∧ w'.cell? ⟨gb114, 0, none⟩ = some (.string a1_0) ∧ w'.cell? ⟨gb114, 1, none⟩ = some (.int .i64 a1_1) ∧ w'.cell? ⟨gb114, 2, none⟩ = some (.int .i64 a1_2) ∧ w'.cell? ⟨gb114, 3, none⟩ = some (.bool a1_3) ∧ w'.cell? ⟨gb114, 4, none⟩ = some (.string a1_4)) ∧ (w'.heap[gb113]? = some (.cells #[.string a0_0, .int .i64 a0_1, .int .i64 a0_2, .bool a0_3, .string a0_4] 23 (0, 0))) ∧ (w'.heap[gb114]? = some (.cells #[.string a1_0, .int .i64 a1_1, .int .i64 a1_2, .bool a1_3, .string a1_4] 23 (0, 0))) ∧ (w'.heap[gb132]? = some (.cells #[.string t127, .int .i64 t128, .int .i64 t129, .bool t130, .string t131] 25 (0, 0))) ∧ (w'.heap[s_]? = some (.cells #[.string (⟨#[]⟩ : ByteArray), .int .i64 0, .int .i64 0, .bool false, .string (⟨#[]⟩ : ByteArray)] 25 (0, 0))) ∧ (w.heap.size ≤ s_) ∧ (w.heap.size ≤ s_) ∧ (gb113 ≠ s_) ∧ (s_ ≠ gb113) ∧ (gb114 ≠ s_) ∧ (s_ ≠ gb114) ∧ (gb132 ≠ s_) ∧ (s_ ≠ gb132) ∧ (Below w.heap.size w w')) ?_ ?_
        rotate_left
        · intro hCont
          refine two_ (i := 1) (j := 5) (Ni := some 24) (Nj := some 7) #[true, true, true, false, false, false, false] #[true, false, true, false, false, true, false] rfl rfl rfl rfl (by kernel_rfl) (by decide) (by decide) (fun K hK => ?_) (fun K hK => ?_)
          · skip
            refine goes_ Try.func13 (by kernel_rfl) rfl #[.agg #[.string a0_0, .int .i64 a0_1, .int .i64 a0_2, .bool a0_3, .string a0_4]] (by rfl) rfl rfl (by (try simp only [List.map_toArray, List.map_cons, List.map_nil]); first | done | rfl) ?_
            with_reducible refine (laws_toSiteEntry.calls a0_0 a0_1 a0_2 a0_3 a0_4 t133 t134 t135 t136 t137 _ A22.out).mono ?_
            rintro e w85 ⟨rfl, hb⟩
            refine ⟨_, rfl, ?_⟩
            have n0_ := Aside0.mk (blk_below (g := gb113) (o := .cells #[.string a0_0, .int .i64 a0_1, .int .i64 a0_2, .bool a0_3, .string a0_4] 23 (0, 0)) (by (with_reducible repeat refine blk_alloc ?_ _); exact BK113.out) hb)
            have n1_ := Aside0.mk (blk_below (g := gb114) (o := .cells #[.string a1_0, .int .i64 a1_1, .int .i64 a1_2, .bool a1_3, .string a1_4] 23 (0, 0)) (by (with_reducible repeat refine blk_alloc ?_ _); exact BK114.out) hb)
            have n2_ := Aside0.mk (blk_below (g := gb132) (o := .cells #[.string t127, .int .i64 t128, .int .i64 t129, .bool t130, .string t131] 25 (0, 0)) (by (with_reducible repeat refine blk_alloc ?_ _); exact BK132.out) hb)
            have n3_ := Aside0.mk (below_step (by repeat (first | (with_reducible first | exact HB.out | apply below_alloc | apply pw_below_drewN | apply below_drew1 | refine below_set ?_ GE113.out | refine below_set ?_ GE114.out | refine below_set ?_ GE132.out) | exact HB.out)) hb)
            clear BK113
            clear BK114
            clear BK132
            clear HB
            have BK113 := n0_
            have BK114 := n1_
            have BK132 := n2_
            have HB := n3_
            clear n0_ n1_ n2_ n3_
            (try clear hb)
            (try clear hb2)
            (try clear hk)
            (try clear hi)
            refine hK.out _ _ ⟨(blk_cell BK113.out 0).trans rfl, (blk_cell BK113.out 1).trans rfl, (blk_cell BK113.out 2).trans rfl, (blk_cell BK113.out 3).trans rfl, (blk_cell BK113.out 4).trans rfl, (blk_cell BK114.out 0).trans rfl, (blk_cell BK114.out 1).trans rfl, (blk_cell BK114.out 2).trans rfl, (blk_cell BK114.out 3).trans rfl, (blk_cell BK114.out 4).trans rfl⟩ (fun hHeld => ?_)
            clear hK K
            refine norm_ (a' := ?_) ?_ ?_
            rotate_left
            · show Act.put _ (some 24) _ = _
              simp only [Act.put, List.setIfInBounds_toArray, List.set_cons_zero, List.set_cons_succ, i64_w, i32_w]
              rfl
            refine two_ (i := 3) (j := 5) (Ni := some 26) (Nj := some 7) #[true, true, true, true, false, false, false] #[true, true, true, false, false, true, false] rfl rfl rfl rfl (by kernel_rfl) (by decide) (by decide) (fun K hK => ?_) (fun K hK => ?_)
            · skip
              refine goes_ Try.func13 (by kernel_rfl) rfl #[.agg #[.string a1_0, .int .i64 a1_1, .int .i64 a1_2, .bool a1_3, .string a1_4]] (by rfl) rfl rfl (by (try simp only [List.map_toArray, List.map_cons, List.map_nil]); first | done | rfl) ?_
              with_reducible refine (laws_toSiteEntry.calls a1_0 a1_1 a1_2 a1_3 a1_4 t138 t139 t140 t141 t142 _ A23.out).mono ?_
              rintro e w86 ⟨rfl, hb⟩
              refine ⟨_, rfl, ?_⟩
              have n0_ := Aside0.mk (blk_below (g := gb113) (o := .cells #[.string a0_0, .int .i64 a0_1, .int .i64 a0_2, .bool a0_3, .string a0_4] 23 (0, 0)) (by (with_reducible repeat refine blk_alloc ?_ _); exact BK113.out) hb)
              have n1_ := Aside0.mk (blk_below (g := gb114) (o := .cells #[.string a1_0, .int .i64 a1_1, .int .i64 a1_2, .bool a1_3, .string a1_4] 23 (0, 0)) (by (with_reducible repeat refine blk_alloc ?_ _); exact BK114.out) hb)
              have n2_ := Aside0.mk (blk_below (g := gb132) (o := .cells #[.string t127, .int .i64 t128, .int .i64 t129, .bool t130, .string t131] 25 (0, 0)) (by (with_reducible repeat refine blk_alloc ?_ _); exact BK132.out) hb)
              have n3_ := Aside0.mk (below_step (by repeat (first | (with_reducible first | exact HB.out | apply below_alloc | apply pw_below_drewN | apply below_drew1 | refine below_set ?_ GE113.out | refine below_set ?_ GE114.out | refine below_set ?_ GE132.out) | exact HB.out)) hb)
              clear BK113
              clear BK114
              clear BK132
              clear HB
              have BK113 := n0_
              have BK114 := n1_
              have BK132 := n2_
              have HB := n3_
              clear n0_ n1_ n2_ n3_
              (try clear hb)
              (try clear hb2)
              (try clear hk)
              (try clear hi)
              refine hK.out _ _ ⟨(blk_cell BK113.out 0).trans rfl, (blk_cell BK113.out 1).trans rfl, (blk_cell BK113.out 2).trans rfl, (blk_cell BK113.out 3).trans rfl, (blk_cell BK113.out 4).trans rfl, (blk_cell BK114.out 0).trans rfl, (blk_cell BK114.out 1).trans rfl, (blk_cell BK114.out 2).trans rfl, (blk_cell BK114.out 3).trans rfl, (blk_cell BK114.out 4).trans rfl⟩ (fun hHeld => ?_)
              clear hK K
              refine norm_ (a' := ?_) ?_ ?_
              rotate_left
              · show Act.put _ (some 26) _ = _
                simp only [Act.put, List.setIfInBounds_toArray, List.set_cons_zero, List.set_cons_succ, i64_w, i32_w]
                rfl
              refine two_ (i := 4) (j := 5) (Ni := some 27) (Nj := some 7) #[true, true, true, true, true, false, false] #[true, true, true, true, false, true, false] rfl rfl rfl rfl (by kernel_rfl) (by decide) (by decide) (fun K hK => ?_) (fun K hK => ?_)
              · skip
                refine goes_ Try.func14 (by kernel_rfl) rfl #[.agg #[.string t133, .int .i64 t134, .int .i64 t135, .bool t136, .string t137], .agg #[.string t138, .int .i64 t139, .int .i64 t140, .bool t141, .string t142]] (by rfl) rfl rfl (by (try simp only [List.map_toArray, List.map_cons, List.map_nil]); first | done | rfl) ?_
                with_reducible refine (impl_Winner.calls t133 t134 t135 t136 t137 t138 t139 t140 t141 t142 t143 t144 t145 t146 t147 _ A24.out).mono ?_
                rintro e w87 ⟨rfl, hb⟩
                refine ⟨_, rfl, ?_⟩
                have n0_ := Aside0.mk (blk_below (g := gb113) (o := .cells #[.string a0_0, .int .i64 a0_1, .int .i64 a0_2, .bool a0_3, .string a0_4] 23 (0, 0)) (by (with_reducible repeat refine blk_alloc ?_ _); exact BK113.out) hb)
                have n1_ := Aside0.mk (blk_below (g := gb114) (o := .cells #[.string a1_0, .int .i64 a1_1, .int .i64 a1_2, .bool a1_3, .string a1_4] 23 (0, 0)) (by (with_reducible repeat refine blk_alloc ?_ _); exact BK114.out) hb)
                have n2_ := Aside0.mk (blk_below (g := gb132) (o := .cells #[.string t127, .int .i64 t128, .int .i64 t129, .bool t130, .string t131] 25 (0, 0)) (by (with_reducible repeat refine blk_alloc ?_ _); exact BK132.out) hb)
                have n3_ := Aside0.mk (below_step (by repeat (first | (with_reducible first | exact HB.out | apply below_alloc | apply pw_below_drewN | apply below_drew1 | refine below_set ?_ GE113.out | refine below_set ?_ GE114.out | refine below_set ?_ GE132.out) | exact HB.out)) hb)
                clear BK113
                clear BK114
                clear BK132
                clear HB
                have BK113 := n0_
                have BK114 := n1_
                have BK132 := n2_
                have HB := n3_
                clear n0_ n1_ n2_ n3_
                (try clear hb)
                (try clear hb2)
                (try clear hk)
                (try clear hi)
                refine hK.out _ _ ⟨(blk_cell BK113.out 0).trans rfl, (blk_cell BK113.out 1).trans rfl, (blk_cell BK113.out 2).trans rfl, (blk_cell BK113.out 3).trans rfl, (blk_cell BK113.out 4).trans rfl, (blk_cell BK114.out 0).trans rfl, (blk_cell BK114.out 1).trans rfl, (blk_cell BK114.out 2).trans rfl, (blk_cell BK114.out 3).trans rfl, (blk_cell BK114.out 4).trans rfl⟩ (fun hHeld => ?_)
                clear hK K
                refine norm_ (a' := ?_) ?_ ?_
                rotate_left
                · show Act.put _ (some 27) _ = _
                  simp only [Act.put, List.setIfInBounds_toArray, List.set_cons_zero, List.set_cons_succ, i64_w, i32_w]
                  rfl
                refine one_ (i := 5) (N := some 7) #[true, true, true, true, true, true, false] rfl rfl (by kernel_rfl) (by decide) (fun K hK => ?_)
                refine box_step ?hg (N := 7) ?hd (cs := #[.string (⟨#[]⟩ : ByteArray), .int .i64 0, .int .i64 0, .bool false, .string (⟨#[]⟩ : ByteArray)]) (t := 25) ?hr ?_; (case hd => rfl); (case hg => rfl); (case hr => first | (go_simp; done) | (go_simp; rfl))
                intro gb148 hg w88 hbox hb
                have n0_ := Aside0.mk (blk_below (g := gb113) (o := .cells #[.string a0_0, .int .i64 a0_1, .int .i64 a0_2, .bool a0_3, .string a0_4] 23 (0, 0)) (by (with_reducible repeat refine blk_alloc ?_ _); exact BK113.out) hb)
                have n1_ := Aside0.mk (blk_below (g := gb114) (o := .cells #[.string a1_0, .int .i64 a1_1, .int .i64 a1_2, .bool a1_3, .string a1_4] 23 (0, 0)) (by (with_reducible repeat refine blk_alloc ?_ _); exact BK114.out) hb)
                have n2_ := Aside0.mk (blk_below (g := gb132) (o := .cells #[.string t127, .int .i64 t128, .int .i64 t129, .bool t130, .string t131] 25 (0, 0)) (by (with_reducible repeat refine blk_alloc ?_ _); exact BK132.out) hb)
                have n3_ := Aside0.mk (below_step (by repeat (first | (with_reducible first | exact HB.out | apply below_alloc | apply pw_below_drewN | apply below_drew1 | refine below_set ?_ GE113.out | refine below_set ?_ GE114.out | refine below_set ?_ GE132.out) | exact HB.out)) hb)
                have n4_ := Aside0.mk (hbox)
                have n5_ := Aside0.mk ((by rw [hg]; exact (below_size (by repeat (first | (with_reducible first | exact HB.out | apply below_alloc | apply pw_below_drewN | apply below_drew1 | refine below_set ?_ GE113.out | refine below_set ?_ GE114.out | refine below_set ?_ GE132.out) | exact HB.out))) : w.heap.size ≤ gb148))
                have n6_ := Aside0.mk ((by rw [hg]; exact (below_size (by repeat (first | (with_reducible first | exact HB.out | apply below_alloc | apply pw_below_drewN | apply below_drew1 | refine below_set ?_ GE113.out | refine below_set ?_ GE114.out | refine below_set ?_ GE132.out) | exact HB.out))) : w.heap.size ≤ gb148))
                have n7_ := Aside0.mk ((by rw [hg]; exact Nat.ne_of_lt (blk_lt (g := gb113) (o := .cells #[.string a0_0, .int .i64 a0_1, .int .i64 a0_2, .bool a0_3, .string a0_4] 23 (0, 0)) (by (with_reducible repeat refine blk_alloc ?_ _); exact BK113.out)) : gb113 ≠ gb148))
                have n8_ := Aside0.mk ((by rw [hg]; exact Nat.ne_of_gt (blk_lt (g := gb113) (o := .cells #[.string a0_0, .int .i64 a0_1, .int .i64 a0_2, .bool a0_3, .string a0_4] 23 (0, 0)) (by (with_reducible repeat refine blk_alloc ?_ _); exact BK113.out)) : gb148 ≠ gb113))
                have n9_ := Aside0.mk ((by rw [hg]; exact Nat.ne_of_lt (blk_lt (g := gb114) (o := .cells #[.string a1_0, .int .i64 a1_1, .int .i64 a1_2, .bool a1_3, .string a1_4] 23 (0, 0)) (by (with_reducible repeat refine blk_alloc ?_ _); exact BK114.out)) : gb114 ≠ gb148))
                have n10_ := Aside0.mk ((by rw [hg]; exact Nat.ne_of_gt (blk_lt (g := gb114) (o := .cells #[.string a1_0, .int .i64 a1_1, .int .i64 a1_2, .bool a1_3, .string a1_4] 23 (0, 0)) (by (with_reducible repeat refine blk_alloc ?_ _); exact BK114.out)) : gb148 ≠ gb114))
                have n11_ := Aside0.mk ((by rw [hg]; exact Nat.ne_of_lt (blk_lt (g := gb132) (o := .cells #[.string t127, .int .i64 t128, .int .i64 t129, .bool t130, .string t131] 25 (0, 0)) (by (with_reducible repeat refine blk_alloc ?_ _); exact BK132.out)) : gb132 ≠ gb148))
                have n12_ := Aside0.mk ((by rw [hg]; exact Nat.ne_of_gt (blk_lt (g := gb132) (o := .cells #[.string t127, .int .i64 t128, .int .i64 t129, .bool t130, .string t131] 25 (0, 0)) (by (with_reducible repeat refine blk_alloc ?_ _); exact BK132.out)) : gb148 ≠ gb132))
                clear BK113
                clear BK114
                clear BK132
                clear HB
                have BK113 := n0_
                have BK114 := n1_
                have BK132 := n2_
                have HB := n3_
                have BK148 := n4_
                have GW148 := n5_
                have GE148 := n6_
                have NB113_148 := n7_
                have NB148_113 := n8_
                have NB114_148 := n9_
                have NB148_114 := n10_
                have NB132_148 := n11_
                have NB148_132 := n12_
                clear n0_ n1_ n2_ n3_ n4_ n5_ n6_ n7_ n8_ n9_ n10_ n11_ n12_
                clear hb hbox hg
                refine hK.out _ _ ⟨(blk_cell BK113.out 0).trans rfl, (blk_cell BK113.out 1).trans rfl, (blk_cell BK113.out 2).trans rfl, (blk_cell BK113.out 3).trans rfl, (blk_cell BK113.out 4).trans rfl, (blk_cell BK114.out 0).trans rfl, (blk_cell BK114.out 1).trans rfl, (blk_cell BK114.out 2).trans rfl, (blk_cell BK114.out 3).trans rfl, (blk_cell BK114.out 4).trans rfl⟩ (fun hHeld => ?_)
                clear hK K
                refine norm_ (a' := ?_) ?_ ?_
                rotate_left
                · show Act.put _ (some 7) _ = _
                  simp only [Act.put, List.setIfInBounds_toArray, List.set_cons_zero, List.set_cons_succ, i64_w, i32_w]
                  rfl
                exact norm_ (by simp only [putAll, Act.put, List.setIfInBounds_toArray, List.set_cons_zero, List.set_cons_succ]) (hCont (gb148) _ ⟨hHeld, (by (with_reducible repeat refine blk_alloc ?_ _); exact BK113.out), (by (with_reducible repeat refine blk_alloc ?_ _); exact BK114.out), (by (with_reducible repeat refine blk_alloc ?_ _); exact BK132.out), (by (with_reducible repeat refine blk_alloc ?_ _); exact BK148.out), GW148.out, GE148.out, NB113_148.out, NB148_113.out, NB114_148.out, NB148_114.out, NB132_148.out, NB148_132.out, (by repeat (first | (with_reducible first | exact HB.out | apply below_alloc | apply pw_below_drewN | apply below_drew1 | refine below_set ?_ GE113.out | refine below_set ?_ GE114.out | refine below_set ?_ GE132.out | refine below_set ?_ GE148.out) | exact HB.out))⟩)
              · skip
                refine box_step ?hg (N := 7) ?hd (cs := #[.string (⟨#[]⟩ : ByteArray), .int .i64 0, .int .i64 0, .bool false, .string (⟨#[]⟩ : ByteArray)]) (t := 25) ?hr ?_; (case hd => rfl); (case hg => rfl); (case hr => first | (go_simp; done) | (go_simp; rfl))
                intro gb148 hg w87 hbox hb
                have n0_ := Aside0.mk (blk_below (g := gb113) (o := .cells #[.string a0_0, .int .i64 a0_1, .int .i64 a0_2, .bool a0_3, .string a0_4] 23 (0, 0)) (by (with_reducible repeat refine blk_alloc ?_ _); exact BK113.out) hb)
                have n1_ := Aside0.mk (blk_below (g := gb114) (o := .cells #[.string a1_0, .int .i64 a1_1, .int .i64 a1_2, .bool a1_3, .string a1_4] 23 (0, 0)) (by (with_reducible repeat refine blk_alloc ?_ _); exact BK114.out) hb)
                have n2_ := Aside0.mk (blk_below (g := gb132) (o := .cells #[.string t127, .int .i64 t128, .int .i64 t129, .bool t130, .string t131] 25 (0, 0)) (by (with_reducible repeat refine blk_alloc ?_ _); exact BK132.out) hb)
                have n3_ := Aside0.mk (below_step (by repeat (first | (with_reducible first | exact HB.out | apply below_alloc | apply pw_below_drewN | apply below_drew1 | refine below_set ?_ GE113.out | refine below_set ?_ GE114.out | refine below_set ?_ GE132.out) | exact HB.out)) hb)
                have n4_ := Aside0.mk (hbox)
                have n5_ := Aside0.mk ((by rw [hg]; exact (below_size (by repeat (first | (with_reducible first | exact HB.out | apply below_alloc | apply pw_below_drewN | apply below_drew1 | refine below_set ?_ GE113.out | refine below_set ?_ GE114.out | refine below_set ?_ GE132.out) | exact HB.out))) : w.heap.size ≤ gb148))
                have n6_ := Aside0.mk ((by rw [hg]; exact (below_size (by repeat (first | (with_reducible first | exact HB.out | apply below_alloc | apply pw_below_drewN | apply below_drew1 | refine below_set ?_ GE113.out | refine below_set ?_ GE114.out | refine below_set ?_ GE132.out) | exact HB.out))) : w.heap.size ≤ gb148))
                have n7_ := Aside0.mk ((by rw [hg]; exact Nat.ne_of_lt (blk_lt (g := gb113) (o := .cells #[.string a0_0, .int .i64 a0_1, .int .i64 a0_2, .bool a0_3, .string a0_4] 23 (0, 0)) (by (with_reducible repeat refine blk_alloc ?_ _); exact BK113.out)) : gb113 ≠ gb148))
                have n8_ := Aside0.mk ((by rw [hg]; exact Nat.ne_of_gt (blk_lt (g := gb113) (o := .cells #[.string a0_0, .int .i64 a0_1, .int .i64 a0_2, .bool a0_3, .string a0_4] 23 (0, 0)) (by (with_reducible repeat refine blk_alloc ?_ _); exact BK113.out)) : gb148 ≠ gb113))
                have n9_ := Aside0.mk ((by rw [hg]; exact Nat.ne_of_lt (blk_lt (g := gb114) (o := .cells #[.string a1_0, .int .i64 a1_1, .int .i64 a1_2, .bool a1_3, .string a1_4] 23 (0, 0)) (by (with_reducible repeat refine blk_alloc ?_ _); exact BK114.out)) : gb114 ≠ gb148))
                have n10_ := Aside0.mk ((by rw [hg]; exact Nat.ne_of_gt (blk_lt (g := gb114) (o := .cells #[.string a1_0, .int .i64 a1_1, .int .i64 a1_2, .bool a1_3, .string a1_4] 23 (0, 0)) (by (with_reducible repeat refine blk_alloc ?_ _); exact BK114.out)) : gb148 ≠ gb114))
                have n11_ := Aside0.mk ((by rw [hg]; exact Nat.ne_of_lt (blk_lt (g := gb132) (o := .cells #[.string t127, .int .i64 t128, .int .i64 t129, .bool t130, .string t131] 25 (0, 0)) (by (with_reducible repeat refine blk_alloc ?_ _); exact BK132.out)) : gb132 ≠ gb148))
                have n12_ := Aside0.mk ((by rw [hg]; exact Nat.ne_of_gt (blk_lt (g := gb132) (o := .cells #[.string t127, .int .i64 t128, .int .i64 t129, .bool t130, .string t131] 25 (0, 0)) (by (with_reducible repeat refine blk_alloc ?_ _); exact BK132.out)) : gb148 ≠ gb132))
                clear BK113
                clear BK114
                clear BK132
                clear HB
                have BK113 := n0_
                have BK114 := n1_
                have BK132 := n2_
                have HB := n3_
                have BK148 := n4_
                have GW148 := n5_
                have GE148 := n6_
                have NB113_148 := n7_
                have NB148_113 := n8_
                have NB114_148 := n9_
                have NB148_114 := n10_
                have NB132_148 := n11_
                have NB148_132 := n12_
                clear n0_ n1_ n2_ n3_ n4_ n5_ n6_ n7_ n8_ n9_ n10_ n11_ n12_
                clear hb hbox hg
                refine hK.out _ _ ⟨(blk_cell BK113.out 0).trans rfl, (blk_cell BK113.out 1).trans rfl, (blk_cell BK113.out 2).trans rfl, (blk_cell BK113.out 3).trans rfl, (blk_cell BK113.out 4).trans rfl, (blk_cell BK114.out 0).trans rfl, (blk_cell BK114.out 1).trans rfl, (blk_cell BK114.out 2).trans rfl, (blk_cell BK114.out 3).trans rfl, (blk_cell BK114.out 4).trans rfl⟩ (fun hHeld => ?_)
                clear hK K
                refine norm_ (a' := ?_) ?_ ?_
                rotate_left
                · show Act.put _ (some 7) _ = _
                  simp only [Act.put, List.setIfInBounds_toArray, List.set_cons_zero, List.set_cons_succ, i64_w, i32_w]
                  rfl
                refine one_ (i := 4) (N := some 27) #[true, true, true, true, true, true, false] rfl rfl (by kernel_rfl) (by decide) (fun K hK => ?_)
                refine goes_ Try.func14 (by kernel_rfl) rfl #[.agg #[.string t133, .int .i64 t134, .int .i64 t135, .bool t136, .string t137], .agg #[.string t138, .int .i64 t139, .int .i64 t140, .bool t141, .string t142]] (by rfl) rfl rfl (by (try simp only [List.map_toArray, List.map_cons, List.map_nil]); first | done | rfl) ?_
                with_reducible refine (impl_Winner.calls t133 t134 t135 t136 t137 t138 t139 t140 t141 t142 t143 t144 t145 t146 t147 _ A24.out).mono ?_
                rintro e w88 ⟨rfl, hb⟩
                refine ⟨_, rfl, ?_⟩
                have n0_ := Aside0.mk (blk_below (g := gb113) (o := .cells #[.string a0_0, .int .i64 a0_1, .int .i64 a0_2, .bool a0_3, .string a0_4] 23 (0, 0)) (by (with_reducible repeat refine blk_alloc ?_ _); exact BK113.out) hb)
                have n1_ := Aside0.mk (blk_below (g := gb114) (o := .cells #[.string a1_0, .int .i64 a1_1, .int .i64 a1_2, .bool a1_3, .string a1_4] 23 (0, 0)) (by (with_reducible repeat refine blk_alloc ?_ _); exact BK114.out) hb)
                have n2_ := Aside0.mk (blk_below (g := gb132) (o := .cells #[.string t127, .int .i64 t128, .int .i64 t129, .bool t130, .string t131] 25 (0, 0)) (by (with_reducible repeat refine blk_alloc ?_ _); exact BK132.out) hb)
                have n3_ := Aside0.mk (blk_below (g := gb148) (o := .cells #[.string (⟨#[]⟩ : ByteArray), .int .i64 0, .int .i64 0, .bool false, .string (⟨#[]⟩ : ByteArray)] 25 (0, 0)) (by (with_reducible repeat refine blk_alloc ?_ _); exact BK148.out) hb)
                have n4_ := Aside0.mk (below_step (by repeat (first | (with_reducible first | exact HB.out | apply below_alloc | apply pw_below_drewN | apply below_drew1 | refine below_set ?_ GE113.out | refine below_set ?_ GE114.out | refine below_set ?_ GE132.out | refine below_set ?_ GE148.out) | exact HB.out)) hb)
                clear BK113
                clear BK114
                clear BK132
                clear BK148
                clear HB
                have BK113 := n0_
                have BK114 := n1_
                have BK132 := n2_
                have BK148 := n3_
                have HB := n4_
                clear n0_ n1_ n2_ n3_ n4_
                (try clear hb)
                (try clear hb2)
                (try clear hk)
                (try clear hi)
                refine hK.out _ _ ⟨(blk_cell BK113.out 0).trans rfl, (blk_cell BK113.out 1).trans rfl, (blk_cell BK113.out 2).trans rfl, (blk_cell BK113.out 3).trans rfl, (blk_cell BK113.out 4).trans rfl, (blk_cell BK114.out 0).trans rfl, (blk_cell BK114.out 1).trans rfl, (blk_cell BK114.out 2).trans rfl, (blk_cell BK114.out 3).trans rfl, (blk_cell BK114.out 4).trans rfl⟩ (fun hHeld => ?_)
                clear hK K
                refine norm_ (a' := ?_) ?_ ?_
                rotate_left
                · show Act.put _ (some 27) _ = _
                  simp only [Act.put, List.setIfInBounds_toArray, List.set_cons_zero, List.set_cons_succ, i64_w, i32_w]
                  rfl
                exact norm_ (by simp only [putAll, Act.put, List.setIfInBounds_toArray, List.set_cons_zero, List.set_cons_succ]) (hCont (gb148) _ ⟨hHeld, (by (with_reducible repeat refine blk_alloc ?_ _); exact BK113.out), (by (with_reducible repeat refine blk_alloc ?_ _); exact BK114.out), (by (with_reducible repeat refine blk_alloc ?_ _); exact BK132.out), (by (with_reducible repeat refine blk_alloc ?_ _); exact BK148.out), GW148.out, GE148.out, NB113_148.out, NB148_113.out, NB114_148.out, NB148_114.out, NB132_148.out, NB148_132.out, (by repeat (first | (with_reducible first | exact HB.out | apply below_alloc | apply pw_below_drewN | apply below_drew1 | refine below_set ?_ GE113.out | refine below_set ?_ GE114.out | refine below_set ?_ GE132.out | refine below_set ?_ GE148.out) | exact HB.out))⟩)
            · skip
              refine box_step ?hg (N := 7) ?hd (cs := #[.string (⟨#[]⟩ : ByteArray), .int .i64 0, .int .i64 0, .bool false, .string (⟨#[]⟩ : ByteArray)]) (t := 25) ?hr ?_; (case hd => rfl); (case hg => rfl); (case hr => first | (go_simp; done) | (go_simp; rfl))
              intro gb148 hg w86 hbox hb
              have n0_ := Aside0.mk (blk_below (g := gb113) (o := .cells #[.string a0_0, .int .i64 a0_1, .int .i64 a0_2, .bool a0_3, .string a0_4] 23 (0, 0)) (by (with_reducible repeat refine blk_alloc ?_ _); exact BK113.out) hb)
              have n1_ := Aside0.mk (blk_below (g := gb114) (o := .cells #[.string a1_0, .int .i64 a1_1, .int .i64 a1_2, .bool a1_3, .string a1_4] 23 (0, 0)) (by (with_reducible repeat refine blk_alloc ?_ _); exact BK114.out) hb)
              have n2_ := Aside0.mk (blk_below (g := gb132) (o := .cells #[.string t127, .int .i64 t128, .int .i64 t129, .bool t130, .string t131] 25 (0, 0)) (by (with_reducible repeat refine blk_alloc ?_ _); exact BK132.out) hb)
              have n3_ := Aside0.mk (below_step (by repeat (first | (with_reducible first | exact HB.out | apply below_alloc | apply pw_below_drewN | apply below_drew1 | refine below_set ?_ GE113.out | refine below_set ?_ GE114.out | refine below_set ?_ GE132.out) | exact HB.out)) hb)
              have n4_ := Aside0.mk (hbox)
              have n5_ := Aside0.mk ((by rw [hg]; exact (below_size (by repeat (first | (with_reducible first | exact HB.out | apply below_alloc | apply pw_below_drewN | apply below_drew1 | refine below_set ?_ GE113.out | refine below_set ?_ GE114.out | refine below_set ?_ GE132.out) | exact HB.out))) : w.heap.size ≤ gb148))
              have n6_ := Aside0.mk ((by rw [hg]; exact (below_size (by repeat (first | (with_reducible first | exact HB.out | apply below_alloc | apply pw_below_drewN | apply below_drew1 | refine below_set ?_ GE113.out | refine below_set ?_ GE114.out | refine below_set ?_ GE132.out) | exact HB.out))) : w.heap.size ≤ gb148))
              have n7_ := Aside0.mk ((by rw [hg]; exact Nat.ne_of_lt (blk_lt (g := gb113) (o := .cells #[.string a0_0, .int .i64 a0_1, .int .i64 a0_2, .bool a0_3, .string a0_4] 23 (0, 0)) (by (with_reducible repeat refine blk_alloc ?_ _); exact BK113.out)) : gb113 ≠ gb148))
              have n8_ := Aside0.mk ((by rw [hg]; exact Nat.ne_of_gt (blk_lt (g := gb113) (o := .cells #[.string a0_0, .int .i64 a0_1, .int .i64 a0_2, .bool a0_3, .string a0_4] 23 (0, 0)) (by (with_reducible repeat refine blk_alloc ?_ _); exact BK113.out)) : gb148 ≠ gb113))
              have n9_ := Aside0.mk ((by rw [hg]; exact Nat.ne_of_lt (blk_lt (g := gb114) (o := .cells #[.string a1_0, .int .i64 a1_1, .int .i64 a1_2, .bool a1_3, .string a1_4] 23 (0, 0)) (by (with_reducible repeat refine blk_alloc ?_ _); exact BK114.out)) : gb114 ≠ gb148))
              have n10_ := Aside0.mk ((by rw [hg]; exact Nat.ne_of_gt (blk_lt (g := gb114) (o := .cells #[.string a1_0, .int .i64 a1_1, .int .i64 a1_2, .bool a1_3, .string a1_4] 23 (0, 0)) (by (with_reducible repeat refine blk_alloc ?_ _); exact BK114.out)) : gb148 ≠ gb114))
              have n11_ := Aside0.mk ((by rw [hg]; exact Nat.ne_of_lt (blk_lt (g := gb132) (o := .cells #[.string t127, .int .i64 t128, .int .i64 t129, .bool t130, .string t131] 25 (0, 0)) (by (with_reducible repeat refine blk_alloc ?_ _); exact BK132.out)) : gb132 ≠ gb148))
              have n12_ := Aside0.mk ((by rw [hg]; exact Nat.ne_of_gt (blk_lt (g := gb132) (o := .cells #[.string t127, .int .i64 t128, .int .i64 t129, .bool t130, .string t131] 25 (0, 0)) (by (with_reducible repeat refine blk_alloc ?_ _); exact BK132.out)) : gb148 ≠ gb132))
              clear BK113
              clear BK114
              clear BK132
              clear HB
              have BK113 := n0_
              have BK114 := n1_
              have BK132 := n2_
              have HB := n3_
              have BK148 := n4_
              have GW148 := n5_
              have GE148 := n6_
              have NB113_148 := n7_
              have NB148_113 := n8_
              have NB114_148 := n9_
              have NB148_114 := n10_
              have NB132_148 := n11_
              have NB148_132 := n12_
              clear n0_ n1_ n2_ n3_ n4_ n5_ n6_ n7_ n8_ n9_ n10_ n11_ n12_
              clear hb hbox hg
              refine hK.out _ _ ⟨(blk_cell BK113.out 0).trans rfl, (blk_cell BK113.out 1).trans rfl, (blk_cell BK113.out 2).trans rfl, (blk_cell BK113.out 3).trans rfl, (blk_cell BK113.out 4).trans rfl, (blk_cell BK114.out 0).trans rfl, (blk_cell BK114.out 1).trans rfl, (blk_cell BK114.out 2).trans rfl, (blk_cell BK114.out 3).trans rfl, (blk_cell BK114.out 4).trans rfl⟩ (fun hHeld => ?_)
              clear hK K
              refine norm_ (a' := ?_) ?_ ?_
              rotate_left
              · show Act.put _ (some 7) _ = _
                simp only [Act.put, List.setIfInBounds_toArray, List.set_cons_zero, List.set_cons_succ, i64_w, i32_w]
                rfl
              refine one_ (i := 3) (N := some 26) #[true, true, true, true, false, true, false] rfl rfl (by kernel_rfl) (by decide) (fun K hK => ?_)
              refine goes_ Try.func13 (by kernel_rfl) rfl #[.agg #[.string a1_0, .int .i64 a1_1, .int .i64 a1_2, .bool a1_3, .string a1_4]] (by rfl) rfl rfl (by (try simp only [List.map_toArray, List.map_cons, List.map_nil]); first | done | rfl) ?_
              with_reducible refine (laws_toSiteEntry.calls a1_0 a1_1 a1_2 a1_3 a1_4 t138 t139 t140 t141 t142 _ A23.out).mono ?_
              rintro e w87 ⟨rfl, hb⟩
              refine ⟨_, rfl, ?_⟩
              have n0_ := Aside0.mk (blk_below (g := gb113) (o := .cells #[.string a0_0, .int .i64 a0_1, .int .i64 a0_2, .bool a0_3, .string a0_4] 23 (0, 0)) (by (with_reducible repeat refine blk_alloc ?_ _); exact BK113.out) hb)
              have n1_ := Aside0.mk (blk_below (g := gb114) (o := .cells #[.string a1_0, .int .i64 a1_1, .int .i64 a1_2, .bool a1_3, .string a1_4] 23 (0, 0)) (by (with_reducible repeat refine blk_alloc ?_ _); exact BK114.out) hb)
              have n2_ := Aside0.mk (blk_below (g := gb132) (o := .cells #[.string t127, .int .i64 t128, .int .i64 t129, .bool t130, .string t131] 25 (0, 0)) (by (with_reducible repeat refine blk_alloc ?_ _); exact BK132.out) hb)
              have n3_ := Aside0.mk (blk_below (g := gb148) (o := .cells #[.string (⟨#[]⟩ : ByteArray), .int .i64 0, .int .i64 0, .bool false, .string (⟨#[]⟩ : ByteArray)] 25 (0, 0)) (by (with_reducible repeat refine blk_alloc ?_ _); exact BK148.out) hb)
              have n4_ := Aside0.mk (below_step (by repeat (first | (with_reducible first | exact HB.out | apply below_alloc | apply pw_below_drewN | apply below_drew1 | refine below_set ?_ GE113.out | refine below_set ?_ GE114.out | refine below_set ?_ GE132.out | refine below_set ?_ GE148.out) | exact HB.out)) hb)
              clear BK113
              clear BK114
              clear BK132
              clear BK148
              clear HB
              have BK113 := n0_
              have BK114 := n1_
              have BK132 := n2_
              have BK148 := n3_
              have HB := n4_
              clear n0_ n1_ n2_ n3_ n4_
              (try clear hb)
              (try clear hb2)
              (try clear hk)
              (try clear hi)
              refine hK.out _ _ ⟨(blk_cell BK113.out 0).trans rfl, (blk_cell BK113.out 1).trans rfl, (blk_cell BK113.out 2).trans rfl, (blk_cell BK113.out 3).trans rfl, (blk_cell BK113.out 4).trans rfl, (blk_cell BK114.out 0).trans rfl, (blk_cell BK114.out 1).trans rfl, (blk_cell BK114.out 2).trans rfl, (blk_cell BK114.out 3).trans rfl, (blk_cell BK114.out 4).trans rfl⟩ (fun hHeld => ?_)
              clear hK K
              refine norm_ (a' := ?_) ?_ ?_
              rotate_left
              · show Act.put _ (some 26) _ = _
                simp only [Act.put, List.setIfInBounds_toArray, List.set_cons_zero, List.set_cons_succ, i64_w, i32_w]
                rfl
              refine one_ (i := 4) (N := some 27) #[true, true, true, true, true, true, false] rfl rfl (by kernel_rfl) (by decide) (fun K hK => ?_)
              refine goes_ Try.func14 (by kernel_rfl) rfl #[.agg #[.string t133, .int .i64 t134, .int .i64 t135, .bool t136, .string t137], .agg #[.string t138, .int .i64 t139, .int .i64 t140, .bool t141, .string t142]] (by rfl) rfl rfl (by (try simp only [List.map_toArray, List.map_cons, List.map_nil]); first | done | rfl) ?_
              with_reducible refine (impl_Winner.calls t133 t134 t135 t136 t137 t138 t139 t140 t141 t142 t143 t144 t145 t146 t147 _ A24.out).mono ?_
              rintro e w88 ⟨rfl, hb⟩
              refine ⟨_, rfl, ?_⟩
              have n0_ := Aside0.mk (blk_below (g := gb113) (o := .cells #[.string a0_0, .int .i64 a0_1, .int .i64 a0_2, .bool a0_3, .string a0_4] 23 (0, 0)) (by (with_reducible repeat refine blk_alloc ?_ _); exact BK113.out) hb)
              have n1_ := Aside0.mk (blk_below (g := gb114) (o := .cells #[.string a1_0, .int .i64 a1_1, .int .i64 a1_2, .bool a1_3, .string a1_4] 23 (0, 0)) (by (with_reducible repeat refine blk_alloc ?_ _); exact BK114.out) hb)
              have n2_ := Aside0.mk (blk_below (g := gb132) (o := .cells #[.string t127, .int .i64 t128, .int .i64 t129, .bool t130, .string t131] 25 (0, 0)) (by (with_reducible repeat refine blk_alloc ?_ _); exact BK132.out) hb)
              have n3_ := Aside0.mk (blk_below (g := gb148) (o := .cells #[.string (⟨#[]⟩ : ByteArray), .int .i64 0, .int .i64 0, .bool false, .string (⟨#[]⟩ : ByteArray)] 25 (0, 0)) (by (with_reducible repeat refine blk_alloc ?_ _); exact BK148.out) hb)
              have n4_ := Aside0.mk (below_step (by repeat (first | (with_reducible first | exact HB.out | apply below_alloc | apply pw_below_drewN | apply below_drew1 | refine below_set ?_ GE113.out | refine below_set ?_ GE114.out | refine below_set ?_ GE132.out | refine below_set ?_ GE148.out) | exact HB.out)) hb)
              clear BK113
              clear BK114
              clear BK132
              clear BK148
              clear HB
              have BK113 := n0_
              have BK114 := n1_
              have BK132 := n2_
              have BK148 := n3_
              have HB := n4_
              clear n0_ n1_ n2_ n3_ n4_
              (try clear hb)
              (try clear hb2)
              (try clear hk)
              (try clear hi)
              refine hK.out _ _ ⟨(blk_cell BK113.out 0).trans rfl, (blk_cell BK113.out 1).trans rfl, (blk_cell BK113.out 2).trans rfl, (blk_cell BK113.out 3).trans rfl, (blk_cell BK113.out 4).trans rfl, (blk_cell BK114.out 0).trans rfl, (blk_cell BK114.out 1).trans rfl, (blk_cell BK114.out 2).trans rfl, (blk_cell BK114.out 3).trans rfl, (blk_cell BK114.out 4).trans rfl⟩ (fun hHeld => ?_)
              clear hK K
              refine norm_ (a' := ?_) ?_ ?_
              rotate_left
              · show Act.put _ (some 27) _ = _
                simp only [Act.put, List.setIfInBounds_toArray, List.set_cons_zero, List.set_cons_succ, i64_w, i32_w]
                rfl
              exact norm_ (by simp only [putAll, Act.put, List.setIfInBounds_toArray, List.set_cons_zero, List.set_cons_succ]) (hCont (gb148) _ ⟨hHeld, (by (with_reducible repeat refine blk_alloc ?_ _); exact BK113.out), (by (with_reducible repeat refine blk_alloc ?_ _); exact BK114.out), (by (with_reducible repeat refine blk_alloc ?_ _); exact BK132.out), (by (with_reducible repeat refine blk_alloc ?_ _); exact BK148.out), GW148.out, GE148.out, NB113_148.out, NB148_113.out, NB114_148.out, NB148_114.out, NB132_148.out, NB148_132.out, (by repeat (first | (with_reducible first | exact HB.out | apply below_alloc | apply pw_below_drewN | apply below_drew1 | refine below_set ?_ GE113.out | refine below_set ?_ GE114.out | refine below_set ?_ GE132.out | refine below_set ?_ GE148.out) | exact HB.out))⟩)
          · skip
            refine box_step ?hg (N := 7) ?hd (cs := #[.string (⟨#[]⟩ : ByteArray), .int .i64 0, .int .i64 0, .bool false, .string (⟨#[]⟩ : ByteArray)]) (t := 25) ?hr ?_; (case hd => rfl); (case hg => rfl); (case hr => first | (go_simp; done) | (go_simp; rfl))
            intro gb148 hg w85 hbox hb
            have n0_ := Aside0.mk (blk_below (g := gb113) (o := .cells #[.string a0_0, .int .i64 a0_1, .int .i64 a0_2, .bool a0_3, .string a0_4] 23 (0, 0)) (by (with_reducible repeat refine blk_alloc ?_ _); exact BK113.out) hb)
            have n1_ := Aside0.mk (blk_below (g := gb114) (o := .cells #[.string a1_0, .int .i64 a1_1, .int .i64 a1_2, .bool a1_3, .string a1_4] 23 (0, 0)) (by (with_reducible repeat refine blk_alloc ?_ _); exact BK114.out) hb)
            have n2_ := Aside0.mk (blk_below (g := gb132) (o := .cells #[.string t127, .int .i64 t128, .int .i64 t129, .bool t130, .string t131] 25 (0, 0)) (by (with_reducible repeat refine blk_alloc ?_ _); exact BK132.out) hb)
            have n3_ := Aside0.mk (below_step (by repeat (first | (with_reducible first | exact HB.out | apply below_alloc | apply pw_below_drewN | apply below_drew1 | refine below_set ?_ GE113.out | refine below_set ?_ GE114.out | refine below_set ?_ GE132.out) | exact HB.out)) hb)
            have n4_ := Aside0.mk (hbox)
            have n5_ := Aside0.mk ((by rw [hg]; exact (below_size (by repeat (first | (with_reducible first | exact HB.out | apply below_alloc | apply pw_below_drewN | apply below_drew1 | refine below_set ?_ GE113.out | refine below_set ?_ GE114.out | refine below_set ?_ GE132.out) | exact HB.out))) : w.heap.size ≤ gb148))
            have n6_ := Aside0.mk ((by rw [hg]; exact (below_size (by repeat (first | (with_reducible first | exact HB.out | apply below_alloc | apply pw_below_drewN | apply below_drew1 | refine below_set ?_ GE113.out | refine below_set ?_ GE114.out | refine below_set ?_ GE132.out) | exact HB.out))) : w.heap.size ≤ gb148))
            have n7_ := Aside0.mk ((by rw [hg]; exact Nat.ne_of_lt (blk_lt (g := gb113) (o := .cells #[.string a0_0, .int .i64 a0_1, .int .i64 a0_2, .bool a0_3, .string a0_4] 23 (0, 0)) (by (with_reducible repeat refine blk_alloc ?_ _); exact BK113.out)) : gb113 ≠ gb148))
            have n8_ := Aside0.mk ((by rw [hg]; exact Nat.ne_of_gt (blk_lt (g := gb113) (o := .cells #[.string a0_0, .int .i64 a0_1, .int .i64 a0_2, .bool a0_3, .string a0_4] 23 (0, 0)) (by (with_reducible repeat refine blk_alloc ?_ _); exact BK113.out)) : gb148 ≠ gb113))
            have n9_ := Aside0.mk ((by rw [hg]; exact Nat.ne_of_lt (blk_lt (g := gb114) (o := .cells #[.string a1_0, .int .i64 a1_1, .int .i64 a1_2, .bool a1_3, .string a1_4] 23 (0, 0)) (by (with_reducible repeat refine blk_alloc ?_ _); exact BK114.out)) : gb114 ≠ gb148))
            have n10_ := Aside0.mk ((by rw [hg]; exact Nat.ne_of_gt (blk_lt (g := gb114) (o := .cells #[.string a1_0, .int .i64 a1_1, .int .i64 a1_2, .bool a1_3, .string a1_4] 23 (0, 0)) (by (with_reducible repeat refine blk_alloc ?_ _); exact BK114.out)) : gb148 ≠ gb114))
            have n11_ := Aside0.mk ((by rw [hg]; exact Nat.ne_of_lt (blk_lt (g := gb132) (o := .cells #[.string t127, .int .i64 t128, .int .i64 t129, .bool t130, .string t131] 25 (0, 0)) (by (with_reducible repeat refine blk_alloc ?_ _); exact BK132.out)) : gb132 ≠ gb148))
            have n12_ := Aside0.mk ((by rw [hg]; exact Nat.ne_of_gt (blk_lt (g := gb132) (o := .cells #[.string t127, .int .i64 t128, .int .i64 t129, .bool t130, .string t131] 25 (0, 0)) (by (with_reducible repeat refine blk_alloc ?_ _); exact BK132.out)) : gb148 ≠ gb132))
            clear BK113
            clear BK114
            clear BK132
            clear HB
            have BK113 := n0_
            have BK114 := n1_
            have BK132 := n2_
            have HB := n3_
            have BK148 := n4_
            have GW148 := n5_
            have GE148 := n6_
            have NB113_148 := n7_
            have NB148_113 := n8_
            have NB114_148 := n9_
            have NB148_114 := n10_
            have NB132_148 := n11_
            have NB148_132 := n12_
            clear n0_ n1_ n2_ n3_ n4_ n5_ n6_ n7_ n8_ n9_ n10_ n11_ n12_
            clear hb hbox hg
            refine hK.out _ _ ⟨(blk_cell BK113.out 0).trans rfl, (blk_cell BK113.out 1).trans rfl, (blk_cell BK113.out 2).trans rfl, (blk_cell BK113.out 3).trans rfl, (blk_cell BK113.out 4).trans rfl, (blk_cell BK114.out 0).trans rfl, (blk_cell BK114.out 1).trans rfl, (blk_cell BK114.out 2).trans rfl, (blk_cell BK114.out 3).trans rfl, (blk_cell BK114.out 4).trans rfl⟩ (fun hHeld => ?_)
            clear hK K
            refine norm_ (a' := ?_) ?_ ?_
            rotate_left
            · show Act.put _ (some 7) _ = _
              simp only [Act.put, List.setIfInBounds_toArray, List.set_cons_zero, List.set_cons_succ, i64_w, i32_w]
              rfl
            refine one_ (i := 1) (N := some 24) #[true, true, true, false, false, true, false] rfl rfl (by kernel_rfl) (by decide) (fun K hK => ?_)
            refine goes_ Try.func13 (by kernel_rfl) rfl #[.agg #[.string a0_0, .int .i64 a0_1, .int .i64 a0_2, .bool a0_3, .string a0_4]] (by rfl) rfl rfl (by (try simp only [List.map_toArray, List.map_cons, List.map_nil]); first | done | rfl) ?_
            with_reducible refine (laws_toSiteEntry.calls a0_0 a0_1 a0_2 a0_3 a0_4 t133 t134 t135 t136 t137 _ A22.out).mono ?_
            rintro e w86 ⟨rfl, hb⟩
            refine ⟨_, rfl, ?_⟩
            have n0_ := Aside0.mk (blk_below (g := gb113) (o := .cells #[.string a0_0, .int .i64 a0_1, .int .i64 a0_2, .bool a0_3, .string a0_4] 23 (0, 0)) (by (with_reducible repeat refine blk_alloc ?_ _); exact BK113.out) hb)
            have n1_ := Aside0.mk (blk_below (g := gb114) (o := .cells #[.string a1_0, .int .i64 a1_1, .int .i64 a1_2, .bool a1_3, .string a1_4] 23 (0, 0)) (by (with_reducible repeat refine blk_alloc ?_ _); exact BK114.out) hb)
            have n2_ := Aside0.mk (blk_below (g := gb132) (o := .cells #[.string t127, .int .i64 t128, .int .i64 t129, .bool t130, .string t131] 25 (0, 0)) (by (with_reducible repeat refine blk_alloc ?_ _); exact BK132.out) hb)
            have n3_ := Aside0.mk (blk_below (g := gb148) (o := .cells #[.string (⟨#[]⟩ : ByteArray), .int .i64 0, .int .i64 0, .bool false, .string (⟨#[]⟩ : ByteArray)] 25 (0, 0)) (by (with_reducible repeat refine blk_alloc ?_ _); exact BK148.out) hb)
            have n4_ := Aside0.mk (below_step (by repeat (first | (with_reducible first | exact HB.out | apply below_alloc | apply pw_below_drewN | apply below_drew1 | refine below_set ?_ GE113.out | refine below_set ?_ GE114.out | refine below_set ?_ GE132.out | refine below_set ?_ GE148.out) | exact HB.out)) hb)
            clear BK113
            clear BK114
            clear BK132
            clear BK148
            clear HB
            have BK113 := n0_
            have BK114 := n1_
            have BK132 := n2_
            have BK148 := n3_
            have HB := n4_
            clear n0_ n1_ n2_ n3_ n4_
            (try clear hb)
            (try clear hb2)
            (try clear hk)
            (try clear hi)
            refine hK.out _ _ ⟨(blk_cell BK113.out 0).trans rfl, (blk_cell BK113.out 1).trans rfl, (blk_cell BK113.out 2).trans rfl, (blk_cell BK113.out 3).trans rfl, (blk_cell BK113.out 4).trans rfl, (blk_cell BK114.out 0).trans rfl, (blk_cell BK114.out 1).trans rfl, (blk_cell BK114.out 2).trans rfl, (blk_cell BK114.out 3).trans rfl, (blk_cell BK114.out 4).trans rfl⟩ (fun hHeld => ?_)
            clear hK K
            refine norm_ (a' := ?_) ?_ ?_
            rotate_left
            · show Act.put _ (some 24) _ = _
              simp only [Act.put, List.setIfInBounds_toArray, List.set_cons_zero, List.set_cons_succ, i64_w, i32_w]
              rfl
            refine one_ (i := 3) (N := some 26) #[true, true, true, true, false, true, false] rfl rfl (by kernel_rfl) (by decide) (fun K hK => ?_)
            refine goes_ Try.func13 (by kernel_rfl) rfl #[.agg #[.string a1_0, .int .i64 a1_1, .int .i64 a1_2, .bool a1_3, .string a1_4]] (by rfl) rfl rfl (by (try simp only [List.map_toArray, List.map_cons, List.map_nil]); first | done | rfl) ?_
            with_reducible refine (laws_toSiteEntry.calls a1_0 a1_1 a1_2 a1_3 a1_4 t138 t139 t140 t141 t142 _ A23.out).mono ?_
            rintro e w87 ⟨rfl, hb⟩
            refine ⟨_, rfl, ?_⟩
            have n0_ := Aside0.mk (blk_below (g := gb113) (o := .cells #[.string a0_0, .int .i64 a0_1, .int .i64 a0_2, .bool a0_3, .string a0_4] 23 (0, 0)) (by (with_reducible repeat refine blk_alloc ?_ _); exact BK113.out) hb)
            have n1_ := Aside0.mk (blk_below (g := gb114) (o := .cells #[.string a1_0, .int .i64 a1_1, .int .i64 a1_2, .bool a1_3, .string a1_4] 23 (0, 0)) (by (with_reducible repeat refine blk_alloc ?_ _); exact BK114.out) hb)
            have n2_ := Aside0.mk (blk_below (g := gb132) (o := .cells #[.string t127, .int .i64 t128, .int .i64 t129, .bool t130, .string t131] 25 (0, 0)) (by (with_reducible repeat refine blk_alloc ?_ _); exact BK132.out) hb)
            have n3_ := Aside0.mk (blk_below (g := gb148) (o := .cells #[.string (⟨#[]⟩ : ByteArray), .int .i64 0, .int .i64 0, .bool false, .string (⟨#[]⟩ : ByteArray)] 25 (0, 0)) (by (with_reducible repeat refine blk_alloc ?_ _); exact BK148.out) hb)
            have n4_ := Aside0.mk (below_step (by repeat (first | (with_reducible first | exact HB.out | apply below_alloc | apply pw_below_drewN | apply below_drew1 | refine below_set ?_ GE113.out | refine below_set ?_ GE114.out | refine below_set ?_ GE132.out | refine below_set ?_ GE148.out) | exact HB.out)) hb)
            clear BK113
            clear BK114
            clear BK132
            clear BK148
            clear HB
            have BK113 := n0_
            have BK114 := n1_
            have BK132 := n2_
            have BK148 := n3_
            have HB := n4_
            clear n0_ n1_ n2_ n3_ n4_
            (try clear hb)
            (try clear hb2)
            (try clear hk)
            (try clear hi)
            refine hK.out _ _ ⟨(blk_cell BK113.out 0).trans rfl, (blk_cell BK113.out 1).trans rfl, (blk_cell BK113.out 2).trans rfl, (blk_cell BK113.out 3).trans rfl, (blk_cell BK113.out 4).trans rfl, (blk_cell BK114.out 0).trans rfl, (blk_cell BK114.out 1).trans rfl, (blk_cell BK114.out 2).trans rfl, (blk_cell BK114.out 3).trans rfl, (blk_cell BK114.out 4).trans rfl⟩ (fun hHeld => ?_)
            clear hK K
            refine norm_ (a' := ?_) ?_ ?_
            rotate_left
            · show Act.put _ (some 26) _ = _
              simp only [Act.put, List.setIfInBounds_toArray, List.set_cons_zero, List.set_cons_succ, i64_w, i32_w]
              rfl
            refine one_ (i := 4) (N := some 27) #[true, true, true, true, true, true, false] rfl rfl (by kernel_rfl) (by decide) (fun K hK => ?_)
            refine goes_ Try.func14 (by kernel_rfl) rfl #[.agg #[.string t133, .int .i64 t134, .int .i64 t135, .bool t136, .string t137], .agg #[.string t138, .int .i64 t139, .int .i64 t140, .bool t141, .string t142]] (by rfl) rfl rfl (by (try simp only [List.map_toArray, List.map_cons, List.map_nil]); first | done | rfl) ?_
            with_reducible refine (impl_Winner.calls t133 t134 t135 t136 t137 t138 t139 t140 t141 t142 t143 t144 t145 t146 t147 _ A24.out).mono ?_
            rintro e w88 ⟨rfl, hb⟩
            refine ⟨_, rfl, ?_⟩
            have n0_ := Aside0.mk (blk_below (g := gb113) (o := .cells #[.string a0_0, .int .i64 a0_1, .int .i64 a0_2, .bool a0_3, .string a0_4] 23 (0, 0)) (by (with_reducible repeat refine blk_alloc ?_ _); exact BK113.out) hb)
            have n1_ := Aside0.mk (blk_below (g := gb114) (o := .cells #[.string a1_0, .int .i64 a1_1, .int .i64 a1_2, .bool a1_3, .string a1_4] 23 (0, 0)) (by (with_reducible repeat refine blk_alloc ?_ _); exact BK114.out) hb)
            have n2_ := Aside0.mk (blk_below (g := gb132) (o := .cells #[.string t127, .int .i64 t128, .int .i64 t129, .bool t130, .string t131] 25 (0, 0)) (by (with_reducible repeat refine blk_alloc ?_ _); exact BK132.out) hb)
            have n3_ := Aside0.mk (blk_below (g := gb148) (o := .cells #[.string (⟨#[]⟩ : ByteArray), .int .i64 0, .int .i64 0, .bool false, .string (⟨#[]⟩ : ByteArray)] 25 (0, 0)) (by (with_reducible repeat refine blk_alloc ?_ _); exact BK148.out) hb)
            have n4_ := Aside0.mk (below_step (by repeat (first | (with_reducible first | exact HB.out | apply below_alloc | apply pw_below_drewN | apply below_drew1 | refine below_set ?_ GE113.out | refine below_set ?_ GE114.out | refine below_set ?_ GE132.out | refine below_set ?_ GE148.out) | exact HB.out)) hb)
            clear BK113
            clear BK114
            clear BK132
            clear BK148
            clear HB
            have BK113 := n0_
            have BK114 := n1_
            have BK132 := n2_
            have BK148 := n3_
            have HB := n4_
            clear n0_ n1_ n2_ n3_ n4_
            (try clear hb)
            (try clear hb2)
            (try clear hk)
            (try clear hi)
            refine hK.out _ _ ⟨(blk_cell BK113.out 0).trans rfl, (blk_cell BK113.out 1).trans rfl, (blk_cell BK113.out 2).trans rfl, (blk_cell BK113.out 3).trans rfl, (blk_cell BK113.out 4).trans rfl, (blk_cell BK114.out 0).trans rfl, (blk_cell BK114.out 1).trans rfl, (blk_cell BK114.out 2).trans rfl, (blk_cell BK114.out 3).trans rfl, (blk_cell BK114.out 4).trans rfl⟩ (fun hHeld => ?_)
            clear hK K
            refine norm_ (a' := ?_) ?_ ?_
            rotate_left
            · show Act.put _ (some 27) _ = _
              simp only [Act.put, List.setIfInBounds_toArray, List.set_cons_zero, List.set_cons_succ, i64_w, i32_w]
              rfl
            exact norm_ (by simp only [putAll, Act.put, List.setIfInBounds_toArray, List.set_cons_zero, List.set_cons_succ]) (hCont (gb148) _ ⟨hHeld, (by (with_reducible repeat refine blk_alloc ?_ _); exact BK113.out), (by (with_reducible repeat refine blk_alloc ?_ _); exact BK114.out), (by (with_reducible repeat refine blk_alloc ?_ _); exact BK132.out), (by (with_reducible repeat refine blk_alloc ?_ _); exact BK148.out), GW148.out, GE148.out, NB113_148.out, NB148_113.out, NB114_148.out, NB148_114.out, NB132_148.out, NB148_132.out, (by repeat (first | (with_reducible first | exact HB.out | apply below_alloc | apply pw_below_drewN | apply below_drew1 | refine below_set ?_ GE113.out | refine below_set ?_ GE114.out | refine below_set ?_ GE132.out | refine below_set ?_ GE148.out) | exact HB.out))⟩)
        rintro gb148 w89 ⟨hS_, h0_, h1_, h2_, h3_, h4_, h5_, h6_, h7_, h8_, h9_, h10_, h11_, h12_⟩
        have n0_ : Aside0 (w89.heap[gb113]? = some (.cells #[.string a0_0, .int .i64 a0_1, .int .i64 a0_2, .bool a0_3, .string a0_4] 23 (0, 0))) := ⟨h0_⟩
        have n1_ : Aside0 (w89.heap[gb114]? = some (.cells #[.string a1_0, .int .i64 a1_1, .int .i64 a1_2, .bool a1_3, .string a1_4] 23 (0, 0))) := ⟨h1_⟩
        have n2_ : Aside0 (w89.heap[gb132]? = some (.cells #[.string t127, .int .i64 t128, .int .i64 t129, .bool t130, .string t131] 25 (0, 0))) := ⟨h2_⟩
        have n3_ : Aside0 (w89.heap[gb148]? = some (.cells #[.string (⟨#[]⟩ : ByteArray), .int .i64 0, .int .i64 0, .bool false, .string (⟨#[]⟩ : ByteArray)] 25 (0, 0))) := ⟨h3_⟩
        have n4_ : Aside0 (w.heap.size ≤ gb148) := ⟨h4_⟩
        have n5_ : Aside0 (w.heap.size ≤ gb148) := ⟨h5_⟩
        have n6_ : Aside0 (gb113 ≠ gb148) := ⟨h6_⟩
        have n7_ : Aside0 (gb148 ≠ gb113) := ⟨h7_⟩
        have n8_ : Aside0 (gb114 ≠ gb148) := ⟨h8_⟩
        have n9_ : Aside0 (gb148 ≠ gb114) := ⟨h9_⟩
        have n10_ : Aside0 (gb132 ≠ gb148) := ⟨h10_⟩
        have n11_ : Aside0 (gb148 ≠ gb132) := ⟨h11_⟩
        have n12_ : Aside0 (Below w.heap.size w w89) := ⟨h12_⟩
        clear BK113
        clear BK114
        clear BK132
        clear HB
        clear h0_ h1_ h2_ h3_ h4_ h5_ h6_ h7_ h8_ h9_ h10_ h11_ h12_
        have BK113 := n0_
        have BK114 := n1_
        have BK132 := n2_
        have BK148 := n3_
        have GW148 := n4_
        have GE148 := n5_
        have NB113_148 := n6_
        have NB148_113 := n7_
        have NB114_148 := n8_
        have NB148_114 := n9_
        have NB132_148 := n10_
        have NB148_132 := n11_
        have HB := n12_
        clear n0_ n1_ n2_ n3_ n4_ n5_ n6_ n7_ n8_ n9_ n10_ n11_ n12_
        have hHeld : w89.cell? ⟨gb113, 0, none⟩ = some (.string a0_0) ∧ w89.cell? ⟨gb113, 1, none⟩ = some (.int .i64 a0_1) ∧ w89.cell? ⟨gb113, 2, none⟩ = some (.int .i64 a0_2) ∧ w89.cell? ⟨gb113, 3, none⟩ = some (.bool a0_3) ∧ w89.cell? ⟨gb113, 4, none⟩ = some (.string a0_4) ∧ w89.cell? ⟨gb114, 0, none⟩ = some (.string a1_0) ∧ w89.cell? ⟨gb114, 1, none⟩ = some (.int .i64 a1_1) ∧ w89.cell? ⟨gb114, 2, none⟩ = some (.int .i64 a1_2) ∧ w89.cell? ⟨gb114, 3, none⟩ = some (.bool a1_3) ∧ w89.cell? ⟨gb114, 4, none⟩ = some (.string a1_4) := hS_
        refine norm_ (a' := ?_) ?_ ?_
        rotate_left
        · simp only [putAll, Act.put, List.setIfInBounds_toArray, List.set_cons_zero, List.set_cons_succ]
          rfl
        refine one_ (i := 6) (N := none) #[true, true, true, true, true, true, true] rfl rfl (by kernel_rfl) (by decide) (fun K hK => ?_)
        have hs90 : w89.cell? ⟨gb148, 0, none⟩ = some (.string (⟨#[]⟩ : ByteArray)) := (blk_cell BK148.out 0).trans rfl
        have hfs90 := blk_frozen BK148.out 0
        have hns90_0 := NB113_148.out
        have hns90_1 := NB114_148.out
        have hns90_2 := NB132_148.out
        have hms90_0 := NB148_113.out
        have hms90_1 := NB148_114.out
        have hms90_2 := NB148_132.out
        have hs91 : w89.cell? ⟨gb148, 1, none⟩ = some (.int .i64 0) := (blk_cell BK148.out 1).trans rfl
        have hfs91 := blk_frozen BK148.out 1
        have hns91_0 := NB113_148.out
        have hns91_1 := NB114_148.out
        have hns91_2 := NB132_148.out
        have hms91_0 := NB148_113.out
        have hms91_1 := NB148_114.out
        have hms91_2 := NB148_132.out
        have hs92 : w89.cell? ⟨gb148, 2, none⟩ = some (.int .i64 0) := (blk_cell BK148.out 2).trans rfl
        have hfs92 := blk_frozen BK148.out 2
        have hns92_0 := NB113_148.out
        have hns92_1 := NB114_148.out
        have hns92_2 := NB132_148.out
        have hms92_0 := NB148_113.out
        have hms92_1 := NB148_114.out
        have hms92_2 := NB148_132.out
        have hs93 : w89.cell? ⟨gb148, 3, none⟩ = some (.bool false) := (blk_cell BK148.out 3).trans rfl
        have hfs93 := blk_frozen BK148.out 3
        have hns93_0 := NB113_148.out
        have hns93_1 := NB114_148.out
        have hns93_2 := NB132_148.out
        have hms93_0 := NB148_113.out
        have hms93_1 := NB148_114.out
        have hms93_2 := NB148_132.out
        have hs94 : w89.cell? ⟨gb148, 4, none⟩ = some (.string (⟨#[]⟩ : ByteArray)) := (blk_cell BK148.out 4).trans rfl
        have hfs94 := blk_frozen BK148.out 4
        have hns94_0 := NB113_148.out
        have hns94_1 := NB114_148.out
        have hns94_2 := NB132_148.out
        have hms94_0 := NB148_113.out
        have hms94_1 := NB148_114.out
        have hms94_2 := NB148_132.out
        refine skip_ (w1 := ?_) (by rfl) rfl ?_ ?_
        rotate_left
        · go_simp
          rfl
        refine hK.out _ _ ⟨((cell_far (p := ⟨gb148, _, none⟩) NB113_148.out _).trans (((cell_far (p := ⟨gb148, _, none⟩) NB113_148.out _).trans (((cell_far (p := ⟨gb148, _, none⟩) NB113_148.out _).trans (((cell_far (p := ⟨gb148, _, none⟩) NB113_148.out _).trans (((cell_far (p := ⟨gb148, _, none⟩) NB113_148.out _).trans (hHeld.1)))))))))), ((cell_far (p := ⟨gb148, _, none⟩) NB113_148.out _).trans (((cell_far (p := ⟨gb148, _, none⟩) NB113_148.out _).trans (((cell_far (p := ⟨gb148, _, none⟩) NB113_148.out _).trans (((cell_far (p := ⟨gb148, _, none⟩) NB113_148.out _).trans (((cell_far (p := ⟨gb148, _, none⟩) NB113_148.out _).trans (hHeld.2.1)))))))))), ((cell_far (p := ⟨gb148, _, none⟩) NB113_148.out _).trans (((cell_far (p := ⟨gb148, _, none⟩) NB113_148.out _).trans (((cell_far (p := ⟨gb148, _, none⟩) NB113_148.out _).trans (((cell_far (p := ⟨gb148, _, none⟩) NB113_148.out _).trans (((cell_far (p := ⟨gb148, _, none⟩) NB113_148.out _).trans (hHeld.2.2.1)))))))))), ((cell_far (p := ⟨gb148, _, none⟩) NB113_148.out _).trans (((cell_far (p := ⟨gb148, _, none⟩) NB113_148.out _).trans (((cell_far (p := ⟨gb148, _, none⟩) NB113_148.out _).trans (((cell_far (p := ⟨gb148, _, none⟩) NB113_148.out _).trans (((cell_far (p := ⟨gb148, _, none⟩) NB113_148.out _).trans (hHeld.2.2.2.1)))))))))), ((cell_far (p := ⟨gb148, _, none⟩) NB113_148.out _).trans (((cell_far (p := ⟨gb148, _, none⟩) NB113_148.out _).trans (((cell_far (p := ⟨gb148, _, none⟩) NB113_148.out _).trans (((cell_far (p := ⟨gb148, _, none⟩) NB113_148.out _).trans (((cell_far (p := ⟨gb148, _, none⟩) NB113_148.out _).trans (hHeld.2.2.2.2.1)))))))))), ((cell_far (p := ⟨gb148, _, none⟩) NB114_148.out _).trans (((cell_far (p := ⟨gb148, _, none⟩) NB114_148.out _).trans (((cell_far (p := ⟨gb148, _, none⟩) NB114_148.out _).trans (((cell_far (p := ⟨gb148, _, none⟩) NB114_148.out _).trans (((cell_far (p := ⟨gb148, _, none⟩) NB114_148.out _).trans (hHeld.2.2.2.2.2.1)))))))))), ((cell_far (p := ⟨gb148, _, none⟩) NB114_148.out _).trans (((cell_far (p := ⟨gb148, _, none⟩) NB114_148.out _).trans (((cell_far (p := ⟨gb148, _, none⟩) NB114_148.out _).trans (((cell_far (p := ⟨gb148, _, none⟩) NB114_148.out _).trans (((cell_far (p := ⟨gb148, _, none⟩) NB114_148.out _).trans (hHeld.2.2.2.2.2.2.1)))))))))), ((cell_far (p := ⟨gb148, _, none⟩) NB114_148.out _).trans (((cell_far (p := ⟨gb148, _, none⟩) NB114_148.out _).trans (((cell_far (p := ⟨gb148, _, none⟩) NB114_148.out _).trans (((cell_far (p := ⟨gb148, _, none⟩) NB114_148.out _).trans (((cell_far (p := ⟨gb148, _, none⟩) NB114_148.out _).trans (hHeld.2.2.2.2.2.2.2.1)))))))))), ((cell_far (p := ⟨gb148, _, none⟩) NB114_148.out _).trans (((cell_far (p := ⟨gb148, _, none⟩) NB114_148.out _).trans (((cell_far (p := ⟨gb148, _, none⟩) NB114_148.out _).trans (((cell_far (p := ⟨gb148, _, none⟩) NB114_148.out _).trans (((cell_far (p := ⟨gb148, _, none⟩) NB114_148.out _).trans (hHeld.2.2.2.2.2.2.2.2.1)))))))))), ((cell_far (p := ⟨gb148, _, none⟩) NB114_148.out _).trans (((cell_far (p := ⟨gb148, _, none⟩) NB114_148.out _).trans (((cell_far (p := ⟨gb148, _, none⟩) NB114_148.out _).trans (((cell_far (p := ⟨gb148, _, none⟩) NB114_148.out _).trans (((cell_far (p := ⟨gb148, _, none⟩) NB114_148.out _).trans (hHeld.2.2.2.2.2.2.2.2.2))))))))))⟩ (fun hHeld => ?_)
        clear hK K
        refine done_ (by kernel_rfl) ?_
        have hnb95 := NB148_113.out
        have hnc95 := NB113_148.out
        have hnb96 := NB148_114.out
        have hnc96 := NB114_148.out
        have hnb97 := NB148_132.out
        have hnc97 := NB132_148.out
        have hcz98_0 : w89.cell? ⟨gb148, 0, none⟩ = some (.string (⟨#[]⟩ : ByteArray)) := (blk_cell BK148.out 0).trans rfl
        have hcz98_1 : w89.cell? ⟨gb148, 1, none⟩ = some (.int .i64 0) := (blk_cell BK148.out 1).trans rfl
        have hcz98_2 : w89.cell? ⟨gb148, 2, none⟩ = some (.int .i64 0) := (blk_cell BK148.out 2).trans rfl
        have hcz98_3 : w89.cell? ⟨gb148, 3, none⟩ = some (.bool false) := (blk_cell BK148.out 3).trans rfl
        have hcz98_4 : w89.cell? ⟨gb148, 4, none⟩ = some (.string (⟨#[]⟩ : ByteArray)) := (blk_cell BK148.out 4).trans rfl
        have hfz98_0 := blk_frozen BK148.out 0
        have hfz98_1 := blk_frozen BK148.out 1
        have hfz98_2 := blk_frozen BK148.out 2
        have hfz98_3 := blk_frozen BK148.out 3
        have hfz98_4 := blk_frozen BK148.out 4
        have hnb99 := NB132_113.out
        have hnc99 := NB113_132.out
        have hnb100 := NB132_114.out
        have hnc100 := NB114_132.out
        have hcz101_0 : w89.cell? ⟨gb132, 0, none⟩ = some (.string t127) := (blk_cell BK132.out 0).trans rfl
        have hcz101_1 : w89.cell? ⟨gb132, 1, none⟩ = some (.int .i64 t128) := (blk_cell BK132.out 1).trans rfl
        have hcz101_2 : w89.cell? ⟨gb132, 2, none⟩ = some (.int .i64 t129) := (blk_cell BK132.out 2).trans rfl
        have hcz101_3 : w89.cell? ⟨gb132, 3, none⟩ = some (.bool t130) := (blk_cell BK132.out 3).trans rfl
        have hcz101_4 : w89.cell? ⟨gb132, 4, none⟩ = some (.string t131) := (blk_cell BK132.out 4).trans rfl
        have hfz101_0 := blk_frozen BK132.out 0
        have hfz101_1 := blk_frozen BK132.out 1
        have hfz101_2 := blk_frozen BK132.out 2
        have hfz101_3 := blk_frozen BK132.out 3
        have hfz101_4 := blk_frozen BK132.out 4
        try go_wp2_with (first | ((with_reducible refine gate_callee (f := 15) rfl ?_); refine goesL_ (some 30) rfl rfl Try.func15 (by kernel_rfl) rfl #[.agg #[.string t143, .int .i64 t144, .int .i64 t145, .bool t146, .string t147], .agg #[.string t127, .int .i64 t128, .int .i64 t129, .bool t130, .string t131]] rfl (by (try simp only [List.map_toArray, List.map_cons, List.map_nil]); first | done | rfl) ?_; (with_reducible refine (laws_eqSiteEntry.calls t143 t144 t145 t146 t147 t127 t128 t129 t130 t131 false _ A25.out).mono ?_); rintro e w102 ⟨rfl, hb⟩; refine ⟨_, rfl, ?_⟩; have n0_ := Aside0.mk (blk_below (g := gb113) (o := .cells #[.string a0_0, .int .i64 a0_1, .int .i64 a0_2, .bool a0_3, .string a0_4] 23 (0, 0)) (by (with_reducible repeat refine blk_alloc ?_ _); refine blk_far ?_ NB113_148.out _; (with_reducible repeat refine blk_alloc ?_ _); refine blk_far ?_ NB113_148.out _; (with_reducible repeat refine blk_alloc ?_ _); refine blk_far ?_ NB113_148.out _; (with_reducible repeat refine blk_alloc ?_ _); refine blk_far ?_ NB113_148.out _; (with_reducible repeat refine blk_alloc ?_ _); refine blk_far ?_ NB113_148.out _; (with_reducible repeat refine blk_alloc ?_ _); exact BK113.out) hb); have n1_ := Aside0.mk (blk_below (g := gb114) (o := .cells #[.string a1_0, .int .i64 a1_1, .int .i64 a1_2, .bool a1_3, .string a1_4] 23 (0, 0)) (by (with_reducible repeat refine blk_alloc ?_ _); refine blk_far ?_ NB114_148.out _; (with_reducible repeat refine blk_alloc ?_ _); refine blk_far ?_ NB114_148.out _; (with_reducible repeat refine blk_alloc ?_ _); refine blk_far ?_ NB114_148.out _; (with_reducible repeat refine blk_alloc ?_ _); refine blk_far ?_ NB114_148.out _; (with_reducible repeat refine blk_alloc ?_ _); refine blk_far ?_ NB114_148.out _; (with_reducible repeat refine blk_alloc ?_ _); exact BK114.out) hb); have n2_ := Aside0.mk (blk_below (g := gb132) (o := .cells #[.string t127, .int .i64 t128, .int .i64 t129, .bool t130, .string t131] 25 (0, 0)) (by (with_reducible repeat refine blk_alloc ?_ _); refine blk_far ?_ NB132_148.out _; (with_reducible repeat refine blk_alloc ?_ _); refine blk_far ?_ NB132_148.out _; (with_reducible repeat refine blk_alloc ?_ _); refine blk_far ?_ NB132_148.out _; (with_reducible repeat refine blk_alloc ?_ _); refine blk_far ?_ NB132_148.out _; (with_reducible repeat refine blk_alloc ?_ _); refine blk_far ?_ NB132_148.out _; (with_reducible repeat refine blk_alloc ?_ _); exact BK132.out) hb); have n3_ := Aside0.mk (blk_below (g := gb148) (o := .cells #[.string t143, .int .i64 t144, .int .i64 t145, .bool t146, .string t147] 25 (0, 0)) (by (with_reducible repeat refine blk_alloc ?_ _); refine blk_put (cs := #[.string t143, .int .i64 t144, .int .i64 t145, .bool t146, .string (⟨#[]⟩ : ByteArray)]) ?_ 4 _ rfl; (with_reducible repeat refine blk_alloc ?_ _); refine blk_put (cs := #[.string t143, .int .i64 t144, .int .i64 t145, .bool false, .string (⟨#[]⟩ : ByteArray)]) ?_ 3 _ rfl; (with_reducible repeat refine blk_alloc ?_ _); refine blk_put (cs := #[.string t143, .int .i64 t144, .int .i64 0, .bool false, .string (⟨#[]⟩ : ByteArray)]) ?_ 2 _ rfl; (with_reducible repeat refine blk_alloc ?_ _); refine blk_put (cs := #[.string t143, .int .i64 0, .int .i64 0, .bool false, .string (⟨#[]⟩ : ByteArray)]) ?_ 1 _ rfl; (with_reducible repeat refine blk_alloc ?_ _); refine blk_put (cs := #[.string (⟨#[]⟩ : ByteArray), .int .i64 0, .int .i64 0, .bool false, .string (⟨#[]⟩ : ByteArray)]) ?_ 0 _ rfl; (with_reducible repeat refine blk_alloc ?_ _); exact BK148.out) hb); have n4_ := Aside0.mk (below_step (by repeat (first | (with_reducible first | exact HB.out | apply below_alloc | apply pw_below_drewN | apply below_drew1 | refine below_set ?_ GE113.out | refine below_set ?_ GE114.out | refine below_set ?_ GE132.out | refine below_set ?_ GE148.out) | exact HB.out)) hb); clear BK113; clear BK114; clear BK132; clear BK148; clear HB; have BK113 := n0_; have BK114 := n1_; have BK132 := n2_; have BK148 := n3_; have HB := n4_; clear n0_ n1_ n2_ n3_ n4_; (try clear hb); (try clear hb2); (try clear hk); (try clear hi)))
        go_ret
        exact ⟨by first | rfl | (simp [errW_none, errW_some] <;> rfl) | (simp [*, errW_none, errW_some] <;> rfl), by repeat (first | (with_reducible first | exact HB.out | apply below_alloc | apply pw_below_drewN | apply below_drew1 | refine below_set ?_ GE113.out | refine below_set ?_ GE114.out | refine below_set ?_ GE132.out | refine below_set ?_ GE148.out) | exact HB.out)⟩

end Go.Proofs.Ytncghlamcbhpmaa.PFnExactWinner
