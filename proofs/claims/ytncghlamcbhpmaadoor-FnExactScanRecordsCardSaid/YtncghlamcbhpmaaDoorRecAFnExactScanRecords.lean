/-
  recordAt: the ways through it, up to the mark of a key that is gone.
-/
import Derived.Test.YtncghlamcbhpmaaDoorPFnExactScanRecordsx4
import Derived.Test.YtncghlamcbhpmaaDoorHsFnExactScanRecords
namespace Go.Proofs.YtncghlamcbhpmaaDoor.PFnExactScanRecords
open Go.RowKit Go.Proofs.YtncghlamcbhpmaaDoorW.PrintWords Go.Proofs.YtncghlamcbhpmaaDoorW.PrintLast Go.Proofs.YtncghlamcbhpmaaDoorW.PrintMore
set_option linter.unusedVariables false
open Go.Proofs.YtncghlamcbhpmaaDoor.Hs
theorem toList_empty : (⟨#[]⟩ : ByteArray).toList = [] := by
  unfold ByteArray.toList ByteArray.toList.loop
  rfl
theorem two_below {w : World} {u v : Value} (h0 : w.cell? ⟨0, 0, none⟩ = some u) (h1 : w.cell? ⟨1, 0, none⟩ = some v) : 2 ≤ w.heap.size := by
  have := World.block_lt_of_cell? w ⟨1, 0, none⟩ h1
  simp only at this
  omega

set_option maxHeartbeats 8000000 in
set_option maxRecDepth 100000 in
theorem rec_L1 (k : Nat) (a0 : ByteArray) (a1 : Int) (e0 e1 : Addr) (w : World) (h0 : w.cell? ⟨0, 0, none⟩ = some (.iface 121 (.pointer (some e0)))) (h1 : w.cell? ⟨1, 0, none⟩ = some (.iface 121 (.pointer (some e1)))) (b1 : Int) (p1 : ByteArray) (q1 : Int) (x1 : impl_cursor_next.f a0 a1 = some (b1, false, p1, q1))  :
    Calls Tryd.prog 24 #[.string a0, .int .i64 a1] w fun e w' => e = .returned (.tuple #[.agg #[.string (⟨#[]⟩ : ByteArray), .bool false, .string (⟨#[]⟩ : ByteArray), .int .i64 0, .int .i64 0], .iface 121 (.pointer (some e0))]) ∧ Below w.heap.size w w' := by
  have Z1 := Aside0.mk (two_below h0 h1)
  have A1 := Aside0.mk x1
  clear x1
  go_enter Tryd.func24, Tryd.ntmps24
  have H := Aside0.mk (Hs.nil w)
  go_wp2_with (first
    | ((with_reducible refine gate_dst (N := 4) rfl ?_); (try (refine gate_guard (by rfl) ?_; dsimp only)); refine box_event ?hg (N := 4) ?hd (cs := #[.string (⟨#[]⟩ : ByteArray), .bool false, .string (⟨#[]⟩ : ByteArray), .int .i64 0, .int .i64 0]) (t := 48) ?hr ?_; (case hd => rfl); (case hg => rfl); (case hr => first | (go_simp; done) | (go_simp; rfl)); intro g4 hg w1 hbox hb; have H_ := Aside0.mk (Hs.push H.out (Nat.le_of_eq hg.symm) hbox hb); clear hbox hb hg; clear H; have H := H_; clear H_)
    | ((with_reducible refine gate_dst (N := 18) rfl ?_); (try (refine gate_guard (by rfl) ?_; dsimp only)); refine box_event ?hg (N := 18) ?hd (cs := #[.string a0, .int .i64 a1]) (t := 75) ?hr ?_; (case hd => rfl); (case hg => rfl); (case hr => first | (go_simp; done) | (go_simp; rfl)); intro gc hg w2 hbox hb; have H_ := Aside0.mk (Hs.push H.out (Nat.le_of_eq hg.symm) hbox hb); clear hbox hb hg; clear H; have H := H_; clear H_)
    | ((with_reducible refine gate_callee (f := 44) rfl ?_); (try (refine gate_guard (by rfl) ?_; dsimp only)); refine goesL_ (some 21) rfl rfl Tryd.func44 (by kernel_rfl) rfl #[.pointer (some ⟨gc, 0, none⟩)] rfl (by (try simp only [List.map_toArray, List.map_cons, List.map_nil]); first | done | rfl) ?_; (with_reducible refine (impl_cursor_next.calls gc a0 a1 b1 false p1 q1 w _ ?hI ?hB A1.out).mono ?_); (case hI => exact ⟨H.out.get 0 rfl, H.out.ge 0 rfl⟩); (case hB => exact H.out.below); rintro e w3 ⟨rfl, hi, hb, hk⟩; refine ⟨_, rfl, ?_⟩; have H_ := Aside0.mk (show Hs w w3 [(gc, .cells #[.string p1, .int .i64 q1] 75 (0, 0)), (g4, .cells #[.string (⟨#[]⟩ : ByteArray), .bool false, .string (⟨#[]⟩ : ByteArray), .int .i64 0, .int .i64 0] 48 (0, 0))] from H.out.keep 0 rfl hb hk hi.1); clear hi hb hk; clear H; have H := H_; clear H_))
  have hcz4_0 : w3.cell? ⟨g4, 0, none⟩ = some (.string (⟨#[]⟩ : ByteArray)) := H.out.cell 1 rfl 0
  have hcz4_1 : w3.cell? ⟨g4, 1, none⟩ = some (.bool false) := H.out.cell 1 rfl 1
  have hcz4_2 : w3.cell? ⟨g4, 2, none⟩ = some (.string (⟨#[]⟩ : ByteArray)) := H.out.cell 1 rfl 2
  have hcz4_3 : w3.cell? ⟨g4, 3, none⟩ = some (.int .i64 0) := H.out.cell 1 rfl 3
  have hcz4_4 : w3.cell? ⟨g4, 4, none⟩ = some (.int .i64 0) := H.out.cell 1 rfl 4
  have hfz4_0 : w3.frozen? ⟨g4, 0, none⟩ = false := H.out.frozen 1 rfl 0
  have hfz4_1 : w3.frozen? ⟨g4, 1, none⟩ = false := H.out.frozen 1 rfl 1
  have hfz4_2 : w3.frozen? ⟨g4, 2, none⟩ = false := H.out.frozen 1 rfl 2
  have hfz4_3 : w3.frozen? ⟨g4, 3, none⟩ = false := H.out.frozen 1 rfl 3
  have hfz4_4 : w3.frozen? ⟨g4, 4, none⟩ = false := H.out.frozen 1 rfl 4
  have hg0 : w3.cell? ⟨0, 0, none⟩ = some (.iface 121 (.pointer (some e0))) := pw_cell_below H.out.below h0
  have hg1 : w3.cell? ⟨1, 0, none⟩ = some (.iface 121 (.pointer (some e1))) := pw_cell_below H.out.below h1
  have hn1 : g4 ≠ 0 := fun e => absurd (e ▸ H.out.ge 1 rfl) (by have := Z1.out; omega)
  have hn2 : g4 ≠ 1 := fun e => absurd (e ▸ H.out.ge 1 rfl) (by have := Z1.out; omega)
  have hn3 : 0 ≠ g4 := Ne.symm hn1
  have hn4 : 1 ≠ g4 := Ne.symm hn2
  go_region
  all_goals go_wp2
  all_goals refine bodyPost_ret (results_ct rfl _ _ g4 48 #[.string (⟨#[]⟩ : ByteArray), .bool false, .string (⟨#[]⟩ : ByteArray), .int .i64 0, .int .i64 0] (0, 0) _ rfl (by refine blk_put (cs := #[.string (⟨#[]⟩ : ByteArray), .bool false, .string (⟨#[]⟩ : ByteArray), .int .i64 0, .int .i64 0]) ?_ 4 _ rfl; refine blk_put (cs := #[.string (⟨#[]⟩ : ByteArray), .bool false, .string (⟨#[]⟩ : ByteArray), .int .i64 0, .int .i64 0]) ?_ 3 _ rfl; refine blk_put (cs := #[.string (⟨#[]⟩ : ByteArray), .bool false, .string (⟨#[]⟩ : ByteArray), .int .i64 0, .int .i64 0]) ?_ 2 _ rfl; refine blk_put (cs := #[.string (⟨#[]⟩ : ByteArray), .bool false, .string (⟨#[]⟩ : ByteArray), .int .i64 0, .int .i64 0]) ?_ 1 _ rfl; refine blk_put (cs := #[.string (⟨#[]⟩ : ByteArray), .bool false, .string (⟨#[]⟩ : ByteArray), .int .i64 0, .int .i64 0]) ?_ 0 _ rfl; exact H.out.get 1 rfl) Tryd.underlying48 rfl (by kernel_rfl)) rfl ⟨rfl, ?_⟩
  all_goals repeat (first | (with_reducible first | exact H.out.below | apply below_alloc | apply pw_below_drewN | apply below_drew1 | refine below_set ?_ (H.out.ge 1 rfl)) | exact H.out.below)

set_option maxHeartbeats 8000000 in
set_option maxRecDepth 100000 in
theorem rec_L2 (k : Nat) (a0 : ByteArray) (a1 : Int) (e0 e1 : Addr) (w : World) (h0 : w.cell? ⟨0, 0, none⟩ = some (.iface 121 (.pointer (some e0)))) (h1 : w.cell? ⟨1, 0, none⟩ = some (.iface 121 (.pointer (some e1)))) (b1 : Int) (p1 : ByteArray) (q1 : Int) (x1 : impl_cursor_next.f a0 a1 = some (b1, true, p1, q1)) (x231 : ¬ b1 = 231) :
    Calls Tryd.prog 24 #[.string a0, .int .i64 a1] w fun e w' => e = .returned (.tuple #[.agg #[.string (⟨#[]⟩ : ByteArray), .bool false, .string (⟨#[]⟩ : ByteArray), .int .i64 0, .int .i64 0], .iface 121 (.pointer (some e0))]) ∧ Below w.heap.size w w' := by
  have Z1 := Aside0.mk (two_below h0 h1)
  have A1 := Aside0.mk x1
  clear x1
  have m1 : (b1 == 231) = false := by simpa using x231
  have m2 : (b1 != 231) = true := by simpa using x231
  go_enter Tryd.func24, Tryd.ntmps24
  have H := Aside0.mk (Hs.nil w)
  go_wp2_with (first
    | ((with_reducible refine gate_dst (N := 4) rfl ?_); (try (refine gate_guard (by rfl) ?_; dsimp only)); refine box_event ?hg (N := 4) ?hd (cs := #[.string (⟨#[]⟩ : ByteArray), .bool false, .string (⟨#[]⟩ : ByteArray), .int .i64 0, .int .i64 0]) (t := 48) ?hr ?_; (case hd => rfl); (case hg => rfl); (case hr => first | (go_simp; done) | (go_simp; rfl)); intro g4 hg w1 hbox hb; have H_ := Aside0.mk (Hs.push H.out (Nat.le_of_eq hg.symm) hbox hb); clear hbox hb hg; clear H; have H := H_; clear H_)
    | ((with_reducible refine gate_dst (N := 18) rfl ?_); (try (refine gate_guard (by rfl) ?_; dsimp only)); refine box_event ?hg (N := 18) ?hd (cs := #[.string a0, .int .i64 a1]) (t := 75) ?hr ?_; (case hd => rfl); (case hg => rfl); (case hr => first | (go_simp; done) | (go_simp; rfl)); intro gc hg w2 hbox hb; have H_ := Aside0.mk (Hs.push H.out (Nat.le_of_eq hg.symm) hbox hb); clear hbox hb hg; clear H; have H := H_; clear H_)
    | ((with_reducible refine gate_callee (f := 44) rfl ?_); (try (refine gate_guard (by rfl) ?_; dsimp only)); refine goesL_ (some 21) rfl rfl Tryd.func44 (by kernel_rfl) rfl #[.pointer (some ⟨gc, 0, none⟩)] rfl (by (try simp only [List.map_toArray, List.map_cons, List.map_nil]); first | done | rfl) ?_; (with_reducible refine (impl_cursor_next.calls gc a0 a1 b1 true p1 q1 w _ ?hI ?hB A1.out).mono ?_); (case hI => exact ⟨H.out.get 0 rfl, H.out.ge 0 rfl⟩); (case hB => exact H.out.below); rintro e w3 ⟨rfl, hi, hb, hk⟩; refine ⟨_, rfl, ?_⟩; have H_ := Aside0.mk (show Hs w w3 [(gc, .cells #[.string p1, .int .i64 q1] 75 (0, 0)), (g4, .cells #[.string (⟨#[]⟩ : ByteArray), .bool false, .string (⟨#[]⟩ : ByteArray), .int .i64 0, .int .i64 0] 48 (0, 0))] from H.out.keep 0 rfl hb hk hi.1); clear hi hb hk; clear H; have H := H_; clear H_))
  have hcz4_0 : w3.cell? ⟨g4, 0, none⟩ = some (.string (⟨#[]⟩ : ByteArray)) := H.out.cell 1 rfl 0
  have hcz4_1 : w3.cell? ⟨g4, 1, none⟩ = some (.bool false) := H.out.cell 1 rfl 1
  have hcz4_2 : w3.cell? ⟨g4, 2, none⟩ = some (.string (⟨#[]⟩ : ByteArray)) := H.out.cell 1 rfl 2
  have hcz4_3 : w3.cell? ⟨g4, 3, none⟩ = some (.int .i64 0) := H.out.cell 1 rfl 3
  have hcz4_4 : w3.cell? ⟨g4, 4, none⟩ = some (.int .i64 0) := H.out.cell 1 rfl 4
  have hfz4_0 : w3.frozen? ⟨g4, 0, none⟩ = false := H.out.frozen 1 rfl 0
  have hfz4_1 : w3.frozen? ⟨g4, 1, none⟩ = false := H.out.frozen 1 rfl 1
  have hfz4_2 : w3.frozen? ⟨g4, 2, none⟩ = false := H.out.frozen 1 rfl 2
  have hfz4_3 : w3.frozen? ⟨g4, 3, none⟩ = false := H.out.frozen 1 rfl 3
  have hfz4_4 : w3.frozen? ⟨g4, 4, none⟩ = false := H.out.frozen 1 rfl 4
  have hg0 : w3.cell? ⟨0, 0, none⟩ = some (.iface 121 (.pointer (some e0))) := pw_cell_below H.out.below h0
  have hg1 : w3.cell? ⟨1, 0, none⟩ = some (.iface 121 (.pointer (some e1))) := pw_cell_below H.out.below h1
  have hn1 : g4 ≠ 0 := fun e => absurd (e ▸ H.out.ge 1 rfl) (by have := Z1.out; omega)
  have hn2 : g4 ≠ 1 := fun e => absurd (e ▸ H.out.ge 1 rfl) (by have := Z1.out; omega)
  have hn3 : 0 ≠ g4 := Ne.symm hn1
  have hn4 : 1 ≠ g4 := Ne.symm hn2
  go_region
  all_goals go_wp2
  all_goals refine bodyPost_ret (results_ct rfl _ _ g4 48 #[.string (⟨#[]⟩ : ByteArray), .bool false, .string (⟨#[]⟩ : ByteArray), .int .i64 0, .int .i64 0] (0, 0) _ rfl (by refine blk_put (cs := #[.string (⟨#[]⟩ : ByteArray), .bool false, .string (⟨#[]⟩ : ByteArray), .int .i64 0, .int .i64 0]) ?_ 4 _ rfl; refine blk_put (cs := #[.string (⟨#[]⟩ : ByteArray), .bool false, .string (⟨#[]⟩ : ByteArray), .int .i64 0, .int .i64 0]) ?_ 3 _ rfl; refine blk_put (cs := #[.string (⟨#[]⟩ : ByteArray), .bool false, .string (⟨#[]⟩ : ByteArray), .int .i64 0, .int .i64 0]) ?_ 2 _ rfl; refine blk_put (cs := #[.string (⟨#[]⟩ : ByteArray), .bool false, .string (⟨#[]⟩ : ByteArray), .int .i64 0, .int .i64 0]) ?_ 1 _ rfl; refine blk_put (cs := #[.string (⟨#[]⟩ : ByteArray), .bool false, .string (⟨#[]⟩ : ByteArray), .int .i64 0, .int .i64 0]) ?_ 0 _ rfl; exact H.out.get 1 rfl) Tryd.underlying48 rfl (by kernel_rfl)) rfl ⟨rfl, ?_⟩
  all_goals repeat (first | (with_reducible first | exact H.out.below | apply below_alloc | apply pw_below_drewN | apply below_drew1 | refine below_set ?_ (H.out.ge 1 rfl)) | exact H.out.below)

set_option maxHeartbeats 8000000 in
set_option maxRecDepth 100000 in
theorem rec_L3 (k : Nat) (a0 : ByteArray) (a1 : Int) (e0 e1 : Addr) (w : World) (h0 : w.cell? ⟨0, 0, none⟩ = some (.iface 121 (.pointer (some e0)))) (h1 : w.cell? ⟨1, 0, none⟩ = some (.iface 121 (.pointer (some e1)))) (b1 : Int) (p1 : ByteArray) (q1 : Int) (x1 : impl_cursor_next.f a0 a1 = some (b1, true, p1, q1)) (t1 : ByteArray) (p2 : ByteArray) (q2 : Int) (x2 : impl_cursor_text.f k p1 q1 = some (t1, false, p2, q2)) (x231 : b1 = 231) :
    Calls Tryd.prog 24 #[.string a0, .int .i64 a1] w fun e w' => e = .returned (.tuple #[.agg #[.string (⟨#[]⟩ : ByteArray), .bool false, .string (⟨#[]⟩ : ByteArray), .int .i64 0, .int .i64 0], .iface 121 (.pointer (some e1))]) ∧ Below w.heap.size w w' := by
  have Z1 := Aside0.mk (two_below h0 h1)
  have A1 := Aside0.mk x1
  have A2 := Aside0.mk x2
  clear x1 x2
  have m0 := x231
  have m1 : (b1 == 231) = true := by simpa using x231
  have m2 : (b1 != 231) = false := by simpa using x231
  go_enter Tryd.func24, Tryd.ntmps24
  have H := Aside0.mk (Hs.nil w)
  go_wp2_with (first
    | ((with_reducible refine gate_dst (N := 4) rfl ?_); (try (refine gate_guard (by rfl) ?_; dsimp only)); refine box_event ?hg (N := 4) ?hd (cs := #[.string (⟨#[]⟩ : ByteArray), .bool false, .string (⟨#[]⟩ : ByteArray), .int .i64 0, .int .i64 0]) (t := 48) ?hr ?_; (case hd => rfl); (case hg => rfl); (case hr => first | (go_simp; done) | (go_simp; rfl)); intro g4 hg w1 hbox hb; have H_ := Aside0.mk (Hs.push H.out (Nat.le_of_eq hg.symm) hbox hb); clear hbox hb hg; clear H; have H := H_; clear H_)
    | ((with_reducible refine gate_dst (N := 18) rfl ?_); (try (refine gate_guard (by rfl) ?_; dsimp only)); refine box_event ?hg (N := 18) ?hd (cs := #[.string a0, .int .i64 a1]) (t := 75) ?hr ?_; (case hd => rfl); (case hg => rfl); (case hr => first | (go_simp; done) | (go_simp; rfl)); intro gc hg w2 hbox hb; have H_ := Aside0.mk (Hs.push H.out (Nat.le_of_eq hg.symm) hbox hb); clear hbox hb hg; clear H; have H := H_; clear H_)
    | ((with_reducible refine gate_callee (f := 44) rfl ?_); (try (refine gate_guard (by rfl) ?_; dsimp only)); refine goesL_ (some 21) rfl rfl Tryd.func44 (by kernel_rfl) rfl #[.pointer (some ⟨gc, 0, none⟩)] rfl (by (try simp only [List.map_toArray, List.map_cons, List.map_nil]); first | done | rfl) ?_; (with_reducible refine (impl_cursor_next.calls gc a0 a1 b1 true p1 q1 w _ ?hI ?hB A1.out).mono ?_); (case hI => exact ⟨H.out.get 0 rfl, H.out.ge 0 rfl⟩); (case hB => exact H.out.below); rintro e w3 ⟨rfl, hi, hb, hk⟩; refine ⟨_, rfl, ?_⟩; have H_ := Aside0.mk (show Hs w w3 [(gc, .cells #[.string p1, .int .i64 q1] 75 (0, 0)), (g4, .cells #[.string (⟨#[]⟩ : ByteArray), .bool false, .string (⟨#[]⟩ : ByteArray), .int .i64 0, .int .i64 0] 48 (0, 0))] from H.out.keep 0 rfl hb hk hi.1); clear hi hb hk; clear H; have H := H_; clear H_)
    | ((with_reducible refine gate_dst (N := 9) rfl ?_); (try (refine gate_guard (by rfl) ?_; dsimp only)); refine box_event ?hg (N := 9) ?hd (cs := #[.string (⟨#[]⟩ : ByteArray), .bool false, .string (⟨#[]⟩ : ByteArray), .int .i64 0, .int .i64 0]) (t := 48) ?hr ?_; (case hd => rfl); (case hg => rfl); (case hr => first | (go_simp; done) | (go_simp; rfl)); intro g9 hg w4 hbox hb; have H_ := Aside0.mk (Hs.push H.out (Nat.le_of_eq hg.symm) hbox hb); clear hbox hb hg; clear H; have H := H_; clear H_)
    | ((with_reducible refine gate_store (p := 9) rfl ?_); (try (refine gate_guard (by rfl) ?_; dsimp only)); have hc0_ := H.out.cellv (v := .string (⟨#[]⟩ : ByteArray)) 0 rfl 0 rfl; have hf0_ := H.out.frozen 0 rfl 0; have hc1_ := H.out.cellv (v := .bool false) 0 rfl 1 rfl; have hf1_ := H.out.frozen 0 rfl 1; have hc2_ := H.out.cellv (v := .string (⟨#[]⟩ : ByteArray)) 0 rfl 2 rfl; have hf2_ := H.out.frozen 0 rfl 2; have hc3_ := H.out.cellv (v := .int .i64 0) 0 rfl 3 rfl; have hf3_ := H.out.frozen 0 rfl 3; have hc4_ := H.out.cellv (v := .int .i64 0) 0 rfl 4 rfl; have hf4_ := H.out.frozen 0 rfl 4; refine store_at (fun W => (World.setCell (World.setCell (World.setCell (World.setCell (World.setCell W ⟨g9, 0, none⟩ (.string (⟨#[]⟩ : ByteArray))) ⟨g9, 1, none⟩ (.bool false)) ⟨g9, 2, none⟩ (.string (⟨#[]⟩ : ByteArray))) ⟨g9, 3, none⟩ (.int .i64 a1)) ⟨g9, 4, none⟩ (.int .i64 0))) ?hg rfl ?hd ?hr ?_; (case hg => rfl); (case hd => rfl); (case hr => first | (go_simp; done) | (go_simp; rfl)); intro w5 hw; have H_ := Aside0.mk (show Hs w w5 [(g9, .cells #[.string (⟨#[]⟩ : ByteArray), .bool false, .string (⟨#[]⟩ : ByteArray), .int .i64 a1, .int .i64 0] 48 (0, 0)), (gc, .cells #[.string p1, .int .i64 q1] 75 (0, 0)), (g4, .cells #[.string (⟨#[]⟩ : ByteArray), .bool false, .string (⟨#[]⟩ : ByteArray), .int .i64 0, .int .i64 0] 48 (0, 0))] from by rw [hw]; exact (((((H.out.set 0 rfl 0 (.string (⟨#[]⟩ : ByteArray))).set 0 rfl 1 (.bool false)).set 0 rfl 2 (.string (⟨#[]⟩ : ByteArray))).set 0 rfl 3 (.int .i64 a1)).set 0 rfl 4 (.int .i64 0))); clear hw hc0_ hf0_ hc1_ hf1_ hc2_ hf2_ hc3_ hf3_ hc4_ hf4_; clear H; have H := H_; clear H_)
    | ((with_reducible refine gate_callee (f := 45) rfl ?_); (try (refine gate_guard (by rfl) ?_; dsimp only)); refine goesL_ (some 36) rfl rfl Tryd.func45 (by kernel_rfl) rfl #[.pointer (some ⟨gc, 0, none⟩)] rfl (by (try simp only [List.map_toArray, List.map_cons, List.map_nil]); first | done | rfl) ?_; (with_reducible refine (impl_cursor_text.calls k gc p1 q1 t1 false p2 q2 w _ ?hI ?hB A2.out).mono ?_); (case hI => exact ⟨H.out.get 1 rfl, H.out.ge 1 rfl⟩); (case hB => exact H.out.below); rintro e w6 ⟨rfl, hi, hb, hk⟩; refine ⟨_, rfl, ?_⟩; have H_ := Aside0.mk (show Hs w w6 [(g9, .cells #[.string (⟨#[]⟩ : ByteArray), .bool false, .string (⟨#[]⟩ : ByteArray), .int .i64 a1, .int .i64 0] 48 (0, 0)), (gc, .cells #[.string p2, .int .i64 q2] 75 (0, 0)), (g4, .cells #[.string (⟨#[]⟩ : ByteArray), .bool false, .string (⟨#[]⟩ : ByteArray), .int .i64 0, .int .i64 0] 48 (0, 0))] from H.out.keep 1 rfl hb hk hi.1); clear hi hb hk; clear H; have H := H_; clear H_))
  have hcz4_0 : w6.cell? ⟨g4, 0, none⟩ = some (.string (⟨#[]⟩ : ByteArray)) := H.out.cell 2 rfl 0
  have hcz4_1 : w6.cell? ⟨g4, 1, none⟩ = some (.bool false) := H.out.cell 2 rfl 1
  have hcz4_2 : w6.cell? ⟨g4, 2, none⟩ = some (.string (⟨#[]⟩ : ByteArray)) := H.out.cell 2 rfl 2
  have hcz4_3 : w6.cell? ⟨g4, 3, none⟩ = some (.int .i64 0) := H.out.cell 2 rfl 3
  have hcz4_4 : w6.cell? ⟨g4, 4, none⟩ = some (.int .i64 0) := H.out.cell 2 rfl 4
  have hfz4_0 : w6.frozen? ⟨g4, 0, none⟩ = false := H.out.frozen 2 rfl 0
  have hfz4_1 : w6.frozen? ⟨g4, 1, none⟩ = false := H.out.frozen 2 rfl 1
  have hfz4_2 : w6.frozen? ⟨g4, 2, none⟩ = false := H.out.frozen 2 rfl 2
  have hfz4_3 : w6.frozen? ⟨g4, 3, none⟩ = false := H.out.frozen 2 rfl 3
  have hfz4_4 : w6.frozen? ⟨g4, 4, none⟩ = false := H.out.frozen 2 rfl 4
  have hg0 : w6.cell? ⟨0, 0, none⟩ = some (.iface 121 (.pointer (some e0))) := pw_cell_below H.out.below h0
  have hg1 : w6.cell? ⟨1, 0, none⟩ = some (.iface 121 (.pointer (some e1))) := pw_cell_below H.out.below h1
  have hn1 : g4 ≠ 0 := fun e => absurd (e ▸ H.out.ge 2 rfl) (by have := Z1.out; omega)
  have hn2 : g4 ≠ 1 := fun e => absurd (e ▸ H.out.ge 2 rfl) (by have := Z1.out; omega)
  have hn3 : 0 ≠ g4 := Ne.symm hn1
  have hn4 : 1 ≠ g4 := Ne.symm hn2
  go_region
  all_goals go_wp2
  all_goals refine bodyPost_ret (results_ct rfl _ _ g4 48 #[.string (⟨#[]⟩ : ByteArray), .bool false, .string (⟨#[]⟩ : ByteArray), .int .i64 0, .int .i64 0] (0, 0) _ rfl (by refine blk_put (cs := #[.string (⟨#[]⟩ : ByteArray), .bool false, .string (⟨#[]⟩ : ByteArray), .int .i64 0, .int .i64 0]) ?_ 4 _ rfl; refine blk_put (cs := #[.string (⟨#[]⟩ : ByteArray), .bool false, .string (⟨#[]⟩ : ByteArray), .int .i64 0, .int .i64 0]) ?_ 3 _ rfl; refine blk_put (cs := #[.string (⟨#[]⟩ : ByteArray), .bool false, .string (⟨#[]⟩ : ByteArray), .int .i64 0, .int .i64 0]) ?_ 2 _ rfl; refine blk_put (cs := #[.string (⟨#[]⟩ : ByteArray), .bool false, .string (⟨#[]⟩ : ByteArray), .int .i64 0, .int .i64 0]) ?_ 1 _ rfl; refine blk_put (cs := #[.string (⟨#[]⟩ : ByteArray), .bool false, .string (⟨#[]⟩ : ByteArray), .int .i64 0, .int .i64 0]) ?_ 0 _ rfl; exact H.out.get 2 rfl) Tryd.underlying48 rfl (by kernel_rfl)) rfl ⟨rfl, ?_⟩
  all_goals repeat (first | (with_reducible first | exact H.out.below | apply below_alloc | apply pw_below_drewN | apply below_drew1 | refine below_set ?_ (H.out.ge 2 rfl)) | exact H.out.below)

set_option maxHeartbeats 8000000 in
set_option maxRecDepth 100000 in
theorem rec_L4 (k : Nat) (a0 : ByteArray) (a1 : Int) (e0 e1 : Addr) (w : World) (h0 : w.cell? ⟨0, 0, none⟩ = some (.iface 121 (.pointer (some e0)))) (h1 : w.cell? ⟨1, 0, none⟩ = some (.iface 121 (.pointer (some e1)))) (b1 : Int) (p1 : ByteArray) (q1 : Int) (x1 : impl_cursor_next.f a0 a1 = some (b1, true, p1, q1)) (t1 : ByteArray) (p2 : ByteArray) (q2 : Int) (x2 : impl_cursor_text.f k p1 q1 = some (t1, true, p2, q2)) (x231 : b1 = 231) (xt : t1.size < 1) :
    Calls Tryd.prog 24 #[.string a0, .int .i64 a1] w fun e w' => e = .returned (.tuple #[.agg #[.string (⟨#[]⟩ : ByteArray), .bool false, .string (⟨#[]⟩ : ByteArray), .int .i64 0, .int .i64 0], .iface 121 (.pointer (some e1))]) ∧ Below w.heap.size w w' := by
  have Z1 := Aside0.mk (two_below h0 h1)
  have A1 := Aside0.mk x1
  have A2 := Aside0.mk x2
  clear x1 x2
  have m0 := x231
  have m1 : (b1 == 231) = true := by simpa using x231
  have m2 : (b1 != 231) = false := by simpa using x231
  have t3 : decide ((t1.size : Int) < 1) = true := decide_eq_true (by omega)
  go_enter Tryd.func24, Tryd.ntmps24
  have H := Aside0.mk (Hs.nil w)
  go_wp2_with (first
    | ((with_reducible refine gate_dst (N := 4) rfl ?_); (try (refine gate_guard (by rfl) ?_; dsimp only)); refine box_event ?hg (N := 4) ?hd (cs := #[.string (⟨#[]⟩ : ByteArray), .bool false, .string (⟨#[]⟩ : ByteArray), .int .i64 0, .int .i64 0]) (t := 48) ?hr ?_; (case hd => rfl); (case hg => rfl); (case hr => first | (go_simp; done) | (go_simp; rfl)); intro g4 hg w1 hbox hb; have H_ := Aside0.mk (Hs.push H.out (Nat.le_of_eq hg.symm) hbox hb); clear hbox hb hg; clear H; have H := H_; clear H_)
    | ((with_reducible refine gate_dst (N := 18) rfl ?_); (try (refine gate_guard (by rfl) ?_; dsimp only)); refine box_event ?hg (N := 18) ?hd (cs := #[.string a0, .int .i64 a1]) (t := 75) ?hr ?_; (case hd => rfl); (case hg => rfl); (case hr => first | (go_simp; done) | (go_simp; rfl)); intro gc hg w2 hbox hb; have H_ := Aside0.mk (Hs.push H.out (Nat.le_of_eq hg.symm) hbox hb); clear hbox hb hg; clear H; have H := H_; clear H_)
    | ((with_reducible refine gate_callee (f := 44) rfl ?_); (try (refine gate_guard (by rfl) ?_; dsimp only)); refine goesL_ (some 21) rfl rfl Tryd.func44 (by kernel_rfl) rfl #[.pointer (some ⟨gc, 0, none⟩)] rfl (by (try simp only [List.map_toArray, List.map_cons, List.map_nil]); first | done | rfl) ?_; (with_reducible refine (impl_cursor_next.calls gc a0 a1 b1 true p1 q1 w _ ?hI ?hB A1.out).mono ?_); (case hI => exact ⟨H.out.get 0 rfl, H.out.ge 0 rfl⟩); (case hB => exact H.out.below); rintro e w3 ⟨rfl, hi, hb, hk⟩; refine ⟨_, rfl, ?_⟩; have H_ := Aside0.mk (show Hs w w3 [(gc, .cells #[.string p1, .int .i64 q1] 75 (0, 0)), (g4, .cells #[.string (⟨#[]⟩ : ByteArray), .bool false, .string (⟨#[]⟩ : ByteArray), .int .i64 0, .int .i64 0] 48 (0, 0))] from H.out.keep 0 rfl hb hk hi.1); clear hi hb hk; clear H; have H := H_; clear H_)
    | ((with_reducible refine gate_dst (N := 9) rfl ?_); (try (refine gate_guard (by rfl) ?_; dsimp only)); refine box_event ?hg (N := 9) ?hd (cs := #[.string (⟨#[]⟩ : ByteArray), .bool false, .string (⟨#[]⟩ : ByteArray), .int .i64 0, .int .i64 0]) (t := 48) ?hr ?_; (case hd => rfl); (case hg => rfl); (case hr => first | (go_simp; done) | (go_simp; rfl)); intro g9 hg w4 hbox hb; have H_ := Aside0.mk (Hs.push H.out (Nat.le_of_eq hg.symm) hbox hb); clear hbox hb hg; clear H; have H := H_; clear H_)
    | ((with_reducible refine gate_store (p := 9) rfl ?_); (try (refine gate_guard (by rfl) ?_; dsimp only)); have hc0_ := H.out.cellv (v := .string (⟨#[]⟩ : ByteArray)) 0 rfl 0 rfl; have hf0_ := H.out.frozen 0 rfl 0; have hc1_ := H.out.cellv (v := .bool false) 0 rfl 1 rfl; have hf1_ := H.out.frozen 0 rfl 1; have hc2_ := H.out.cellv (v := .string (⟨#[]⟩ : ByteArray)) 0 rfl 2 rfl; have hf2_ := H.out.frozen 0 rfl 2; have hc3_ := H.out.cellv (v := .int .i64 0) 0 rfl 3 rfl; have hf3_ := H.out.frozen 0 rfl 3; have hc4_ := H.out.cellv (v := .int .i64 0) 0 rfl 4 rfl; have hf4_ := H.out.frozen 0 rfl 4; refine store_at (fun W => (World.setCell (World.setCell (World.setCell (World.setCell (World.setCell W ⟨g9, 0, none⟩ (.string (⟨#[]⟩ : ByteArray))) ⟨g9, 1, none⟩ (.bool false)) ⟨g9, 2, none⟩ (.string (⟨#[]⟩ : ByteArray))) ⟨g9, 3, none⟩ (.int .i64 a1)) ⟨g9, 4, none⟩ (.int .i64 0))) ?hg rfl ?hd ?hr ?_; (case hg => rfl); (case hd => rfl); (case hr => first | (go_simp; done) | (go_simp; rfl)); intro w5 hw; have H_ := Aside0.mk (show Hs w w5 [(g9, .cells #[.string (⟨#[]⟩ : ByteArray), .bool false, .string (⟨#[]⟩ : ByteArray), .int .i64 a1, .int .i64 0] 48 (0, 0)), (gc, .cells #[.string p1, .int .i64 q1] 75 (0, 0)), (g4, .cells #[.string (⟨#[]⟩ : ByteArray), .bool false, .string (⟨#[]⟩ : ByteArray), .int .i64 0, .int .i64 0] 48 (0, 0))] from by rw [hw]; exact (((((H.out.set 0 rfl 0 (.string (⟨#[]⟩ : ByteArray))).set 0 rfl 1 (.bool false)).set 0 rfl 2 (.string (⟨#[]⟩ : ByteArray))).set 0 rfl 3 (.int .i64 a1)).set 0 rfl 4 (.int .i64 0))); clear hw hc0_ hf0_ hc1_ hf1_ hc2_ hf2_ hc3_ hf3_ hc4_ hf4_; clear H; have H := H_; clear H_)
    | ((with_reducible refine gate_callee (f := 45) rfl ?_); (try (refine gate_guard (by rfl) ?_; dsimp only)); refine goesL_ (some 36) rfl rfl Tryd.func45 (by kernel_rfl) rfl #[.pointer (some ⟨gc, 0, none⟩)] rfl (by (try simp only [List.map_toArray, List.map_cons, List.map_nil]); first | done | rfl) ?_; (with_reducible refine (impl_cursor_text.calls k gc p1 q1 t1 true p2 q2 w _ ?hI ?hB A2.out).mono ?_); (case hI => exact ⟨H.out.get 1 rfl, H.out.ge 1 rfl⟩); (case hB => exact H.out.below); rintro e w6 ⟨rfl, hi, hb, hk⟩; refine ⟨_, rfl, ?_⟩; have H_ := Aside0.mk (show Hs w w6 [(g9, .cells #[.string (⟨#[]⟩ : ByteArray), .bool false, .string (⟨#[]⟩ : ByteArray), .int .i64 a1, .int .i64 0] 48 (0, 0)), (gc, .cells #[.string p2, .int .i64 q2] 75 (0, 0)), (g4, .cells #[.string (⟨#[]⟩ : ByteArray), .bool false, .string (⟨#[]⟩ : ByteArray), .int .i64 0, .int .i64 0] 48 (0, 0))] from H.out.keep 1 rfl hb hk hi.1); clear hi hb hk; clear H; have H := H_; clear H_))
  have hcz4_0 : w6.cell? ⟨g4, 0, none⟩ = some (.string (⟨#[]⟩ : ByteArray)) := H.out.cell 2 rfl 0
  have hcz4_1 : w6.cell? ⟨g4, 1, none⟩ = some (.bool false) := H.out.cell 2 rfl 1
  have hcz4_2 : w6.cell? ⟨g4, 2, none⟩ = some (.string (⟨#[]⟩ : ByteArray)) := H.out.cell 2 rfl 2
  have hcz4_3 : w6.cell? ⟨g4, 3, none⟩ = some (.int .i64 0) := H.out.cell 2 rfl 3
  have hcz4_4 : w6.cell? ⟨g4, 4, none⟩ = some (.int .i64 0) := H.out.cell 2 rfl 4
  have hfz4_0 : w6.frozen? ⟨g4, 0, none⟩ = false := H.out.frozen 2 rfl 0
  have hfz4_1 : w6.frozen? ⟨g4, 1, none⟩ = false := H.out.frozen 2 rfl 1
  have hfz4_2 : w6.frozen? ⟨g4, 2, none⟩ = false := H.out.frozen 2 rfl 2
  have hfz4_3 : w6.frozen? ⟨g4, 3, none⟩ = false := H.out.frozen 2 rfl 3
  have hfz4_4 : w6.frozen? ⟨g4, 4, none⟩ = false := H.out.frozen 2 rfl 4
  have hg0 : w6.cell? ⟨0, 0, none⟩ = some (.iface 121 (.pointer (some e0))) := pw_cell_below H.out.below h0
  have hg1 : w6.cell? ⟨1, 0, none⟩ = some (.iface 121 (.pointer (some e1))) := pw_cell_below H.out.below h1
  have hn1 : g4 ≠ 0 := fun e => absurd (e ▸ H.out.ge 2 rfl) (by have := Z1.out; omega)
  have hn2 : g4 ≠ 1 := fun e => absurd (e ▸ H.out.ge 2 rfl) (by have := Z1.out; omega)
  have hn3 : 0 ≠ g4 := Ne.symm hn1
  have hn4 : 1 ≠ g4 := Ne.symm hn2
  go_region
  all_goals go_wp2
  all_goals refine bodyPost_ret (results_ct rfl _ _ g4 48 #[.string (⟨#[]⟩ : ByteArray), .bool false, .string (⟨#[]⟩ : ByteArray), .int .i64 0, .int .i64 0] (0, 0) _ rfl (by refine blk_put (cs := #[.string (⟨#[]⟩ : ByteArray), .bool false, .string (⟨#[]⟩ : ByteArray), .int .i64 0, .int .i64 0]) ?_ 4 _ rfl; refine blk_put (cs := #[.string (⟨#[]⟩ : ByteArray), .bool false, .string (⟨#[]⟩ : ByteArray), .int .i64 0, .int .i64 0]) ?_ 3 _ rfl; refine blk_put (cs := #[.string (⟨#[]⟩ : ByteArray), .bool false, .string (⟨#[]⟩ : ByteArray), .int .i64 0, .int .i64 0]) ?_ 2 _ rfl; refine blk_put (cs := #[.string (⟨#[]⟩ : ByteArray), .bool false, .string (⟨#[]⟩ : ByteArray), .int .i64 0, .int .i64 0]) ?_ 1 _ rfl; refine blk_put (cs := #[.string (⟨#[]⟩ : ByteArray), .bool false, .string (⟨#[]⟩ : ByteArray), .int .i64 0, .int .i64 0]) ?_ 0 _ rfl; exact H.out.get 2 rfl) Tryd.underlying48 rfl (by kernel_rfl)) rfl ⟨rfl, ?_⟩
  all_goals repeat (first | (with_reducible first | exact H.out.below | apply below_alloc | apply pw_below_drewN | apply below_drew1 | refine below_set ?_ (H.out.ge 2 rfl)) | exact H.out.below)

set_option maxHeartbeats 8000000 in
set_option maxRecDepth 100000 in
theorem rec_L5 (k : Nat) (a0 : ByteArray) (a1 : Int) (e0 e1 : Addr) (w : World) (h0 : w.cell? ⟨0, 0, none⟩ = some (.iface 121 (.pointer (some e0)))) (h1 : w.cell? ⟨1, 0, none⟩ = some (.iface 121 (.pointer (some e1)))) (b1 : Int) (p1 : ByteArray) (q1 : Int) (x1 : impl_cursor_next.f a0 a1 = some (b1, true, p1, q1)) (t1 : ByteArray) (p2 : ByteArray) (q2 : Int) (x2 : impl_cursor_text.f k p1 q1 = some (t1, true, p2, q2)) (x231 : b1 = 231) (xt : 200 < t1.size) :
    Calls Tryd.prog 24 #[.string a0, .int .i64 a1] w fun e w' => e = .returned (.tuple #[.agg #[.string (⟨#[]⟩ : ByteArray), .bool false, .string (⟨#[]⟩ : ByteArray), .int .i64 0, .int .i64 0], .iface 121 (.pointer (some e1))]) ∧ Below w.heap.size w w' := by
  have Z1 := Aside0.mk (two_below h0 h1)
  have A1 := Aside0.mk x1
  have A2 := Aside0.mk x2
  clear x1 x2
  have m0 := x231
  have m1 : (b1 == 231) = true := by simpa using x231
  have m2 : (b1 != 231) = false := by simpa using x231
  have t3 : decide ((t1.size : Int) < 1) = false := decide_eq_false (by omega)
  have t4 : decide (200 < (t1.size : Int)) = true := decide_eq_true (by omega)
  go_enter Tryd.func24, Tryd.ntmps24
  have H := Aside0.mk (Hs.nil w)
  go_wp2_with (first
    | ((with_reducible refine gate_dst (N := 4) rfl ?_); (try (refine gate_guard (by rfl) ?_; dsimp only)); refine box_event ?hg (N := 4) ?hd (cs := #[.string (⟨#[]⟩ : ByteArray), .bool false, .string (⟨#[]⟩ : ByteArray), .int .i64 0, .int .i64 0]) (t := 48) ?hr ?_; (case hd => rfl); (case hg => rfl); (case hr => first | (go_simp; done) | (go_simp; rfl)); intro g4 hg w1 hbox hb; have H_ := Aside0.mk (Hs.push H.out (Nat.le_of_eq hg.symm) hbox hb); clear hbox hb hg; clear H; have H := H_; clear H_)
    | ((with_reducible refine gate_dst (N := 18) rfl ?_); (try (refine gate_guard (by rfl) ?_; dsimp only)); refine box_event ?hg (N := 18) ?hd (cs := #[.string a0, .int .i64 a1]) (t := 75) ?hr ?_; (case hd => rfl); (case hg => rfl); (case hr => first | (go_simp; done) | (go_simp; rfl)); intro gc hg w2 hbox hb; have H_ := Aside0.mk (Hs.push H.out (Nat.le_of_eq hg.symm) hbox hb); clear hbox hb hg; clear H; have H := H_; clear H_)
    | ((with_reducible refine gate_callee (f := 44) rfl ?_); (try (refine gate_guard (by rfl) ?_; dsimp only)); refine goesL_ (some 21) rfl rfl Tryd.func44 (by kernel_rfl) rfl #[.pointer (some ⟨gc, 0, none⟩)] rfl (by (try simp only [List.map_toArray, List.map_cons, List.map_nil]); first | done | rfl) ?_; (with_reducible refine (impl_cursor_next.calls gc a0 a1 b1 true p1 q1 w _ ?hI ?hB A1.out).mono ?_); (case hI => exact ⟨H.out.get 0 rfl, H.out.ge 0 rfl⟩); (case hB => exact H.out.below); rintro e w3 ⟨rfl, hi, hb, hk⟩; refine ⟨_, rfl, ?_⟩; have H_ := Aside0.mk (show Hs w w3 [(gc, .cells #[.string p1, .int .i64 q1] 75 (0, 0)), (g4, .cells #[.string (⟨#[]⟩ : ByteArray), .bool false, .string (⟨#[]⟩ : ByteArray), .int .i64 0, .int .i64 0] 48 (0, 0))] from H.out.keep 0 rfl hb hk hi.1); clear hi hb hk; clear H; have H := H_; clear H_)
    | ((with_reducible refine gate_dst (N := 9) rfl ?_); (try (refine gate_guard (by rfl) ?_; dsimp only)); refine box_event ?hg (N := 9) ?hd (cs := #[.string (⟨#[]⟩ : ByteArray), .bool false, .string (⟨#[]⟩ : ByteArray), .int .i64 0, .int .i64 0]) (t := 48) ?hr ?_; (case hd => rfl); (case hg => rfl); (case hr => first | (go_simp; done) | (go_simp; rfl)); intro g9 hg w4 hbox hb; have H_ := Aside0.mk (Hs.push H.out (Nat.le_of_eq hg.symm) hbox hb); clear hbox hb hg; clear H; have H := H_; clear H_)
    | ((with_reducible refine gate_store (p := 9) rfl ?_); (try (refine gate_guard (by rfl) ?_; dsimp only)); have hc0_ := H.out.cellv (v := .string (⟨#[]⟩ : ByteArray)) 0 rfl 0 rfl; have hf0_ := H.out.frozen 0 rfl 0; have hc1_ := H.out.cellv (v := .bool false) 0 rfl 1 rfl; have hf1_ := H.out.frozen 0 rfl 1; have hc2_ := H.out.cellv (v := .string (⟨#[]⟩ : ByteArray)) 0 rfl 2 rfl; have hf2_ := H.out.frozen 0 rfl 2; have hc3_ := H.out.cellv (v := .int .i64 0) 0 rfl 3 rfl; have hf3_ := H.out.frozen 0 rfl 3; have hc4_ := H.out.cellv (v := .int .i64 0) 0 rfl 4 rfl; have hf4_ := H.out.frozen 0 rfl 4; refine store_at (fun W => (World.setCell (World.setCell (World.setCell (World.setCell (World.setCell W ⟨g9, 0, none⟩ (.string (⟨#[]⟩ : ByteArray))) ⟨g9, 1, none⟩ (.bool false)) ⟨g9, 2, none⟩ (.string (⟨#[]⟩ : ByteArray))) ⟨g9, 3, none⟩ (.int .i64 a1)) ⟨g9, 4, none⟩ (.int .i64 0))) ?hg rfl ?hd ?hr ?_; (case hg => rfl); (case hd => rfl); (case hr => first | (go_simp; done) | (go_simp; rfl)); intro w5 hw; have H_ := Aside0.mk (show Hs w w5 [(g9, .cells #[.string (⟨#[]⟩ : ByteArray), .bool false, .string (⟨#[]⟩ : ByteArray), .int .i64 a1, .int .i64 0] 48 (0, 0)), (gc, .cells #[.string p1, .int .i64 q1] 75 (0, 0)), (g4, .cells #[.string (⟨#[]⟩ : ByteArray), .bool false, .string (⟨#[]⟩ : ByteArray), .int .i64 0, .int .i64 0] 48 (0, 0))] from by rw [hw]; exact (((((H.out.set 0 rfl 0 (.string (⟨#[]⟩ : ByteArray))).set 0 rfl 1 (.bool false)).set 0 rfl 2 (.string (⟨#[]⟩ : ByteArray))).set 0 rfl 3 (.int .i64 a1)).set 0 rfl 4 (.int .i64 0))); clear hw hc0_ hf0_ hc1_ hf1_ hc2_ hf2_ hc3_ hf3_ hc4_ hf4_; clear H; have H := H_; clear H_)
    | ((with_reducible refine gate_callee (f := 45) rfl ?_); (try (refine gate_guard (by rfl) ?_; dsimp only)); refine goesL_ (some 36) rfl rfl Tryd.func45 (by kernel_rfl) rfl #[.pointer (some ⟨gc, 0, none⟩)] rfl (by (try simp only [List.map_toArray, List.map_cons, List.map_nil]); first | done | rfl) ?_; (with_reducible refine (impl_cursor_text.calls k gc p1 q1 t1 true p2 q2 w _ ?hI ?hB A2.out).mono ?_); (case hI => exact ⟨H.out.get 1 rfl, H.out.ge 1 rfl⟩); (case hB => exact H.out.below); rintro e w6 ⟨rfl, hi, hb, hk⟩; refine ⟨_, rfl, ?_⟩; have H_ := Aside0.mk (show Hs w w6 [(g9, .cells #[.string (⟨#[]⟩ : ByteArray), .bool false, .string (⟨#[]⟩ : ByteArray), .int .i64 a1, .int .i64 0] 48 (0, 0)), (gc, .cells #[.string p2, .int .i64 q2] 75 (0, 0)), (g4, .cells #[.string (⟨#[]⟩ : ByteArray), .bool false, .string (⟨#[]⟩ : ByteArray), .int .i64 0, .int .i64 0] 48 (0, 0))] from H.out.keep 1 rfl hb hk hi.1); clear hi hb hk; clear H; have H := H_; clear H_))
  have hcz4_0 : w6.cell? ⟨g4, 0, none⟩ = some (.string (⟨#[]⟩ : ByteArray)) := H.out.cell 2 rfl 0
  have hcz4_1 : w6.cell? ⟨g4, 1, none⟩ = some (.bool false) := H.out.cell 2 rfl 1
  have hcz4_2 : w6.cell? ⟨g4, 2, none⟩ = some (.string (⟨#[]⟩ : ByteArray)) := H.out.cell 2 rfl 2
  have hcz4_3 : w6.cell? ⟨g4, 3, none⟩ = some (.int .i64 0) := H.out.cell 2 rfl 3
  have hcz4_4 : w6.cell? ⟨g4, 4, none⟩ = some (.int .i64 0) := H.out.cell 2 rfl 4
  have hfz4_0 : w6.frozen? ⟨g4, 0, none⟩ = false := H.out.frozen 2 rfl 0
  have hfz4_1 : w6.frozen? ⟨g4, 1, none⟩ = false := H.out.frozen 2 rfl 1
  have hfz4_2 : w6.frozen? ⟨g4, 2, none⟩ = false := H.out.frozen 2 rfl 2
  have hfz4_3 : w6.frozen? ⟨g4, 3, none⟩ = false := H.out.frozen 2 rfl 3
  have hfz4_4 : w6.frozen? ⟨g4, 4, none⟩ = false := H.out.frozen 2 rfl 4
  have hg0 : w6.cell? ⟨0, 0, none⟩ = some (.iface 121 (.pointer (some e0))) := pw_cell_below H.out.below h0
  have hg1 : w6.cell? ⟨1, 0, none⟩ = some (.iface 121 (.pointer (some e1))) := pw_cell_below H.out.below h1
  have hn1 : g4 ≠ 0 := fun e => absurd (e ▸ H.out.ge 2 rfl) (by have := Z1.out; omega)
  have hn2 : g4 ≠ 1 := fun e => absurd (e ▸ H.out.ge 2 rfl) (by have := Z1.out; omega)
  have hn3 : 0 ≠ g4 := Ne.symm hn1
  have hn4 : 1 ≠ g4 := Ne.symm hn2
  go_region
  all_goals go_wp2
  all_goals refine bodyPost_ret (results_ct rfl _ _ g4 48 #[.string (⟨#[]⟩ : ByteArray), .bool false, .string (⟨#[]⟩ : ByteArray), .int .i64 0, .int .i64 0] (0, 0) _ rfl (by refine blk_put (cs := #[.string (⟨#[]⟩ : ByteArray), .bool false, .string (⟨#[]⟩ : ByteArray), .int .i64 0, .int .i64 0]) ?_ 4 _ rfl; refine blk_put (cs := #[.string (⟨#[]⟩ : ByteArray), .bool false, .string (⟨#[]⟩ : ByteArray), .int .i64 0, .int .i64 0]) ?_ 3 _ rfl; refine blk_put (cs := #[.string (⟨#[]⟩ : ByteArray), .bool false, .string (⟨#[]⟩ : ByteArray), .int .i64 0, .int .i64 0]) ?_ 2 _ rfl; refine blk_put (cs := #[.string (⟨#[]⟩ : ByteArray), .bool false, .string (⟨#[]⟩ : ByteArray), .int .i64 0, .int .i64 0]) ?_ 1 _ rfl; refine blk_put (cs := #[.string (⟨#[]⟩ : ByteArray), .bool false, .string (⟨#[]⟩ : ByteArray), .int .i64 0, .int .i64 0]) ?_ 0 _ rfl; exact H.out.get 2 rfl) Tryd.underlying48 rfl (by kernel_rfl)) rfl ⟨rfl, ?_⟩
  all_goals repeat (first | (with_reducible first | exact H.out.below | apply below_alloc | apply pw_below_drewN | apply below_drew1 | refine below_set ?_ (H.out.ge 2 rfl)) | exact H.out.below)

set_option maxHeartbeats 8000000 in
set_option maxRecDepth 100000 in
theorem rec_L6 (k : Nat) (a0 : ByteArray) (a1 : Int) (e0 e1 : Addr) (w : World) (h0 : w.cell? ⟨0, 0, none⟩ = some (.iface 121 (.pointer (some e0)))) (h1 : w.cell? ⟨1, 0, none⟩ = some (.iface 121 (.pointer (some e1)))) (b1 : Int) (p1 : ByteArray) (q1 : Int) (x1 : impl_cursor_next.f a0 a1 = some (b1, true, p1, q1)) (t1 : ByteArray) (p2 : ByteArray) (q2 : Int) (x2 : impl_cursor_text.f k p1 q1 = some (t1, true, p2, q2)) (b3 : Int) (p3 : ByteArray) (q3 : Int) (x3 : impl_cursor_next.f p2 q2 = some (b3, false, p3, q3)) (x231 : b1 = 231) (xt : 1 ≤ t1.size) (xu : t1.size ≤ 200) :
    Calls Tryd.prog 24 #[.string a0, .int .i64 a1] w fun e w' => e = .returned (.tuple #[.agg #[.string (⟨#[]⟩ : ByteArray), .bool false, .string (⟨#[]⟩ : ByteArray), .int .i64 0, .int .i64 0], .iface 121 (.pointer (some e1))]) ∧ Below w.heap.size w w' := by
  have Z1 := Aside0.mk (two_below h0 h1)
  have A1 := Aside0.mk x1
  have A2 := Aside0.mk x2
  have A3 := Aside0.mk x3
  clear x1 x2 x3
  have m0 := x231
  have m1 : (b1 == 231) = true := by simpa using x231
  have m2 : (b1 != 231) = false := by simpa using x231
  have t3 : decide ((t1.size : Int) < 1) = false := decide_eq_false (by omega)
  have t4 : decide (200 < (t1.size : Int)) = false := decide_eq_false (by omega)
  go_enter Tryd.func24, Tryd.ntmps24
  have H := Aside0.mk (Hs.nil w)
  go_wp2_with (first
    | ((with_reducible refine gate_dst (N := 4) rfl ?_); (try (refine gate_guard (by rfl) ?_; dsimp only)); refine box_event ?hg (N := 4) ?hd (cs := #[.string (⟨#[]⟩ : ByteArray), .bool false, .string (⟨#[]⟩ : ByteArray), .int .i64 0, .int .i64 0]) (t := 48) ?hr ?_; (case hd => rfl); (case hg => rfl); (case hr => first | (go_simp; done) | (go_simp; rfl)); intro g4 hg w1 hbox hb; have H_ := Aside0.mk (Hs.push H.out (Nat.le_of_eq hg.symm) hbox hb); clear hbox hb hg; clear H; have H := H_; clear H_)
    | ((with_reducible refine gate_dst (N := 18) rfl ?_); (try (refine gate_guard (by rfl) ?_; dsimp only)); refine box_event ?hg (N := 18) ?hd (cs := #[.string a0, .int .i64 a1]) (t := 75) ?hr ?_; (case hd => rfl); (case hg => rfl); (case hr => first | (go_simp; done) | (go_simp; rfl)); intro gc hg w2 hbox hb; have H_ := Aside0.mk (Hs.push H.out (Nat.le_of_eq hg.symm) hbox hb); clear hbox hb hg; clear H; have H := H_; clear H_)
    | ((with_reducible refine gate_callee (f := 44) rfl ?_); (try (refine gate_guard (by rfl) ?_; dsimp only)); refine goesL_ (some 21) rfl rfl Tryd.func44 (by kernel_rfl) rfl #[.pointer (some ⟨gc, 0, none⟩)] rfl (by (try simp only [List.map_toArray, List.map_cons, List.map_nil]); first | done | rfl) ?_; (with_reducible refine (impl_cursor_next.calls gc a0 a1 b1 true p1 q1 w _ ?hI ?hB A1.out).mono ?_); (case hI => exact ⟨H.out.get 0 rfl, H.out.ge 0 rfl⟩); (case hB => exact H.out.below); rintro e w3 ⟨rfl, hi, hb, hk⟩; refine ⟨_, rfl, ?_⟩; have H_ := Aside0.mk (show Hs w w3 [(gc, .cells #[.string p1, .int .i64 q1] 75 (0, 0)), (g4, .cells #[.string (⟨#[]⟩ : ByteArray), .bool false, .string (⟨#[]⟩ : ByteArray), .int .i64 0, .int .i64 0] 48 (0, 0))] from H.out.keep 0 rfl hb hk hi.1); clear hi hb hk; clear H; have H := H_; clear H_)
    | ((with_reducible refine gate_dst (N := 9) rfl ?_); (try (refine gate_guard (by rfl) ?_; dsimp only)); refine box_event ?hg (N := 9) ?hd (cs := #[.string (⟨#[]⟩ : ByteArray), .bool false, .string (⟨#[]⟩ : ByteArray), .int .i64 0, .int .i64 0]) (t := 48) ?hr ?_; (case hd => rfl); (case hg => rfl); (case hr => first | (go_simp; done) | (go_simp; rfl)); intro g9 hg w4 hbox hb; have H_ := Aside0.mk (Hs.push H.out (Nat.le_of_eq hg.symm) hbox hb); clear hbox hb hg; clear H; have H := H_; clear H_)
    | ((with_reducible refine gate_store (p := 9) rfl ?_); (try (refine gate_guard (by rfl) ?_; dsimp only)); have hc0_ := H.out.cellv (v := .string (⟨#[]⟩ : ByteArray)) 0 rfl 0 rfl; have hf0_ := H.out.frozen 0 rfl 0; have hc1_ := H.out.cellv (v := .bool false) 0 rfl 1 rfl; have hf1_ := H.out.frozen 0 rfl 1; have hc2_ := H.out.cellv (v := .string (⟨#[]⟩ : ByteArray)) 0 rfl 2 rfl; have hf2_ := H.out.frozen 0 rfl 2; have hc3_ := H.out.cellv (v := .int .i64 0) 0 rfl 3 rfl; have hf3_ := H.out.frozen 0 rfl 3; have hc4_ := H.out.cellv (v := .int .i64 0) 0 rfl 4 rfl; have hf4_ := H.out.frozen 0 rfl 4; refine store_at (fun W => (World.setCell (World.setCell (World.setCell (World.setCell (World.setCell W ⟨g9, 0, none⟩ (.string (⟨#[]⟩ : ByteArray))) ⟨g9, 1, none⟩ (.bool false)) ⟨g9, 2, none⟩ (.string (⟨#[]⟩ : ByteArray))) ⟨g9, 3, none⟩ (.int .i64 a1)) ⟨g9, 4, none⟩ (.int .i64 0))) ?hg rfl ?hd ?hr ?_; (case hg => rfl); (case hd => rfl); (case hr => first | (go_simp; done) | (go_simp; rfl)); intro w5 hw; have H_ := Aside0.mk (show Hs w w5 [(g9, .cells #[.string (⟨#[]⟩ : ByteArray), .bool false, .string (⟨#[]⟩ : ByteArray), .int .i64 a1, .int .i64 0] 48 (0, 0)), (gc, .cells #[.string p1, .int .i64 q1] 75 (0, 0)), (g4, .cells #[.string (⟨#[]⟩ : ByteArray), .bool false, .string (⟨#[]⟩ : ByteArray), .int .i64 0, .int .i64 0] 48 (0, 0))] from by rw [hw]; exact (((((H.out.set 0 rfl 0 (.string (⟨#[]⟩ : ByteArray))).set 0 rfl 1 (.bool false)).set 0 rfl 2 (.string (⟨#[]⟩ : ByteArray))).set 0 rfl 3 (.int .i64 a1)).set 0 rfl 4 (.int .i64 0))); clear hw hc0_ hf0_ hc1_ hf1_ hc2_ hf2_ hc3_ hf3_ hc4_ hf4_; clear H; have H := H_; clear H_)
    | ((with_reducible refine gate_callee (f := 45) rfl ?_); (try (refine gate_guard (by rfl) ?_; dsimp only)); refine goesL_ (some 36) rfl rfl Tryd.func45 (by kernel_rfl) rfl #[.pointer (some ⟨gc, 0, none⟩)] rfl (by (try simp only [List.map_toArray, List.map_cons, List.map_nil]); first | done | rfl) ?_; (with_reducible refine (impl_cursor_text.calls k gc p1 q1 t1 true p2 q2 w _ ?hI ?hB A2.out).mono ?_); (case hI => exact ⟨H.out.get 1 rfl, H.out.ge 1 rfl⟩); (case hB => exact H.out.below); rintro e w6 ⟨rfl, hi, hb, hk⟩; refine ⟨_, rfl, ?_⟩; have H_ := Aside0.mk (show Hs w w6 [(g9, .cells #[.string (⟨#[]⟩ : ByteArray), .bool false, .string (⟨#[]⟩ : ByteArray), .int .i64 a1, .int .i64 0] 48 (0, 0)), (gc, .cells #[.string p2, .int .i64 q2] 75 (0, 0)), (g4, .cells #[.string (⟨#[]⟩ : ByteArray), .bool false, .string (⟨#[]⟩ : ByteArray), .int .i64 0, .int .i64 0] 48 (0, 0))] from H.out.keep 1 rfl hb hk hi.1); clear hi hb hk; clear H; have H := H_; clear H_)
    | ((with_reducible refine gate_callee (f := 44) rfl ?_); (try (refine gate_guard (by rfl) ?_; dsimp only)); refine goesL_ (some 55) rfl rfl Tryd.func44 (by kernel_rfl) rfl #[.pointer (some ⟨gc, 0, none⟩)] rfl (by (try simp only [List.map_toArray, List.map_cons, List.map_nil]); first | done | rfl) ?_; (with_reducible refine (impl_cursor_next.calls gc p2 q2 b3 false p3 q3 w _ ?hI ?hB A3.out).mono ?_); (case hI => exact ⟨H.out.get 1 rfl, H.out.ge 1 rfl⟩); (case hB => exact H.out.below); rintro e w7 ⟨rfl, hi, hb, hk⟩; refine ⟨_, rfl, ?_⟩; have H_ := Aside0.mk (show Hs w w7 [(g9, .cells #[.string (⟨#[]⟩ : ByteArray), .bool false, .string (⟨#[]⟩ : ByteArray), .int .i64 a1, .int .i64 0] 48 (0, 0)), (gc, .cells #[.string p3, .int .i64 q3] 75 (0, 0)), (g4, .cells #[.string (⟨#[]⟩ : ByteArray), .bool false, .string (⟨#[]⟩ : ByteArray), .int .i64 0, .int .i64 0] 48 (0, 0))] from H.out.keep 1 rfl hb hk hi.1); clear hi hb hk; clear H; have H := H_; clear H_))
  have hcz4_0 : w7.cell? ⟨g4, 0, none⟩ = some (.string (⟨#[]⟩ : ByteArray)) := H.out.cell 2 rfl 0
  have hcz4_1 : w7.cell? ⟨g4, 1, none⟩ = some (.bool false) := H.out.cell 2 rfl 1
  have hcz4_2 : w7.cell? ⟨g4, 2, none⟩ = some (.string (⟨#[]⟩ : ByteArray)) := H.out.cell 2 rfl 2
  have hcz4_3 : w7.cell? ⟨g4, 3, none⟩ = some (.int .i64 0) := H.out.cell 2 rfl 3
  have hcz4_4 : w7.cell? ⟨g4, 4, none⟩ = some (.int .i64 0) := H.out.cell 2 rfl 4
  have hfz4_0 : w7.frozen? ⟨g4, 0, none⟩ = false := H.out.frozen 2 rfl 0
  have hfz4_1 : w7.frozen? ⟨g4, 1, none⟩ = false := H.out.frozen 2 rfl 1
  have hfz4_2 : w7.frozen? ⟨g4, 2, none⟩ = false := H.out.frozen 2 rfl 2
  have hfz4_3 : w7.frozen? ⟨g4, 3, none⟩ = false := H.out.frozen 2 rfl 3
  have hfz4_4 : w7.frozen? ⟨g4, 4, none⟩ = false := H.out.frozen 2 rfl 4
  have hg0 : w7.cell? ⟨0, 0, none⟩ = some (.iface 121 (.pointer (some e0))) := pw_cell_below H.out.below h0
  have hg1 : w7.cell? ⟨1, 0, none⟩ = some (.iface 121 (.pointer (some e1))) := pw_cell_below H.out.below h1
  have hn1 : g4 ≠ 0 := fun e => absurd (e ▸ H.out.ge 2 rfl) (by have := Z1.out; omega)
  have hn2 : g4 ≠ 1 := fun e => absurd (e ▸ H.out.ge 2 rfl) (by have := Z1.out; omega)
  have hn3 : 0 ≠ g4 := Ne.symm hn1
  have hn4 : 1 ≠ g4 := Ne.symm hn2
  go_region
  all_goals go_wp2
  all_goals refine bodyPost_ret (results_ct rfl _ _ g4 48 #[.string (⟨#[]⟩ : ByteArray), .bool false, .string (⟨#[]⟩ : ByteArray), .int .i64 0, .int .i64 0] (0, 0) _ rfl (by refine blk_put (cs := #[.string (⟨#[]⟩ : ByteArray), .bool false, .string (⟨#[]⟩ : ByteArray), .int .i64 0, .int .i64 0]) ?_ 4 _ rfl; refine blk_put (cs := #[.string (⟨#[]⟩ : ByteArray), .bool false, .string (⟨#[]⟩ : ByteArray), .int .i64 0, .int .i64 0]) ?_ 3 _ rfl; refine blk_put (cs := #[.string (⟨#[]⟩ : ByteArray), .bool false, .string (⟨#[]⟩ : ByteArray), .int .i64 0, .int .i64 0]) ?_ 2 _ rfl; refine blk_put (cs := #[.string (⟨#[]⟩ : ByteArray), .bool false, .string (⟨#[]⟩ : ByteArray), .int .i64 0, .int .i64 0]) ?_ 1 _ rfl; refine blk_put (cs := #[.string (⟨#[]⟩ : ByteArray), .bool false, .string (⟨#[]⟩ : ByteArray), .int .i64 0, .int .i64 0]) ?_ 0 _ rfl; exact H.out.get 2 rfl) Tryd.underlying48 rfl (by kernel_rfl)) rfl ⟨rfl, ?_⟩
  all_goals repeat (first | (with_reducible first | exact H.out.below | apply below_alloc | apply pw_below_drewN | apply below_drew1 | refine below_set ?_ (H.out.ge 2 rfl)) | exact H.out.below)

set_option maxHeartbeats 8000000 in
set_option maxRecDepth 100000 in
theorem rec_L7 (k : Nat) (a0 : ByteArray) (a1 : Int) (e0 e1 : Addr) (w : World) (h0 : w.cell? ⟨0, 0, none⟩ = some (.iface 121 (.pointer (some e0)))) (h1 : w.cell? ⟨1, 0, none⟩ = some (.iface 121 (.pointer (some e1)))) (b1 : Int) (p1 : ByteArray) (q1 : Int) (x1 : impl_cursor_next.f a0 a1 = some (b1, true, p1, q1)) (t1 : ByteArray) (p2 : ByteArray) (q2 : Int) (x2 : impl_cursor_text.f k p1 q1 = some (t1, true, p2, q2)) (b3 : Int) (p3 : ByteArray) (q3 : Int) (x3 : impl_cursor_next.f p2 q2 = some (b3, true, p3, q3)) (x231 : b1 = 231) (xt : 1 ≤ t1.size) (xu : t1.size ≤ 200) (xg : 1 < b3) :
    Calls Tryd.prog 24 #[.string a0, .int .i64 a1] w fun e w' => e = .returned (.tuple #[.agg #[.string (⟨#[]⟩ : ByteArray), .bool false, .string (⟨#[]⟩ : ByteArray), .int .i64 0, .int .i64 0], .iface 121 (.pointer (some e1))]) ∧ Below w.heap.size w w' := by
  have Z1 := Aside0.mk (two_below h0 h1)
  have A1 := Aside0.mk x1
  have A2 := Aside0.mk x2
  have A3 := Aside0.mk x3
  clear x1 x2 x3
  have m0 := x231
  have m1 : (b1 == 231) = true := by simpa using x231
  have m2 : (b1 != 231) = false := by simpa using x231
  have t3 : decide ((t1.size : Int) < 1) = false := decide_eq_false (by omega)
  have t4 : decide (200 < (t1.size : Int)) = false := decide_eq_false (by omega)
  have g1 : decide (1 < b3) = true := decide_eq_true xg
  go_enter Tryd.func24, Tryd.ntmps24
  have H := Aside0.mk (Hs.nil w)
  go_wp2_with (first
    | ((with_reducible refine gate_dst (N := 4) rfl ?_); (try (refine gate_guard (by rfl) ?_; dsimp only)); refine box_event ?hg (N := 4) ?hd (cs := #[.string (⟨#[]⟩ : ByteArray), .bool false, .string (⟨#[]⟩ : ByteArray), .int .i64 0, .int .i64 0]) (t := 48) ?hr ?_; (case hd => rfl); (case hg => rfl); (case hr => first | (go_simp; done) | (go_simp; rfl)); intro g4 hg w1 hbox hb; have H_ := Aside0.mk (Hs.push H.out (Nat.le_of_eq hg.symm) hbox hb); clear hbox hb hg; clear H; have H := H_; clear H_)
    | ((with_reducible refine gate_dst (N := 18) rfl ?_); (try (refine gate_guard (by rfl) ?_; dsimp only)); refine box_event ?hg (N := 18) ?hd (cs := #[.string a0, .int .i64 a1]) (t := 75) ?hr ?_; (case hd => rfl); (case hg => rfl); (case hr => first | (go_simp; done) | (go_simp; rfl)); intro gc hg w2 hbox hb; have H_ := Aside0.mk (Hs.push H.out (Nat.le_of_eq hg.symm) hbox hb); clear hbox hb hg; clear H; have H := H_; clear H_)
    | ((with_reducible refine gate_callee (f := 44) rfl ?_); (try (refine gate_guard (by rfl) ?_; dsimp only)); refine goesL_ (some 21) rfl rfl Tryd.func44 (by kernel_rfl) rfl #[.pointer (some ⟨gc, 0, none⟩)] rfl (by (try simp only [List.map_toArray, List.map_cons, List.map_nil]); first | done | rfl) ?_; (with_reducible refine (impl_cursor_next.calls gc a0 a1 b1 true p1 q1 w _ ?hI ?hB A1.out).mono ?_); (case hI => exact ⟨H.out.get 0 rfl, H.out.ge 0 rfl⟩); (case hB => exact H.out.below); rintro e w3 ⟨rfl, hi, hb, hk⟩; refine ⟨_, rfl, ?_⟩; have H_ := Aside0.mk (show Hs w w3 [(gc, .cells #[.string p1, .int .i64 q1] 75 (0, 0)), (g4, .cells #[.string (⟨#[]⟩ : ByteArray), .bool false, .string (⟨#[]⟩ : ByteArray), .int .i64 0, .int .i64 0] 48 (0, 0))] from H.out.keep 0 rfl hb hk hi.1); clear hi hb hk; clear H; have H := H_; clear H_)
    | ((with_reducible refine gate_dst (N := 9) rfl ?_); (try (refine gate_guard (by rfl) ?_; dsimp only)); refine box_event ?hg (N := 9) ?hd (cs := #[.string (⟨#[]⟩ : ByteArray), .bool false, .string (⟨#[]⟩ : ByteArray), .int .i64 0, .int .i64 0]) (t := 48) ?hr ?_; (case hd => rfl); (case hg => rfl); (case hr => first | (go_simp; done) | (go_simp; rfl)); intro g9 hg w4 hbox hb; have H_ := Aside0.mk (Hs.push H.out (Nat.le_of_eq hg.symm) hbox hb); clear hbox hb hg; clear H; have H := H_; clear H_)
    | ((with_reducible refine gate_store (p := 9) rfl ?_); (try (refine gate_guard (by rfl) ?_; dsimp only)); have hc0_ := H.out.cellv (v := .string (⟨#[]⟩ : ByteArray)) 0 rfl 0 rfl; have hf0_ := H.out.frozen 0 rfl 0; have hc1_ := H.out.cellv (v := .bool false) 0 rfl 1 rfl; have hf1_ := H.out.frozen 0 rfl 1; have hc2_ := H.out.cellv (v := .string (⟨#[]⟩ : ByteArray)) 0 rfl 2 rfl; have hf2_ := H.out.frozen 0 rfl 2; have hc3_ := H.out.cellv (v := .int .i64 0) 0 rfl 3 rfl; have hf3_ := H.out.frozen 0 rfl 3; have hc4_ := H.out.cellv (v := .int .i64 0) 0 rfl 4 rfl; have hf4_ := H.out.frozen 0 rfl 4; refine store_at (fun W => (World.setCell (World.setCell (World.setCell (World.setCell (World.setCell W ⟨g9, 0, none⟩ (.string (⟨#[]⟩ : ByteArray))) ⟨g9, 1, none⟩ (.bool false)) ⟨g9, 2, none⟩ (.string (⟨#[]⟩ : ByteArray))) ⟨g9, 3, none⟩ (.int .i64 a1)) ⟨g9, 4, none⟩ (.int .i64 0))) ?hg rfl ?hd ?hr ?_; (case hg => rfl); (case hd => rfl); (case hr => first | (go_simp; done) | (go_simp; rfl)); intro w5 hw; have H_ := Aside0.mk (show Hs w w5 [(g9, .cells #[.string (⟨#[]⟩ : ByteArray), .bool false, .string (⟨#[]⟩ : ByteArray), .int .i64 a1, .int .i64 0] 48 (0, 0)), (gc, .cells #[.string p1, .int .i64 q1] 75 (0, 0)), (g4, .cells #[.string (⟨#[]⟩ : ByteArray), .bool false, .string (⟨#[]⟩ : ByteArray), .int .i64 0, .int .i64 0] 48 (0, 0))] from by rw [hw]; exact (((((H.out.set 0 rfl 0 (.string (⟨#[]⟩ : ByteArray))).set 0 rfl 1 (.bool false)).set 0 rfl 2 (.string (⟨#[]⟩ : ByteArray))).set 0 rfl 3 (.int .i64 a1)).set 0 rfl 4 (.int .i64 0))); clear hw hc0_ hf0_ hc1_ hf1_ hc2_ hf2_ hc3_ hf3_ hc4_ hf4_; clear H; have H := H_; clear H_)
    | ((with_reducible refine gate_callee (f := 45) rfl ?_); (try (refine gate_guard (by rfl) ?_; dsimp only)); refine goesL_ (some 36) rfl rfl Tryd.func45 (by kernel_rfl) rfl #[.pointer (some ⟨gc, 0, none⟩)] rfl (by (try simp only [List.map_toArray, List.map_cons, List.map_nil]); first | done | rfl) ?_; (with_reducible refine (impl_cursor_text.calls k gc p1 q1 t1 true p2 q2 w _ ?hI ?hB A2.out).mono ?_); (case hI => exact ⟨H.out.get 1 rfl, H.out.ge 1 rfl⟩); (case hB => exact H.out.below); rintro e w6 ⟨rfl, hi, hb, hk⟩; refine ⟨_, rfl, ?_⟩; have H_ := Aside0.mk (show Hs w w6 [(g9, .cells #[.string (⟨#[]⟩ : ByteArray), .bool false, .string (⟨#[]⟩ : ByteArray), .int .i64 a1, .int .i64 0] 48 (0, 0)), (gc, .cells #[.string p2, .int .i64 q2] 75 (0, 0)), (g4, .cells #[.string (⟨#[]⟩ : ByteArray), .bool false, .string (⟨#[]⟩ : ByteArray), .int .i64 0, .int .i64 0] 48 (0, 0))] from H.out.keep 1 rfl hb hk hi.1); clear hi hb hk; clear H; have H := H_; clear H_)
    | ((with_reducible refine gate_callee (f := 44) rfl ?_); (try (refine gate_guard (by rfl) ?_; dsimp only)); refine goesL_ (some 55) rfl rfl Tryd.func44 (by kernel_rfl) rfl #[.pointer (some ⟨gc, 0, none⟩)] rfl (by (try simp only [List.map_toArray, List.map_cons, List.map_nil]); first | done | rfl) ?_; (with_reducible refine (impl_cursor_next.calls gc p2 q2 b3 true p3 q3 w _ ?hI ?hB A3.out).mono ?_); (case hI => exact ⟨H.out.get 1 rfl, H.out.ge 1 rfl⟩); (case hB => exact H.out.below); rintro e w7 ⟨rfl, hi, hb, hk⟩; refine ⟨_, rfl, ?_⟩; have H_ := Aside0.mk (show Hs w w7 [(g9, .cells #[.string (⟨#[]⟩ : ByteArray), .bool false, .string (⟨#[]⟩ : ByteArray), .int .i64 a1, .int .i64 0] 48 (0, 0)), (gc, .cells #[.string p3, .int .i64 q3] 75 (0, 0)), (g4, .cells #[.string (⟨#[]⟩ : ByteArray), .bool false, .string (⟨#[]⟩ : ByteArray), .int .i64 0, .int .i64 0] 48 (0, 0))] from H.out.keep 1 rfl hb hk hi.1); clear hi hb hk; clear H; have H := H_; clear H_))
  have hcz4_0 : w7.cell? ⟨g4, 0, none⟩ = some (.string (⟨#[]⟩ : ByteArray)) := H.out.cell 2 rfl 0
  have hcz4_1 : w7.cell? ⟨g4, 1, none⟩ = some (.bool false) := H.out.cell 2 rfl 1
  have hcz4_2 : w7.cell? ⟨g4, 2, none⟩ = some (.string (⟨#[]⟩ : ByteArray)) := H.out.cell 2 rfl 2
  have hcz4_3 : w7.cell? ⟨g4, 3, none⟩ = some (.int .i64 0) := H.out.cell 2 rfl 3
  have hcz4_4 : w7.cell? ⟨g4, 4, none⟩ = some (.int .i64 0) := H.out.cell 2 rfl 4
  have hfz4_0 : w7.frozen? ⟨g4, 0, none⟩ = false := H.out.frozen 2 rfl 0
  have hfz4_1 : w7.frozen? ⟨g4, 1, none⟩ = false := H.out.frozen 2 rfl 1
  have hfz4_2 : w7.frozen? ⟨g4, 2, none⟩ = false := H.out.frozen 2 rfl 2
  have hfz4_3 : w7.frozen? ⟨g4, 3, none⟩ = false := H.out.frozen 2 rfl 3
  have hfz4_4 : w7.frozen? ⟨g4, 4, none⟩ = false := H.out.frozen 2 rfl 4
  have hg0 : w7.cell? ⟨0, 0, none⟩ = some (.iface 121 (.pointer (some e0))) := pw_cell_below H.out.below h0
  have hg1 : w7.cell? ⟨1, 0, none⟩ = some (.iface 121 (.pointer (some e1))) := pw_cell_below H.out.below h1
  have hn1 : g4 ≠ 0 := fun e => absurd (e ▸ H.out.ge 2 rfl) (by have := Z1.out; omega)
  have hn2 : g4 ≠ 1 := fun e => absurd (e ▸ H.out.ge 2 rfl) (by have := Z1.out; omega)
  have hn3 : 0 ≠ g4 := Ne.symm hn1
  have hn4 : 1 ≠ g4 := Ne.symm hn2
  go_region
  all_goals go_wp2
  all_goals refine bodyPost_ret (results_ct rfl _ _ g4 48 #[.string (⟨#[]⟩ : ByteArray), .bool false, .string (⟨#[]⟩ : ByteArray), .int .i64 0, .int .i64 0] (0, 0) _ rfl (by refine blk_put (cs := #[.string (⟨#[]⟩ : ByteArray), .bool false, .string (⟨#[]⟩ : ByteArray), .int .i64 0, .int .i64 0]) ?_ 4 _ rfl; refine blk_put (cs := #[.string (⟨#[]⟩ : ByteArray), .bool false, .string (⟨#[]⟩ : ByteArray), .int .i64 0, .int .i64 0]) ?_ 3 _ rfl; refine blk_put (cs := #[.string (⟨#[]⟩ : ByteArray), .bool false, .string (⟨#[]⟩ : ByteArray), .int .i64 0, .int .i64 0]) ?_ 2 _ rfl; refine blk_put (cs := #[.string (⟨#[]⟩ : ByteArray), .bool false, .string (⟨#[]⟩ : ByteArray), .int .i64 0, .int .i64 0]) ?_ 1 _ rfl; refine blk_put (cs := #[.string (⟨#[]⟩ : ByteArray), .bool false, .string (⟨#[]⟩ : ByteArray), .int .i64 0, .int .i64 0]) ?_ 0 _ rfl; exact H.out.get 2 rfl) Tryd.underlying48 rfl (by kernel_rfl)) rfl ⟨rfl, ?_⟩
  all_goals repeat (first | (with_reducible first | exact H.out.below | apply below_alloc | apply pw_below_drewN | apply below_drew1 | refine below_set ?_ (H.out.ge 2 rfl)) | exact H.out.below)

end Go.Proofs.YtncghlamcbhpmaaDoor.PFnExactScanRecords
