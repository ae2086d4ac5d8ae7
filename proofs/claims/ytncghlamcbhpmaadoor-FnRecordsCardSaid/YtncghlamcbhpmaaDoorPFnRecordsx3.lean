/-
  recordAt and GetRecord: what the calls do, where the two sentinels lie.
-/
import Derived.Test.YtncghlamcbhpmaaDoorPFnRecordsx0
import Derived.Test.YtncghlamcbhpmaaDoorPFnRecordsx2
import Derived.Test.YtncghlamcbhpmaaDoorRecAFnRecords
import Derived.Test.YtncghlamcbhpmaaDoorRecBFnRecords
namespace Go.Proofs.YtncghlamcbhpmaaDoor.PFnRecords
open Go.RowKit Go.Proofs.YtncghlamcbhpmaaDoorW.PrintWords Go.Proofs.YtncghlamcbhpmaaDoorW.PrintLast Go.Proofs.YtncghlamcbhpmaaDoorW.PrintMore
open Go.Proofs.YtncghlamcbhpmaaDoor.Hs

/-- The error that comes back: 0 none, 1 no mark, 2 bent. -/
def errV (e0 e1 : Addr) (c : Nat) : Value := match c with | 0 => .nilIface | 1 => .iface 121 (.pointer (some e0)) | _ => .iface 121 (.pointer (some e1))
def recBad (c : Nat) : Option (ByteArray × Bool × ByteArray × Int × Int × Nat) := some ((⟨#[]⟩ : ByteArray), false, (⟨#[]⟩ : ByteArray), 0, 0, c)
def impl_recordAt.f (k : Nat) (a0 : ByteArray) (a1 : Int) : Option (ByteArray × Bool × ByteArray × Int × Int × Nat) :=
  (impl_cursor_next.f a0 a1).bind fun x1 => if x1.2.1 = true ∧ x1.1 = 231 then
    (impl_cursor_text.f k x1.2.2.1 x1.2.2.2).bind fun x2 => if x2.2.1 = true ∧ 1 ≤ x2.1.size ∧ x2.1.size ≤ 200 then
      (impl_cursor_next.f x2.2.2.1 x2.2.2.2).bind fun x3 => if x3.2.1 = true ∧ x3.1 ≤ 1 then
        (impl_cursor_text.f k x3.2.2.1 x3.2.2.2).bind fun x4 => if x4.2.1 = true ∧ (x3.1 = 1 → x4.1.toList = (⟨#[]⟩ : ByteArray).toList) then
          (impl_cursor_take.f x4.2.2.1 x4.2.2.2 4).bind fun x5 => if x5.2.1 = true then
            if 0 ≤ a1 ∧ a1 ≤ x4.2.2.2 ∧ x4.2.2.2 ≤ (a0.size : Int) then
              (impl_SumOf.f k (a0.extract a1.toNat x4.2.2.2.toNat) 5).bind fun u1 => (impl_sumBytes.f u1).bind fun v1 =>
                if x5.1.toList = v1.toList then some (x2.1, decide (x3.1 = 1), x4.1, a1, x5.2.2.2, 0) else recBad 2
            else none
          else recBad 2
        else recBad 2
      else recBad 2
    else recBad 2
  else recBad 1
theorem impl_recordAt.mono : ∀ a0 a1 k, LeO (impl_recordAt.f k a0 a1) (impl_recordAt.f (k + 1) a0 a1) := by
  intro a0 a1 k
  unfold impl_recordAt.f
  exact LeO.bind (LeO.refl _) fun x1 => LeO.ite (LeO.bind (impl_cursor_text.mono _ _ k) fun x2 => LeO.ite (LeO.bind (LeO.refl _) fun x3 => LeO.ite (LeO.bind (impl_cursor_text.mono _ _ k) fun x4 => LeO.ite (LeO.bind (LeO.refl _) fun x5 => LeO.ite (LeO.ite (LeO.bind (impl_SumOf.mono _ _ k) fun u1 => LeO.refl _) (LeO.refl _)) (LeO.refl _)) (LeO.refl _)) (LeO.refl _)) (LeO.refl _)) (LeO.refl _)
theorem recBad_inv {c c' : Nat} {r1 r3 : ByteArray} {r2 : Bool} {r4 r5 : Int} (h : recBad c = some (r1, r2, r3, r4, r5, c')) : r1 = (⟨#[]⟩ : ByteArray) ∧ r2 = false ∧ r3 = (⟨#[]⟩ : ByteArray) ∧ r4 = 0 ∧ r5 = 0 ∧ c' = c := by
  simp only [recBad, Option.some.injEq, Prod.mk.injEq] at h
  exact ⟨h.1.symm, h.2.1.symm, h.2.2.1.symm, h.2.2.2.1.symm, h.2.2.2.2.1.symm, h.2.2.2.2.2.symm⟩
theorem impl_recordAt.calls (k : Nat) (a0 : ByteArray) (a1 : Int) (e0 e1 : Addr) (r1 : ByteArray) (r2 : Bool) (r3 : ByteArray) (r4 r5 : Int) (c : Nat) (w : World) (h0 : w.cell? ⟨0, 0, none⟩ = some (.iface 121 (.pointer (some e0)))) (h1 : w.cell? ⟨1, 0, none⟩ = some (.iface 121 (.pointer (some e1)))) (h : impl_recordAt.f k a0 a1 = some (r1, r2, r3, r4, r5, c)) :
    Calls Tryd.prog 24 #[.string a0, .int .i64 a1] w fun e w' => e = .returned (.tuple #[.agg #[.string r1, .bool r2, .string r3, .int .i64 r4, .int .i64 r5], errV e0 e1 c]) ∧ Below w.heap.size w w' := by
  unfold impl_recordAt.f at h
  obtain ⟨⟨b1, b2, p1, q1⟩, x1, h⟩ := Option.bind_eq_some_iff.mp h
  dsimp only at h
  by_cases c1 : b2 = true ∧ b1 = 231
  rotate_left
  · rw [if_neg c1] at h
    obtain ⟨rfl, rfl, rfl, rfl, rfl, rfl⟩ := recBad_inv h
    cases b2 with
    | false => exact rec_L1 k a0 a1 e0 e1 w h0 h1 b1 p1 q1 x1
    | true => exact rec_L2 k a0 a1 e0 e1 w h0 h1 b1 p1 q1 x1 (fun e => c1 ⟨rfl, e⟩)
  rw [if_pos c1] at h
  obtain ⟨rfl, y1⟩ := c1
  obtain ⟨⟨t1, t2, p2, q2⟩, x2, h⟩ := Option.bind_eq_some_iff.mp h
  dsimp only at h
  by_cases c2 : t2 = true ∧ 1 ≤ t1.size ∧ t1.size ≤ 200
  rotate_left
  · rw [if_neg c2] at h
    obtain ⟨rfl, rfl, rfl, rfl, rfl, rfl⟩ := recBad_inv h
    cases t2 with
    | false => exact rec_L3 k a0 a1 e0 e1 w h0 h1 b1 p1 q1 x1 t1 p2 q2 x2 y1
    | true =>
      by_cases c3 : t1.size < 1
      · exact rec_L4 k a0 a1 e0 e1 w h0 h1 b1 p1 q1 x1 t1 p2 q2 x2 y1 c3
      · exact rec_L5 k a0 a1 e0 e1 w h0 h1 b1 p1 q1 x1 t1 p2 q2 x2 y1 (Nat.lt_of_not_le fun e => c2 ⟨rfl, by omega, e⟩)
  rw [if_pos c2] at h
  obtain ⟨rfl, y2, y3⟩ := c2
  obtain ⟨⟨b3, b4, p3, q3⟩, x3, h⟩ := Option.bind_eq_some_iff.mp h
  dsimp only at h
  by_cases c3 : b4 = true ∧ b3 ≤ 1
  rotate_left
  · rw [if_neg c3] at h
    obtain ⟨rfl, rfl, rfl, rfl, rfl, rfl⟩ := recBad_inv h
    cases b4 with
    | false => exact rec_L6 k a0 a1 e0 e1 w h0 h1 b1 p1 q1 x1 t1 p2 q2 x2 b3 p3 q3 x3 y1 y2 y3
    | true => exact rec_L7 k a0 a1 e0 e1 w h0 h1 b1 p1 q1 x1 t1 p2 q2 x2 b3 p3 q3 x3 y1 y2 y3 (Int.lt_of_not_ge fun e => c3 ⟨rfl, e⟩)
  rw [if_pos c3] at h
  obtain ⟨rfl, y4⟩ := c3
  obtain ⟨⟨d1, d2, p4, q4⟩, x4, h⟩ := Option.bind_eq_some_iff.mp h
  dsimp only at h
  by_cases c4 : d2 = true ∧ (b3 = 1 → d1.toList = (⟨#[]⟩ : ByteArray).toList)
  rotate_left
  · rw [if_neg c4] at h
    obtain ⟨rfl, rfl, rfl, rfl, rfl, rfl⟩ := recBad_inv h
    cases d2 with
    | false =>
      by_cases g : b3 = 1
      · exact rec_L8t k a0 a1 e0 e1 w h0 h1 b1 p1 q1 x1 t1 p2 q2 x2 b3 p3 q3 x3 d1 p4 q4 x4 y1 y2 y3 y4 g
      · exact rec_L8f k a0 a1 e0 e1 w h0 h1 b1 p1 q1 x1 t1 p2 q2 x2 b3 p3 q3 x3 d1 p4 q4 x4 y1 y2 y3 y4 g
    | true =>
      have g : b3 = 1 := Decidable.byContradiction fun e => c4 ⟨rfl, fun e' => absurd e' e⟩
      exact rec_L9 k a0 a1 e0 e1 w h0 h1 b1 p1 q1 x1 t1 p2 q2 x2 b3 p3 q3 x3 d1 p4 q4 x4 y1 y2 y3 y4 g (fun e => c4 ⟨rfl, fun _ => e⟩)
  rw [if_pos c4] at h
  obtain ⟨rfl, y5⟩ := c4
  obtain ⟨⟨s1, s2, p5, q5⟩, x5, h⟩ := Option.bind_eq_some_iff.mp h
  dsimp only at h
  cases s2 with
  | false =>
    rw [if_neg (by simp)] at h
    obtain ⟨rfl, rfl, rfl, rfl, rfl, rfl⟩ := recBad_inv h
    by_cases g : b3 = 1
    · exact rec_L10t k a0 a1 e0 e1 w h0 h1 b1 p1 q1 x1 t1 p2 q2 x2 b3 p3 q3 x3 d1 p4 q4 x4 s1 p5 q5 x5 y1 y2 y3 y4 g (y5 g)
    · exact rec_L10f k a0 a1 e0 e1 w h0 h1 b1 p1 q1 x1 t1 p2 q2 x2 b3 p3 q3 x3 d1 p4 q4 x4 s1 p5 q5 x5 y1 y2 y3 y4 g
  | true =>
    rw [if_pos rfl] at h
    by_cases c5 : 0 ≤ a1 ∧ a1 ≤ q4 ∧ q4 ≤ (a0.size : Int)
    rotate_left
    · rw [if_neg c5] at h; cases h
    rw [if_pos c5] at h
    obtain ⟨z1, z2, z3⟩ := c5
    obtain ⟨u1, x6, h⟩ := Option.bind_eq_some_iff.mp h
    obtain ⟨v1, x7, h⟩ := Option.bind_eq_some_iff.mp h
    by_cases c6 : s1.toList = v1.toList
    rotate_left
    · rw [if_neg c6] at h
      obtain ⟨rfl, rfl, rfl, rfl, rfl, rfl⟩ := recBad_inv h
      by_cases g : b3 = 1
      · exact rec_L11t k a0 a1 e0 e1 w h0 h1 b1 p1 q1 x1 t1 p2 q2 x2 b3 p3 q3 x3 d1 p4 q4 x4 s1 p5 q5 x5 y1 y2 y3 y4 g (y5 g) u1 x6 v1 x7 z1 z2 z3 c6
      · exact rec_L11f k a0 a1 e0 e1 w h0 h1 b1 p1 q1 x1 t1 p2 q2 x2 b3 p3 q3 x3 d1 p4 q4 x4 s1 p5 q5 x5 y1 y2 y3 y4 g u1 x6 v1 x7 z1 z2 z3 c6
    rw [if_pos c6] at h
    simp only [Option.some.injEq, Prod.mk.injEq] at h
    obtain ⟨rfl, rfl, rfl, rfl, rfl, rfl⟩ := h
    by_cases g : b3 = 1
    · rw [decide_eq_true g]
      exact rec_L12t k a0 a1 e0 e1 w h0 h1 b1 p1 q1 x1 t1 p2 q2 x2 b3 p3 q3 x3 d1 p4 q4 x4 s1 p5 q5 x5 y1 y2 y3 y4 g (y5 g) u1 x6 v1 x7 z1 z2 z3 c6
    · rw [decide_eq_false g]
      exact rec_L12f k a0 a1 e0 e1 w h0 h1 b1 p1 q1 x1 t1 p2 q2 x2 b3 p3 q3 x3 d1 p4 q4 x4 s1 p5 q5 x5 y1 y2 y3 y4 g u1 x6 v1 x7 z1 z2 z3 c6

def impl_GetRecord.f (k : Nat) (a0 : ByteArray) (a1 : Int) : Option (ByteArray × Bool × ByteArray × Int × Int) :=
  (impl_recordAt.f k a0 a1).bind fun x => if x.2.2.2.2.2 = 0 then some (x.1, x.2.1, x.2.2.1, x.2.2.2.1, x.2.2.2.2.1) else some ((⟨#[]⟩ : ByteArray), false, (⟨#[]⟩ : ByteArray), 0, 0)
theorem impl_GetRecord.mono : ∀ a0 a1 k, LeO (impl_GetRecord.f k a0 a1) (impl_GetRecord.f (k + 1) a0 a1) := by
  intro a0 a1 k
  unfold impl_GetRecord.f
  exact LeO.bind (impl_recordAt.mono a0 a1 k) (fun _ => LeO.refl _)
/-- The two sentinels, where the package lays them. -/
structure Sent (w : World) (e0 e1 : Addr) : Prop where
  no : w.cell? ⟨0, 0, none⟩ = some (.iface 121 (.pointer (some e0)))
  bent : w.cell? ⟨1, 0, none⟩ = some (.iface 121 (.pointer (some e1)))
theorem Sent.below {w w' : World} {e0 e1 : Addr} (h : Sent w e0 e1) (hb : Below w.heap.size w w') : Sent w' e0 e1 := ⟨pw_cell_below hb h.no, pw_cell_below hb h.bent⟩
set_option maxHeartbeats 8000000 in
set_option maxRecDepth 100000 in
theorem getrec_yes (a0 : ByteArray) (a1 : Int) (e0 e1 : Addr) (r1 : ByteArray) (r2 : Bool) (r3 : ByteArray) (r4 r5 : Int) (_ev : Addr) (w : World) (h0 : Sent w e0 e1) (h : ∀ W, Sent W e0 e1 → Calls Tryd.prog 24 #[.string a0, .int .i64 a1] W fun e w' => e = .returned (.tuple #[.agg #[.string r1, .bool r2, .string r3, .int .i64 r4, .int .i64 r5], .nilIface]) ∧ Below W.heap.size W w') :
    Calls Tryd.prog 8 #[.string a0, .int .i64 a1] w fun e w' => e = .returned (.agg #[.string r1, .bool r2, .string r3, .int .i64 r4, .int .i64 r5]) ∧ Below w.heap.size w w' := by
  have C := Aside0.mk h
  clear h
  go_enter Tryd.func8, Tryd.ntmps8
  have H := Aside0.mk (Hs.nil w)
  go_wp2_with (first
    | ((with_reducible refine gate_dst (N := 4) rfl ?_); (try (refine gate_guard (by rfl) ?_; dsimp only)); refine box_event ?hg (N := 4) ?hd (cs := #[.string (⟨#[]⟩ : ByteArray), .bool false, .string (⟨#[]⟩ : ByteArray), .int .i64 0, .int .i64 0]) (t := 23) ?hr ?_; (case hd => rfl); (case hg => rfl); (case hr => first | (go_simp; done) | (go_simp; rfl)); intro g4 hg w1 hbox hb; have H_ := Aside0.mk (Hs.push H.out (Nat.le_of_eq hg.symm) hbox hb); clear hbox hb hg; clear H; have H := H_; clear H_)
    | ((with_reducible refine gate_callee (f := 24) rfl ?_); (try (refine gate_guard (by rfl) ?_; dsimp only)); refine goesL_ (some 10) rfl rfl Tryd.func24 (by kernel_rfl) rfl #[.string a0, .int .i64 a1] rfl (by (try simp only [List.map_toArray, List.map_cons, List.map_nil]); first | done | rfl) ?_; (with_reducible refine (C.out _ (h0.below H.out.below)).mono ?_); rintro e w2 ⟨rfl, hb⟩; refine ⟨_, rfl, ?_⟩; have H_ := Aside0.mk (show Hs w w2 [(g4, .cells #[.string (⟨#[]⟩ : ByteArray), .bool false, .string (⟨#[]⟩ : ByteArray), .int .i64 0, .int .i64 0] 23 (0, 0))] from H.out.call hb); clear hb; clear H; have H := H_; clear H_)
    | ((with_reducible refine gate_dst (N := 5) rfl ?_); (try (refine gate_guard (by rfl) ?_; dsimp only)); refine box_event ?hg (N := 5) ?hd (cs := #[.string (⟨#[]⟩ : ByteArray), .bool false, .string (⟨#[]⟩ : ByteArray), .int .i64 0, .int .i64 0]) (t := 48) ?hr ?_; (case hd => rfl); (case hg => rfl); (case hr => first | (go_simp; done) | (go_simp; rfl)); intro g5 hg w3 hbox hb; have H_ := Aside0.mk (Hs.push H.out (Nat.le_of_eq hg.symm) hbox hb); clear hbox hb hg; clear H; have H := H_; clear H_)
    | ((with_reducible refine gate_store (p := 5) rfl ?_); (try (refine gate_guard (by rfl) ?_; dsimp only)); have hc0_ := H.out.cellv (v := .string (⟨#[]⟩ : ByteArray)) 0 rfl 0 rfl; have hf0_ := H.out.frozen 0 rfl 0; have hc1_ := H.out.cellv (v := .bool false) 0 rfl 1 rfl; have hf1_ := H.out.frozen 0 rfl 1; have hc2_ := H.out.cellv (v := .string (⟨#[]⟩ : ByteArray)) 0 rfl 2 rfl; have hf2_ := H.out.frozen 0 rfl 2; have hc3_ := H.out.cellv (v := .int .i64 0) 0 rfl 3 rfl; have hf3_ := H.out.frozen 0 rfl 3; have hc4_ := H.out.cellv (v := .int .i64 0) 0 rfl 4 rfl; have hf4_ := H.out.frozen 0 rfl 4; refine store_at (fun W => (World.setCell (World.setCell (World.setCell (World.setCell (World.setCell W ⟨g5, 0, none⟩ (.string r1)) ⟨g5, 1, none⟩ (.bool r2)) ⟨g5, 2, none⟩ (.string r3)) ⟨g5, 3, none⟩ (.int .i64 r4)) ⟨g5, 4, none⟩ (.int .i64 r5))) ?hg rfl ?hd ?hr ?_; (case hg => rfl); (case hd => rfl); (case hr => first | (go_simp; done) | (go_simp; rfl)); intro w4 hw; have H_ := Aside0.mk (show Hs w w4 [(g5, .cells #[.string r1, .bool r2, .string r3, .int .i64 r4, .int .i64 r5] 48 (0, 0)), (g4, .cells #[.string (⟨#[]⟩ : ByteArray), .bool false, .string (⟨#[]⟩ : ByteArray), .int .i64 0, .int .i64 0] 23 (0, 0))] from by rw [hw]; exact (((((H.out.set 0 rfl 0 (.string r1)).set 0 rfl 1 (.bool r2)).set 0 rfl 2 (.string r3)).set 0 rfl 3 (.int .i64 r4)).set 0 rfl 4 (.int .i64 r5))); clear hw hc0_ hf0_ hc1_ hf1_ hc2_ hf2_ hc3_ hf3_ hc4_ hf4_; clear H; have H := H_; clear H_)
    | ((with_reducible refine gate_dst (N := 16) rfl ?_); (try (refine gate_guard (by rfl) ?_; dsimp only)); have hc0_ := H.out.cellv (v := .string r1) 0 rfl 0 rfl; have hc1_ := H.out.cellv (v := .bool r2) 0 rfl 1 rfl; have hc2_ := H.out.cellv (v := .string r3) 0 rfl 2 rfl; have hc3_ := H.out.cellv (v := .int .i64 r4) 0 rfl 3 rfl; have hc4_ := H.out.cellv (v := .int .i64 r5) 0 rfl 4 rfl; refine load_at (.agg #[.string r1, .bool r2, .string r3, .int .i64 r4, .int .i64 r5]) ?hg ?hr ?_; (case hg => rfl); (case hr => first | (go_simp; done) | (go_simp; rfl)); clear hc0_ hc1_ hc2_ hc3_ hc4_)
    | ((with_reducible refine gate_callee (f := 25) rfl ?_); (try (refine gate_guard (by rfl) ?_; dsimp only)); refine goesL_ (some 17) rfl rfl Tryd.func25 (by kernel_rfl) rfl #[.agg #[.string r1, .bool r2, .string r3, .int .i64 r4, .int .i64 r5]] rfl (by (try simp only [List.map_toArray, List.map_cons, List.map_nil]); first | done | rfl) ?_; (with_reducible refine (impl_found_record.calls r1 r2 r3 r4 r5 r1 r2 r3 r4 r5 _ rfl).mono ?_); rintro e w5 ⟨rfl, hb⟩; refine ⟨_, rfl, ?_⟩; have H_ := Aside0.mk (show Hs w w5 [(g5, .cells #[.string r1, .bool r2, .string r3, .int .i64 r4, .int .i64 r5] 48 (0, 0)), (g4, .cells #[.string (⟨#[]⟩ : ByteArray), .bool false, .string (⟨#[]⟩ : ByteArray), .int .i64 0, .int .i64 0] 23 (0, 0))] from H.out.call hb); clear hb; clear H; have H := H_; clear H_)
    | ((with_reducible refine gate_store (p := 4) rfl ?_); (try (refine gate_guard (by rfl) ?_; dsimp only)); have hc0_ := H.out.cellv (v := .string (⟨#[]⟩ : ByteArray)) 1 rfl 0 rfl; have hf0_ := H.out.frozen 1 rfl 0; have hc1_ := H.out.cellv (v := .bool false) 1 rfl 1 rfl; have hf1_ := H.out.frozen 1 rfl 1; have hc2_ := H.out.cellv (v := .string (⟨#[]⟩ : ByteArray)) 1 rfl 2 rfl; have hf2_ := H.out.frozen 1 rfl 2; have hc3_ := H.out.cellv (v := .int .i64 0) 1 rfl 3 rfl; have hf3_ := H.out.frozen 1 rfl 3; have hc4_ := H.out.cellv (v := .int .i64 0) 1 rfl 4 rfl; have hf4_ := H.out.frozen 1 rfl 4; refine store_at (fun W => (World.setCell (World.setCell (World.setCell (World.setCell (World.setCell W ⟨g4, 0, none⟩ (.string r1)) ⟨g4, 1, none⟩ (.bool r2)) ⟨g4, 2, none⟩ (.string r3)) ⟨g4, 3, none⟩ (.int .i64 r4)) ⟨g4, 4, none⟩ (.int .i64 r5))) ?hg rfl ?hd ?hr ?_; (case hg => rfl); (case hd => rfl); (case hr => first | (go_simp; done) | (go_simp; rfl)); intro w6 hw; have H_ := Aside0.mk (show Hs w w6 [(g5, .cells #[.string r1, .bool r2, .string r3, .int .i64 r4, .int .i64 r5] 48 (0, 0)), (g4, .cells #[.string r1, .bool r2, .string r3, .int .i64 r4, .int .i64 r5] 23 (0, 0))] from by rw [hw]; exact (((((H.out.set 1 rfl 0 (.string r1)).set 1 rfl 1 (.bool r2)).set 1 rfl 2 (.string r3)).set 1 rfl 3 (.int .i64 r4)).set 1 rfl 4 (.int .i64 r5))); clear hw hc0_ hf0_ hc1_ hf1_ hc2_ hf2_ hc3_ hf3_ hc4_ hf4_; clear H; have H := H_; clear H_))
  exact bodyPost_ret (results_cell_row rfl _ _ g4 23 #[.string r1, .bool r2, .string r3, .int .i64 r4, .int .i64 r5] (0, 0) _ rfl (H.out.get 1 rfl) Tryd.underlying23 rfl (by kernel_rfl)) rfl ⟨rfl, H.out.below⟩
set_option maxHeartbeats 8000000 in
set_option maxRecDepth 100000 in
theorem getrec_no (a0 : ByteArray) (a1 : Int) (e0 e1 : Addr) (r1 : ByteArray) (r2 : Bool) (r3 : ByteArray) (r4 r5 : Int) (_ev : Addr) (w : World) (h0 : Sent w e0 e1) (h : ∀ W, Sent W e0 e1 → Calls Tryd.prog 24 #[.string a0, .int .i64 a1] W fun e w' => e = .returned (.tuple #[.agg #[.string r1, .bool r2, .string r3, .int .i64 r4, .int .i64 r5], .iface 121 (.pointer (some _ev))]) ∧ Below W.heap.size W w') :
    Calls Tryd.prog 8 #[.string a0, .int .i64 a1] w fun e w' => e = .returned (.agg #[.string (⟨#[]⟩ : ByteArray), .bool false, .string (⟨#[]⟩ : ByteArray), .int .i64 0, .int .i64 0]) ∧ Below w.heap.size w w' := by
  have C := Aside0.mk h
  clear h
  go_enter Tryd.func8, Tryd.ntmps8
  have H := Aside0.mk (Hs.nil w)
  go_wp2_with (first
    | ((with_reducible refine gate_dst (N := 4) rfl ?_); (try (refine gate_guard (by rfl) ?_; dsimp only)); refine box_event ?hg (N := 4) ?hd (cs := #[.string (⟨#[]⟩ : ByteArray), .bool false, .string (⟨#[]⟩ : ByteArray), .int .i64 0, .int .i64 0]) (t := 23) ?hr ?_; (case hd => rfl); (case hg => rfl); (case hr => first | (go_simp; done) | (go_simp; rfl)); intro g4 hg w1 hbox hb; have H_ := Aside0.mk (Hs.push H.out (Nat.le_of_eq hg.symm) hbox hb); clear hbox hb hg; clear H; have H := H_; clear H_)
    | ((with_reducible refine gate_callee (f := 24) rfl ?_); (try (refine gate_guard (by rfl) ?_; dsimp only)); refine goesL_ (some 10) rfl rfl Tryd.func24 (by kernel_rfl) rfl #[.string a0, .int .i64 a1] rfl (by (try simp only [List.map_toArray, List.map_cons, List.map_nil]); first | done | rfl) ?_; (with_reducible refine (C.out _ (h0.below H.out.below)).mono ?_); rintro e w2 ⟨rfl, hb⟩; refine ⟨_, rfl, ?_⟩; have H_ := Aside0.mk (show Hs w w2 [(g4, .cells #[.string (⟨#[]⟩ : ByteArray), .bool false, .string (⟨#[]⟩ : ByteArray), .int .i64 0, .int .i64 0] 23 (0, 0))] from H.out.call hb); clear hb; clear H; have H := H_; clear H_)
    | ((with_reducible refine gate_dst (N := 5) rfl ?_); (try (refine gate_guard (by rfl) ?_; dsimp only)); refine box_event ?hg (N := 5) ?hd (cs := #[.string (⟨#[]⟩ : ByteArray), .bool false, .string (⟨#[]⟩ : ByteArray), .int .i64 0, .int .i64 0]) (t := 48) ?hr ?_; (case hd => rfl); (case hg => rfl); (case hr => first | (go_simp; done) | (go_simp; rfl)); intro g5 hg w3 hbox hb; have H_ := Aside0.mk (Hs.push H.out (Nat.le_of_eq hg.symm) hbox hb); clear hbox hb hg; clear H; have H := H_; clear H_)
    | ((with_reducible refine gate_store (p := 5) rfl ?_); (try (refine gate_guard (by rfl) ?_; dsimp only)); have hc0_ := H.out.cellv (v := .string (⟨#[]⟩ : ByteArray)) 0 rfl 0 rfl; have hf0_ := H.out.frozen 0 rfl 0; have hc1_ := H.out.cellv (v := .bool false) 0 rfl 1 rfl; have hf1_ := H.out.frozen 0 rfl 1; have hc2_ := H.out.cellv (v := .string (⟨#[]⟩ : ByteArray)) 0 rfl 2 rfl; have hf2_ := H.out.frozen 0 rfl 2; have hc3_ := H.out.cellv (v := .int .i64 0) 0 rfl 3 rfl; have hf3_ := H.out.frozen 0 rfl 3; have hc4_ := H.out.cellv (v := .int .i64 0) 0 rfl 4 rfl; have hf4_ := H.out.frozen 0 rfl 4; refine store_at (fun W => (World.setCell (World.setCell (World.setCell (World.setCell (World.setCell W ⟨g5, 0, none⟩ (.string r1)) ⟨g5, 1, none⟩ (.bool r2)) ⟨g5, 2, none⟩ (.string r3)) ⟨g5, 3, none⟩ (.int .i64 r4)) ⟨g5, 4, none⟩ (.int .i64 r5))) ?hg rfl ?hd ?hr ?_; (case hg => rfl); (case hd => rfl); (case hr => first | (go_simp; done) | (go_simp; rfl)); intro w4 hw; have H_ := Aside0.mk (show Hs w w4 [(g5, .cells #[.string r1, .bool r2, .string r3, .int .i64 r4, .int .i64 r5] 48 (0, 0)), (g4, .cells #[.string (⟨#[]⟩ : ByteArray), .bool false, .string (⟨#[]⟩ : ByteArray), .int .i64 0, .int .i64 0] 23 (0, 0))] from by rw [hw]; exact (((((H.out.set 0 rfl 0 (.string r1)).set 0 rfl 1 (.bool r2)).set 0 rfl 2 (.string r3)).set 0 rfl 3 (.int .i64 r4)).set 0 rfl 4 (.int .i64 r5))); clear hw hc0_ hf0_ hc1_ hf1_ hc2_ hf2_ hc3_ hf3_ hc4_ hf4_; clear H; have H := H_; clear H_)
    | ((with_reducible refine gate_store (p := 4) rfl ?_); (try (refine gate_guard (by rfl) ?_; dsimp only)); have hc0_ := H.out.cellv (v := .string (⟨#[]⟩ : ByteArray)) 1 rfl 0 rfl; have hf0_ := H.out.frozen 1 rfl 0; have hc1_ := H.out.cellv (v := .bool false) 1 rfl 1 rfl; have hf1_ := H.out.frozen 1 rfl 1; have hc2_ := H.out.cellv (v := .string (⟨#[]⟩ : ByteArray)) 1 rfl 2 rfl; have hf2_ := H.out.frozen 1 rfl 2; have hc3_ := H.out.cellv (v := .int .i64 0) 1 rfl 3 rfl; have hf3_ := H.out.frozen 1 rfl 3; have hc4_ := H.out.cellv (v := .int .i64 0) 1 rfl 4 rfl; have hf4_ := H.out.frozen 1 rfl 4; refine store_at (fun W => (World.setCell (World.setCell (World.setCell (World.setCell (World.setCell W ⟨g4, 0, none⟩ (.string (⟨#[]⟩ : ByteArray))) ⟨g4, 1, none⟩ (.bool false)) ⟨g4, 2, none⟩ (.string (⟨#[]⟩ : ByteArray))) ⟨g4, 3, none⟩ (.int .i64 0)) ⟨g4, 4, none⟩ (.int .i64 0))) ?hg rfl ?hd ?hr ?_; (case hg => rfl); (case hd => rfl); (case hr => first | (go_simp; done) | (go_simp; rfl)); intro w5 hw; have H_ := Aside0.mk (show Hs w w5 [(g5, .cells #[.string r1, .bool r2, .string r3, .int .i64 r4, .int .i64 r5] 48 (0, 0)), (g4, .cells #[.string (⟨#[]⟩ : ByteArray), .bool false, .string (⟨#[]⟩ : ByteArray), .int .i64 0, .int .i64 0] 23 (0, 0))] from by rw [hw]; exact (((((H.out.set 1 rfl 0 (.string (⟨#[]⟩ : ByteArray))).set 1 rfl 1 (.bool false)).set 1 rfl 2 (.string (⟨#[]⟩ : ByteArray))).set 1 rfl 3 (.int .i64 0)).set 1 rfl 4 (.int .i64 0))); clear hw hc0_ hf0_ hc1_ hf1_ hc2_ hf2_ hc3_ hf3_ hc4_ hf4_; clear H; have H := H_; clear H_))
  exact bodyPost_ret (results_cell_row rfl _ _ g4 23 #[.string (⟨#[]⟩ : ByteArray), .bool false, .string (⟨#[]⟩ : ByteArray), .int .i64 0, .int .i64 0] (0, 0) _ rfl (H.out.get 1 rfl) Tryd.underlying23 rfl (by kernel_rfl)) rfl ⟨rfl, H.out.below⟩
theorem impl_GetRecord.calls (k : Nat) (a0 : ByteArray) (a1 : Int) (r1 : ByteArray) (r2 : Bool) (r3 : ByteArray) (r4 r5 : Int) (w : World) (h : impl_GetRecord.f k a0 a1 = some (r1, r2, r3, r4, r5)) (e0 e1 : Addr) (h0 : Sent w e0 e1) :
    Calls Tryd.prog 8 #[.string a0, .int .i64 a1] w fun e w' => e = .returned (.agg #[.string r1, .bool r2, .string r3, .int .i64 r4, .int .i64 r5]) ∧ Below w.heap.size w w' := by
  unfold impl_GetRecord.f at h
  obtain ⟨⟨s1, s2, s3, s4, s5, c⟩, x1, h⟩ := Option.bind_eq_some_iff.mp h
  cases c with
  | zero =>
    simp only [if_true, Option.some.injEq, Prod.mk.injEq] at h
    obtain ⟨rfl, rfl, rfl, rfl, rfl⟩ := h
    exact getrec_yes a0 a1 e0 e1 _ _ _ _ _ e0 w h0 (fun W hs => impl_recordAt.calls k a0 a1 e0 e1 _ _ _ _ _ 0 W hs.no hs.bent x1)
  | succ c =>
    rw [if_neg (Nat.succ_ne_zero c)] at h
    simp only [Option.some.injEq, Prod.mk.injEq] at h
    obtain ⟨rfl, rfl, rfl, rfl, rfl⟩ := h
    cases c with
    | zero => exact getrec_no a0 a1 e0 e1 _ _ _ _ _ e0 w h0 (fun W hs => impl_recordAt.calls k a0 a1 e0 e1 _ _ _ _ _ 1 W hs.no hs.bent x1)
    | succ c => exact getrec_no a0 a1 e0 e1 _ _ _ _ _ e1 w h0 (fun W hs => impl_recordAt.calls k a0 a1 e0 e1 _ _ _ _ _ (c + 2) W hs.no hs.bent x1)

end Go.Proofs.YtncghlamcbhpmaaDoor.PFnRecords
