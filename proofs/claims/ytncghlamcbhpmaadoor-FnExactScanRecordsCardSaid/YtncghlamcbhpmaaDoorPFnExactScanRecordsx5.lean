/-
  recordAt, scanAll and ScanRecords: what the calls do, where the two sentinels lie.
-/
import Derived.Test.YtncghlamcbhpmaaDoorPFnExactScanRecordsx0
import Derived.Test.YtncghlamcbhpmaaDoorPFnExactScanRecordsx4
import Derived.Test.YtncghlamcbhpmaaDoorRecAFnExactScanRecords
import Derived.Test.YtncghlamcbhpmaaDoorRecBFnExactScanRecords
import Derived.Test.YtncghlamcbhpmaaDoorHsAppFnExactScanRecords
import Derived.Test.YtncghlamcbhpmaaDoorErrIsFnExactScanRecords
import Derived.ScopeJumps
import Derived.WalkMore
import Derived.Scope
namespace Go.Proofs.YtncghlamcbhpmaaDoor.PFnExactScanRecords
open Go.RowKit Go.Proofs.YtncghlamcbhpmaaDoorW.PrintWords Go.Proofs.YtncghlamcbhpmaaDoorW.PrintLast Go.Proofs.YtncghlamcbhpmaaDoorW.PrintMore
open Go.Proofs.YtncghlamcbhpmaaDoor.Hs Go.Proofs.YtncghlamcbhpmaaDoor.ErrIs

/-- The error that comes back: 0 none, 1 no mark, 2 bent. -/
def errV (e0 e1 : Addr) (c : Nat) : Value := match c with | 0 => .nilIface | 1 => .iface 121 (.pointer (some e0)) | _ => .iface 121 (.pointer (some e1))
def recBad (c : Nat) : Option (ByteArray × Bool × ByteArray × Int × Int × Nat) := some ((⟨#[]⟩ : ByteArray), false, (⟨#[]⟩ : ByteArray), 0, 0, c)
def impl_recordAt.f (k : Nat) (a0 : ByteArray) (a1 : Int) : Option (ByteArray × Bool × ByteArray × Int × Int × Nat) :=
  (impl_cursor_next.f a0 a1).bind fun x1 => if x1.2.1 = true ∧ x1.1 = 231 then
    (impl_cursor_text.f k x1.2.2.1 x1.2.2.2).bind fun x2 => if x2.2.1 = true ∧ 1 ≤ x2.1.size ∧ x2.1.size ≤ 200 then
      (impl_cursor_next.f x2.2.2.1 x2.2.2.2).bind fun x3 => if x3.2.1 = true ∧ x3.1 ≤ 1 then
        (impl_cursor_text.f k x3.2.2.1 x3.2.2.2).bind fun x4 => if x4.2.1 = true ∧ (x3.1 = 1 → x4.1.toList = (⟨#[]⟩ : ByteArray).toList) then
          (impl_cursor_take.f x4.2.2.1 x4.2.2.2 4).bind fun x5 => if x5.2.1 = true then
            if 0 ≤ a1 ∧ a1 ≤ x4.2.2.2 ∧ x4.2.2.2 ≤ (a0.size : Int) then
              (impl_SumOf.f k (a0.extract a1.toNat x4.2.2.2.toNat) 5).bind fun u1 => (impl_sumBytes.f u1).bind fun v1 =>
                if x5.1.toList = v1.toList then some (x2.1, decide (x3.1 = 1), x4.1, a1, x5.2.2.2, 0) else recBad 2
            else none
          else recBad 2
        else recBad 2
      else recBad 2
    else recBad 2
  else recBad 1
theorem impl_recordAt.mono : ∀ a0 a1 k, LeO (impl_recordAt.f k a0 a1) (impl_recordAt.f (k + 1) a0 a1) := by
  intro a0 a1 k
  unfold impl_recordAt.f
  exact LeO.bind (LeO.refl _) fun x1 => LeO.ite (LeO.bind (impl_cursor_text.mono _ _ k) fun x2 => LeO.ite (LeO.bind (LeO.refl _) fun x3 => LeO.ite (LeO.bind (impl_cursor_text.mono _ _ k) fun x4 => LeO.ite (LeO.bind (LeO.refl _) fun x5 => LeO.ite (LeO.ite (LeO.bind (impl_SumOf.mono _ _ k) fun u1 => LeO.refl _) (LeO.refl _)) (LeO.refl _)) (LeO.refl _)) (LeO.refl _)) (LeO.refl _)) (LeO.refl _)
theorem recBad_inv {c c' : Nat} {r1 r3 : ByteArray} {r2 : Bool} {r4 r5 : Int} (h : recBad c = some (r1, r2, r3, r4, r5, c')) : r1 = (⟨#[]⟩ : ByteArray) ∧ r2 = false ∧ r3 = (⟨#[]⟩ : ByteArray) ∧ r4 = 0 ∧ r5 = 0 ∧ c' = c := by
  simp only [recBad, Option.some.injEq, Prod.mk.injEq] at h
  exact ⟨h.1.symm, h.2.1.symm, h.2.2.1.symm, h.2.2.2.1.symm, h.2.2.2.2.1.symm, h.2.2.2.2.2.symm⟩
theorem impl_recordAt.calls (k : Nat) (a0 : ByteArray) (a1 : Int) (e0 e1 : Addr) (r1 : ByteArray) (r2 : Bool) (r3 : ByteArray) (r4 r5 : Int) (c : Nat) (w : World) (h0 : w.cell? ⟨0, 0, none⟩ = some (.iface 121 (.pointer (some e0)))) (h1 : w.cell? ⟨1, 0, none⟩ = some (.iface 121 (.pointer (some e1)))) (h : impl_recordAt.f k a0 a1 = some (r1, r2, r3, r4, r5, c)) :
    Calls Tryd.prog 24 #[.string a0, .int .i64 a1] w fun e w' => e = .returned (.tuple #[.agg #[.string r1, .bool r2, .string r3, .int .i64 r4, .int .i64 r5], errV e0 e1 c]) ∧ Below w.heap.size w w' := by
  unfold impl_recordAt.f at h
  obtain ⟨⟨b1, b2, p1, q1⟩, x1, h⟩ := Option.bind_eq_some_iff.mp h
  dsimp only at h
  by_cases c1 : b2 = true ∧ b1 = 231
  rotate_left
  · rw [if_neg c1] at h
    obtain ⟨rfl, rfl, rfl, rfl, rfl, rfl⟩ := recBad_inv h
    cases b2 with
    | false => exact rec_L1 k a0 a1 e0 e1 w h0 h1 b1 p1 q1 x1
    | true => exact rec_L2 k a0 a1 e0 e1 w h0 h1 b1 p1 q1 x1 (fun e => c1 ⟨rfl, e⟩)
  rw [if_pos c1] at h
  obtain ⟨rfl, y1⟩ := c1
  obtain ⟨⟨t1, t2, p2, q2⟩, x2, h⟩ := Option.bind_eq_some_iff.mp h
  dsimp only at h
  by_cases c2 : t2 = true ∧ 1 ≤ t1.size ∧ t1.size ≤ 200
  rotate_left
  · rw [if_neg c2] at h
    obtain ⟨rfl, rfl, rfl, rfl, rfl, rfl⟩ := recBad_inv h
    cases t2 with
    | false => exact rec_L3 k a0 a1 e0 e1 w h0 h1 b1 p1 q1 x1 t1 p2 q2 x2 y1
    | true =>
      by_cases c3 : t1.size < 1
      · exact rec_L4 k a0 a1 e0 e1 w h0 h1 b1 p1 q1 x1 t1 p2 q2 x2 y1 c3
      · exact rec_L5 k a0 a1 e0 e1 w h0 h1 b1 p1 q1 x1 t1 p2 q2 x2 y1 (Nat.lt_of_not_le fun e => c2 ⟨rfl, by omega, e⟩)
  rw [if_pos c2] at h
  obtain ⟨rfl, y2, y3⟩ := c2
  obtain ⟨⟨b3, b4, p3, q3⟩, x3, h⟩ := Option.bind_eq_some_iff.mp h
  dsimp only at h
  by_cases c3 : b4 = true ∧ b3 ≤ 1
  rotate_left
  · rw [if_neg c3] at h
    obtain ⟨rfl, rfl, rfl, rfl, rfl, rfl⟩ := recBad_inv h
    cases b4 with
    | false => exact rec_L6 k a0 a1 e0 e1 w h0 h1 b1 p1 q1 x1 t1 p2 q2 x2 b3 p3 q3 x3 y1 y2 y3
    | true => exact rec_L7 k a0 a1 e0 e1 w h0 h1 b1 p1 q1 x1 t1 p2 q2 x2 b3 p3 q3 x3 y1 y2 y3 (Int.lt_of_not_ge fun e => c3 ⟨rfl, e⟩)
  rw [if_pos c3] at h
  obtain ⟨rfl, y4⟩ := c3
  obtain ⟨⟨d1, d2, p4, q4⟩, x4, h⟩ := Option.bind_eq_some_iff.mp h
  dsimp only at h
  by_cases c4 : d2 = true ∧ (b3 = 1 → d1.toList = (⟨#[]⟩ : ByteArray).toList)
  rotate_left
  · rw [if_neg c4] at h
    obtain ⟨rfl, rfl, rfl, rfl, rfl, rfl⟩ := recBad_inv h
    cases d2 with
    | false =>
      by_cases g : b3 = 1
      · exact rec_L8t k a0 a1 e0 e1 w h0 h1 b1 p1 q1 x1 t1 p2 q2 x2 b3 p3 q3 x3 d1 p4 q4 x4 y1 y2 y3 y4 g
      · exact rec_L8f k a0 a1 e0 e1 w h0 h1 b1 p1 q1 x1 t1 p2 q2 x2 b3 p3 q3 x3 d1 p4 q4 x4 y1 y2 y3 y4 g
    | true =>
      have g : b3 = 1 := Decidable.byContradiction fun e => c4 ⟨rfl, fun e' => absurd e' e⟩
      exact rec_L9 k a0 a1 e0 e1 w h0 h1 b1 p1 q1 x1 t1 p2 q2 x2 b3 p3 q3 x3 d1 p4 q4 x4 y1 y2 y3 y4 g (fun e => c4 ⟨rfl, fun _ => e⟩)
  rw [if_pos c4] at h
  obtain ⟨rfl, y5⟩ := c4
  obtain ⟨⟨s1, s2, p5, q5⟩, x5, h⟩ := Option.bind_eq_some_iff.mp h
  dsimp only at h
  cases s2 with
  | false =>
    rw [if_neg (by simp)] at h
    obtain ⟨rfl, rfl, rfl, rfl, rfl, rfl⟩ := recBad_inv h
    by_cases g : b3 = 1
    · exact rec_L10t k a0 a1 e0 e1 w h0 h1 b1 p1 q1 x1 t1 p2 q2 x2 b3 p3 q3 x3 d1 p4 q4 x4 s1 p5 q5 x5 y1 y2 y3 y4 g (y5 g)
    · exact rec_L10f k a0 a1 e0 e1 w h0 h1 b1 p1 q1 x1 t1 p2 q2 x2 b3 p3 q3 x3 d1 p4 q4 x4 s1 p5 q5 x5 y1 y2 y3 y4 g
  | true =>
    rw [if_pos rfl] at h
    by_cases c5 : 0 ≤ a1 ∧ a1 ≤ q4 ∧ q4 ≤ (a0.size : Int)
    rotate_left
    · rw [if_neg c5] at h; cases h
    rw [if_pos c5] at h
    obtain ⟨z1, z2, z3⟩ := c5
    obtain ⟨u1, x6, h⟩ := Option.bind_eq_some_iff.mp h
    obtain ⟨v1, x7, h⟩ := Option.bind_eq_some_iff.mp h
    by_cases c6 : s1.toList = v1.toList
    rotate_left
    · rw [if_neg c6] at h
      obtain ⟨rfl, rfl, rfl, rfl, rfl, rfl⟩ := recBad_inv h
      by_cases g : b3 = 1
      · exact rec_L11t k a0 a1 e0 e1 w h0 h1 b1 p1 q1 x1 t1 p2 q2 x2 b3 p3 q3 x3 d1 p4 q4 x4 s1 p5 q5 x5 y1 y2 y3 y4 g (y5 g) u1 x6 v1 x7 z1 z2 z3 c6
      · exact rec_L11f k a0 a1 e0 e1 w h0 h1 b1 p1 q1 x1 t1 p2 q2 x2 b3 p3 q3 x3 d1 p4 q4 x4 s1 p5 q5 x5 y1 y2 y3 y4 g u1 x6 v1 x7 z1 z2 z3 c6
    rw [if_pos c6] at h
    simp only [Option.some.injEq, Prod.mk.injEq] at h
    obtain ⟨rfl, rfl, rfl, rfl, rfl, rfl⟩ := h
    by_cases g : b3 = 1
    · rw [decide_eq_true g]
      exact rec_L12t k a0 a1 e0 e1 w h0 h1 b1 p1 q1 x1 t1 p2 q2 x2 b3 p3 q3 x3 d1 p4 q4 x4 s1 p5 q5 x5 y1 y2 y3 y4 g (y5 g) u1 x6 v1 x7 z1 z2 z3 c6
    · rw [decide_eq_false g]
      exact rec_L12f k a0 a1 e0 e1 w h0 h1 b1 p1 q1 x1 t1 p2 q2 x2 b3 p3 q3 x3 d1 p4 q4 x4 s1 p5 q5 x5 y1 y2 y3 y4 g u1 x6 v1 x7 z1 z2 z3 c6

/-- A scope in which the run jumps back to one label; the way from the label on is walked once. -/
theorem scope_round {P : Program} {a : Act} {w : World} {Q : Exit → Act → World → Prop} {c X : Code} (l : Nat) (J : Act → World → Prop) (μ : Act → World → Nat) (hf : findLabel c l = some (.seq .skip X))
    (first : (∀ a w, J a w → X.wp P (Exit.jump l J Q) a w) → c.wp P (Exit.jump l J Q) a w)
    (pass : ∀ a w, J a w → X.wp P (Exit.jump l (fun a' w' => J a' w' ∧ μ a' w' < μ a w) Q) a w) : (Code.scope c).wp P Q a w :=
  wp_scope_jumps l J μ hf (first fun a w hJ => wp_mono (pass a w hJ) fun e a' w' h => by
    cases e with
    | goto l' => exact ⟨h.1, h.2.1⟩
    | _ => exact h) (fun a w hJ => wp_seq (wp_skip (pass a w hJ)))

abbrev R5 := ByteArray × Bool × ByteArray × Int × Int
def cells5 (r : R5) : List Value := [.string r.1, .bool r.2.1, .string r.2.2.1, .int .i64 r.2.2.2.1, .int .i64 r.2.2.2.2]
theorem cells5_len (r : R5) : (cells5 r).length = 5 := rfl
theorem cells5_one (r : R5) : ∀ u ∈ cells5 r, u.oneCell' = true := by
  intro u hu
  simp only [cells5, List.mem_cons, List.not_mem_nil, or_false] at hu
  rcases hu with rfl | rfl | rfl | rfl | rfl <;> rfl
/-- The records from a place on, and the places of bent marks, as the program reckons them. -/
def scanL : Nat → ByteArray → List R5 → List Int → Int → Option (List R5 × List Int)
  | 0, _, _, _, _ => none
  | k + 1, a, L, B, p => if p < (a.size : Int) then (impl_recordAt.f k a p).bind fun x =>
      if x.2.2.2.2.2 = 0 then (if p < x.2.2.2.2.1 ∧ x.2.2.2.2.1 ≤ (a.size : Int) ∧ L.length < 1000000 then scanL k a (L ++ [(x.1, x.2.1, x.2.2.1, x.2.2.2.1, x.2.2.2.2.1)]) B x.2.2.2.2.1 else none)
      else if B.length < 1000000 then scanL k a L (if x.2.2.2.2.2 = 1 then B else B ++ [p]) (p + 1) else none
    else some (L, B)
theorem scanL.mono : ∀ k a L B p, LeO (scanL k a L B p) (scanL (k + 1) a L B p)
  | 0, a, L, B, p => fun r h => by simp [scanL] at h
  | k + 1, a, L, B, p => by
    have ih := scanL.mono k
    rw [scanL, scanL]
    exact LeO.ite (LeO.bind (impl_recordAt.mono a p k) fun x => LeO.ite (LeO.ite (ih _ _ _ _) (LeO.refl _)) (LeO.ite (ih _ _ _ _) (LeO.refl _))) (LeO.refl _)
def impl_ScanRecords.f (k : Nat) (a0 : ByteArray) : Option (List S23) := if a0.size > 300000 then some [] else (scanL k a0 [] [] 0).bind fun x => some (x.1.map fun r => ⟨r.1, r.2.1, r.2.2.1, r.2.2.2.1, r.2.2.2.2⟩)
theorem impl_ScanRecords.mono : ∀ a0 k, LeO (impl_ScanRecords.f k a0) (impl_ScanRecords.f (k + 1) a0) := by
  intro a0 k
  unfold impl_ScanRecords.f
  exact LeO.ite (LeO.refl _) (LeO.bind (scanL.mono k _ _ _ _) fun _ => LeO.refl _)
/-- The two sentinels, where the package lays them: two pointers. -/
structure Sent (w : World) (e0 e1 : Addr) : Prop where
  no : w.cell? ⟨0, 0, none⟩ = some (.iface 121 (.pointer (some e0)))
  bent : w.cell? ⟨1, 0, none⟩ = some (.iface 121 (.pointer (some e1)))
  ne : e0 ≠ e1
  row0 : ∃ c t, w.heap[e0.block]? = some (.cells c t (0, 0))
  row1 : ∃ c t, w.heap[e1.block]? = some (.cells c t (0, 0))
theorem Sent.below {w w' : World} {e0 e1 : Addr} (h : Sent w e0 e1) (hb : Below w.heap.size w w') : Sent w' e0 e1 :=
  ⟨pw_cell_below hb h.no, pw_cell_below hb h.bent, h.ne, by obtain ⟨c, t, h0⟩ := h.row0; exact ⟨c, t, blk_below h0 hb⟩, by obtain ⟨c, t, h0⟩ := h.row1; exact ⟨c, t, blk_below h0 hb⟩⟩
theorem hs_uncons {w0 w : World} {x : Blk} {B L : List Blk} (h : Hs w0 w (B ++ x :: L)) : Hs w0 w (x :: (B ++ L)) := h.perm List.perm_middle

theorem rec_ok (k : Nat) (a0 : ByteArray) (a1 : Int) (e0 e1 : Addr) (r1 : ByteArray) (r2 : Bool) (r3 : ByteArray) (r4 r5 : Int) (w : World) (hs : Sent w e0 e1) (h : impl_recordAt.f k a0 a1 = some (r1, r2, r3, r4, r5, 0)) :
    Calls Tryd.prog 24 #[.string a0, .int .i64 a1] w fun e w' => e = .returned (.tuple #[.agg #[.string r1, .bool r2, .string r3, .int .i64 r4, .int .i64 r5], .nilIface]) ∧ Below w.heap.size w w' := impl_recordAt.calls k a0 a1 e0 e1 r1 r2 r3 r4 r5 0 w hs.no hs.bent h
theorem rec_no (k : Nat) (a0 : ByteArray) (a1 : Int) (e0 e1 : Addr) (r1 : ByteArray) (r2 : Bool) (r3 : ByteArray) (r4 r5 : Int) (w : World) (hs : Sent w e0 e1) (h : impl_recordAt.f k a0 a1 = some (r1, r2, r3, r4, r5, 0 + 1)) :
    Calls Tryd.prog 24 #[.string a0, .int .i64 a1] w fun e w' => e = .returned (.tuple #[.agg #[.string r1, .bool r2, .string r3, .int .i64 r4, .int .i64 r5], .iface 121 (.pointer (some e0))]) ∧ Below w.heap.size w w' := impl_recordAt.calls k a0 a1 e0 e1 r1 r2 r3 r4 r5 1 w hs.no hs.bent h
theorem rec_bent (k : Nat) (a0 : ByteArray) (a1 : Int) (e0 e1 : Addr) (r1 : ByteArray) (r2 : Bool) (r3 : ByteArray) (r4 r5 : Int) (c : Nat) (w : World) (hs : Sent w e0 e1) (h : impl_recordAt.f k a0 a1 = some (r1, r2, r3, r4, r5, c + 1 + 1)) :
    Calls Tryd.prog 24 #[.string a0, .int .i64 a1] w fun e w' => e = .returned (.tuple #[.agg #[.string r1, .bool r2, .string r3, .int .i64 r4, .int .i64 r5], .iface 121 (.pointer (some e1))]) ∧ Below w.heap.size w w' := impl_recordAt.calls k a0 a1 e0 e1 r1 r2 r3 r4 r5 (c + 2) w hs.no hs.bent h
theorem is_no {w0 : World} {e0 e1 : Addr} (w : World) (h : Sent w0 e0 e1) (hb : Below w0.heap.size w0 w) : Calls Tryd.prog 52 #[.iface 121 (.pointer (some e0)), .iface 121 (.pointer (some e1))] w fun e w' => e = .returned (.bool false) ∧ w' = w := by
  obtain ⟨c0, t0, h0⟩ := (h.below hb).row0
  obtain ⟨c1, t1, h1⟩ := (h.below hb).row1
  exact is_other e0 e1 c0 c1 t0 t1 w h.ne h0 h1

set_option maxHeartbeats 8000000 in
set_option maxRecDepth 100000 in
theorem scanAll_calls (k : Nat) (a0 : ByteArray) (e0 e1 : Addr) (rL : List R5) (rB : List Int) (w0 w : World) (Lx : List Blk) (hS : Sent w0 e0 e1) (hsz : a0.size ≤ 300000) (h : scanL k a0 [] [] 0 = some (rL, rB)) (hH : Hs w0 w Lx) :
    Calls Tryd.prog 41 #[.string a0] w fun e w' => ∃ vL vB BL BB, e = .returned (.tuple #[vL, vB]) ∧ RowB 48 5 vL rL.length (rL.flatMap cells5) BL ∧ RowB 2 1 vB rB.length (rB.map (Value.int .i64)) BB ∧ Hs w0 w' (BL ++ (BB ++ Lx)) := by
  have hs := Aside0.mk hS
  have hA0 := Aside0.mk h
  have H0 := Aside0.mk hH
  have hu := Tryd.underlying48
  clear hS h hH
  go_enter Tryd.func41, Tryd.ntmps41
  go_wp2
  refine scope_round 0 (fun a' w' => ∃ (kq : Nat) (p : Int) (L : List R5) (Bn : List Int) (vL vB : Value) (BL BB : List Blk) (u7 u8 u9 u10 u11 u12 u13 u14 u15 u16 u17 u18 u19 u20 u21 u22 u23 u24 u25 u26 u27 u28 u29 u30 u31 u32 u33 u34 u35 u36 u37 u38 u39 : Value), a' = { tmps := #[.string a0, undef, .slice none 0 0, .slice none 0 0, vL, vB, .int .i64 p, u7, u8, u9, u10, u11, u12, u13, u14, u15, u16, u17, u18, u19, u20, u21, u22, u23, u24, u25, u26, u27, u28, u29, u30, u31, u32, u33, u34, u35, u36, u37, u38, u39], defers := [] } ∧ Aside0 (scanL kq a0 L Bn p = some (rL, rB)) ∧ 0 ≤ p ∧ p ≤ (a0.size : Int) ∧ Aside0 (RowB 48 5 vL L.length (L.flatMap cells5) BL) ∧ Aside0 (RowB 2 1 vB Bn.length (Bn.map (Value.int .i64)) BB) ∧ Aside0 (Hs w0 w' (BL ++ (BB ++ Lx)))) (fun a' _ => a0.size - (intOf (a'.tmps.getD 6 undef)).toNat) rfl (fun hpass => ?_) ?_
  · go_wp2
    go_step3
    have hz1 : (w.alloc (.cells #[] 48)).heap.size = w.heap.size + 1 := by simp
    have H1 := (H0.out.alloc (.cells #[] 48)).alloc (.cells #[] 2)
    rw [hz1] at H1
    rename_i K hK
    refine hK _ _ (hpass _ _ ?_)
    exact ⟨k, 0, [], [], .slice (some ⟨w.heap.size, 0, none⟩) 0 0, .slice (some ⟨w.heap.size + 1, 0, none⟩) 0 0, [(w.heap.size, .cells #[] 48 (0, 0))], [(w.heap.size + 1, .cells #[] 2 (0, 0))], _, _, _, _, _, _, _, _, _, _, _, _, _, _, _, _, _, _, _, _, _, _, _, _, _, _, _, _, _, _, _, _, _, rfl, hA0, by omega, by omega, Aside0.mk ⟨by simp, .inr ⟨_, 0, #[], rfl, rfl, Nat.le_refl 0, by decide, rfl, rfl⟩⟩, Aside0.mk ⟨by simp, .inr ⟨_, 0, #[], rfl, rfl, Nat.le_refl 0, by decide, rfl, rfl⟩⟩, Aside0.mk H1.swap⟩
  · rintro a' wq ⟨kq, p, L, Bn, vL, vB, BL, BB, u7, u8, u9, u10, u11, u12, u13, u14, u15, u16, u17, u18, u19, u20, u21, u22, u23, u24, u25, u26, u27, u28, u29, u30, u31, u32, u33, u34, u35, u36, u37, u38, u39, rfl, hA, hp0, hp1, hL, hBB, H⟩
    clear hA0 H0
    cases kq with
    | zero => exact absurd hA.out (by simp [scanL])
    | succ k1 =>
      have hA1 := hA.out
      clear hA
      rw [scanL] at hA1
      obtain ⟨AL, zL, hvL⟩ := hL.out.slice
      obtain ⟨AB, zB, hvB⟩ := hBB.out.slice
      subst hvL hvB
      by_cases hc : p < (a0.size : Int)
      · rw [if_pos hc] at hA1
        have l1 : decide ((a0.size : Int) ≤ p) = false := decide_eq_false (by omega)
        have l1' : decide (p ≥ (a0.size : Int)) = false := decide_eq_false (by omega)
        obtain ⟨⟨r1, r2, r3, r4, r5, c⟩, hx0, hA1⟩ := Option.bind_eq_some_iff.mp hA1
        have hx := Aside0.mk hx0
        clear hx0
        dsimp only at hA1
        cases c with
        | zero =>
          rw [if_pos rfl] at hA1
          by_cases hn : p < r5 ∧ r5 ≤ (a0.size : Int) ∧ L.length < 1000000
          rotate_left
          · rw [if_neg hn] at hA1; cases hA1
          rw [if_pos hn] at hA1
          obtain ⟨n1, n2, n3⟩ := hn
          have hA2 := Aside0.mk hA1
          clear hA1
          have hq := Aside0.mk (show (L.length + 1) * 56 ≤ 140737488355328 by omega)
          go_wp2_with (first
              | ((with_reducible refine gate_callee (f := 24) rfl ?_); refine goesL_ (some 20) rfl rfl Tryd.func24 (by kernel_rfl) rfl #[.string a0, .int .i64 p] rfl (by (try simp only [List.map_toArray, List.map_cons, List.map_nil]); first | done | rfl) ?_; (with_reducible refine (rec_ok k1 a0 p e0 e1 r1 r2 r3 r4 r5 _ (hs.out.below H.out.below) hx.out).mono ?_); rintro e wA ⟨rfl, hb⟩; refine ⟨_, rfl, ?_⟩; have H_ := Aside0.mk (H.out.call hb); clear hb; clear H; have H := H_; clear H_)
              | ((with_reducible refine gate_dst (N := 7) rfl ?_); (try (refine gate_guard (by rfl) ?_; dsimp only)); refine box_event ?hg (N := 7) ?hd (cs := #[.string (⟨#[]⟩ : ByteArray), .bool false, .string (⟨#[]⟩ : ByteArray), .int .i64 0, .int .i64 0]) (t := 48) ?hr ?_; (case hd => rfl); (case hg => rfl); (case hr => first | (go_simp; done) | (go_simp; rfl)); intro g7 hg w1 hbox hb; have H_ := Aside0.mk (Hs.push H.out (Nat.le_of_eq hg.symm) hbox hb); clear hbox hb hg; clear H; have H := H_; clear H_)
              | ((with_reducible refine gate_store (p := 7) rfl ?_); (try (refine gate_guard (by rfl) ?_; dsimp only)); have hc0_ := H.out.cellv (v := .string (⟨#[]⟩ : ByteArray)) 0 rfl 0 rfl; have hf0_ := H.out.frozen 0 rfl 0; have hc1_ := H.out.cellv (v := .bool false) 0 rfl 1 rfl; have hf1_ := H.out.frozen 0 rfl 1; have hc2_ := H.out.cellv (v := .string (⟨#[]⟩ : ByteArray)) 0 rfl 2 rfl; have hf2_ := H.out.frozen 0 rfl 2; have hc3_ := H.out.cellv (v := .int .i64 0) 0 rfl 3 rfl; have hf3_ := H.out.frozen 0 rfl 3; have hc4_ := H.out.cellv (v := .int .i64 0) 0 rfl 4 rfl; have hf4_ := H.out.frozen 0 rfl 4; refine store_at (fun W => (World.setCell (World.setCell (World.setCell (World.setCell (World.setCell W ⟨g7, 0, none⟩ (.string r1)) ⟨g7, 1, none⟩ (.bool r2)) ⟨g7, 2, none⟩ (.string r3)) ⟨g7, 3, none⟩ (.int .i64 r4)) ⟨g7, 4, none⟩ (.int .i64 r5))) ?hg rfl ?hd ?hr ?_; (case hg => rfl); (case hd => rfl); (case hr => first | (go_simp; done) | (go_simp; rfl)); intro w2 hw; have H_ := Aside0.mk (show Hs w0 w2 ((g7, .cells #[.string r1, .bool r2, .string r3, .int .i64 r4, .int .i64 r5] 48 (0, 0)) :: (BL ++ (BB ++ Lx))) from by rw [hw]; exact (((((H.out.set 0 rfl 0 (.string r1)).set 0 rfl 1 (.bool r2)).set 0 rfl 2 (.string r3)).set 0 rfl 3 (.int .i64 r4)).set 0 rfl 4 (.int .i64 r5))); clear hw hc0_ hf0_ hc1_ hf1_ hc2_ hf2_ hc3_ hf3_ hc4_ hf4_; clear H; have H := H_; clear H_)
              | ((with_reducible refine gate_dst (N := 26) rfl ?_); (try (refine gate_guard (by rfl) ?_; dsimp only)); have hc0_ := H.out.cellv (v := .string r1) 0 rfl 0 rfl; have hc1_ := H.out.cellv (v := .bool r2) 0 rfl 1 rfl; have hc2_ := H.out.cellv (v := .string r3) 0 rfl 2 rfl; have hc3_ := H.out.cellv (v := .int .i64 r4) 0 rfl 3 rfl; have hc4_ := H.out.cellv (v := .int .i64 r5) 0 rfl 4 rfl; refine load_at (.agg #[.string r1, .bool r2, .string r3, .int .i64 r4, .int .i64 r5]) ?hg ?hr ?_; (case hg => rfl); (case hr => first | (go_simp; done) | (go_simp; rfl)); clear hc0_ hc1_ hc2_ hc3_ hc4_)
              | ((with_reducible refine gate_dst (N := 28) rfl ?_); refine append_ev rfl (.tmp 25) (.tmp 27) 65 48 (.agg #[.string (⟨#[]⟩ : ByteArray), .bool false, .string (⟨#[]⟩ : ByteArray), .int .i64 0, .int .i64 0]) 5 56 rfl Tryd.underlying65 (by kernel_rfl) rfl (by decide) (by decide) _ L.length (L.flatMap cells5) (cells5 (r1, r2, r3, r4, r5)) rfl rfl rfl (cells5_one _) hL.out (hs_cons H.out) hq.out ?_; intro A1 z1 wD B1 hB1 hH1; have hB2 := Aside0.mk hB1; have H_ := Aside0.mk hH1; clear hB1 hH1; clear H; have H := H_; clear H_; have h74 : wD.cell? ⟨g7, 4, none⟩ = some (.int .i64 r5) := H.out.left.cellv 0 rfl 4 rfl))
          try go_step3
          refine ⟨rfl, ⟨k1, r5, L ++ [(r1, r2, r3, r4, r5)], Bn, _, _, B1, BB, _, _, _, _, _, _, _, _, _, _, _, _, _, _, _, _, _, _, _, _, _, _, _, _, _, _, _, _, _, _, _, _, _, rfl, hA2, by omega, n2, Aside0.mk (by rw [List.flatMap_append, List.flatMap_singleton, List.length_append, List.length_singleton]; exact hB2.out), hBB, Aside0.mk (hs_uncons H.out).tail⟩, ?_⟩
          simp [intOf]; omega
        | succ c =>
          rw [if_neg (Nat.succ_ne_zero c)] at hA1
          by_cases hn : Bn.length < 1000000
          rotate_left
          · rw [if_neg hn] at hA1; cases hA1
          rw [if_pos hn] at hA1
          have hq := Aside0.mk (show (Bn.length + 1) * 8 ≤ 140737488355328 by omega)
          have hw : wrap64 (p + 1) = p + 1 := by unfold wrap64; omega
          obtain ⟨ev, hev⟩ : ∃ ev, errV e0 e1 (c + 1) = .iface 121 (.pointer (some ev)) := by cases c <;> exact ⟨_, rfl⟩
          cases c with
          | zero =>
            rw [if_pos rfl] at hA1
            have hA2 := Aside0.mk hA1
            clear hA1 hev
            go_wp2_with (first
                | ((with_reducible refine gate_callee (f := 24) rfl ?_); refine goesL_ (some 20) rfl rfl Tryd.func24 (by kernel_rfl) rfl #[.string a0, .int .i64 p] rfl (by (try simp only [List.map_toArray, List.map_cons, List.map_nil]); first | done | rfl) ?_; (with_reducible refine (rec_no k1 a0 p e0 e1 r1 r2 r3 r4 r5 _ (hs.out.below H.out.below) hx.out).mono ?_); rintro e wA ⟨rfl, hb⟩; refine ⟨_, rfl, ?_⟩; have H_ := Aside0.mk (H.out.call hb); clear hb; clear H; have H := H_; clear H_)
                | ((with_reducible refine gate_dst (N := 7) rfl ?_); (try (refine gate_guard (by rfl) ?_; dsimp only)); refine box_event ?hg (N := 7) ?hd (cs := #[.string (⟨#[]⟩ : ByteArray), .bool false, .string (⟨#[]⟩ : ByteArray), .int .i64 0, .int .i64 0]) (t := 48) ?hr ?_; (case hd => rfl); (case hg => rfl); (case hr => first | (go_simp; done) | (go_simp; rfl)); intro g7 hg w1 hbox hb; have H_ := Aside0.mk (Hs.push H.out (Nat.le_of_eq hg.symm) hbox hb); clear hbox hb hg; clear H; have H := H_; clear H_)
                | ((with_reducible refine gate_store (p := 7) rfl ?_); (try (refine gate_guard (by rfl) ?_; dsimp only)); have hc0_ := H.out.cellv (v := .string (⟨#[]⟩ : ByteArray)) 0 rfl 0 rfl; have hf0_ := H.out.frozen 0 rfl 0; have hc1_ := H.out.cellv (v := .bool false) 0 rfl 1 rfl; have hf1_ := H.out.frozen 0 rfl 1; have hc2_ := H.out.cellv (v := .string (⟨#[]⟩ : ByteArray)) 0 rfl 2 rfl; have hf2_ := H.out.frozen 0 rfl 2; have hc3_ := H.out.cellv (v := .int .i64 0) 0 rfl 3 rfl; have hf3_ := H.out.frozen 0 rfl 3; have hc4_ := H.out.cellv (v := .int .i64 0) 0 rfl 4 rfl; have hf4_ := H.out.frozen 0 rfl 4; refine store_at (fun W => (World.setCell (World.setCell (World.setCell (World.setCell (World.setCell W ⟨g7, 0, none⟩ (.string r1)) ⟨g7, 1, none⟩ (.bool r2)) ⟨g7, 2, none⟩ (.string r3)) ⟨g7, 3, none⟩ (.int .i64 r4)) ⟨g7, 4, none⟩ (.int .i64 r5))) ?hg rfl ?hd ?hr ?_; (case hg => rfl); (case hd => rfl); (case hr => first | (go_simp; done) | (go_simp; rfl)); intro w2 hw; have H_ := Aside0.mk (show Hs w0 w2 ((g7, .cells #[.string r1, .bool r2, .string r3, .int .i64 r4, .int .i64 r5] 48 (0, 0)) :: (BL ++ (BB ++ Lx))) from by rw [hw]; exact (((((H.out.set 0 rfl 0 (.string r1)).set 0 rfl 1 (.bool r2)).set 0 rfl 2 (.string r3)).set 0 rfl 3 (.int .i64 r4)).set 0 rfl 4 (.int .i64 r5))); clear hw hc0_ hf0_ hc1_ hf1_ hc2_ hf2_ hc3_ hf3_ hc4_ hf4_; clear H; have H := H_; clear H_; have hg1 : w2.cell? ⟨1, 0, none⟩ = some (.iface 121 (.pointer (some e1))) := (hs.out.below H.out.below).bent)
                | ((with_reducible refine gate_callee (f := 52) rfl ?_); refine goesL_ (some 33) rfl rfl Tryd.func52 (by kernel_rfl) rfl #[.iface 121 (.pointer (some e0)), .iface 121 (.pointer (some e1))] rfl (by (try simp only [List.map_toArray, List.map_cons, List.map_nil]); first | done | rfl) ?_; (with_reducible refine (is_no _ hs.out H.out.below).mono ?_); rintro e wI ⟨rfl, rfl⟩; refine ⟨_, rfl, ?_⟩; have H_ := Aside0.mk H.out.tail; clear H; have H := H_; clear H_)
                | ((with_reducible refine gate_dst (N := 37) rfl ?_); refine append_ev rfl (.tmp 34) (.tmp 36) 66 2 (.int .i64 0) 1 8 rfl Tryd.underlying66 (by kernel_rfl) rfl (by decide) (by decide) _ Bn.length (Bn.map (Value.int .i64)) [.int .i64 p] rfl rfl rfl (fun u hu => by rw [List.mem_singleton.1 hu]; rfl) hBB.out (hs_swap H.out) hq.out ?_; intro A1 z1 wD B1 hB1 hH1; have hB2 := Aside0.mk hB1; have H_ := Aside0.mk (hs_swap hH1); clear hB1 hH1; clear H; have H := H_; clear H_))
            try go_step3
            refine ⟨rfl, ⟨k1, p + 1, L, Bn, _, _, BL, BB, _, _, _, _, _, _, _, _, _, _, _, _, _, _, _, _, _, _, _, _, _, _, _, _, _, _, _, _, _, _, _, _, _, rfl, hA2, by omega, by omega, hL, hBB, H⟩, ?_⟩
            simp [intOf]; omega
          | succ c =>
            rw [if_neg (by omega)] at hA1
            have hA2 := Aside0.mk hA1
            clear hA1 hev
            go_wp2_with (first
                | ((with_reducible refine gate_callee (f := 24) rfl ?_); refine goesL_ (some 20) rfl rfl Tryd.func24 (by kernel_rfl) rfl #[.string a0, .int .i64 p] rfl (by (try simp only [List.map_toArray, List.map_cons, List.map_nil]); first | done | rfl) ?_; (with_reducible refine (rec_bent k1 a0 p e0 e1 r1 r2 r3 r4 r5 c _ (hs.out.below H.out.below) hx.out).mono ?_); rintro e wA ⟨rfl, hb⟩; refine ⟨_, rfl, ?_⟩; have H_ := Aside0.mk (H.out.call hb); clear hb; clear H; have H := H_; clear H_)
                | ((with_reducible refine gate_dst (N := 7) rfl ?_); (try (refine gate_guard (by rfl) ?_; dsimp only)); refine box_event ?hg (N := 7) ?hd (cs := #[.string (⟨#[]⟩ : ByteArray), .bool false, .string (⟨#[]⟩ : ByteArray), .int .i64 0, .int .i64 0]) (t := 48) ?hr ?_; (case hd => rfl); (case hg => rfl); (case hr => first | (go_simp; done) | (go_simp; rfl)); intro g7 hg w1 hbox hb; have H_ := Aside0.mk (Hs.push H.out (Nat.le_of_eq hg.symm) hbox hb); clear hbox hb hg; clear H; have H := H_; clear H_)
                | ((with_reducible refine gate_store (p := 7) rfl ?_); (try (refine gate_guard (by rfl) ?_; dsimp only)); have hc0_ := H.out.cellv (v := .string (⟨#[]⟩ : ByteArray)) 0 rfl 0 rfl; have hf0_ := H.out.frozen 0 rfl 0; have hc1_ := H.out.cellv (v := .bool false) 0 rfl 1 rfl; have hf1_ := H.out.frozen 0 rfl 1; have hc2_ := H.out.cellv (v := .string (⟨#[]⟩ : ByteArray)) 0 rfl 2 rfl; have hf2_ := H.out.frozen 0 rfl 2; have hc3_ := H.out.cellv (v := .int .i64 0) 0 rfl 3 rfl; have hf3_ := H.out.frozen 0 rfl 3; have hc4_ := H.out.cellv (v := .int .i64 0) 0 rfl 4 rfl; have hf4_ := H.out.frozen 0 rfl 4; refine store_at (fun W => (World.setCell (World.setCell (World.setCell (World.setCell (World.setCell W ⟨g7, 0, none⟩ (.string r1)) ⟨g7, 1, none⟩ (.bool r2)) ⟨g7, 2, none⟩ (.string r3)) ⟨g7, 3, none⟩ (.int .i64 r4)) ⟨g7, 4, none⟩ (.int .i64 r5))) ?hg rfl ?hd ?hr ?_; (case hg => rfl); (case hd => rfl); (case hr => first | (go_simp; done) | (go_simp; rfl)); intro w2 hw; have H_ := Aside0.mk (show Hs w0 w2 ((g7, .cells #[.string r1, .bool r2, .string r3, .int .i64 r4, .int .i64 r5] 48 (0, 0)) :: (BL ++ (BB ++ Lx))) from by rw [hw]; exact (((((H.out.set 0 rfl 0 (.string r1)).set 0 rfl 1 (.bool r2)).set 0 rfl 2 (.string r3)).set 0 rfl 3 (.int .i64 r4)).set 0 rfl 4 (.int .i64 r5))); clear hw hc0_ hf0_ hc1_ hf1_ hc2_ hf2_ hc3_ hf3_ hc4_ hf4_; clear H; have H := H_; clear H_; have hg1 : w2.cell? ⟨1, 0, none⟩ = some (.iface 121 (.pointer (some e1))) := (hs.out.below H.out.below).bent)
                | ((with_reducible refine gate_callee (f := 52) rfl ?_); refine goesL_ (some 33) rfl rfl Tryd.func52 (by kernel_rfl) rfl #[.iface 121 (.pointer (some e1)), .iface 121 (.pointer (some e1))] rfl (by (try simp only [List.map_toArray, List.map_cons, List.map_nil]); first | done | rfl) ?_; (with_reducible refine (is_same e1 _).mono ?_); rintro e wI ⟨rfl, rfl⟩; refine ⟨_, rfl, ?_⟩; have H_ := Aside0.mk H.out.tail; clear H; have H := H_; clear H_)
                | ((with_reducible refine gate_dst (N := 37) rfl ?_); refine append_ev rfl (.tmp 34) (.tmp 36) 66 2 (.int .i64 0) 1 8 rfl Tryd.underlying66 (by kernel_rfl) rfl (by decide) (by decide) _ Bn.length (Bn.map (Value.int .i64)) [.int .i64 p] rfl rfl rfl (fun u hu => by rw [List.mem_singleton.1 hu]; rfl) hBB.out (hs_swap H.out) hq.out ?_; intro A1 z1 wD B1 hB1 hH1; have hB2 := Aside0.mk hB1; have H_ := Aside0.mk (hs_swap hH1); clear hB1 hH1; clear H; have H := H_; clear H_))
            try go_step3
            refine ⟨rfl, ⟨k1, p + 1, L, Bn ++ [p], _, _, BL, B1, _, _, _, _, _, _, _, _, _, _, _, _, _, _, _, _, _, _, _, _, _, _, _, _, _, _, _, _, _, _, _, _, _, rfl, hA2, by omega, by omega, hL, Aside0.mk (by rw [List.map_append, List.map_cons, List.map_nil, List.length_append, List.length_singleton]; exact hB2.out), H⟩, ?_⟩
            simp [intOf]; omega
      · rw [if_neg hc] at hA1
        have l1 : decide ((a0.size : Int) ≤ p) = true := decide_eq_true (by omega)
        have l1' : decide (p ≥ (a0.size : Int)) = true := decide_eq_true (by omega)
        simp only [Option.some.injEq, Prod.mk.injEq] at hA1
        obtain ⟨rfl, rfl⟩ := hA1
        go_wp2_with fail
        simp only [Exit.jump]
        refine bodyPost_ret (results_tmp2 rfl _ _ _) rfl ?_
        exact ⟨_, _, BL, BB, rfl, hL.out, hBB.out, H.out⟩

theorem scan_len : ∀ (k : Nat) (a : ByteArray) (L : List R5) (B : List Int) (p : Int) (rL : List R5) (rB : List Int), scanL k a L B p = some (rL, rB) → L.length ≤ 1000000 → rL.length ≤ 1000000
  | 0, a, L, B, p, rL, rB, h, hl => by simp [scanL] at h
  | k + 1, a, L, B, p, rL, rB, h, hl => by
    rw [scanL] at h
    by_cases c : p < (a.size : Int)
    · rw [if_pos c] at h
      obtain ⟨x, _, h⟩ := Option.bind_eq_some_iff.mp h
      by_cases d : x.2.2.2.2.2 = 0
      · rw [if_pos d] at h
        by_cases e : p < x.2.2.2.2.1 ∧ x.2.2.2.2.1 ≤ (a.size : Int) ∧ L.length < 1000000
        · rw [if_pos e] at h
          exact scan_len k a _ B _ rL rB h (by rw [List.length_append, List.length_singleton]; omega)
        · rw [if_neg e] at h; cases h
      · rw [if_neg d] at h
        by_cases e : B.length < 1000000
        · rw [if_pos e] at h; exact scan_len k a L _ _ rL rB h hl
        · rw [if_neg e] at h; cases h
    · rw [if_neg c] at h
      simp only [Option.some.injEq, Prod.mk.injEq] at h
      rw [← h.1]; exact hl
theorem hs_rot {w0 w : World} {BL BB BO L : List Blk} (h : Hs w0 w (BL ++ (BB ++ (BO ++ L)))) : Hs w0 w (BO ++ (BL ++ (BB ++ L))) := hs_swap (h.perm (List.Perm.append_left BL (List.perm_append_comm_assoc BB BO L)))
theorem hs_rotb {w0 w : World} {BO M : List Blk} (h : Hs w0 w (BO ++ M)) : Hs w0 w (M ++ (BO ++ [])) := by
  have := h.comm
  rwa [List.append_nil]
set_option maxHeartbeats 8000000 in
set_option maxRecDepth 100000 in
theorem scanRecords_yes (k : Nat) (a0 : ByteArray) (e0 e1 : Addr) (L : List R5) (Bn : List Int) (w : World) (hS : Sent w e0 e1) (hsz : a0.size ≤ 300000) (h : scanL k a0 [] [] 0 = some (L, Bn)) :
    Calls Tryd.prog 19 #[.string a0] w fun e w' => ∃ v B, e = .returned v ∧ RowB 23 5 v L.length (L.flatMap cells5) B ∧ Hs w w' (B ++ []) := by
  have C := Aside0.mk (fun W (Lx : List Blk) (H : Hs w W Lx) => scanAll_calls k a0 e0 e1 L Bn w W Lx hS hsz h H)
  have hu := Tryd.underlying48
  have hu2 := Tryd.underlying23
  have l0 : decide ((a0.size : Int) > 300000) = false := decide_eq_false (by omega)
  have hlen : L.length ≤ 1000000 := scan_len k a0 [] [] 0 L Bn h (by simp)
  clear hS h
  have H := Aside0.mk ((Hs.nil w).alloc (.cells #[] 23))
  go_enter Tryd.func19, Tryd.ntmps19
  go_wp2_with (first
    | ((with_reducible refine gate_callee (f := 41) rfl ?_); refine goesL_ (some 15) rfl rfl Tryd.func41 (by kernel_rfl) rfl #[.string a0] rfl (by (try simp only [List.map_toArray, List.map_cons, List.map_nil]); first | done | rfl) ?_; (with_reducible refine (C.out _ _ H.out).mono ?_); rintro e wA ⟨vL, vB, BL, BB, rfl, hL0, hB0, hH0⟩; refine ⟨_, rfl, ?_⟩; have hL := Aside0.mk hL0; obtain ⟨AL, zL, rfl⟩ := hL0.slice; obtain ⟨AB, zB, rfl⟩ := hB0.slice; have H_ := Aside0.mk (hs_rot (BO := [_]) hH0); clear hL0 hB0 hH0; clear H; have H := H_; clear H_))
  clear C
  go_loopw [3, 20] (fun v3 v20 wr => ∃ (i : Nat) (v : Value) (BO : List Blk), i ≤ L.length ∧ v3 = v ∧ v20 = .int .i64 i ∧ Aside0 (RowB 23 5 v i ((L.take i).flatMap cells5) BO) ∧ Aside0 (Hs w wr (BO ++ (BL ++ (BB ++ []))))) (fun _ i _ => L.length - (intOf i).toNat)
  case atStart => exact ⟨0, _, [_], by omega, rfl, rfl, Aside0.mk ⟨by simp, .inr ⟨_, 0, #[], rfl, rfl, Nat.le_refl 0, by decide, rfl, rfl⟩⟩, H⟩
  case round =>
    clear H
    obtain ⟨i, v, BO, hi0, rfl, rfl, hO, H⟩ := hrel
    obtain ⟨AO, zO, hvO⟩ := hO.out.slice
    subst hvO
    by_cases hi1 : i < L.length
    · obtain ⟨gL, capL, cur, e1, e2, f1, f2, f3, f4⟩ := hL.out.form (by omega)
      injection e1 with e3 e4 e5
      subst e3 e5 e2
      clear e4
      obtain ⟨r, hr0⟩ : ∃ r, L[i]? = some r := ⟨_, List.getElem?_eq_getElem hi1⟩
      have hrr := Aside0.mk hr0
      have hcl : ∀ j, j < 5 → wr.cell? ⟨gL, i * 5 + j, none⟩ = (cells5 r)[j]? := fun j hj => by
        rw [(Hs.left (B := BO) H.out).cell 0 rfl (i * 5 + j), f4 (i * 5 + j) (by omega), flat_get cells5 5 cells5_len L i j r hr0 hj]
      have hr1 : wr.cell? ⟨gL, i * 5, none⟩ = some (.string r.1) := hcl 0 (by omega)
      have hr2 : wr.cell? ⟨gL, i * 5 + 1, none⟩ = some (.bool r.2.1) := hcl 1 (by omega)
      have hr3 : wr.cell? ⟨gL, i * 5 + 2, none⟩ = some (.string r.2.2.1) := hcl 2 (by omega)
      have hr4 : wr.cell? ⟨gL, i * 5 + 3, none⟩ = some (.int .i64 r.2.2.2.1) := hcl 3 (by omega)
      have hr5 : wr.cell? ⟨gL, i * 5 + 4, none⟩ = some (.int .i64 r.2.2.2.2) := hcl 4 (by omega)
      have l1 : (i : Int) < (L.length : Int) := by omega
      have l2 : 0 ≤ (i : Int) := by omega
      have hq := Aside0.mk (show (i + 1) * 56 ≤ 140737488355328 by omega)
      clear hr0 hcl f1 f2 f3 f4
      go_wp2_with (first
          | ((with_reducible refine gate_dst (N := 23) rfl ?_); refine load_at (.agg #[.string r.1, .bool r.2.1, .string r.2.2.1, .int .i64 r.2.2.2.1, .int .i64 r.2.2.2.2]) ?hg ?hr ?_; (case hg => rfl); (case hr => first | (go_simp; done) | (go_simp; rfl)))
          | ((with_reducible refine gate_dst (N := 7) rfl ?_); (try (refine gate_guard (by rfl) ?_; dsimp only)); refine box_event ?hg (N := 7) ?hd (cs := #[.string (⟨#[]⟩ : ByteArray), .bool false, .string (⟨#[]⟩ : ByteArray), .int .i64 0, .int .i64 0]) (t := 48) ?hr ?_; (case hd => rfl); (case hg => rfl); (case hr => first | (go_simp; done) | (go_simp; rfl)); intro g7 hg w21 hbox hb; have H_ := Aside0.mk (Hs.push H.out (Nat.le_of_eq hg.symm) hbox hb); clear hbox hb hg; clear H; have H := H_; clear H_)
          | ((with_reducible refine gate_store (p := 7) rfl ?_); (try (refine gate_guard (by rfl) ?_; dsimp only)); have hc0_ := H.out.cellv (v := .string (⟨#[]⟩ : ByteArray)) 0 rfl 0 rfl; have hf0_ := H.out.frozen 0 rfl 0; have hc1_ := H.out.cellv (v := .bool false) 0 rfl 1 rfl; have hf1_ := H.out.frozen 0 rfl 1; have hc2_ := H.out.cellv (v := .string (⟨#[]⟩ : ByteArray)) 0 rfl 2 rfl; have hf2_ := H.out.frozen 0 rfl 2; have hc3_ := H.out.cellv (v := .int .i64 0) 0 rfl 3 rfl; have hf3_ := H.out.frozen 0 rfl 3; have hc4_ := H.out.cellv (v := .int .i64 0) 0 rfl 4 rfl; have hf4_ := H.out.frozen 0 rfl 4; refine store_at (fun W => (World.setCell (World.setCell (World.setCell (World.setCell (World.setCell W ⟨g7, 0, none⟩ (.string r.1)) ⟨g7, 1, none⟩ (.bool r.2.1)) ⟨g7, 2, none⟩ (.string r.2.2.1)) ⟨g7, 3, none⟩ (.int .i64 r.2.2.2.1)) ⟨g7, 4, none⟩ (.int .i64 r.2.2.2.2))) ?hg rfl ?hd ?hr ?_; (case hg => rfl); (case hd => rfl); (case hr => first | (go_simp; done) | (go_simp; rfl)); intro w22 hw; have H_ := Aside0.mk (show Hs w w22 ((g7, .cells #[.string r.1, .bool r.2.1, .string r.2.2.1, .int .i64 r.2.2.2.1, .int .i64 r.2.2.2.2] 48 (0, 0)) :: (BO ++ ([(gL, .cells cur 48 (0, 0))] ++ (BB ++ [])))) from by rw [hw]; exact (((((H.out.set 0 rfl 0 (.string r.1)).set 0 rfl 1 (.bool r.2.1)).set 0 rfl 2 (.string r.2.2.1)).set 0 rfl 3 (.int .i64 r.2.2.2.1)).set 0 rfl 4 (.int .i64 r.2.2.2.2))); clear hw hc0_ hf0_ hc1_ hf1_ hc2_ hf2_ hc3_ hf3_ hc4_ hf4_; clear H; have H := H_; clear H_)
          | ((with_reducible refine gate_dst (N := 25) rfl ?_); (try (refine gate_guard (by rfl) ?_; dsimp only)); have hc0_ := H.out.cellv (v := .string r.1) 0 rfl 0 rfl; have hc1_ := H.out.cellv (v := .bool r.2.1) 0 rfl 1 rfl; have hc2_ := H.out.cellv (v := .string r.2.2.1) 0 rfl 2 rfl; have hc3_ := H.out.cellv (v := .int .i64 r.2.2.2.1) 0 rfl 3 rfl; have hc4_ := H.out.cellv (v := .int .i64 r.2.2.2.2) 0 rfl 4 rfl; refine load_at (.agg #[.string r.1, .bool r.2.1, .string r.2.2.1, .int .i64 r.2.2.2.1, .int .i64 r.2.2.2.2]) ?hg ?hr ?_; (case hg => rfl); (case hr => first | (go_simp; done) | (go_simp; rfl)); clear hc0_ hc1_ hc2_ hc3_ hc4_)
          | ((with_reducible refine gate_callee (f := 25) rfl ?_); (try (refine gate_guard (by rfl) ?_; dsimp only)); refine goesL_ (some 26) rfl rfl Tryd.func25 (by kernel_rfl) rfl #[.agg #[.string r.1, .bool r.2.1, .string r.2.2.1, .int .i64 r.2.2.2.1, .int .i64 r.2.2.2.2]] rfl (by (try simp only [List.map_toArray, List.map_cons, List.map_nil]); first | done | rfl) ?_; (with_reducible refine (impl_found_record.calls r.1 r.2.1 r.2.2.1 r.2.2.2.1 r.2.2.2.2 r.1 r.2.1 r.2.2.1 r.2.2.2.1 r.2.2.2.2 _ rfl).mono ?_); rintro e w23 ⟨rfl, hb⟩; refine ⟨_, rfl, ?_⟩; have H_ := Aside0.mk (show Hs w w23 ((g7, .cells #[.string r.1, .bool r.2.1, .string r.2.2.1, .int .i64 r.2.2.2.1, .int .i64 r.2.2.2.2] 48 (0, 0)) :: (BO ++ ([(gL, .cells cur 48 (0, 0))] ++ (BB ++ [])))) from H.out.call hb); clear hb; clear H; have H := H_; clear H_)
          | ((with_reducible refine gate_dst (N := 28) rfl ?_); refine append_ev rfl (.tmp 24) (.tmp 27) 37 23 (.agg #[.string (⟨#[]⟩ : ByteArray), .bool false, .string (⟨#[]⟩ : ByteArray), .int .i64 0, .int .i64 0]) 5 56 rfl Tryd.underlying37 (by kernel_rfl) rfl (by decide) (by decide) _ i ((L.take i).flatMap cells5) (cells5 r) rfl rfl rfl (cells5_one _) hO.out H.out.tail hq.out ?_; intro A1 z1 wD B1 hB1 hH1; have hB2 := Aside0.mk hB1; have H_ := Aside0.mk hH1; clear hB1 hH1; clear H; have H := H_; clear H_))
      go_roundw
      case rel => exact ⟨i + 1, _, B1, by omega, rfl, by go_num, Aside0.mk (by rw [List.take_add_one, hrr.out, List.flatMap_append]; simpa using hB2.out), H⟩
      case measure => simp [intOf]; omega
    · obtain rfl : i = L.length := by omega
      have l5 : decide ((L.length : Int) < (L.length : Int)) = false := decide_eq_false (by omega)
      go_wp2_with fail
      go_ret
      rw [List.take_length] at hO
      exact ⟨_, BO, rfl, hO.out, Hs.left (B := BL ++ (BB ++ [])) (hs_rotb H.out)⟩

set_option maxHeartbeats 8000000 in
set_option maxRecDepth 100000 in
theorem scanRecords_no (a0 : ByteArray) (w : World) (hsz : a0.size > 300000) :
    Calls Tryd.prog 19 #[.string a0] w fun e w' => ∃ v B, e = .returned v ∧ RowB 23 5 v 0 [] B ∧ Hs w w' (B ++ []) := by
  have l0 : decide ((a0.size : Int) > 300000) = true := decide_eq_true (by omega)
  have H := Aside0.mk ((Hs.nil w).alloc (.cells #[] 23))
  go_enter Tryd.func19, Tryd.ntmps19
  go_wp2
  go_ret
  exact ⟨_, [_], rfl, ⟨by simp, .inr ⟨_, 0, #[], rfl, rfl, Nat.le_refl 0, by decide, rfl, rfl⟩⟩, H.out⟩
def toS (r : R5) : S23 := ⟨r.1, r.2.1, r.2.2.1, r.2.2.2.1, r.2.2.2.2⟩
theorem rec_row {w w' : World} {v : Value} {B : List Blk} (L : List R5) (h : RowB 23 5 v L.length (L.flatMap cells5) B) (H : Hs w w' (B ++ [])) : Kd.R k23 23 w' w.heap.size (fun _ => True) v (L.map toS) := by
  refine ⟨fun _ _ => trivial, L.flatMap cells5, ?_, ?_⟩
  · have := h.owns H
    rw [List.length_map]; exact this
  · have := flat_reps (R := k23.M w' w.heap.size (fun k => True ∧ some k ≠ v.ownBlock)) (fun x : S23 => [.string x.f0, .bool x.f1, .string x.f2, .int .i64 x.f3, .int .i64 x.f4]) 5 (fun _ => rfl) (fun x => k23_mkM _ _ _ x) (L.map toS)
    rw [List.flatMap_map] at this
    exact this
theorem impl_ScanRecords.calls (k : Nat) (a0 : ByteArray) (r : List S23) (w : World) (h : impl_ScanRecords.f k a0 = some r) (e0 e1 : Addr) (hS : Sent w e0 e1) :
    Calls Tryd.prog 19 #[.string a0] w fun e w' => ∃ v0_ : Value, e = .returned (v0_) ∧ Kd.R k23 23 w' w.heap.size (fun _ => True) v0_ r ∧ Below w.heap.size w w' := by
  unfold impl_ScanRecords.f at h
  by_cases c : a0.size > 300000
  · rw [if_pos c] at h
    cases h
    exact (scanRecords_no a0 w c).mono fun e w' ⟨v, B, he, hB, H⟩ => ⟨v, he, rec_row [] hB H, H.below⟩
  · rw [if_neg c] at h
    obtain ⟨⟨L, Bn⟩, h1, h2⟩ := Option.bind_eq_some_iff.mp h
    cases h2
    exact (scanRecords_yes k a0 e0 e1 L Bn w hS (by omega) h1).mono fun e w' ⟨v, B, he, hB, H⟩ => ⟨v, he, rec_row L hB H, H.below⟩

end Go.Proofs.YtncghlamcbhpmaaDoor.PFnExactScanRecords
