-- Printed by wip/print2.py (a program of this session, over the kit's printer) out of the translation.
import Derived.Test.YtncghlamcbhpmaaDoorPFnRecordsx0
import Derived.Test.YtncghlamcbhpmaaDoorPFnRecordsx1
import Derived.Test.YtncghlamcbhpmaaDoorPFnRecordsx3
import Derived.Test.YtncghlamcbhpmaaDoorPFnRecordsx6
import Derived.Test.YtncghlamcbhpmaaDoorPFnRecordsx7
import Derived.Test.YtncghlamcbhpmaaDoorPFnRecordsx8
import Derived.Test.YtncghlamcbhpmaaDoorPFnRecordsx9
namespace Go.Proofs.YtncghlamcbhpmaaDoor.PFnRecords
open Go.RowKit Go.Proofs.YtncghlamcbhpmaaDoorW.PrintWords Go.Proofs.YtncghlamcbhpmaaDoorW.PrintLast Go.Proofs.YtncghlamcbhpmaaDoorW.PrintMore
attribute [local go_sem] max2_int min2_int max_two min_two max_three min_three max_four min_four   -- for this text's walks alone
set_option linter.unusedVariables false
set_option linter.unusedSimpArgs false

attribute [local go_sem high] eqA23
/-! ### laws_lwAt: function 17 -/
def laws_lwAt.f (l0 : List Int) (a1 : Int) : Option (Int) := if a1 < (l0.length : Int) then (if 0 ≤ a1 then (some (wrap64 (rd l0 a1))) else (none)) else (some (Int.tmod (wrap64 ((wrap64 (a1 * 61)) + 29)) 256))
set_option maxHeartbeats 8000000 in
set_option maxRecDepth 100000 in
theorem laws_lwAt.calls (A0 : Option Addr) (c0 : Nat) (l0 : List Int) (a1 : Int) (r : Int) (w : World) (hr0 : Kd.C (Kd.int .u8) w A0 l0.length l0) (hc0 : l0.length ≤ c0) (h : laws_lwAt.f l0 a1 = some r) :
    Calls Tryd.prog 17 #[.slice A0 l0.length c0, .int .i64 a1] w fun e w' => e = .returned (.int .i64 r) ∧ Drawn0 w w' := by
  have HR0 := Aside0.mk hr0
  have HC0 := Aside0.mk hc0
  clear hr0 hc0
  have H : (if a1 < (l0.length : Int) then (if 0 ≤ a1 then (some (wrap64 (rd l0 a1))) else (none)) else (some (Int.tmod (wrap64 ((wrap64 (a1 * 61)) + 29)) 256))) = some r := h
  clear h
  by_cases c3 : a1 < (l0.length : Int)
  · rw [if_pos c3] at H
    have c3b0 : decide (a1 < (l0.length : Int)) = true := decide_eq_true c3
    clear c3
    by_cases c4 : 0 ≤ a1
    · rw [if_pos c4] at H
      have c4b0 : decide (0 ≤ a1) = true := decide_eq_true c4
      clear c4
      obtain rfl := Option.some.inj H
      have p319 : 0 ≤ (a1 : Int) := of_decide_eq_true (by first | (with_reducible assumption) | assumption)
      have q319 : a1 < (l0.length : Int) := of_decide_eq_true (by first | (with_reducible assumption) | assumption)
      obtain ⟨ad319, e319, hx319_0⟩ := Kd.at_int HR0.out a1 p319 q319
      cases e319
      replace p319 := eq_true p319
      replace q319 := eq_true q319
      go_enter Tryd.func17, Tryd.ntmps17
      go_wp2
      go_ret
      exact ⟨by first | rfl | (simp; done) | (simp [*]; done), by repeat (first | exact Drawn0.refl _ | apply Drawn0.step)⟩
    · rw [if_neg c4] at H
      exact absurd H (by simp)
  · rw [if_neg c3] at H
    have c3b0 : decide (a1 < (l0.length : Int)) = false := decide_eq_false c3
    clear c3
    obtain rfl := Option.some.inj H
    go_enter Tryd.func17, Tryd.ntmps17
    go_wp2
    go_ret
    exact ⟨by first | rfl | (simp; done) | (simp [*]; done), by repeat (first | exact Drawn0.refl _ | apply Drawn0.step)⟩

/-! ### laws_FnRecords: function 5 -/
def laws_FnRecords.j0 : Nat → List Int → List Int → Bool → Option (Bool)
  | 0, _, _, _ => none
  | k + 1, x0, x1, x20 => if x20 = true then (some true) else ((spec_DrawPutRecord.f k x0).bind fun bt320 => ((impl_PutRecord.f k bt320.1 bt320.2.1 bt320.2.2).bind fun t323 => ((spec_PutRecord.f k bt320.1 bt320.2.1 bt320.2.2).bind fun t324 => (if t323.toList = t324.toList then (if t323.toList = ([] : List UInt8) then (some true) else ((spec_DrawPutText.f k x1).bind fun t325 => (if t325.size + t323.size ≤ 9223372036854775807 then (if (t325 ++ t323).size + 1 ≤ 9223372036854775807 then ((impl_GetRecord.f k ((t325 ++ t323) ++ (⟨#[120]⟩ : ByteArray)) (t325.size : Int)).bind fun bt326 => (if (!(bt326.1.toList == bt320.1.toList) || (!(bt326.2.1 == bt320.2.1) || (!(bt326.2.2.1.toList == bt320.2.2.toList) || (!(bt326.2.2.2.1 == (t325.size : Int)) || (!(bt326.2.2.2.2 == (wrap64 ((t325.size : Int) + (t323.size : Int))))))))) = true then (some false) else ((laws_lwAt.f x1 0).bind fun t332 => ((laws_lwAt.f x1 1).bind fun t333 => ((laws_lwAt.f x1 2).bind fun t334 => ((laws_lwTurn.f t323 (wrap64 ((wrap64 (t332 * 256)) + t333)) t334).bind fun t335 => (if t325.size + t335.size ≤ 9223372036854775807 then ((impl_GetRecord.f k (t325 ++ t335) (t325.size : Int)).bind fun bt336 => (some (bt336.2.2.2.2 != bt326.2.2.2.2))) else (none)))))))) else (none)) else (none)))) else (some false)))))
def laws_FnRecords.f (k : Nat) (l0 : List Int) (l1 : List Int) : Option (Bool) := if (l0.length : Int) > 1048576 then (laws_FnRecords.j0 k l0 l1 true) else (laws_FnRecords.j0 k l0 l1 (decide ((l1.length : Int) > 1048576)))
theorem laws_FnRecords.mono_l : ∀ k, (∀ y0 y1 y2, LeO (laws_FnRecords.j0 k y0 y1 y2) (laws_FnRecords.j0 (k + 1) y0 y1 y2))
  | 0 => fun _ _ _ r h => by simp [laws_FnRecords.j0] at h
  | k + 1 => by
    have ih0 := laws_FnRecords.mono_l k
    · intro y0 y1 y2
      unfold laws_FnRecords.j0
      repeat' first
      | (with_reducible exact ih0 _ _ _)
      | (with_reducible exact impl_GetRecord.mono _ _ _)
      | (with_reducible exact impl_PutRecord.mono _ _ _ _)
      | (with_reducible exact spec_DrawPutRecord.mono _ _)
      | (with_reducible exact spec_DrawPutText.mono _ _)
      | (with_reducible exact spec_PutRecord.mono _ _ _ _)
      | (with_reducible exact LeO.refl _)
      | (with_reducible exact LeO.none _)
      | (with_reducible refine LeO.ite ?_ ?_)
      | (with_reducible refine LeO.bind ?_ (fun _ => ?_))
      | exact ih0 _ _ _
      | exact impl_GetRecord.mono _ _ _
      | exact impl_PutRecord.mono _ _ _ _
      | exact spec_DrawPutRecord.mono _ _
      | exact spec_DrawPutText.mono _ _
      | exact spec_PutRecord.mono _ _ _ _
      | exact LeO.none _
      | refine LeO.ite ?_ ?_
      | refine LeO.bind ?_ (fun _ => ?_)
theorem laws_FnRecords.mono : ∀ a0 a1 k, LeO (laws_FnRecords.f k a0 a1) (laws_FnRecords.f (k + 1) a0 a1) := by
  intro a0 a1 k
  have ih0 := laws_FnRecords.mono_l k
  unfold laws_FnRecords.f
  repeat' first
      | (with_reducible exact ih0 _ _ _)
      | (with_reducible exact impl_GetRecord.mono _ _ _)
      | (with_reducible exact impl_PutRecord.mono _ _ _ _)
      | (with_reducible exact spec_DrawPutRecord.mono _ _)
      | (with_reducible exact spec_DrawPutText.mono _ _)
      | (with_reducible exact spec_PutRecord.mono _ _ _ _)
      | (with_reducible exact LeO.refl _)
      | (with_reducible exact LeO.none _)
      | (with_reducible refine LeO.ite ?_ ?_)
      | (with_reducible refine LeO.bind ?_ (fun _ => ?_))
      | exact ih0 _ _ _
      | exact impl_GetRecord.mono _ _ _
      | exact impl_PutRecord.mono _ _ _ _
      | exact spec_DrawPutRecord.mono _ _
      | exact spec_DrawPutText.mono _ _
      | exact spec_PutRecord.mono _ _ _ _
      | exact LeO.none _
      | refine LeO.ite ?_ ?_
      | refine LeO.bind ?_ (fun _ => ?_)
set_option maxHeartbeats 8000000 in
set_option maxRecDepth 100000 in
theorem laws_FnRecords.calls (k : Nat) (A0 : Option Addr) (c0 : Nat) (l0 : List Int) (A1 : Option Addr) (c1 : Nat) (l1 : List Int) (r : Bool) (w : World) (hr0 : Kd.C (Kd.int .u8) w A0 l0.length l0) (hc0 : l0.length ≤ c0) (hr1 : Kd.C (Kd.int .u8) w A1 l1.length l1) (hc1 : l1.length ≤ c1) (e0 e1 : Addr) (hs0 : Sent w e0 e1) (h : laws_FnRecords.f k l0 l1 = some r) :
    Calls Tryd.prog 5 #[.slice A0 l0.length c0, .slice A1 l1.length c1] w fun e w' => e = .returned (.bool r) ∧ Below w.heap.size w w' := by
  have HSENT := Aside0.mk hs0
  clear hs0
  have hu23 := Tryd.underlying23
  have HR0 := Aside0.mk hr0
  have HC0 := Aside0.mk hc0
  clear hr0 hc0
  have HR1 := Aside0.mk hr1
  have HC1 := Aside0.mk hc1
  clear hr1 hc1
  have HB := Aside0.mk (Below.refl w.heap.size w)
  have H : (if (l0.length : Int) > 1048576 then (laws_FnRecords.j0 k l0 l1 true) else (laws_FnRecords.j0 k l0 l1 (decide ((l1.length : Int) > 1048576)))) = some r := h
  clear h
  have HC3 := Aside0.mk H
  clear H
  go_enter Tryd.func5, Tryd.ntmps5
  go_upto_region 1 with (fail)
  go_cut [20] (fun v20 wc => ∃ (kq : Nat) (x20_2 : Bool), v20 = .bool x20_2 ∧ Aside0 (laws_FnRecords.j0 kq l0 l1 x20_2 = some r) ∧ Aside0 (kq ≤ k) ∧ Aside0 (Below w.heap.size w wc))
  case first =>
    have H := HC3.out
    clear HC3
    by_cases c4 : (l0.length : Int) > 1048576
    · rw [if_pos c4] at H
      have c4b0 : decide (1048576 < (l0.length : Int)) = true := decide_eq_true c4
      have c4b1 : decide (1048576 < l0.length) = true := decide_eq_true (by omega)
      clear c4
      (first | rw [c4b0] | (simp only [i64_w, i32_w]; rw [c4b0]) | skip)
      have H' := Aside0.mk H
      clear H
      go_wp2
      go_meet
      case rel => exact ⟨_, (true), (by first | rfl | (simp; done) | (simp [*]; done)), H', ⟨by first | omega | exact Nat.le_refl _⟩, ⟨by repeat (first | (with_reducible first | exact HB.out | apply below_alloc | apply pw_below_drewN | apply below_drew1) | exact HB.out)⟩⟩
    · rw [if_neg c4] at H
      have c4b0 : decide (1048576 < (l0.length : Int)) = false := decide_eq_false c4
      have c4b1 : decide (1048576 < l0.length) = false := decide_eq_false (by omega)
      clear c4
      (first | rw [c4b0] | (simp only [i64_w, i32_w]; rw [c4b0]) | skip)
      have H' := Aside0.mk H
      clear H
      go_wp2
      go_meet
      case rel => exact ⟨_, (decide ((l1.length : Int) > 1048576)), (by first | rfl | (simp; done) | (simp [*]; done)), H', ⟨by first | omega | exact Nat.le_refl _⟩, ⟨by repeat (first | (with_reducible first | exact HB.out | apply below_alloc | apply pw_below_drewN | apply below_drew1) | exact HB.out)⟩⟩
  case rest =>
    clear HC3
    try clear c1
    try clear p2
    try clear c4
    try clear c4b0
    try clear c4b1
    obtain ⟨kq, x20_2, rfl, HA, HJ2, HB⟩ := hcut
    cases kq with
    | zero => exact absurd HA.out (by simp [laws_FnRecords.j0])
    | succ kj2 =>
      have H := HA.out
      clear HA
      simp only [laws_FnRecords.j0] at H
      by_cases c5 : x20_2 = true
      · subst c5
        have H1 : (some true) = some r := by rw [if_pos rfl] at H; exact H
        clear H
        have H := H1
        clear H1
        obtain rfl := Option.some.inj H
        go_wp2
        go_ret
        exact ⟨by first | rfl | (simp [errW_none, errW_some] <;> rfl) | (simp [*, errW_none, errW_some] <;> rfl), by repeat (first | (with_reducible first | exact HB.out | apply below_alloc | apply pw_below_drewN | apply below_drew1) | exact HB.out)⟩
      · replace c5 := Bool.eq_false_iff.mpr c5
        subst c5
        have H1 : ((spec_DrawPutRecord.f kj2 l0).bind fun bt320 => ((impl_PutRecord.f kj2 bt320.1 bt320.2.1 bt320.2.2).bind fun t323 => ((spec_PutRecord.f kj2 bt320.1 bt320.2.1 bt320.2.2).bind fun t324 => (if t323.toList = t324.toList then (if t323.toList = ([] : List UInt8) then (some true) else ((spec_DrawPutText.f kj2 l1).bind fun t325 => (if t325.size + t323.size ≤ 9223372036854775807 then (if (t325 ++ t323).size + 1 ≤ 9223372036854775807 then ((impl_GetRecord.f kj2 ((t325 ++ t323) ++ (⟨#[120]⟩ : ByteArray)) (t325.size : Int)).bind fun bt326 => (if (!(bt326.1.toList == bt320.1.toList) || (!(bt326.2.1 == bt320.2.1) || (!(bt326.2.2.1.toList == bt320.2.2.toList) || (!(bt326.2.2.2.1 == (t325.size : Int)) || (!(bt326.2.2.2.2 == (wrap64 ((t325.size : Int) + (t323.size : Int))))))))) = true then (some false) else ((laws_lwAt.f l1 0).bind fun t332 => ((laws_lwAt.f l1 1).bind fun t333 => ((laws_lwAt.f l1 2).bind fun t334 => ((laws_lwTurn.f t323 (wrap64 ((wrap64 (t332 * 256)) + t333)) t334).bind fun t335 => (if t325.size + t335.size ≤ 9223372036854775807 then ((impl_GetRecord.f kj2 (t325 ++ t335) (t325.size : Int)).bind fun bt336 => (some (bt336.2.2.2.2 != bt326.2.2.2.2))) else (none)))))))) else (none)) else (none)))) else (some false))))) = some r := by rw [if_neg (show ¬ (false = true) by decide)] at H; exact H
        clear H
        have H := H1
        clear H1
        replace H := Option.bind_eq_some_iff.mp H
        obtain ⟨⟨t320, t321, t322⟩, A60, H⟩ := H
        replace H : ((impl_PutRecord.f kj2 t320 t321 t322).bind fun t323 => ((spec_PutRecord.f kj2 t320 t321 t322).bind fun t324 => (if t323.toList = t324.toList then (if t323.toList = ([] : List UInt8) then (some true) else ((spec_DrawPutText.f kj2 l1).bind fun t325 => (if t325.size + t323.size ≤ 9223372036854775807 then (if (t325 ++ t323).size + 1 ≤ 9223372036854775807 then ((impl_GetRecord.f kj2 ((t325 ++ t323) ++ (⟨#[120]⟩ : ByteArray)) (t325.size : Int)).bind fun bt326 => (if (!(bt326.1.toList == t320.toList) || (!(bt326.2.1 == t321) || (!(bt326.2.2.1.toList == t322.toList) || (!(bt326.2.2.2.1 == (t325.size : Int)) || (!(bt326.2.2.2.2 == (wrap64 ((t325.size : Int) + (t323.size : Int))))))))) = true then (some false) else ((laws_lwAt.f l1 0).bind fun t332 => ((laws_lwAt.f l1 1).bind fun t333 => ((laws_lwAt.f l1 2).bind fun t334 => ((laws_lwTurn.f t323 (wrap64 ((wrap64 (t332 * 256)) + t333)) t334).bind fun t335 => (if t325.size + t335.size ≤ 9223372036854775807 then ((impl_GetRecord.f kj2 (t325 ++ t335) (t325.size : Int)).bind fun bt336 => (some (bt336.2.2.2.2 != bt326.2.2.2.2))) else (none)))))))) else (none)) else (none)))) else (some false)))) = some r := H
        have A6 := Aside0.mk A60
        clear A60
        replace H := Option.bind_eq_some_iff.mp H
        obtain ⟨t323, A70, H⟩ := H
        replace H : ((spec_PutRecord.f kj2 t320 t321 t322).bind fun t324 => (if t323.toList = t324.toList then (if t323.toList = ([] : List UInt8) then (some true) else ((spec_DrawPutText.f kj2 l1).bind fun t325 => (if t325.size + t323.size ≤ 9223372036854775807 then (if (t325 ++ t323).size + 1 ≤ 9223372036854775807 then ((impl_GetRecord.f kj2 ((t325 ++ t323) ++ (⟨#[120]⟩ : ByteArray)) (t325.size : Int)).bind fun bt326 => (if (!(bt326.1.toList == t320.toList) || (!(bt326.2.1 == t321) || (!(bt326.2.2.1.toList == t322.toList) || (!(bt326.2.2.2.1 == (t325.size : Int)) || (!(bt326.2.2.2.2 == (wrap64 ((t325.size : Int) + (t323.size : Int))))))))) = true then (some false) else ((laws_lwAt.f l1 0).bind fun t332 => ((laws_lwAt.f l1 1).bind fun t333 => ((laws_lwAt.f l1 2).bind fun t334 => ((laws_lwTurn.f t323 (wrap64 ((wrap64 (t332 * 256)) + t333)) t334).bind fun t335 => (if t325.size + t335.size ≤ 9223372036854775807 then ((impl_GetRecord.f kj2 (t325 ++ t335) (t325.size : Int)).bind fun bt336 => (some (bt336.2.2.2.2 != bt326.2.2.2.2))) else (none)))))))) else (none)) else (none)))) else (some false))) = some r := H
        have A7 := Aside0.mk A70
        clear A70
        replace H := Option.bind_eq_some_iff.mp H
        obtain ⟨t324, A80, H⟩ := H
        replace H : (if t323.toList = t324.toList then (if t323.toList = ([] : List UInt8) then (some true) else ((spec_DrawPutText.f kj2 l1).bind fun t325 => (if t325.size + t323.size ≤ 9223372036854775807 then (if (t325 ++ t323).size + 1 ≤ 9223372036854775807 then ((impl_GetRecord.f kj2 ((t325 ++ t323) ++ (⟨#[120]⟩ : ByteArray)) (t325.size : Int)).bind fun bt326 => (if (!(bt326.1.toList == t320.toList) || (!(bt326.2.1 == t321) || (!(bt326.2.2.1.toList == t322.toList) || (!(bt326.2.2.2.1 == (t325.size : Int)) || (!(bt326.2.2.2.2 == (wrap64 ((t325.size : Int) + (t323.size : Int))))))))) = true then (some false) else ((laws_lwAt.f l1 0).bind fun t332 => ((laws_lwAt.f l1 1).bind fun t333 => ((laws_lwAt.f l1 2).bind fun t334 => ((laws_lwTurn.f t323 (wrap64 ((wrap64 (t332 * 256)) + t333)) t334).bind fun t335 => (if t325.size + t335.size ≤ 9223372036854775807 then ((impl_GetRecord.f kj2 (t325 ++ t335) (t325.size : Int)).bind fun bt336 => (some (bt336.2.2.2.2 != bt326.2.2.2.2))) else (none)))))))) else (none)) else (none)))) else (some false)) = some r := H
        have A8 := Aside0.mk A80
        clear A80
        by_cases c9 : t323.toList = t324.toList
        · rw [if_pos c9] at H
          have c9b0 : (t323.toList == t324.toList) = true := beq_iff_eq.mpr c9
          have c9b1 : (t323.toList != t324.toList) = false := bne_eq_false_iff_eq.mpr c9
          clear c9
          by_cases c10 : t323.toList = ([] : List UInt8)
          · rw [if_pos c10] at H
            have c10b0 : (t323.toList == ([] : List UInt8)) = true := beq_iff_eq.mpr c10
            have c10b1 : (t323.toList != ([] : List UInt8)) = false := bne_eq_false_iff_eq.mpr c10
            clear c10
            obtain rfl := Option.some.inj H
            go_wp2_with (first | ((with_reducible refine gate_callee (f := 12) rfl ?_); refine goesL_ (some 23) rfl rfl Tryd.func12 (by kernel_rfl) rfl #[.slice A0 l0.length c0] rfl (by (try simp only [List.map_toArray, List.map_cons, List.map_nil]); first | done | rfl | (simp only [List.length_drop, List.length_take]; rfl)) ?_; (with_reducible refine (spec_DrawPutRecord.calls kj2 _ _ l0 t320 t321 t322 _ ?side1 ?side2 A6.out).mono ?_); (case side1 => repeat (first | exact (Kd.C_below HR0.out HB.out) | (with_reducible refine Kd.C_alloc ?_ _) | (with_reducible refine Kd.C_drewN ?_ _) | (with_reducible refine Kd.C_drew ?_))); (case side2 => exact HC0.out); rintro e w11 ⟨rfl, hb⟩; refine ⟨_, rfl, ?_⟩; have n0_ := Aside0.mk (below_step (by repeat (first | (with_reducible first | exact HB.out | apply below_alloc | apply pw_below_drewN | apply below_drew1) | exact HB.out)) hb); clear HB; have HB := n0_; clear n0_; (try clear hb); (try clear hb2); (try clear hk); (try clear hi)) | ((with_reducible refine gate_callee (f := 13) rfl ?_); refine goesL_ (some 30) rfl rfl Tryd.func13 (by kernel_rfl) rfl #[.string t320, .bool t321, .string t322] rfl (by (try simp only [List.map_toArray, List.map_cons, List.map_nil]); first | done | rfl | (simp only [List.length_drop, List.length_take]; rfl)) ?_; (with_reducible refine (impl_PutRecord.calls kj2 t320 t321 t322 t323 _ A7.out).mono ?_); rintro e w12 ⟨rfl, hb⟩; refine ⟨_, rfl, ?_⟩; have n0_ := Aside0.mk (below_step (by repeat (first | (with_reducible first | exact HB.out | apply below_alloc | apply pw_below_drewN | apply below_drew1) | exact HB.out)) hb); clear HB; have HB := n0_; clear n0_; (try clear hb); (try clear hb2); (try clear hk); (try clear hi)) | ((with_reducible refine gate_callee (f := 14) rfl ?_); refine goesL_ (some 35) rfl rfl Tryd.func14 (by kernel_rfl) rfl #[.string t320, .bool t321, .string t322] rfl (by (try simp only [List.map_toArray, List.map_cons, List.map_nil]); first | done | rfl | (simp only [List.length_drop, List.length_take]; rfl)) ?_; (with_reducible refine (spec_PutRecord.calls kj2 t320 t321 t322 t324 _ A8.out).mono ?_); rintro e w13 ⟨rfl, hb⟩; refine ⟨_, rfl, ?_⟩; have n0_ := Aside0.mk (below_step (by repeat (first | (with_reducible first | exact HB.out | apply below_alloc | apply pw_below_drewN | apply below_drew1) | exact HB.out)) hb); clear HB; have HB := n0_; clear n0_; (try clear hb); (try clear hb2); (try clear hk); (try clear hi)))
            go_ret
            exact ⟨by first | rfl | (simp [errW_none, errW_some] <;> rfl) | (simp [*, errW_none, errW_some] <;> rfl), by repeat (first | (with_reducible first | exact HB.out | apply below_alloc | apply pw_below_drewN | apply below_drew1) | exact HB.out)⟩
          · rw [if_neg c10] at H
            have c10b0 : (t323.toList == ([] : List UInt8)) = false := beq_eq_false_iff_ne.mpr c10
            have c10b1 : (t323.toList != ([] : List UInt8)) = true := bne_iff_ne.mpr c10
            replace H := Option.bind_eq_some_iff.mp H
            obtain ⟨t325, A140, H⟩ := H
            replace H : (if t325.size + t323.size ≤ 9223372036854775807 then (if (t325 ++ t323).size + 1 ≤ 9223372036854775807 then ((impl_GetRecord.f kj2 ((t325 ++ t323) ++ (⟨#[120]⟩ : ByteArray)) (t325.size : Int)).bind fun bt326 => (if (!(bt326.1.toList == t320.toList) || (!(bt326.2.1 == t321) || (!(bt326.2.2.1.toList == t322.toList) || (!(bt326.2.2.2.1 == (t325.size : Int)) || (!(bt326.2.2.2.2 == (wrap64 ((t325.size : Int) + (t323.size : Int))))))))) = true then (some false) else ((laws_lwAt.f l1 0).bind fun t332 => ((laws_lwAt.f l1 1).bind fun t333 => ((laws_lwAt.f l1 2).bind fun t334 => ((laws_lwTurn.f t323 (wrap64 ((wrap64 (t332 * 256)) + t333)) t334).bind fun t335 => (if t325.size + t335.size ≤ 9223372036854775807 then ((impl_GetRecord.f kj2 (t325 ++ t335) (t325.size : Int)).bind fun bt336 => (some (bt336.2.2.2.2 != bt326.2.2.2.2))) else (none)))))))) else (none)) else (none)) = some r := H
            have A14 := Aside0.mk A140
            clear A140
            by_cases c15 : t325.size + t323.size ≤ 9223372036854775807
            · rw [if_pos c15] at H
              have c15b0 := eq_true c15
              have c15w : wrap64 ((t325.size : Int) + (t323.size : Int)) = (t325.size : Int) + (t323.size : Int) := by unfold wrap64; omega
              try simp only [c15w] at H
              clear c15w
              have c15b1 : decide (t325.size + t323.size ≤ 9223372036854775807) = true := decide_eq_true c15
              try have c15b2 : (9223372036854775807 < t325.size + t323.size) = False := eq_false (Nat.not_lt.2 c15)
              by_cases c16 : (t325 ++ t323).size + 1 ≤ 9223372036854775807
              · rw [if_pos c16] at H
                have c16b0 := eq_true c16
                have c16s := c16
                try simp only [ByteArray.size_append] at c16s
                have c16t := eq_false (Nat.not_lt.2 c16s)
                have c16u := decide_eq_true c16s
                replace c16s := eq_true c16s
                have c16b1 : decide ((t325 ++ t323).size + 1 ≤ 9223372036854775807) = true := decide_eq_true c16
                try have c16b2 : (9223372036854775807 < (t325 ++ t323).size + 1) = False := eq_false (Nat.not_lt.2 c16)
                replace H := Option.bind_eq_some_iff.mp H
                obtain ⟨⟨t326, t327, t328, t329, t330⟩, A170, H⟩ := H
                replace H : (if (!(t326.toList == t320.toList) || (!(t327 == t321) || (!(t328.toList == t322.toList) || (!(t329 == (t325.size : Int)) || (!(t330 == ((t325.size : Int) + (t323.size : Int)))))))) = true then (some false) else ((laws_lwAt.f l1 0).bind fun t332 => ((laws_lwAt.f l1 1).bind fun t333 => ((laws_lwAt.f l1 2).bind fun t334 => ((laws_lwTurn.f t323 (wrap64 ((wrap64 (t332 * 256)) + t333)) t334).bind fun t335 => (if t325.size + t335.size ≤ 9223372036854775807 then ((impl_GetRecord.f kj2 (t325 ++ t335) (t325.size : Int)).bind fun bt336 => (some (bt336.2.2.2.2 != t330))) else (none))))))) = some r := H
                have A17 := Aside0.mk A170
                clear A170
                by_cases c18 : (!(t326.toList == t320.toList) || (!(t327 == t321) || (!(t328.toList == t322.toList) || (!(t329 == (t325.size : Int)) || (!(t330 == ((t325.size : Int) + (t323.size : Int)))))))) = true
                · rw [if_pos c18] at H
                  have c18b0 : (!(t326.toList == t320.toList) || (!(t327 == t321) || (!(t328.toList == t322.toList) || (!(t329 == (t325.size : Int)) || (!(t330 == ((t325.size : Int) + (t323.size : Int)))))))) = true := c18
                  clear c18
                  obtain rfl := Option.some.inj H
                  go_wp2_with (first | ((with_reducible refine gate_callee (f := 12) rfl ?_); refine goesL_ (some 23) rfl rfl Tryd.func12 (by kernel_rfl) rfl #[.slice A0 l0.length c0] rfl (by (try simp only [List.map_toArray, List.map_cons, List.map_nil]); first | done | rfl | (simp only [List.length_drop, List.length_take]; rfl)) ?_; (with_reducible refine (spec_DrawPutRecord.calls kj2 _ _ l0 t320 t321 t322 _ ?side1 ?side2 A6.out).mono ?_); (case side1 => repeat (first | exact (Kd.C_below HR0.out HB.out) | (with_reducible refine Kd.C_alloc ?_ _) | (with_reducible refine Kd.C_drewN ?_ _) | (with_reducible refine Kd.C_drew ?_))); (case side2 => exact HC0.out); rintro e w19 ⟨rfl, hb⟩; refine ⟨_, rfl, ?_⟩; have n0_ := Aside0.mk (below_step (by repeat (first | (with_reducible first | exact HB.out | apply below_alloc | apply pw_below_drewN | apply below_drew1) | exact HB.out)) hb); clear HB; have HB := n0_; clear n0_; (try clear hb); (try clear hb2); (try clear hk); (try clear hi)) | ((with_reducible refine gate_callee (f := 13) rfl ?_); refine goesL_ (some 30) rfl rfl Tryd.func13 (by kernel_rfl) rfl #[.string t320, .bool t321, .string t322] rfl (by (try simp only [List.map_toArray, List.map_cons, List.map_nil]); first | done | rfl | (simp only [List.length_drop, List.length_take]; rfl)) ?_; (with_reducible refine (impl_PutRecord.calls kj2 t320 t321 t322 t323 _ A7.out).mono ?_); rintro e w20 ⟨rfl, hb⟩; refine ⟨_, rfl, ?_⟩; have n0_ := Aside0.mk (below_step (by repeat (first | (with_reducible first | exact HB.out | apply below_alloc | apply pw_below_drewN | apply below_drew1) | exact HB.out)) hb); clear HB; have HB := n0_; clear n0_; (try clear hb); (try clear hb2); (try clear hk); (try clear hi)) | ((with_reducible refine gate_callee (f := 14) rfl ?_); refine goesL_ (some 35) rfl rfl Tryd.func14 (by kernel_rfl) rfl #[.string t320, .bool t321, .string t322] rfl (by (try simp only [List.map_toArray, List.map_cons, List.map_nil]); first | done | rfl | (simp only [List.length_drop, List.length_take]; rfl)) ?_; (with_reducible refine (spec_PutRecord.calls kj2 t320 t321 t322 t324 _ A8.out).mono ?_); rintro e w21 ⟨rfl, hb⟩; refine ⟨_, rfl, ?_⟩; have n0_ := Aside0.mk (below_step (by repeat (first | (with_reducible first | exact HB.out | apply below_alloc | apply pw_below_drewN | apply below_drew1) | exact HB.out)) hb); clear HB; have HB := n0_; clear n0_; (try clear hb); (try clear hb2); (try clear hk); (try clear hi)) | ((with_reducible refine gate_callee (f := 15) rfl ?_); refine goesL_ (some 40) rfl rfl Tryd.func15 (by kernel_rfl) rfl #[.slice A1 l1.length c1] rfl (by (try simp only [List.map_toArray, List.map_cons, List.map_nil]); first | done | rfl | (simp only [List.length_drop, List.length_take]; rfl)) ?_; (with_reducible refine (spec_DrawPutText.calls kj2 _ _ l1 t325 _ ?side1 ?side2 A14.out).mono ?_); (case side1 => repeat (first | exact (Kd.C_below HR1.out HB.out) | (with_reducible refine Kd.C_alloc ?_ _) | (with_reducible refine Kd.C_drewN ?_ _) | (with_reducible refine Kd.C_drew ?_))); (case side2 => exact HC1.out); rintro e w22 ⟨rfl, hb⟩; refine ⟨_, rfl, ?_⟩; have n0_ := Aside0.mk (below_step (by repeat (first | (with_reducible first | exact HB.out | apply below_alloc | apply pw_below_drewN | apply below_drew1) | exact HB.out)) hb); clear HB; have HB := n0_; clear n0_; (try clear hb); (try clear hb2); (try clear hk); (try clear hi)) | ((with_reducible refine gate_callee (f := 8) rfl ?_); refine goesL_ (some 48) rfl rfl Tryd.func8 (by kernel_rfl) rfl #[.string ((t325 ++ t323) ++ (⟨#[120]⟩ : ByteArray)), .int .i64 (t325.size : Int)] rfl (by (try simp only [List.map_toArray, List.map_cons, List.map_nil]); first | done | rfl | (simp only [List.length_drop, List.length_take]; rfl)) ?_; (with_reducible refine (impl_GetRecord.calls kj2 ((t325 ++ t323) ++ (⟨#[120]⟩ : ByteArray)) (t325.size : Int) t326 t327 t328 t329 t330 _ A17.out e0 e1 ?sideS).mono ?_); (case sideS => exact HSENT.out.below (by repeat (first | (with_reducible first | exact HB.out | apply below_alloc | apply pw_below_drewN | apply below_drew1 | refine below_set ?_ GE331.out | refine below_set ?_ GE341.out) | exact HB.out))); rintro e w23 ⟨rfl, hb⟩; refine ⟨_, rfl, ?_⟩; have n0_ := Aside0.mk (below_step (by repeat (first | (with_reducible first | exact HB.out | apply below_alloc | apply pw_below_drewN | apply below_drew1) | exact HB.out)) hb); clear HB; have HB := n0_; clear n0_; (try clear hb); (try clear hb2); (try clear hk); (try clear hi)) | ((with_reducible refine gate_dst (N := 11) rfl ?_); (try (refine gate_guard (by rfl) ?_; dsimp only)); refine box_event ?hg (N := 11) ?hd (cs := #[.string (⟨#[]⟩ : ByteArray), .bool false, .string (⟨#[]⟩ : ByteArray), .int .i64 0, .int .i64 0]) (t := 23) ?hr ?_; (case hd => rfl); (case hg => rfl); (case hr => first | (go_simp; done) | (go_simp; rfl)); intro gb331 hg w24 hbox hb; have n0_ := Aside0.mk (below_step (by repeat (first | (with_reducible first | exact HB.out | apply below_alloc | apply pw_below_drewN | apply below_drew1) | exact HB.out)) hb); have n1_ := Aside0.mk (hbox); have n2_ := Aside0.mk ((by rw [hg]; exact (below_size (by repeat (first | (with_reducible first | exact HB.out | apply below_alloc | apply pw_below_drewN | apply below_drew1) | exact HB.out))) : w.heap.size ≤ gb331)); have n3_ := Aside0.mk ((by rw [hg]; exact (below_size (by repeat (first | (with_reducible first | exact HB.out | apply below_alloc | apply pw_below_drewN | apply below_drew1) | exact HB.out))) : w.heap.size ≤ gb331)); clear HB; have HB := n0_; have BK331 := n1_; have GW331 := n2_; have GE331 := n3_; clear n0_ n1_ n2_ n3_; clear hb hbox hg; have hcz25_0 : w24.cell? ⟨gb331, 0, none⟩ = some (.string (⟨#[]⟩ : ByteArray)) := (blk_cell BK331.out 0).trans rfl; have hcz25_1 : w24.cell? ⟨gb331, 1, none⟩ = some (.bool false) := (blk_cell BK331.out 1).trans rfl; have hcz25_2 : w24.cell? ⟨gb331, 2, none⟩ = some (.string (⟨#[]⟩ : ByteArray)) := (blk_cell BK331.out 2).trans rfl; have hcz25_3 : w24.cell? ⟨gb331, 3, none⟩ = some (.int .i64 0) := (blk_cell BK331.out 3).trans rfl; have hcz25_4 : w24.cell? ⟨gb331, 4, none⟩ = some (.int .i64 0) := (blk_cell BK331.out 4).trans rfl; have hfz25_0 := blk_frozen BK331.out 0; have hfz25_1 := blk_frozen BK331.out 1; have hfz25_2 := blk_frozen BK331.out 2; have hfz25_3 := blk_frozen BK331.out 3; have hfz25_4 := blk_frozen BK331.out 4))
                  go_ret
                  exact ⟨by first | rfl | (simp [errW_none, errW_some] <;> rfl) | (simp [*, errW_none, errW_some] <;> rfl), by repeat (first | (with_reducible first | exact HB.out | apply below_alloc | apply pw_below_drewN | apply below_drew1 | refine below_set ?_ GE331.out) | exact HB.out)⟩
                · rw [if_neg c18] at H
                  have c18b0 : (!(t326.toList == t320.toList) || (!(t327 == t321) || (!(t328.toList == t322.toList) || (!(t329 == (t325.size : Int)) || (!(t330 == ((t325.size : Int) + (t323.size : Int)))))))) = false := by simpa using c18
                  clear c18
                  replace H := Option.bind_eq_some_iff.mp H
                  obtain ⟨t332, A260, H⟩ := H
                  replace H : ((laws_lwAt.f l1 1).bind fun t333 => ((laws_lwAt.f l1 2).bind fun t334 => ((laws_lwTurn.f t323 (wrap64 ((wrap64 (t332 * 256)) + t333)) t334).bind fun t335 => (if t325.size + t335.size ≤ 9223372036854775807 then ((impl_GetRecord.f kj2 (t325 ++ t335) (t325.size : Int)).bind fun bt336 => (some (bt336.2.2.2.2 != t330))) else (none))))) = some r := H
                  have A26 := Aside0.mk A260
                  clear A260
                  replace H := Option.bind_eq_some_iff.mp H
                  obtain ⟨t333, A270, H⟩ := H
                  replace H : ((laws_lwAt.f l1 2).bind fun t334 => ((laws_lwTurn.f t323 (wrap64 ((wrap64 (t332 * 256)) + t333)) t334).bind fun t335 => (if t325.size + t335.size ≤ 9223372036854775807 then ((impl_GetRecord.f kj2 (t325 ++ t335) (t325.size : Int)).bind fun bt336 => (some (bt336.2.2.2.2 != t330))) else (none)))) = some r := H
                  have A27 := Aside0.mk A270
                  clear A270
                  replace H := Option.bind_eq_some_iff.mp H
                  obtain ⟨t334, A280, H⟩ := H
                  replace H : ((laws_lwTurn.f t323 (wrap64 ((wrap64 (t332 * 256)) + t333)) t334).bind fun t335 => (if t325.size + t335.size ≤ 9223372036854775807 then ((impl_GetRecord.f kj2 (t325 ++ t335) (t325.size : Int)).bind fun bt336 => (some (bt336.2.2.2.2 != t330))) else (none))) = some r := H
                  have A28 := Aside0.mk A280
                  clear A280
                  replace H := Option.bind_eq_some_iff.mp H
                  obtain ⟨t335, A290, H⟩ := H
                  replace H : (if t325.size + t335.size ≤ 9223372036854775807 then ((impl_GetRecord.f kj2 (t325 ++ t335) (t325.size : Int)).bind fun bt336 => (some (bt336.2.2.2.2 != t330))) else (none)) = some r := H
                  have A29 := Aside0.mk A290
                  clear A290
                  by_cases c30 : t325.size + t335.size ≤ 9223372036854775807
                  · rw [if_pos c30] at H
                    have c30b0 := eq_true c30
                    have c30w : wrap64 ((t325.size : Int) + (t335.size : Int)) = (t325.size : Int) + (t335.size : Int) := by unfold wrap64; omega
                    try simp only [c30w] at H
                    clear c30w
                    have c30b1 : decide (t325.size + t335.size ≤ 9223372036854775807) = true := decide_eq_true c30
                    try have c30b2 : (9223372036854775807 < t325.size + t335.size) = False := eq_false (Nat.not_lt.2 c30)
                    replace H := Option.bind_eq_some_iff.mp H
                    obtain ⟨⟨t336, t337, t338, t339, t340⟩, A310, H⟩ := H
                    replace H : (some (t340 != t330)) = some r := H
                    have A31 := Aside0.mk A310
                    clear A310
                    obtain rfl := Option.some.inj H
                    go_wp2_with (first | ((with_reducible refine gate_callee (f := 12) rfl ?_); refine goesL_ (some 23) rfl rfl Tryd.func12 (by kernel_rfl) rfl #[.slice A0 l0.length c0] rfl (by (try simp only [List.map_toArray, List.map_cons, List.map_nil]); first | done | rfl | (simp only [List.length_drop, List.length_take]; rfl)) ?_; (with_reducible refine (spec_DrawPutRecord.calls kj2 _ _ l0 t320 t321 t322 _ ?side1 ?side2 A6.out).mono ?_); (case side1 => repeat (first | exact (Kd.C_below HR0.out HB.out) | (with_reducible refine Kd.C_alloc ?_ _) | (with_reducible refine Kd.C_drewN ?_ _) | (with_reducible refine Kd.C_drew ?_))); (case side2 => exact HC0.out); rintro e w32 ⟨rfl, hb⟩; refine ⟨_, rfl, ?_⟩; have n0_ := Aside0.mk (below_step (by repeat (first | (with_reducible first | exact HB.out | apply below_alloc | apply pw_below_drewN | apply below_drew1) | exact HB.out)) hb); clear HB; have HB := n0_; clear n0_; (try clear hb); (try clear hb2); (try clear hk); (try clear hi)) | ((with_reducible refine gate_callee (f := 13) rfl ?_); refine goesL_ (some 30) rfl rfl Tryd.func13 (by kernel_rfl) rfl #[.string t320, .bool t321, .string t322] rfl (by (try simp only [List.map_toArray, List.map_cons, List.map_nil]); first | done | rfl | (simp only [List.length_drop, List.length_take]; rfl)) ?_; (with_reducible refine (impl_PutRecord.calls kj2 t320 t321 t322 t323 _ A7.out).mono ?_); rintro e w33 ⟨rfl, hb⟩; refine ⟨_, rfl, ?_⟩; have n0_ := Aside0.mk (below_step (by repeat (first | (with_reducible first | exact HB.out | apply below_alloc | apply pw_below_drewN | apply below_drew1) | exact HB.out)) hb); clear HB; have HB := n0_; clear n0_; (try clear hb); (try clear hb2); (try clear hk); (try clear hi)) | ((with_reducible refine gate_callee (f := 14) rfl ?_); refine goesL_ (some 35) rfl rfl Tryd.func14 (by kernel_rfl) rfl #[.string t320, .bool t321, .string t322] rfl (by (try simp only [List.map_toArray, List.map_cons, List.map_nil]); first | done | rfl | (simp only [List.length_drop, List.length_take]; rfl)) ?_; (with_reducible refine (spec_PutRecord.calls kj2 t320 t321 t322 t324 _ A8.out).mono ?_); rintro e w34 ⟨rfl, hb⟩; refine ⟨_, rfl, ?_⟩; have n0_ := Aside0.mk (below_step (by repeat (first | (with_reducible first | exact HB.out | apply below_alloc | apply pw_below_drewN | apply below_drew1) | exact HB.out)) hb); clear HB; have HB := n0_; clear n0_; (try clear hb); (try clear hb2); (try clear hk); (try clear hi)) | ((with_reducible refine gate_callee (f := 15) rfl ?_); refine goesL_ (some 40) rfl rfl Tryd.func15 (by kernel_rfl) rfl #[.slice A1 l1.length c1] rfl (by (try simp only [List.map_toArray, List.map_cons, List.map_nil]); first | done | rfl | (simp only [List.length_drop, List.length_take]; rfl)) ?_; (with_reducible refine (spec_DrawPutText.calls kj2 _ _ l1 t325 _ ?side1 ?side2 A14.out).mono ?_); (case side1 => repeat (first | exact (Kd.C_below HR1.out HB.out) | (with_reducible refine Kd.C_alloc ?_ _) | (with_reducible refine Kd.C_drewN ?_ _) | (with_reducible refine Kd.C_drew ?_))); (case side2 => exact HC1.out); rintro e w35 ⟨rfl, hb⟩; refine ⟨_, rfl, ?_⟩; have n0_ := Aside0.mk (below_step (by repeat (first | (with_reducible first | exact HB.out | apply below_alloc | apply pw_below_drewN | apply below_drew1) | exact HB.out)) hb); clear HB; have HB := n0_; clear n0_; (try clear hb); (try clear hb2); (try clear hk); (try clear hi)) | ((with_reducible refine gate_callee (f := 8) rfl ?_); refine goesL_ (some 48) rfl rfl Tryd.func8 (by kernel_rfl) rfl #[.string ((t325 ++ t323) ++ (⟨#[120]⟩ : ByteArray)), .int .i64 (t325.size : Int)] rfl (by (try simp only [List.map_toArray, List.map_cons, List.map_nil]); first | done | rfl | (simp only [List.length_drop, List.length_take]; rfl)) ?_; (with_reducible refine (impl_GetRecord.calls kj2 ((t325 ++ t323) ++ (⟨#[120]⟩ : ByteArray)) (t325.size : Int) t326 t327 t328 t329 t330 _ A17.out e0 e1 ?sideS).mono ?_); (case sideS => exact HSENT.out.below (by repeat (first | (with_reducible first | exact HB.out | apply below_alloc | apply pw_below_drewN | apply below_drew1 | refine below_set ?_ GE331.out | refine below_set ?_ GE341.out) | exact HB.out))); rintro e w36 ⟨rfl, hb⟩; refine ⟨_, rfl, ?_⟩; have n0_ := Aside0.mk (below_step (by repeat (first | (with_reducible first | exact HB.out | apply below_alloc | apply pw_below_drewN | apply below_drew1) | exact HB.out)) hb); clear HB; have HB := n0_; clear n0_; (try clear hb); (try clear hb2); (try clear hk); (try clear hi)) | ((with_reducible refine gate_dst (N := 11) rfl ?_); (try (refine gate_guard (by rfl) ?_; dsimp only)); refine box_event ?hg (N := 11) ?hd (cs := #[.string (⟨#[]⟩ : ByteArray), .bool false, .string (⟨#[]⟩ : ByteArray), .int .i64 0, .int .i64 0]) (t := 23) ?hr ?_; (case hd => rfl); (case hg => rfl); (case hr => first | (go_simp; done) | (go_simp; rfl)); intro gb331 hg w37 hbox hb; have n0_ := Aside0.mk (below_step (by repeat (first | (with_reducible first | exact HB.out | apply below_alloc | apply pw_below_drewN | apply below_drew1) | exact HB.out)) hb); have n1_ := Aside0.mk (hbox); have n2_ := Aside0.mk ((by rw [hg]; exact (below_size (by repeat (first | (with_reducible first | exact HB.out | apply below_alloc | apply pw_below_drewN | apply below_drew1) | exact HB.out))) : w.heap.size ≤ gb331)); have n3_ := Aside0.mk ((by rw [hg]; exact (below_size (by repeat (first | (with_reducible first | exact HB.out | apply below_alloc | apply pw_below_drewN | apply below_drew1) | exact HB.out))) : w.heap.size ≤ gb331)); clear HB; have HB := n0_; have BK331 := n1_; have GW331 := n2_; have GE331 := n3_; clear n0_ n1_ n2_ n3_; clear hb hbox hg; have hcz38_0 : w37.cell? ⟨gb331, 0, none⟩ = some (.string (⟨#[]⟩ : ByteArray)) := (blk_cell BK331.out 0).trans rfl; have hcz38_1 : w37.cell? ⟨gb331, 1, none⟩ = some (.bool false) := (blk_cell BK331.out 1).trans rfl; have hcz38_2 : w37.cell? ⟨gb331, 2, none⟩ = some (.string (⟨#[]⟩ : ByteArray)) := (blk_cell BK331.out 2).trans rfl; have hcz38_3 : w37.cell? ⟨gb331, 3, none⟩ = some (.int .i64 0) := (blk_cell BK331.out 3).trans rfl; have hcz38_4 : w37.cell? ⟨gb331, 4, none⟩ = some (.int .i64 0) := (blk_cell BK331.out 4).trans rfl; have hfz38_0 := blk_frozen BK331.out 0; have hfz38_1 := blk_frozen BK331.out 1; have hfz38_2 := blk_frozen BK331.out 2; have hfz38_3 := blk_frozen BK331.out 3; have hfz38_4 := blk_frozen BK331.out 4) | ((with_reducible refine gate_callee (f := 17) rfl ?_); refine goesL_ (some 63) rfl rfl Tryd.func17 (by kernel_rfl) rfl #[.slice A1 l1.length c1, .int .i64 0] rfl (by (try simp only [List.map_toArray, List.map_cons, List.map_nil]); first | done | rfl | (simp only [List.length_drop, List.length_take]; rfl)) ?_; (with_reducible refine (laws_lwAt.calls _ _ l1 0 t332 _ ?side1 ?side2 A26.out).mono ?_); (case side1 => exact Kd.C_below HR1.out (by repeat (first | (with_reducible first | exact HB.out | apply below_alloc | apply pw_below_drewN | apply below_drew1 | refine below_set ?_ GE331.out) | exact HB.out))); (case side2 => exact HC1.out); rintro e w' ⟨rfl, ⟨nd, rfl⟩⟩; refine ⟨_, rfl, ?_⟩) | ((with_reducible refine gate_callee (f := 17) rfl ?_); refine goesL_ (some 66) rfl rfl Tryd.func17 (by kernel_rfl) rfl #[.slice A1 l1.length c1, .int .i64 1] rfl (by (try simp only [List.map_toArray, List.map_cons, List.map_nil]); first | done | rfl | (simp only [List.length_drop, List.length_take]; rfl)) ?_; (with_reducible refine (laws_lwAt.calls _ _ l1 1 t333 _ ?side1 ?side2 A27.out).mono ?_); (case side1 => exact Kd.C_below HR1.out (by repeat (first | (with_reducible first | exact HB.out | apply below_alloc | apply pw_below_drewN | apply below_drew1 | refine below_set ?_ GE331.out) | exact HB.out))); (case side2 => exact HC1.out); rintro e w' ⟨rfl, ⟨nd, rfl⟩⟩; refine ⟨_, rfl, ?_⟩) | ((with_reducible refine gate_callee (f := 17) rfl ?_); refine goesL_ (some 69) rfl rfl Tryd.func17 (by kernel_rfl) rfl #[.slice A1 l1.length c1, .int .i64 2] rfl (by (try simp only [List.map_toArray, List.map_cons, List.map_nil]); first | done | rfl | (simp only [List.length_drop, List.length_take]; rfl)) ?_; (with_reducible refine (laws_lwAt.calls _ _ l1 2 t334 _ ?side1 ?side2 A28.out).mono ?_); (case side1 => exact Kd.C_below HR1.out (by repeat (first | (with_reducible first | exact HB.out | apply below_alloc | apply pw_below_drewN | apply below_drew1 | refine below_set ?_ GE331.out) | exact HB.out))); (case side2 => exact HC1.out); rintro e w' ⟨rfl, ⟨nd, rfl⟩⟩; refine ⟨_, rfl, ?_⟩) | ((with_reducible refine gate_callee (f := 16) rfl ?_); refine goesL_ (some 70) rfl rfl Tryd.func16 (by kernel_rfl) rfl #[.string t323, .int .i64 (wrap64 ((wrap64 (t332 * 256)) + t333)), .int .i64 t334] rfl (by (try simp only [List.map_toArray, List.map_cons, List.map_nil]); first | done | rfl | (simp only [List.length_drop, List.length_take]; rfl)) ?_; (with_reducible refine (laws_lwTurn.calls t323 (wrap64 ((wrap64 (t332 * 256)) + t333)) t334 t335 _ A29.out).mono ?_); rintro e w39 ⟨rfl, hb⟩; refine ⟨_, rfl, ?_⟩; have n0_ := Aside0.mk (blk_below (g := gb331) (o := .cells #[.string t326, .bool t327, .string t328, .int .i64 t329, .int .i64 t330] 23 (0, 0)) (by (with_reducible repeat (first | refine blk_drewN ?_ _ | refine blk_drew ?_ | refine blk_alloc ?_ _)); refine blk_put (cs := #[.string t326, .bool t327, .string t328, .int .i64 t329, .int .i64 0]) ?_ 4 _ rfl; (with_reducible repeat (first | refine blk_drewN ?_ _ | refine blk_drew ?_ | refine blk_alloc ?_ _)); refine blk_put (cs := #[.string t326, .bool t327, .string t328, .int .i64 0, .int .i64 0]) ?_ 3 _ rfl; (with_reducible repeat (first | refine blk_drewN ?_ _ | refine blk_drew ?_ | refine blk_alloc ?_ _)); refine blk_put (cs := #[.string t326, .bool t327, .string (⟨#[]⟩ : ByteArray), .int .i64 0, .int .i64 0]) ?_ 2 _ rfl; (with_reducible repeat (first | refine blk_drewN ?_ _ | refine blk_drew ?_ | refine blk_alloc ?_ _)); refine blk_put (cs := #[.string t326, .bool false, .string (⟨#[]⟩ : ByteArray), .int .i64 0, .int .i64 0]) ?_ 1 _ rfl; (with_reducible repeat (first | refine blk_drewN ?_ _ | refine blk_drew ?_ | refine blk_alloc ?_ _)); refine blk_put (cs := #[.string (⟨#[]⟩ : ByteArray), .bool false, .string (⟨#[]⟩ : ByteArray), .int .i64 0, .int .i64 0]) ?_ 0 _ rfl; (with_reducible repeat (first | refine blk_drewN ?_ _ | refine blk_drew ?_ | refine blk_alloc ?_ _)); exact BK331.out) hb); have n1_ := Aside0.mk (below_step (by repeat (first | (with_reducible first | exact HB.out | apply below_alloc | apply pw_below_drewN | apply below_drew1 | refine below_set ?_ GE331.out) | exact HB.out)) hb); clear BK331; clear HB; have BK331 := n0_; have HB := n1_; clear n0_ n1_; (try clear hb); (try clear hb2); (try clear hk); (try clear hi)) | ((with_reducible refine gate_callee (f := 8) rfl ?_); refine goesL_ (some 73) rfl rfl Tryd.func8 (by kernel_rfl) rfl #[.string (t325 ++ t335), .int .i64 (t325.size : Int)] rfl (by (try simp only [List.map_toArray, List.map_cons, List.map_nil]); first | done | rfl | (simp only [List.length_drop, List.length_take]; rfl)) ?_; (with_reducible refine (impl_GetRecord.calls kj2 (t325 ++ t335) (t325.size : Int) t336 t337 t338 t339 t340 _ A31.out e0 e1 ?sideS).mono ?_); (case sideS => exact HSENT.out.below (by repeat (first | (with_reducible first | exact HB.out | apply below_alloc | apply pw_below_drewN | apply below_drew1 | refine below_set ?_ GE331.out | refine below_set ?_ GE341.out) | exact HB.out))); rintro e w40 ⟨rfl, hb⟩; refine ⟨_, rfl, ?_⟩; have n0_ := Aside0.mk (blk_below (g := gb331) (o := .cells #[.string t326, .bool t327, .string t328, .int .i64 t329, .int .i64 t330] 23 (0, 0)) (by (with_reducible repeat (first | refine blk_drewN ?_ _ | refine blk_drew ?_ | refine blk_alloc ?_ _)); exact BK331.out) hb); have n1_ := Aside0.mk (below_step (by repeat (first | (with_reducible first | exact HB.out | apply below_alloc | apply pw_below_drewN | apply below_drew1 | refine below_set ?_ GE331.out) | exact HB.out)) hb); clear BK331; clear HB; have BK331 := n0_; have HB := n1_; clear n0_ n1_; (try clear hb); (try clear hb2); (try clear hk); (try clear hi)) | ((with_reducible refine gate_dst (N := 12) rfl ?_); (try (refine gate_guard (by rfl) ?_; dsimp only)); refine box_event ?hg (N := 12) ?hd (cs := #[.string (⟨#[]⟩ : ByteArray), .bool false, .string (⟨#[]⟩ : ByteArray), .int .i64 0, .int .i64 0]) (t := 23) ?hr ?_; (case hd => rfl); (case hg => rfl); (case hr => first | (go_simp; done) | (go_simp; rfl)); intro gb341 hg w41 hbox hb; have n0_ := Aside0.mk (blk_below (g := gb331) (o := .cells #[.string t326, .bool t327, .string t328, .int .i64 t329, .int .i64 t330] 23 (0, 0)) (by (with_reducible repeat (first | refine blk_drewN ?_ _ | refine blk_drew ?_ | refine blk_alloc ?_ _)); exact BK331.out) hb); have n1_ := Aside0.mk (below_step (by repeat (first | (with_reducible first | exact HB.out | apply below_alloc | apply pw_below_drewN | apply below_drew1 | refine below_set ?_ GE331.out) | exact HB.out)) hb); have n2_ := Aside0.mk (hbox); have n3_ := Aside0.mk ((by rw [hg]; exact (below_size (by repeat (first | (with_reducible first | exact HB.out | apply below_alloc | apply pw_below_drewN | apply below_drew1 | refine below_set ?_ GE331.out) | exact HB.out))) : w.heap.size ≤ gb341)); have n4_ := Aside0.mk ((by rw [hg]; exact (below_size (by repeat (first | (with_reducible first | exact HB.out | apply below_alloc | apply pw_below_drewN | apply below_drew1 | refine below_set ?_ GE331.out) | exact HB.out))) : w.heap.size ≤ gb341)); have n5_ := Aside0.mk ((by rw [hg]; exact Nat.ne_of_lt (blk_lt (g := gb331) (o := .cells #[.string t326, .bool t327, .string t328, .int .i64 t329, .int .i64 t330] 23 (0, 0)) (by (with_reducible repeat (first | refine blk_drewN ?_ _ | refine blk_drew ?_ | refine blk_alloc ?_ _)); exact BK331.out)) : gb331 ≠ gb341)); have n6_ := Aside0.mk ((by rw [hg]; exact Nat.ne_of_gt (blk_lt (g := gb331) (o := .cells #[.string t326, .bool t327, .string t328, .int .i64 t329, .int .i64 t330] 23 (0, 0)) (by (with_reducible repeat (first | refine blk_drewN ?_ _ | refine blk_drew ?_ | refine blk_alloc ?_ _)); exact BK331.out)) : gb341 ≠ gb331)); clear BK331; clear HB; have BK331 := n0_; have HB := n1_; have BK341 := n2_; have GW341 := n3_; have GE341 := n4_; have NB331_341 := n5_; have NB341_331 := n6_; clear n0_ n1_ n2_ n3_ n4_ n5_ n6_; clear hb hbox hg; have hnb42 := NB341_331.out; have hnc42 := NB331_341.out; have hcz43_0 : w41.cell? ⟨gb341, 0, none⟩ = some (.string (⟨#[]⟩ : ByteArray)) := (blk_cell BK341.out 0).trans rfl; have hcz43_1 : w41.cell? ⟨gb341, 1, none⟩ = some (.bool false) := (blk_cell BK341.out 1).trans rfl; have hcz43_2 : w41.cell? ⟨gb341, 2, none⟩ = some (.string (⟨#[]⟩ : ByteArray)) := (blk_cell BK341.out 2).trans rfl; have hcz43_3 : w41.cell? ⟨gb341, 3, none⟩ = some (.int .i64 0) := (blk_cell BK341.out 3).trans rfl; have hcz43_4 : w41.cell? ⟨gb341, 4, none⟩ = some (.int .i64 0) := (blk_cell BK341.out 4).trans rfl; have hfz43_0 := blk_frozen BK341.out 0; have hfz43_1 := blk_frozen BK341.out 1; have hfz43_2 := blk_frozen BK341.out 2; have hfz43_3 := blk_frozen BK341.out 3; have hfz43_4 := blk_frozen BK341.out 4; have hcz44_0 : w41.cell? ⟨gb331, 0, none⟩ = some (.string t326) := (blk_cell BK331.out 0).trans rfl; have hcz44_1 : w41.cell? ⟨gb331, 1, none⟩ = some (.bool t327) := (blk_cell BK331.out 1).trans rfl; have hcz44_2 : w41.cell? ⟨gb331, 2, none⟩ = some (.string t328) := (blk_cell BK331.out 2).trans rfl; have hcz44_3 : w41.cell? ⟨gb331, 3, none⟩ = some (.int .i64 t329) := (blk_cell BK331.out 3).trans rfl; have hcz44_4 : w41.cell? ⟨gb331, 4, none⟩ = some (.int .i64 t330) := (blk_cell BK331.out 4).trans rfl; have hfz44_0 := blk_frozen BK331.out 0; have hfz44_1 := blk_frozen BK331.out 1; have hfz44_2 := blk_frozen BK331.out 2; have hfz44_3 := blk_frozen BK331.out 3; have hfz44_4 := blk_frozen BK331.out 4))
                    go_ret
                    exact ⟨by first | rfl | (simp [errW_none, errW_some] <;> rfl) | (simp [*, errW_none, errW_some] <;> rfl), by repeat (first | (with_reducible first | exact HB.out | apply below_alloc | apply pw_below_drewN | apply below_drew1 | refine below_set ?_ GE331.out | refine below_set ?_ GE341.out) | exact HB.out)⟩
                  · rw [if_neg c30] at H
                    exact absurd H (by simp)
              · rw [if_neg c16] at H
                exact absurd H (by simp)
            · rw [if_neg c15] at H
              exact absurd H (by simp)
        · rw [if_neg c9] at H
          have c9b0 : (t323.toList == t324.toList) = false := beq_eq_false_iff_ne.mpr c9
          have c9b1 : (t323.toList != t324.toList) = true := bne_iff_ne.mpr c9
          obtain rfl := Option.some.inj H
          go_wp2_with (first | ((with_reducible refine gate_callee (f := 12) rfl ?_); refine goesL_ (some 23) rfl rfl Tryd.func12 (by kernel_rfl) rfl #[.slice A0 l0.length c0] rfl (by (try simp only [List.map_toArray, List.map_cons, List.map_nil]); first | done | rfl | (simp only [List.length_drop, List.length_take]; rfl)) ?_; (with_reducible refine (spec_DrawPutRecord.calls kj2 _ _ l0 t320 t321 t322 _ ?side1 ?side2 A6.out).mono ?_); (case side1 => repeat (first | exact (Kd.C_below HR0.out HB.out) | (with_reducible refine Kd.C_alloc ?_ _) | (with_reducible refine Kd.C_drewN ?_ _) | (with_reducible refine Kd.C_drew ?_))); (case side2 => exact HC0.out); rintro e w45 ⟨rfl, hb⟩; refine ⟨_, rfl, ?_⟩; have n0_ := Aside0.mk (below_step (by repeat (first | (with_reducible first | exact HB.out | apply below_alloc | apply pw_below_drewN | apply below_drew1) | exact HB.out)) hb); clear HB; have HB := n0_; clear n0_; (try clear hb); (try clear hb2); (try clear hk); (try clear hi)) | ((with_reducible refine gate_callee (f := 13) rfl ?_); refine goesL_ (some 30) rfl rfl Tryd.func13 (by kernel_rfl) rfl #[.string t320, .bool t321, .string t322] rfl (by (try simp only [List.map_toArray, List.map_cons, List.map_nil]); first | done | rfl | (simp only [List.length_drop, List.length_take]; rfl)) ?_; (with_reducible refine (impl_PutRecord.calls kj2 t320 t321 t322 t323 _ A7.out).mono ?_); rintro e w46 ⟨rfl, hb⟩; refine ⟨_, rfl, ?_⟩; have n0_ := Aside0.mk (below_step (by repeat (first | (with_reducible first | exact HB.out | apply below_alloc | apply pw_below_drewN | apply below_drew1) | exact HB.out)) hb); clear HB; have HB := n0_; clear n0_; (try clear hb); (try clear hb2); (try clear hk); (try clear hi)) | ((with_reducible refine gate_callee (f := 14) rfl ?_); refine goesL_ (some 35) rfl rfl Tryd.func14 (by kernel_rfl) rfl #[.string t320, .bool t321, .string t322] rfl (by (try simp only [List.map_toArray, List.map_cons, List.map_nil]); first | done | rfl | (simp only [List.length_drop, List.length_take]; rfl)) ?_; (with_reducible refine (spec_PutRecord.calls kj2 t320 t321 t322 t324 _ A8.out).mono ?_); rintro e w47 ⟨rfl, hb⟩; refine ⟨_, rfl, ?_⟩; have n0_ := Aside0.mk (below_step (by repeat (first | (with_reducible first | exact HB.out | apply below_alloc | apply pw_below_drewN | apply below_drew1) | exact HB.out)) hb); clear HB; have HB := n0_; clear n0_; (try clear hb); (try clear hb2); (try clear hk); (try clear hi)))
          go_ret
          exact ⟨by first | rfl | (simp [errW_none, errW_some] <;> rfl) | (simp [*, errW_none, errW_some] <;> rfl), by repeat (first | (with_reducible first | exact HB.out | apply below_alloc | apply pw_below_drewN | apply below_drew1) | exact HB.out)⟩

end Go.Proofs.YtncghlamcbhpmaaDoor.PFnRecords
