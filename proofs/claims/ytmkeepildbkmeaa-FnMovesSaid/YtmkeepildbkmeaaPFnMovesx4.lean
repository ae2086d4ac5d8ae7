-- Printed by wip/print2.py (a program of this session, over the kit's printer) out of the translation.
import Derived.Test.YtmkeepildbkmeaaPFnMovesx0
import Derived.Test.YtmkeepildbkmeaaPFnMovesx1
import Derived.Test.YtmkeepildbkmeaaPFnMovesx3
namespace Go.Proofs.Ytmkeepildbkmeaa.PFnMoves
open Go.RowKit Go.Proofs.YtmkeepildbkmeaaW.PrintWords Go.Proofs.YtmkeepildbkmeaaW.PrintLast Go.Proofs.YtmkeepildbkmeaaW.PrintMore
attribute [local go_sem] max2_int min2_int max_two min_two max_three min_three max_four min_four   -- for this text's walks alone
set_option linter.unusedVariables false
set_option linter.unusedSimpArgs false

/-! ### spec_DrawPlaceKey: function 11 -/
def spec_DrawPlaceKey.f (k : Nat) (l0 : List Int) : Option ((List (S32)) × ByteArray × Int) := (spec_l01Source.f l0).bind fun bt198 => ((spec_l01Src_key.f k bt198.1 bt198.2.1 bt198.2.2).bind fun bt202 => ((spec_l01Src_one.f bt198.1 bt202.2.1 bt202.2.2 30).bind fun bt205 => (if bt205.1 = true then ((spec_l01Src_n.f bt198.1 bt205.2.1 bt205.2.2 3).bind fun bt208 => (if 0 ≤ (wrap64 (999 + bt208.1)) then (if (wrap64 (999 + bt208.1) : Int).toNat ≤ 281474976710656 then ((spec_l01Src_anyNodes.f k bt198.1 bt208.2.1 bt208.2.2).bind fun bt214 => ((spec_l01Src_n.f bt198.1 bt214.2.1 bt214.2.2 6).bind fun bt219 => ((some (([1, 2, 3, 4, 5, 0, 65, wrap64 (1 + bt219.1)] : List Int) : List Int)).bind fun y222 => ((spec_l01Src_n.f bt198.1 bt219.2.1 bt219.2.2 8).bind fun bt225 => (if 0 ≤ bt225.1 then (if bt225.1 < (y222.length : Int) then (some (bt214.1, strOfNums (List.replicate (wrap64 (999 + bt208.1) : Int).toNat 0), rd y222 bt225.1)) else (none)) else (none)))))) else (none)) else (none))) else ((spec_l01Src_anyNodes.f k bt198.1 bt205.2.1 bt205.2.2).bind fun bt229 => ((spec_l01Src_n.f bt198.1 bt229.2.1 bt229.2.2 6).bind fun bt234 => ((some (([1, 2, 3, 4, 5, 0, 65, wrap64 (1 + bt234.1)] : List Int) : List Int)).bind fun y237 => ((spec_l01Src_n.f bt198.1 bt234.2.1 bt234.2.2 8).bind fun bt240 => (if 0 ≤ bt240.1 then (if bt240.1 < (y237.length : Int) then (some (bt229.1, bt202.1, rd y237 bt240.1)) else (none)) else (none)))))))))
theorem spec_DrawPlaceKey.mono : ∀ a0 k, LeO (spec_DrawPlaceKey.f k a0) (spec_DrawPlaceKey.f (k + 1) a0) := by
  intro a0 k
  unfold spec_DrawPlaceKey.f
  repeat' first
      | (with_reducible exact spec_l01Src_anyNodes.mono _ _ _ _)
      | (with_reducible exact spec_l01Src_key.mono _ _ _ _)
      | (with_reducible exact LeO.refl _)
      | (with_reducible exact LeO.none _)
      | (with_reducible refine LeO.ite ?_ ?_)
      | (with_reducible refine LeO.bind ?_ (fun _ => ?_))
      | exact spec_l01Src_anyNodes.mono _ _ _ _
      | exact spec_l01Src_key.mono _ _ _ _
      | exact LeO.none _
      | refine LeO.ite ?_ ?_
      | refine LeO.bind ?_ (fun _ => ?_)
def spec_DrawPlaceKey.T5 : Bool × List (List Nat × List Nat) := (true, [([], []), ([0], [0]), ([], []), ([], []), ([3, 1], [3]), ([4], [4]), ([5], [5]), ([], []), ([7, 4], [7]), ([6, 8], [6, 8]), ([9], [9]), ([1, 8, 0, 1], [1]), ([2, 11, 0, 1, 2, 11], [2]), ([10, 12, 0, 1, 2, 3, 4, 5, 6, 7, 8, 9, 10, 11, 12], [10])])
def spec_DrawPlaceKey.B5 : List Nat := [0, 1, 0, 0, 11, 27, 59, 0, 155, 507, 1019, 411, 2463, 8191]
theorem spec_DrawPlaceKey.tab5 : rtab .any (opsOf Try.f11 5) = spec_DrawPlaceKey.T5 := by kernel_rfl
theorem spec_DrawPlaceKey.bits5 : waitsOk spec_DrawPlaceKey.T5.2 spec_DrawPlaceKey.B5 = true := by kernel_rfl
set_option maxHeartbeats 8000000 in
set_option maxRecDepth 100000 in
theorem spec_DrawPlaceKey.calls (k : Nat) (A0 : Option Addr) (c0 : Nat) (l0 : List Int) (r1 : List (S32)) (r2 : ByteArray) (r3 : Int) (w : World) (hr0 : Kd.C (Kd.int .u8) w A0 l0.length l0) (hc0 : l0.length ≤ c0) (h : spec_DrawPlaceKey.f k l0 = some (r1, r2, r3)) :
    Calls Try.prog 11 #[.slice A0 l0.length c0] w fun e w' => ∃ v0_ : Value, e = .returned (.tuple #[v0_, .string r2, .int .i64 r3]) ∧ Kd.R k32 32 w' w.heap.size (fun _ => True) v0_ r1 ∧ Below w.heap.size w w' := by
  have HR0 := Aside0.mk hr0
  have HC0 := Aside0.mk hc0
  clear hr0 hc0
  have HB := Aside0.mk (Below.refl w.heap.size w)
  have H : ((spec_l01Source.f l0).bind fun bt198 => ((spec_l01Src_key.f k bt198.1 bt198.2.1 bt198.2.2).bind fun bt202 => ((spec_l01Src_one.f bt198.1 bt202.2.1 bt202.2.2 30).bind fun bt205 => (if bt205.1 = true then ((spec_l01Src_n.f bt198.1 bt205.2.1 bt205.2.2 3).bind fun bt208 => (if 0 ≤ (wrap64 (999 + bt208.1)) then (if (wrap64 (999 + bt208.1) : Int).toNat ≤ 281474976710656 then ((spec_l01Src_anyNodes.f k bt198.1 bt208.2.1 bt208.2.2).bind fun bt214 => ((spec_l01Src_n.f bt198.1 bt214.2.1 bt214.2.2 6).bind fun bt219 => ((some (([1, 2, 3, 4, 5, 0, 65, wrap64 (1 + bt219.1)] : List Int) : List Int)).bind fun y222 => ((spec_l01Src_n.f bt198.1 bt219.2.1 bt219.2.2 8).bind fun bt225 => (if 0 ≤ bt225.1 then (if bt225.1 < (y222.length : Int) then (some (bt214.1, strOfNums (List.replicate (wrap64 (999 + bt208.1) : Int).toNat 0), rd y222 bt225.1)) else (none)) else (none)))))) else (none)) else (none))) else ((spec_l01Src_anyNodes.f k bt198.1 bt205.2.1 bt205.2.2).bind fun bt229 => ((spec_l01Src_n.f bt198.1 bt229.2.1 bt229.2.2 6).bind fun bt234 => ((some (([1, 2, 3, 4, 5, 0, 65, wrap64 (1 + bt234.1)] : List Int) : List Int)).bind fun y237 => ((spec_l01Src_n.f bt198.1 bt234.2.1 bt234.2.2 8).bind fun bt240 => (if 0 ≤ bt240.1 then (if bt240.1 < (y237.length : Int) then (some (bt229.1, bt202.1, rd y237 bt240.1)) else (none)) else (none)))))))))) = some (r1, r2, r3) := h
  clear h
  replace H := Option.bind_eq_some_iff.mp H
  obtain ⟨⟨t198, t199, t200⟩, A20, H⟩ := H
  replace H : ((spec_l01Src_key.f k t198 t199 t200).bind fun bt202 => ((spec_l01Src_one.f t198 bt202.2.1 bt202.2.2 30).bind fun bt205 => (if bt205.1 = true then ((spec_l01Src_n.f t198 bt205.2.1 bt205.2.2 3).bind fun bt208 => (if 0 ≤ (wrap64 (999 + bt208.1)) then (if (wrap64 (999 + bt208.1) : Int).toNat ≤ 281474976710656 then ((spec_l01Src_anyNodes.f k t198 bt208.2.1 bt208.2.2).bind fun bt214 => ((spec_l01Src_n.f t198 bt214.2.1 bt214.2.2 6).bind fun bt219 => ((some (([1, 2, 3, 4, 5, 0, 65, wrap64 (1 + bt219.1)] : List Int) : List Int)).bind fun y222 => ((spec_l01Src_n.f t198 bt219.2.1 bt219.2.2 8).bind fun bt225 => (if 0 ≤ bt225.1 then (if bt225.1 < (y222.length : Int) then (some (bt214.1, strOfNums (List.replicate (wrap64 (999 + bt208.1) : Int).toNat 0), rd y222 bt225.1)) else (none)) else (none)))))) else (none)) else (none))) else ((spec_l01Src_anyNodes.f k t198 bt205.2.1 bt205.2.2).bind fun bt229 => ((spec_l01Src_n.f t198 bt229.2.1 bt229.2.2 6).bind fun bt234 => ((some (([1, 2, 3, 4, 5, 0, 65, wrap64 (1 + bt234.1)] : List Int) : List Int)).bind fun y237 => ((spec_l01Src_n.f t198 bt234.2.1 bt234.2.2 8).bind fun bt240 => (if 0 ≤ bt240.1 then (if bt240.1 < (y237.length : Int) then (some (bt229.1, bt202.1, rd y237 bt240.1)) else (none)) else (none))))))))) = some (r1, r2, r3) := H
  have A2 := Aside0.mk A20
  clear A20
  replace H := Option.bind_eq_some_iff.mp H
  obtain ⟨⟨t202, t203, t204⟩, A30, H⟩ := H
  replace H : ((spec_l01Src_one.f t198 t203 t204 30).bind fun bt205 => (if bt205.1 = true then ((spec_l01Src_n.f t198 bt205.2.1 bt205.2.2 3).bind fun bt208 => (if 0 ≤ (wrap64 (999 + bt208.1)) then (if (wrap64 (999 + bt208.1) : Int).toNat ≤ 281474976710656 then ((spec_l01Src_anyNodes.f k t198 bt208.2.1 bt208.2.2).bind fun bt214 => ((spec_l01Src_n.f t198 bt214.2.1 bt214.2.2 6).bind fun bt219 => ((some (([1, 2, 3, 4, 5, 0, 65, wrap64 (1 + bt219.1)] : List Int) : List Int)).bind fun y222 => ((spec_l01Src_n.f t198 bt219.2.1 bt219.2.2 8).bind fun bt225 => (if 0 ≤ bt225.1 then (if bt225.1 < (y222.length : Int) then (some (bt214.1, strOfNums (List.replicate (wrap64 (999 + bt208.1) : Int).toNat 0), rd y222 bt225.1)) else (none)) else (none)))))) else (none)) else (none))) else ((spec_l01Src_anyNodes.f k t198 bt205.2.1 bt205.2.2).bind fun bt229 => ((spec_l01Src_n.f t198 bt229.2.1 bt229.2.2 6).bind fun bt234 => ((some (([1, 2, 3, 4, 5, 0, 65, wrap64 (1 + bt234.1)] : List Int) : List Int)).bind fun y237 => ((spec_l01Src_n.f t198 bt234.2.1 bt234.2.2 8).bind fun bt240 => (if 0 ≤ bt240.1 then (if bt240.1 < (y237.length : Int) then (some (bt229.1, t202, rd y237 bt240.1)) else (none)) else (none)))))))) = some (r1, r2, r3) := H
  have A3 := Aside0.mk A30
  clear A30
  replace H := Option.bind_eq_some_iff.mp H
  obtain ⟨⟨t205, t206, t207⟩, A40, H⟩ := H
  replace H : (if t205 = true then ((spec_l01Src_n.f t198 t206 t207 3).bind fun bt208 => (if 0 ≤ (wrap64 (999 + bt208.1)) then (if (wrap64 (999 + bt208.1) : Int).toNat ≤ 281474976710656 then ((spec_l01Src_anyNodes.f k t198 bt208.2.1 bt208.2.2).bind fun bt214 => ((spec_l01Src_n.f t198 bt214.2.1 bt214.2.2 6).bind fun bt219 => ((some (([1, 2, 3, 4, 5, 0, 65, wrap64 (1 + bt219.1)] : List Int) : List Int)).bind fun y222 => ((spec_l01Src_n.f t198 bt219.2.1 bt219.2.2 8).bind fun bt225 => (if 0 ≤ bt225.1 then (if bt225.1 < (y222.length : Int) then (some (bt214.1, strOfNums (List.replicate (wrap64 (999 + bt208.1) : Int).toNat 0), rd y222 bt225.1)) else (none)) else (none)))))) else (none)) else (none))) else ((spec_l01Src_anyNodes.f k t198 t206 t207).bind fun bt229 => ((spec_l01Src_n.f t198 bt229.2.1 bt229.2.2 6).bind fun bt234 => ((some (([1, 2, 3, 4, 5, 0, 65, wrap64 (1 + bt234.1)] : List Int) : List Int)).bind fun y237 => ((spec_l01Src_n.f t198 bt234.2.1 bt234.2.2 8).bind fun bt240 => (if 0 ≤ bt240.1 then (if bt240.1 < (y237.length : Int) then (some (bt229.1, t202, rd y237 bt240.1)) else (none)) else (none))))))) = some (r1, r2, r3) := H
  have A4 := Aside0.mk A40
  clear A40
  by_cases c5 : t205 = true
  · subst c5
    have H1 : ((spec_l01Src_n.f t198 t206 t207 3).bind fun bt208 => (if 0 ≤ (wrap64 (999 + bt208.1)) then (if (wrap64 (999 + bt208.1) : Int).toNat ≤ 281474976710656 then ((spec_l01Src_anyNodes.f k t198 bt208.2.1 bt208.2.2).bind fun bt214 => ((spec_l01Src_n.f t198 bt214.2.1 bt214.2.2 6).bind fun bt219 => ((some (([1, 2, 3, 4, 5, 0, 65, wrap64 (1 + bt219.1)] : List Int) : List Int)).bind fun y222 => ((spec_l01Src_n.f t198 bt219.2.1 bt219.2.2 8).bind fun bt225 => (if 0 ≤ bt225.1 then (if bt225.1 < (y222.length : Int) then (some (bt214.1, strOfNums (List.replicate (wrap64 (999 + bt208.1) : Int).toNat 0), rd y222 bt225.1)) else (none)) else (none)))))) else (none)) else (none))) = some (r1, r2, r3) := by rw [if_pos rfl] at H; exact H
    clear H
    have H := H1
    clear H1
    replace H := Option.bind_eq_some_iff.mp H
    obtain ⟨⟨t208, t209, t210⟩, A60, H⟩ := H
    replace H : (if 0 ≤ (wrap64 (999 + t208)) then (if (wrap64 (999 + t208) : Int).toNat ≤ 281474976710656 then ((spec_l01Src_anyNodes.f k t198 t209 t210).bind fun bt214 => ((spec_l01Src_n.f t198 bt214.2.1 bt214.2.2 6).bind fun bt219 => ((some (([1, 2, 3, 4, 5, 0, 65, wrap64 (1 + bt219.1)] : List Int) : List Int)).bind fun y222 => ((spec_l01Src_n.f t198 bt219.2.1 bt219.2.2 8).bind fun bt225 => (if 0 ≤ bt225.1 then (if bt225.1 < (y222.length : Int) then (some (bt214.1, strOfNums (List.replicate (wrap64 (999 + t208) : Int).toNat 0), rd y222 bt225.1)) else (none)) else (none)))))) else (none)) else (none)) = some (r1, r2, r3) := H
    have A6 := Aside0.mk A60
    clear A60
    obtain ⟨ji7, hji7⟩ : ∃ j_ : Int, (wrap64 (999 + t208)) = j_ := ⟨_, rfl⟩
    replace H : (if 0 ≤ (ji7) then (if (ji7 : Int).toNat ≤ 281474976710656 then ((spec_l01Src_anyNodes.f k t198 t209 t210).bind fun bt214 => ((spec_l01Src_n.f t198 bt214.2.1 bt214.2.2 6).bind fun bt219 => ((some (([1, 2, 3, 4, 5, 0, 65, wrap64 (1 + bt219.1)] : List Int) : List Int)).bind fun y222 => ((spec_l01Src_n.f t198 bt219.2.1 bt219.2.2 8).bind fun bt225 => (if 0 ≤ bt225.1 then (if bt225.1 < (y222.length : Int) then (some (bt214.1, strOfNums (List.replicate (ji7 : Int).toNat 0), rd y222 bt225.1)) else (none)) else (none)))))) else (none)) else (none)) = some (r1, r2, r3) := by first | (rw [hji7] at H; exact H) | (simp only [hji7] at H ⊢; exact H)
    (try rw [hji7] at A2)
    (try rw [hji7] at A3)
    (try rw [hji7] at A4)
    (try rw [hji7] at A6)
    have hji7w : (IntKind.i64.wrap (999 + t208)) = ji7 := (i64_w _).trans hji7
    by_cases c8 : 0 ≤ (ji7)
    · rw [if_pos c8] at H
      have c8b0 := eq_true c8
      have c8b1 : decide (0 ≤ (ji7)) = true := decide_eq_true c8
      clear c8
      by_cases c9 : (ji7 : Int).toNat ≤ 281474976710656
      · rw [if_pos c9] at H
        have c9b0 := eq_true c9
        have c9b1 : decide ((ji7 : Int).toNat ≤ 281474976710656) = true := decide_eq_true c9
        clear c9
        obtain ⟨y211, hy211⟩ : ∃ y_ : List Int, y_ = (List.replicate (ji7 : Int).toNat 0) := ⟨_, rfl⟩
        replace H : ((spec_l01Src_anyNodes.f k t198 t209 t210).bind fun bt214 => ((spec_l01Src_n.f t198 bt214.2.1 bt214.2.2 6).bind fun bt219 => ((some (([1, 2, 3, 4, 5, 0, 65, wrap64 (1 + bt219.1)] : List Int) : List Int)).bind fun y222 => ((spec_l01Src_n.f t198 bt219.2.1 bt219.2.2 8).bind fun bt225 => (if 0 ≤ bt225.1 then (if bt225.1 < (y222.length : Int) then (some (bt214.1, strOfNums y211, rd y222 bt225.1)) else (none)) else (none)))))) = some (r1, r2, r3) := by first | (rw [hy211]; with_reducible exact H) | (have H2_ := (Option.bind_some _ _).symm.trans H; rw [hy211]; with_reducible exact H2_) | (have H2_ := (Option.bind_some _ _).symm.trans H; with_reducible exact H2_) | with_reducible exact H | (rw [hy211]; exact H) | exact H
        have Ny211 := Aside0.mk hy211
        clear hy211
        replace H := Option.bind_eq_some_iff.mp H
        obtain ⟨⟨t214, t217, t218⟩, A100, H⟩ := H
        replace H : ((spec_l01Src_n.f t198 t217 t218 6).bind fun bt219 => ((some (([1, 2, 3, 4, 5, 0, 65, wrap64 (1 + bt219.1)] : List Int) : List Int)).bind fun y222 => ((spec_l01Src_n.f t198 bt219.2.1 bt219.2.2 8).bind fun bt225 => (if 0 ≤ bt225.1 then (if bt225.1 < (y222.length : Int) then (some (t214, strOfNums y211, rd y222 bt225.1)) else (none)) else (none))))) = some (r1, r2, r3) := H
        have A10 := Aside0.mk A100
        clear A100
        replace H := Option.bind_eq_some_iff.mp H
        obtain ⟨⟨t219, t220, t221⟩, A110, H⟩ := H
        replace H : ((some (([1, 2, 3, 4, 5, 0, 65, wrap64 (1 + t219)] : List Int) : List Int)).bind fun y222 => ((spec_l01Src_n.f t198 t220 t221 8).bind fun bt225 => (if 0 ≤ bt225.1 then (if bt225.1 < (y222.length : Int) then (some (t214, strOfNums y211, rd y222 bt225.1)) else (none)) else (none)))) = some (r1, r2, r3) := H
        have A11 := Aside0.mk A110
        clear A110
        obtain ⟨y222, hy222⟩ : ∃ y_ : List Int, y_ = (([1, 2, 3, 4, 5, 0, 65, wrap64 (1 + t219)] : List Int)) := ⟨_, rfl⟩
        replace H : ((spec_l01Src_n.f t198 t220 t221 8).bind fun bt225 => (if 0 ≤ bt225.1 then (if bt225.1 < (y222.length : Int) then (some (t214, strOfNums y211, rd y222 bt225.1)) else (none)) else (none))) = some (r1, r2, r3) := by first | (rw [hy222]; with_reducible exact H) | (have H2_ := (Option.bind_some _ _).symm.trans H; rw [hy222]; with_reducible exact H2_) | (have H2_ := (Option.bind_some _ _).symm.trans H; with_reducible exact H2_) | with_reducible exact H | (rw [hy222]; exact H) | exact H
        have Ny222 := Aside0.mk hy222
        clear hy222
        replace H := Option.bind_eq_some_iff.mp H
        obtain ⟨⟨t225, t226, t227⟩, A120, H⟩ := H
        replace H : (if 0 ≤ t225 then (if t225 < (y222.length : Int) then (some (t214, strOfNums y211, rd y222 t225)) else (none)) else (none)) = some (r1, r2, r3) := H
        have A12 := Aside0.mk A120
        clear A120
        by_cases c13 : 0 ≤ t225
        · rw [if_pos c13] at H
          have c13b0 : decide (0 ≤ t225) = true := decide_eq_true c13
          clear c13
          by_cases c14 : t225 < (y222.length : Int)
          · rw [if_pos c14] at H
            have c14b0 : decide (t225 < (y222.length : Int)) = true := decide_eq_true c14
            clear c14
            simp only [Option.some.injEq, Prod.mk.injEq] at H
            obtain ⟨rfl, rfl, rfl⟩ := H
            go_enter Try.func11, Try.ntmps11
            try go_wp2_with (first | ((with_reducible refine gate_callee (f := 49) rfl ?_); refine goesL_ (some 8) rfl rfl Try.func49 (by kernel_rfl) rfl #[.slice A0 l0.length c0] rfl (by (try simp only [List.map_toArray, List.map_cons, List.map_nil]); first | done | rfl | (simp only [List.length_drop, List.length_take]; rfl)) ?_; (with_reducible refine (spec_l01Source.calls _ _ l0 t198 t199 t200 w _ ?side1 ?side2 ?side3 A2.out).mono ?_); (case side1 => repeat (first | (with_reducible first | exact HB.out | apply below_alloc | apply pw_below_drewN | apply below_drew1) | exact HB.out)); (case side2 => exact HR0.out); (case side3 => exact HC0.out); rintro e w15 ⟨g201, rfl, hi, hb, hb2⟩; refine ⟨_, rfl, ?_⟩; have n0_ := Aside0.mk (hb); have n1_ := Aside0.mk (hi); clear HB; have HB := n0_; have HI201 := n1_; clear n0_ n1_; (try clear hb); (try clear hb2); (try clear hk); (try clear hi)) | ((with_reducible refine gate_callee (f := 50) rfl ?_); refine goesL_ (some 10) rfl rfl Try.func50 (by kernel_rfl) rfl #[.pointer (some ⟨g201, 0, none⟩)] rfl (by (try simp only [List.map_toArray, List.map_cons, List.map_nil]); first | done | rfl | (simp only [List.length_drop, List.length_take]; rfl)) ?_; (with_reducible refine (spec_l01Src_key.calls k g201 t198 t199 t200 t202 t203 t204 w _ ?side1 ?side2 A3.out).mono ?_); (case side1 => repeat (first | (with_reducible first | exact HI201.out | apply IsS112.alloc | apply IsS112.drewN | apply IsS112.drew | apply IsS112.set_1 | apply IsS112.set_2) | exact HI201.out)); (case side2 => repeat (first | (with_reducible first | exact HB.out | apply below_alloc | apply pw_below_drewN | apply below_drew1 | refine below_set ?_ (IsS112.ge HI201.out)) | exact HB.out)); rintro e w16 ⟨rfl, hi, hb, hk⟩; refine ⟨_, rfl, ?_⟩; have n0_ := Aside0.mk (hb); have n1_ := Aside0.mk (hi); clear HB; clear HI201; have HB := n0_; have HI201 := n1_; clear n0_ n1_; (try clear hb); (try clear hb2); (try clear hk); (try clear hi)) | ((with_reducible refine gate_callee (f := 51) rfl ?_); refine goesL_ (some 12) rfl rfl Try.func51 (by kernel_rfl) rfl #[.pointer (some ⟨g201, 0, none⟩), .int .i64 30] rfl (by (try simp only [List.map_toArray, List.map_cons, List.map_nil]); first | done | rfl | (simp only [List.length_drop, List.length_take]; rfl)) ?_; (with_reducible refine (spec_l01Src_one.calls g201 t198 t203 t204 30 true t206 t207 w _ ?side1 ?side2 A4.out).mono ?_); (case side1 => repeat (first | (with_reducible first | exact HI201.out | apply IsS112.alloc | apply IsS112.drewN | apply IsS112.drew | apply IsS112.set_1 | apply IsS112.set_2) | exact HI201.out)); (case side2 => repeat (first | (with_reducible first | exact HB.out | apply below_alloc | apply pw_below_drewN | apply below_drew1 | refine below_set ?_ (IsS112.ge HI201.out)) | exact HB.out)); rintro e w17 ⟨rfl, hi, hb, hk⟩; refine ⟨_, rfl, ?_⟩; have n0_ := Aside0.mk (hb); have n1_ := Aside0.mk (hi); clear HB; clear HI201; have HB := n0_; have HI201 := n1_; clear n0_ n1_; (try clear hb); (try clear hb2); (try clear hk); (try clear hi)) | ((with_reducible refine gate_callee (f := 52) rfl ?_); refine goesL_ (some 14) rfl rfl Try.func52 (by kernel_rfl) rfl #[.pointer (some ⟨g201, 0, none⟩), .int .i64 3] rfl (by (try simp only [List.map_toArray, List.map_cons, List.map_nil]); first | done | rfl | (simp only [List.length_drop, List.length_take]; rfl)) ?_; (with_reducible refine (spec_l01Src_n.calls g201 t198 t206 t207 3 t208 t209 t210 w _ ?side1 ?side2 A6.out).mono ?_); (case side1 => repeat (first | (with_reducible first | exact HI201.out | apply IsS112.alloc | apply IsS112.drewN | apply IsS112.drew | apply IsS112.set_1 | apply IsS112.set_2) | exact HI201.out)); (case side2 => repeat (first | (with_reducible first | exact HB.out | apply below_alloc | apply pw_below_drewN | apply below_drew1 | refine below_set ?_ (IsS112.ge HI201.out)) | exact HB.out)); rintro e w18 ⟨rfl, hi, hb, hk⟩; refine ⟨_, rfl, ?_⟩; have n0_ := Aside0.mk (hb); have n1_ := Aside0.mk (hi); clear HB; clear HI201; have HB := n0_; have HI201 := n1_; clear n0_ n1_; (try clear hb); (try clear hb2); (try clear hk); (try clear hi)) | ((with_reducible refine gate_dst (N := 16) rfl ?_); refine Kd.R_make (Kd.int .u8) _ 5 rfl (N := 16) rfl 22 _ _ rfl ji7 rfl rfl Try.underlying22 (.int .u8 0) 1 info5 rfl (by decide) (by omega) 0 (ok := fun _ => True) (okp := fun _ => True) rfl (fun _ hk => hk) trivial (of_decide_eq_true (by first | (with_reducible assumption) | assumption)) (Nat.le_trans (Nat.mul_le_mul_right _ (of_decide_eq_true (by first | (with_reducible assumption) | assumption) : ji7.toNat ≤ 281474976710656)) (by omega)) (Below.refl _ _) (Nat.le_refl _) ?_; intro v212 w19 ho20 hb hg_ hnew_; clear hg_ hnew_; (first | rw [← Ny211.out] at ho20 | (simp only [Int.reduceToNat] at ho20; rw [← Ny211.out] at ho20)); have n0_ := Aside0.mk (Kd.R_lower ho20 (below_size (by repeat (first | (with_reducible first | exact HB.out | apply below_alloc | apply pw_below_drewN | apply below_drew1 | refine below_set ?_ (IsS112.ge HI201.out)) | exact HB.out)))); have n1_ := Aside0.mk (IsS112.below (by repeat (first | (with_reducible first | exact HI201.out | apply IsS112.alloc | apply IsS112.drewN | apply IsS112.drew | apply IsS112.set_1 | apply IsS112.set_2) | exact HI201.out)) hb); have n2_ := Aside0.mk (below_step (by repeat (first | (with_reducible first | exact HB.out | apply below_alloc | apply pw_below_drewN | apply below_drew1 | refine below_set ?_ (IsS112.ge HI201.out)) | exact HB.out)) hb); clear HI201; clear HB; have HO213 := n0_; have HI201 := n1_; have HB := n2_; clear n0_ n1_ n2_; clear hb ho20; have hcv21 := own_string (P := Try.prog) Try.underlying22 Try.underlying5 Try.underlying9 (Kd.own_of_R HO213.out)))
            have pi228 : (0 ≤ (t225 : Int)) = True := eq_true (of_decide_eq_true (by first | (with_reducible assumption) | assumption))
            have qi228 : (t225 < (y222.length : Int)) = True := eq_true (of_decide_eq_true (by first | (with_reducible assumption) | assumption))
            have n0_ := Aside0.mk (Kd.R_drew HO213.out)
            have n1_ := Aside0.mk (IsS112.drew HI201.out)
            have n2_ := Aside0.mk (below_drew1 HB.out)
            clear HO213
            clear HI201
            clear HB
            have HO213 := n0_
            have HI201 := n1_
            have HB := n2_
            clear n0_ n1_ n2_
            refine start_ (n := 14) (S := fun w' => True) (ds := []) #[false, false, false, false, false, false, false, false, false, false, false, false, false, false] (by kernel_rfl) rfl rfl trivial (fun hHeld => ?_); refine with_tabW spec_DrawPlaceKey.tab5 spec_DrawPlaceKey.bits5 (fun HT_ HW_ => ?_)
            generalize w19.drew = w22 at HO213 HI201 HB hHeld ⊢
            refine pure_ (i := 0) (N := some 18) (v := ?_) (a' := ?_) #[true, false, false, false, false, false, false, false, false, false, false, false, false, false] rfl rfl (any_of HT_.out (by kernel_rfl)) (fun _ _ _ h => h) (Or.inl ⟨by rfl, ?_⟩) ?_ ?_
            rotate_left
            · intro w'
              go_simp
              with_reducible rfl
            rotate_left
            · simp only [Act.put, List.setIfInBounds_toArray, List.set_cons_zero, List.set_cons_succ, i64_w, i32_w]
              rfl
            refine pure_ (i := 2) (N := some 20) (v := ?_) (a' := ?_) #[true, false, true, false, false, false, false, false, false, false, false, false, false, false] rfl rfl (any_of HT_.out (by kernel_rfl)) (fun _ _ _ h => h) (Or.inl ⟨by rfl, ?_⟩) ?_ ?_
            rotate_left
            · intro w'
              go_simp
              with_reducible rfl
            rotate_left
            · simp only [Act.put, List.setIfInBounds_toArray, List.set_cons_zero, List.set_cons_succ, i64_w, i32_w]
              rfl
            refine pure_ (i := 3) (N := some 21) (v := ?_) (a' := ?_) #[true, false, true, true, false, false, false, false, false, false, false, false, false, false] rfl rfl (any_of HT_.out (by kernel_rfl)) (fun _ _ _ h => h) (Or.inl ⟨by rfl, ?_⟩) ?_ ?_
            rotate_left
            · intro w'
              go_simp
              with_reducible rfl
            rotate_left
            · simp only [Act.put, List.setIfInBounds_toArray, List.set_cons_zero, List.set_cons_succ, i64_w, i32_w]
              rfl
            refine pure_ (i := 7) (N := some 25) (v := ?_) (a' := ?_) #[true, false, true, true, false, false, false, true, false, false, false, false, false, false] rfl rfl (any_of HT_.out (by kernel_rfl)) (fun _ _ _ h => h) (Or.inl ⟨by rfl, ?_⟩) ?_ ?_
            rotate_left
            · intro w'
              go_simp
              with_reducible rfl
            rotate_left
            · simp only [Act.put, List.setIfInBounds_toArray, List.set_cons_zero, List.set_cons_succ, i64_w, i32_w]
              rfl
            refine inv_at [1, 4, 5, 6, 8, 9, 10, 11, 12, 13] (fun a0_ b a w' => ∃ (v215 : Value) (v223 : Value) (adz_v223 : Addr) (m9_ : Value) (m11_ : Value), a = putSel a0_ b [(1, 19, v215), (4, 22, .int .i64 t219), (5, 23, .int .i64 (wrap64 (1 + t219))), (6, 24, v223), (8, 26, .int .i64 t225), (9, 27, m9_), (10, 28, .int .i64 (rd y222 t225)), (11, 2, m11_), (12, 3, .string (strOfNums y211)), (13, 4, .int .i64 (rd y222 t225))] ∧ (Kd.R (Kd.int .u8) 5 w' w.heap.size (fun _ => True) v212 y211) ∧ (b 1 = false → IsS112 w w' g201 t198 t209 t210) ∧ (Below w.heap.size w w') ∧ (b 1 = true → Kd.R k32 32 w' w.heap.size (fun _ => True) v215 t214) ∧ (b 1 = true → b 4 = false → IsS112 w w' g201 t198 t217 t218) ∧ (b 4 = true → b 8 = false → IsS112 w w' g201 t198 t220 t221) ∧ (b 6 = true → Kd.R (Kd.int .i64) 2 w' w.heap.size (fun _ => True) v223 y222) ∧ (b 6 = true → ∃ c_, (v223 : Value) = .slice (some adz_v223) y222.length c_) ∧ (b 8 = true → IsS112 w w' g201 t198 t226 t227) ∧ (b 9 = true → (m9_ : Value) = .pointer (some (adz_v223.add (t225).toNat))) ∧ (b 11 = true → (m11_ : Value) = v215)) HT_.out HW_.out (by kernel_rfl) (by kernel_rfl) ?_ ?_ ?_
            · exact ⟨.bool false, .bool false, ⟨0, 0, none⟩, .bool false, .bool false, by simp only [putSel, Bool.false_eq_true, if_false], HO213.out, fun _ => HI201.out, HB.out, fun h_ => absurd h_ (by decide), fun h_ => absurd h_ (by decide), fun h_ => absurd h_ (by decide), fun h_ => absurd h_ (by decide), fun h_ => absurd h_ (by decide), fun h_ => absurd h_ (by decide), fun h_ => absurd h_ (by decide), fun h_ => absurd h_ (by decide)⟩
            · skip
              clear HB HI201 HO213
              refine steps_cons ?_ ?_
              · rintro b a w' ⟨v215, v223, adz_v223, m9_, m11_, ha, Q_HO213, Q_HI201, Q_HB, Q_HO216, Q_HI201_e1, Q_HI201_e4, Q_HO224, Q_HA_HO224, Q_HI201_e8, Q_X9_, Q_X11_⟩ hb_ hon hoff
                refine ⟨_, rfl, fun K hK => ?_⟩
                have e18 : a.tmps[18]? = some (.pointer (some ⟨g201, 0, none⟩)) := by rw [ha]; exact (putSel_off rfl).trans rfl
                replace ha := Aside0.mk ha
                have HO213 := Aside0.mk Q_HO213
                have HI201 := Aside0.mk (Q_HI201 hb_)
                have HB := Aside0.mk Q_HB
                refine goes_ Try.func53 (by kernel_rfl) rfl #[.pointer (some ⟨g201, 0, none⟩)] (by rfl) rfl rfl (by first | (simp only [List.map_toArray, List.map_cons, List.map_nil, Act.eval, Array.getD_eq_getD_getElem?, Option.getD_some, e18]; done) | (simp only [List.map_toArray, List.map_cons, List.map_nil, Act.eval, Array.getD_eq_getD_getElem?, Option.getD_some, e18]; rfl)) ?_
                with_reducible refine (spec_l01Src_anyNodes.calls k g201 t198 t209 t210 t214 t217 t218 w _ ?side1 ?side2 A10.out).mono ?_
                (case side1 => repeat (first | (with_reducible first | exact HI201.out | apply IsS112.alloc | apply IsS112.drewN | apply IsS112.drew | apply IsS112.set_1 | apply IsS112.set_2) | exact HI201.out))
                (case side2 => repeat (first | (with_reducible first | exact HB.out | apply below_alloc | apply pw_below_drewN | apply below_drew1 | refine below_set ?_ (IsS112.ge HI201.out)) | exact HB.out))
                rintro e w23 ⟨v215, rfl, ho0, hi, hb, hk⟩
                refine ⟨_, rfl, ?_⟩
                have n0_ := Aside0.mk (Kd.R_mono (Kd.R_keep (IsS112.apart (show IsS112 w _ g201 t198 t209 t210 from by repeat (first | (with_reducible first | exact HI201.out | apply IsS112.alloc | apply IsS112.drewN | apply IsS112.drew | apply IsS112.set_1 | apply IsS112.set_2) | exact HI201.out)) (by (with_reducible repeat (first | apply Kd.R_alloc | apply Kd.R_drewN | apply Kd.R_drew)); exact HO213.out) (by decide)) hk (fun _ h => h.2)) (fun _ h => h.1))
                have n1_ := Aside0.mk (Kd.R_lower ho0 (below_size (by repeat (first | (with_reducible first | exact HB.out | apply below_alloc | apply pw_below_drewN | apply below_drew1 | refine below_set ?_ (IsS112.ge HI201.out)) | exact HB.out))))
                have n2_ := Aside0.mk (hb)
                have n3_ := Aside0.mk (hi)
                clear HO213
                clear HB
                clear HI201
                have HO213 := n0_
                have HO216 := n1_
                have HB := n2_
                have HI201 := n3_
                clear n0_ n1_ n2_ n3_
                (try clear hb)
                (try clear hb2)
                (try clear hk)
                (try clear hi)
                (try clear ho0)
                refine hK.out _ _ ⟨v215, v223, adz_v223, m9_, m11_, (by rw [ha.out]; exact putSel_upk 0 hb_ rfl rfl rfl), (by (with_reducible repeat (first | apply Kd.R_alloc | apply Kd.R_drewN | apply Kd.R_drew)); exact HO213.out), fun h0_ => absurd ((up_self b 1).symm.trans h0_) (by decide), (by repeat (first | (with_reducible first | exact HB.out | apply below_alloc | apply pw_below_drewN | apply below_drew1 | refine below_set ?_ (IsS112.ge HI201.out)) | exact HB.out)), fun _ => (by (with_reducible repeat (first | apply Kd.R_alloc | apply Kd.R_drewN | apply Kd.R_drew)); exact HO216.out), fun _ _ => (by repeat (first | (with_reducible first | exact HI201.out | apply IsS112.alloc | apply IsS112.drewN | apply IsS112.drew | apply IsS112.set_1 | apply IsS112.set_2) | exact HI201.out)), fun h0_ _ => absurd ((hoff 4 (by kernel_rfl)).symm.trans h0_) (by decide), fun h0_ => absurd ((hoff 6 (by kernel_rfl)).symm.trans h0_) (by decide), fun h0_ => absurd ((hoff 6 (by kernel_rfl)).symm.trans h0_) (by decide), fun h0_ => absurd ((hoff 8 (by kernel_rfl)).symm.trans h0_) (by decide), fun h0_ => absurd ((hoff 9 (by kernel_rfl)).symm.trans h0_) (by decide), fun h0_ => absurd ((hoff 11 (by kernel_rfl)).symm.trans h0_) (by decide)⟩
              refine steps_cons ?_ ?_
              · rintro b a w' ⟨v215, v223, adz_v223, m9_, m11_, ha, Q_HO213, Q_HI201, Q_HB, Q_HO216, Q_HI201_e1, Q_HI201_e4, Q_HO224, Q_HA_HO224, Q_HI201_e8, Q_X9_, Q_X11_⟩ hb_ hon hoff
                refine ⟨_, rfl, fun K hK => ?_⟩
                have e21 : a.tmps[21]? = some (.pointer (some ⟨g201, 0, none⟩)) := by rw [ha]; exact (putSel_off rfl).trans rfl
                replace ha := Aside0.mk ha
                have HO213 := Aside0.mk Q_HO213
                have HB := Aside0.mk Q_HB
                have HO216 := Aside0.mk (Q_HO216 (hon 1 (by kernel_rfl)))
                have HI201 := Aside0.mk (Q_HI201_e1 (hon 1 (by kernel_rfl)) hb_)
                refine goes_ Try.func52 (by kernel_rfl) rfl #[.pointer (some ⟨g201, 0, none⟩), .int .i64 6] (by rfl) rfl rfl (by first | (simp only [List.map_toArray, List.map_cons, List.map_nil, Act.eval, Array.getD_eq_getD_getElem?, Option.getD_some, e21]; done) | (simp only [List.map_toArray, List.map_cons, List.map_nil, Act.eval, Array.getD_eq_getD_getElem?, Option.getD_some, e21]; rfl)) ?_
                with_reducible refine (spec_l01Src_n.calls g201 t198 t217 t218 6 t219 t220 t221 w _ ?side1 ?side2 A11.out).mono ?_
                (case side1 => repeat (first | (with_reducible first | exact HI201.out | apply IsS112.alloc | apply IsS112.drewN | apply IsS112.drew | apply IsS112.set_1 | apply IsS112.set_2) | exact HI201.out))
                (case side2 => repeat (first | (with_reducible first | exact HB.out | apply below_alloc | apply pw_below_drewN | apply below_drew1 | refine below_set ?_ (IsS112.ge HI201.out)) | exact HB.out))
                rintro e w25 ⟨rfl, hi, hb, hk⟩
                refine ⟨_, rfl, ?_⟩
                have n0_ := Aside0.mk (Kd.R_mono (Kd.R_keep (IsS112.apart (show IsS112 w _ g201 t198 t217 t218 from by repeat (first | (with_reducible first | exact HI201.out | apply IsS112.alloc | apply IsS112.drewN | apply IsS112.drew | apply IsS112.set_1 | apply IsS112.set_2) | exact HI201.out)) (by (with_reducible repeat (first | apply Kd.R_alloc | apply Kd.R_drewN | apply Kd.R_drew)); exact HO213.out) (by decide)) hk (fun _ h => h.2)) (fun _ h => h.1))
                have n1_ := Aside0.mk (Kd.R_mono (Kd.R_keep (IsS112.apart (show IsS112 w _ g201 t198 t217 t218 from by repeat (first | (with_reducible first | exact HI201.out | apply IsS112.alloc | apply IsS112.drewN | apply IsS112.drew | apply IsS112.set_1 | apply IsS112.set_2) | exact HI201.out)) (by (with_reducible repeat (first | apply Kd.R_alloc | apply Kd.R_drewN | apply Kd.R_drew)); exact HO216.out) (by decide)) hk (fun _ h => h.2)) (fun _ h => h.1))
                have n2_ := Aside0.mk (hb)
                have n3_ := Aside0.mk (hi)
                clear HO213
                clear HO216
                clear HB
                clear HI201
                have HO213 := n0_
                have HO216 := n1_
                have HB := n2_
                have HI201 := n3_
                clear n0_ n1_ n2_ n3_
                (try clear hb)
                (try clear hb2)
                (try clear hk)
                (try clear hi)
                refine hK.out _ _ ⟨v215, v223, adz_v223, m9_, m11_, (by rw [ha.out]; exact putSel_upk 1 hb_ rfl rfl rfl), (by (with_reducible repeat (first | apply Kd.R_alloc | apply Kd.R_drewN | apply Kd.R_drew)); exact HO213.out), fun h0_ => absurd ((hon 1 (by kernel_rfl)).symm.trans h0_) (by decide), (by repeat (first | (with_reducible first | exact HB.out | apply below_alloc | apply pw_below_drewN | apply below_drew1 | refine below_set ?_ (IsS112.ge HI201.out)) | exact HB.out)), fun _ => (by (with_reducible repeat (first | apply Kd.R_alloc | apply Kd.R_drewN | apply Kd.R_drew)); exact HO216.out), fun _ h1_ => absurd ((up_self b 4).symm.trans h1_) (by decide), fun _ _ => (by repeat (first | (with_reducible first | exact HI201.out | apply IsS112.alloc | apply IsS112.drewN | apply IsS112.drew | apply IsS112.set_1 | apply IsS112.set_2) | exact HI201.out)), fun h0_ => absurd ((hoff 6 (by kernel_rfl)).symm.trans h0_) (by decide), fun h0_ => absurd ((hoff 6 (by kernel_rfl)).symm.trans h0_) (by decide), fun h0_ => absurd ((hoff 8 (by kernel_rfl)).symm.trans h0_) (by decide), fun h0_ => absurd ((hoff 9 (by kernel_rfl)).symm.trans h0_) (by decide), fun h0_ => absurd ((hoff 11 (by kernel_rfl)).symm.trans h0_) (by decide)⟩
              refine steps_cons ?_ ?_
              · rintro b a w' ⟨v215, v223, adz_v223, m9_, m11_, ha, Q_HO213, Q_HI201, Q_HB, Q_HO216, Q_HI201_e1, Q_HI201_e4, Q_HO224, Q_HA_HO224, Q_HI201_e8, Q_X9_, Q_X11_⟩ hb_ hon hoff
                refine ⟨_, rfl, fun K hK => ?_⟩
                have e22 : a.tmps[22]? = some (.int .i64 t219) := by rw [ha]; exact putSel_on (e := (4, 22, .int .i64 t219)) 1 rfl rfl (hon 4 (by kernel_rfl)) rfl
                replace ha := Aside0.mk ha
                have HO213 := Aside0.mk Q_HO213
                have HB := Aside0.mk Q_HB
                have HO216 := Aside0.mk (Q_HO216 (hon 1 (by kernel_rfl)))
                refine value_ (w1 := w') (v := .int .i64 (wrap64 (1 + t219))) (by rfl) rfl ?_ ?_
                · go_simp
                  (try simp only [i64_w])
                  try rfl
                refine hK.out _ _ ⟨v215, v223, adz_v223, m9_, m11_, (by rw [ha.out]; exact putSel_upk 2 hb_ rfl rfl rfl), Q_HO213, fun h0_ => absurd ((hon 1 (by kernel_rfl)).symm.trans h0_) (by decide), Q_HB, Q_HO216, fun _ h1_ => absurd ((hon 4 (by kernel_rfl)).symm.trans h1_) (by decide), Q_HI201_e4, fun h0_ => absurd ((hoff 6 (by kernel_rfl)).symm.trans h0_) (by decide), fun h0_ => absurd ((hoff 6 (by kernel_rfl)).symm.trans h0_) (by decide), Q_HI201_e8, fun h0_ => absurd ((hoff 9 (by kernel_rfl)).symm.trans h0_) (by decide), Q_X11_⟩
              refine steps_cons ?_ ?_
              · rintro b a w' ⟨v215, v223, adz_v223, m9_, m11_, ha, Q_HO213, Q_HI201, Q_HB, Q_HO216, Q_HI201_e1, Q_HI201_e4, Q_HO224, Q_HA_HO224, Q_HI201_e8, Q_X9_, Q_X11_⟩ hb_ hon hoff
                refine ⟨_, rfl, fun K hK => ?_⟩
                have e23 : a.tmps[23]? = some (.int .i64 (wrap64 (1 + t219))) := by rw [ha]; exact putSel_on (e := (5, 23, .int .i64 (wrap64 (1 + t219)))) 2 rfl rfl (hon 5 (by kernel_rfl)) rfl
                replace ha := Aside0.mk ha
                have HO213 := Aside0.mk Q_HO213
                have HB := Aside0.mk Q_HB
                have HO216 := Aside0.mk (Q_HO216 (hon 1 (by kernel_rfl)))
                refine Kd.R_lit_step (Kd.int .i64) _ 2 ?hg (N := 24) ?hd (xs := ([1, 2, 3, 4, 5, 0, 65, wrap64 (1 + t219)] : List Int)) (inner := [.int .i64 1, .int .i64 2, .int .i64 3, .int .i64 4, .int .i64 5, .int .i64 0, .int .i64 65, .int .i64 (wrap64 (1 + t219))]) (ok := fun _ => True) (okp := fun _ => True) ?hr ?hp (fun _ hk => hk) trivial (Below.refl _ _) (Nat.le_refl _) (by simp) ?_; (case hd => rfl); (case hg => rfl); (case hr => first | (go_simp; done) | (go_simp; rfl)); (case hp => exact (Reps.one (show Kd.M (Kd.int .i64) _ _ _ 1 [.int .i64 1] from rfl) (Reps.one (show Kd.M (Kd.int .i64) _ _ _ 2 [.int .i64 2] from rfl) (Reps.one (show Kd.M (Kd.int .i64) _ _ _ 3 [.int .i64 3] from rfl) (Reps.one (show Kd.M (Kd.int .i64) _ _ _ 4 [.int .i64 4] from rfl) (Reps.one (show Kd.M (Kd.int .i64) _ _ _ 5 [.int .i64 5] from rfl) (Reps.one (show Kd.M (Kd.int .i64) _ _ _ 0 [.int .i64 0] from rfl) (Reps.one (show Kd.M (Kd.int .i64) _ _ _ 65 [.int .i64 65] from rfl) (Reps.one (show Kd.M (Kd.int .i64) _ _ _ (wrap64 (1 + t219)) [.int .i64 (wrap64 (1 + t219))] from rfl) (Reps.none _ _))))))))))
                intro v223 w26 ho27 hb hg_ hnew_
                clear hg_ hnew_
                (first | rw [← Ny222.out] at ho27 | (simp only [Int.reduceToNat] at ho27; rw [← Ny222.out] at ho27))
                have n0_ := Aside0.mk (Kd.R_below (by (with_reducible repeat (first | apply Kd.R_alloc | apply Kd.R_drewN | apply Kd.R_drew)); exact HO213.out) hb)
                have n1_ := Aside0.mk (Kd.R_below (by (with_reducible repeat (first | apply Kd.R_alloc | apply Kd.R_drewN | apply Kd.R_drew)); exact HO216.out) hb)
                have n2_ := Aside0.mk (Kd.R_lower ho27 (below_size (by repeat (first | (with_reducible first | exact HB.out | apply below_alloc | apply pw_below_drewN | apply below_drew1) | exact HB.out))))
                have n4_ := Aside0.mk (below_step (by repeat (first | (with_reducible first | exact HB.out | apply below_alloc | apply pw_below_drewN | apply below_drew1) | exact HB.out)) hb)
                have z_HI201_e4 := fun (h0_ : b 4 = true) (h1_ : b 8 = false) => (show IsS112 w w26 g201 t198 t220 t221 from by first | exact (IsS112.below (by repeat (first | (with_reducible first | exact (Q_HI201_e4 h0_ h1_) | apply IsS112.alloc | apply IsS112.drewN | apply IsS112.drew | apply IsS112.set_1 | apply IsS112.set_2) | exact (Q_HI201_e4 h0_ h1_))) hb))
                have z_HI201_e8 := fun (h0_ : b 8 = true) => (show IsS112 w w26 g201 t198 t226 t227 from by first | exact (IsS112.below (by repeat (first | (with_reducible first | exact (Q_HI201_e8 h0_) | apply IsS112.alloc | apply IsS112.drewN | apply IsS112.drew | apply IsS112.set_1 | apply IsS112.set_2) | exact (Q_HI201_e8 h0_))) hb))
                clear HO213
                clear HO216
                clear HB
                have HO213 := n0_
                have HO216 := n1_
                have HO224 := n2_
                have HB := n4_
                clear n0_ n1_ n2_ n4_
                clear hb ho27
                obtain ⟨Ao28, co28, eo28⟩ := Kd.R_slice HO224.out
                subst eo28
                obtain ⟨ado28, fo28, _⟩ := Kd.at_int (Kd.R_reads' HO224.out).2.2 0 (by decide) (by rw [Ny222.out]; simp)
                cases fo28
                refine hK.out _ _ ⟨v215, .slice (some ado28) y222.length co28, ado28, m9_, m11_, (by rw [ha.out]; exact putSel_upk 3 hb_ rfl rfl rfl), (by (with_reducible repeat (first | apply Kd.R_alloc | apply Kd.R_drewN | apply Kd.R_drew)); exact HO213.out), fun h0_ => absurd ((hon 1 (by kernel_rfl)).symm.trans h0_) (by decide), (by repeat (first | (with_reducible first | exact HB.out | apply below_alloc | apply pw_below_drewN | apply below_drew1) | exact HB.out)), fun _ => (by (with_reducible repeat (first | apply Kd.R_alloc | apply Kd.R_drewN | apply Kd.R_drew)); exact HO216.out), fun _ h1_ => absurd ((hon 4 (by kernel_rfl)).symm.trans h1_) (by decide), z_HI201_e4, fun _ => (by (with_reducible repeat (first | apply Kd.R_alloc | apply Kd.R_drewN | apply Kd.R_drew)); exact HO224.out), fun _ => ⟨_, rfl⟩, z_HI201_e8, fun h0_ => absurd ((hoff 9 (by kernel_rfl)).symm.trans h0_) (by decide), Q_X11_⟩
              refine steps_cons ?_ ?_
              · rintro b a w' ⟨v215, v223, adz_v223, m9_, m11_, ha, Q_HO213, Q_HI201, Q_HB, Q_HO216, Q_HI201_e1, Q_HI201_e4, Q_HO224, Q_HA_HO224, Q_HI201_e8, Q_X9_, Q_X11_⟩ hb_ hon hoff
                refine ⟨_, rfl, fun K hK => ?_⟩
                have e25 : a.tmps[25]? = some (.pointer (some ⟨g201, 0, none⟩)) := by rw [ha]; exact (putSel_off rfl).trans rfl
                replace ha := Aside0.mk ha
                have HO213 := Aside0.mk Q_HO213
                have HB := Aside0.mk Q_HB
                have HO216 := Aside0.mk (Q_HO216 (hon 1 (by kernel_rfl)))
                have HI201 := Aside0.mk (Q_HI201_e4 (hon 4 (by kernel_rfl)) hb_)
                refine goes_ Try.func52 (by kernel_rfl) rfl #[.pointer (some ⟨g201, 0, none⟩), .int .i64 8] (by rfl) rfl rfl (by first | (simp only [List.map_toArray, List.map_cons, List.map_nil, Act.eval, Array.getD_eq_getD_getElem?, Option.getD_some, e25]; done) | (simp only [List.map_toArray, List.map_cons, List.map_nil, Act.eval, Array.getD_eq_getD_getElem?, Option.getD_some, e25]; rfl)) ?_
                with_reducible refine (spec_l01Src_n.calls g201 t198 t220 t221 8 t225 t226 t227 w _ ?side1 ?side2 A12.out).mono ?_
                (case side1 => repeat (first | (with_reducible first | exact HI201.out | apply IsS112.alloc | apply IsS112.drewN | apply IsS112.drew | apply IsS112.set_1 | apply IsS112.set_2) | exact HI201.out))
                (case side2 => repeat (first | (with_reducible first | exact HB.out | apply below_alloc | apply pw_below_drewN | apply below_drew1 | refine below_set ?_ (IsS112.ge HI201.out)) | exact HB.out))
                rintro e w26 ⟨rfl, hi, hb, hk⟩
                refine ⟨_, rfl, ?_⟩
                have n0_ := Aside0.mk (Kd.R_mono (Kd.R_keep (IsS112.apart (show IsS112 w _ g201 t198 t220 t221 from by repeat (first | (with_reducible first | exact HI201.out | apply IsS112.alloc | apply IsS112.drewN | apply IsS112.drew | apply IsS112.set_1 | apply IsS112.set_2) | exact HI201.out)) (by (with_reducible repeat (first | apply Kd.R_alloc | apply Kd.R_drewN | apply Kd.R_drew)); exact HO213.out) (by decide)) hk (fun _ h => h.2)) (fun _ h => h.1))
                have n1_ := Aside0.mk (Kd.R_mono (Kd.R_keep (IsS112.apart (show IsS112 w _ g201 t198 t220 t221 from by repeat (first | (with_reducible first | exact HI201.out | apply IsS112.alloc | apply IsS112.drewN | apply IsS112.drew | apply IsS112.set_1 | apply IsS112.set_2) | exact HI201.out)) (by (with_reducible repeat (first | apply Kd.R_alloc | apply Kd.R_drewN | apply Kd.R_drew)); exact HO216.out) (by decide)) hk (fun _ h => h.2)) (fun _ h => h.1))
                have n2_ := Aside0.mk (hb)
                have n3_ := Aside0.mk (hi)
                have z_HO224 := fun (h0_ : b 6 = true) => (show Kd.R (Kd.int .i64) 2 w26 w.heap.size (fun _ => True) v223 y222 from by first | exact (Kd.R_mono (Kd.R_keep (IsS112.apart (show IsS112 w _ g201 t198 t220 t221 from by repeat (first | (with_reducible first | exact HI201.out | apply IsS112.alloc | apply IsS112.drewN | apply IsS112.drew | apply IsS112.set_1 | apply IsS112.set_2) | exact HI201.out)) (by (with_reducible repeat (first | apply Kd.R_alloc | apply Kd.R_drewN | apply Kd.R_drew)); exact (Q_HO224 h0_)) (by decide)) hk (fun _ h => h.2)) (fun _ h => h.1)) | exact Kd.R_mono (Kd.R_mono (Kd.R_keep (IsS112.apart (show IsS112 w _ g201 t198 t220 t221 from by repeat (first | (with_reducible first | exact HI201.out | apply IsS112.alloc | apply IsS112.drewN | apply IsS112.drew | apply IsS112.set_1 | apply IsS112.set_2) | exact HI201.out)) (by (with_reducible repeat (first | apply Kd.R_alloc | apply Kd.R_drewN | apply Kd.R_drew)); exact (Q_HO224 h0_)) (by decide)) hk (fun _ h => h.2)) (fun _ h => h.1)) (fun _ h_ => by first | trivial | exact h_ | exact h_.1))
                clear HO213
                clear HO216
                clear HB
                clear HI201
                have HO213 := n0_
                have HO216 := n1_
                have HB := n2_
                have HI201 := n3_
                clear n0_ n1_ n2_ n3_
                (try clear hb)
                (try clear hb2)
                (try clear hk)
                (try clear hi)
                refine hK.out _ _ ⟨v215, v223, adz_v223, m9_, m11_, (by rw [ha.out]; exact putSel_upk 4 hb_ rfl rfl rfl), (by (with_reducible repeat (first | apply Kd.R_alloc | apply Kd.R_drewN | apply Kd.R_drew)); exact HO213.out), fun h0_ => absurd ((hon 1 (by kernel_rfl)).symm.trans h0_) (by decide), (by repeat (first | (with_reducible first | exact HB.out | apply below_alloc | apply pw_below_drewN | apply below_drew1 | refine below_set ?_ (IsS112.ge HI201.out)) | exact HB.out)), fun _ => (by (with_reducible repeat (first | apply Kd.R_alloc | apply Kd.R_drewN | apply Kd.R_drew)); exact HO216.out), fun _ h1_ => absurd ((hon 4 (by kernel_rfl)).symm.trans h1_) (by decide), fun _ h1_ => absurd ((up_self b 8).symm.trans h1_) (by decide), z_HO224, Q_HA_HO224, fun _ => (by repeat (first | (with_reducible first | exact HI201.out | apply IsS112.alloc | apply IsS112.drewN | apply IsS112.drew | apply IsS112.set_1 | apply IsS112.set_2) | exact HI201.out)), fun h0_ => absurd ((hoff 9 (by kernel_rfl)).symm.trans h0_) (by decide), fun h0_ => absurd ((hoff 11 (by kernel_rfl)).symm.trans h0_) (by decide)⟩
              refine steps_cons ?_ ?_
              · rintro b a w' ⟨v215, v223, adz_v223, m9_, m11_, ha, Q_HO213, Q_HI201, Q_HB, Q_HO216, Q_HI201_e1, Q_HI201_e4, Q_HO224, Q_HA_HO224, Q_HI201_e8, Q_X9_, Q_X11_⟩ hb_ hon hoff
                refine ⟨_, rfl, fun K hK => ?_⟩
                have e24 : a.tmps[24]? = some (v223) := by rw [ha]; exact putSel_on (e := (6, 24, v223)) 3 rfl rfl (hon 6 (by kernel_rfl)) rfl
                have e26 : a.tmps[26]? = some (.int .i64 t225) := by rw [ha]; exact putSel_on (e := (8, 26, .int .i64 t225)) 4 rfl rfl (hon 8 (by kernel_rfl)) rfl
                replace ha := Aside0.mk ha
                have HO213 := Aside0.mk Q_HO213
                have HB := Aside0.mk Q_HB
                have HO216 := Aside0.mk (Q_HO216 (hon 1 (by kernel_rfl)))
                have HO224 := Aside0.mk (Q_HO224 (hon 6 (by kernel_rfl)))
                have HA_HO224 := Aside0.mk (Q_HA_HO224 (hon 6 (by kernel_rfl)))
                have HI201 := Aside0.mk (Q_HI201_e8 (hon 8 (by kernel_rfl)))
                obtain ⟨c_, hv_⟩ := HA_HO224.out
                rw [hv_] at e24
                refine value_ (w1 := w') (v := .pointer (some (adz_v223.add (t225).toNat))) (by rfl) rfl ?_ ?_
                · go_simp
                  (try simp only [i64_w])
                  try rfl
                refine hK.out _ _ ⟨v215, v223, adz_v223, (.pointer (some (adz_v223.add (t225).toNat))), m11_, (by rw [ha.out]; exact putSel_upk 5 hb_ rfl rfl rfl), Q_HO213, fun h0_ => absurd ((hon 1 (by kernel_rfl)).symm.trans h0_) (by decide), Q_HB, Q_HO216, fun _ h1_ => absurd ((hon 4 (by kernel_rfl)).symm.trans h1_) (by decide), fun _ h1_ => absurd ((hon 8 (by kernel_rfl)).symm.trans h1_) (by decide), Q_HO224, Q_HA_HO224, Q_HI201_e8, fun _ => rfl, Q_X11_⟩
              refine steps_cons ?_ ?_
              · rintro b a w' ⟨v215, v223, adz_v223, m9_, m11_, ha, Q_HO213, Q_HI201, Q_HB, Q_HO216, Q_HI201_e1, Q_HI201_e4, Q_HO224, Q_HA_HO224, Q_HI201_e8, Q_X9_, Q_X11_⟩ hb_ hon hoff
                refine ⟨_, rfl, fun K hK => ?_⟩
                have e27 : a.tmps[27]? = some (m9_) := by rw [ha]; exact putSel_on (e := (9, 27, m9_)) 5 rfl rfl (hon 9 (by kernel_rfl)) rfl
                rw [Q_X9_ (hon 9 (by kernel_rfl))] at e27
                replace ha := Aside0.mk ha
                have HO213 := Aside0.mk Q_HO213
                have HB := Aside0.mk Q_HB
                have HO216 := Aside0.mk (Q_HO216 (hon 1 (by kernel_rfl)))
                have HO224 := Aside0.mk (Q_HO224 (hon 6 (by kernel_rfl)))
                have HA_HO224 := Aside0.mk (Q_HA_HO224 (hon 6 (by kernel_rfl)))
                have HI201 := Aside0.mk (Q_HI201_e8 (hon 8 (by kernel_rfl)))
                obtain ⟨c_, hv_⟩ := HA_HO224.out
                have hF_ := HO224.out
                rw [hv_] at hF_
                obtain ⟨ad_, ea_, hx_⟩ := Kd.at_int (Kd.R_reads' hF_).2.2 t225 (of_eq_true pi228) (of_eq_true qi228)
                cases ea_
                refine value_ (w1 := w') (v := .int .i64 (rd y222 t225)) (by rfl) rfl ?_ ?_
                · go_simp
                  (try simp only [i64_w])
                  try rfl
                refine hK.out _ _ ⟨v215, v223, adz_v223, m9_, m11_, (by rw [ha.out]; exact putSel_upk 6 hb_ rfl rfl rfl), Q_HO213, fun h0_ => absurd ((hon 1 (by kernel_rfl)).symm.trans h0_) (by decide), Q_HB, Q_HO216, fun _ h1_ => absurd ((hon 4 (by kernel_rfl)).symm.trans h1_) (by decide), fun _ h1_ => absurd ((hon 8 (by kernel_rfl)).symm.trans h1_) (by decide), Q_HO224, Q_HA_HO224, Q_HI201_e8, Q_X9_, Q_X11_⟩
              refine steps_cons ?_ ?_
              · rintro b a w' ⟨v215, v223, adz_v223, m9_, m11_, ha, Q_HO213, Q_HI201, Q_HB, Q_HO216, Q_HI201_e1, Q_HI201_e4, Q_HO224, Q_HA_HO224, Q_HI201_e8, Q_X9_, Q_X11_⟩ hb_ hon hoff
                refine ⟨_, rfl, fun K hK => ?_⟩
                have e19 : a.tmps[19]? = some (v215) := by rw [ha]; exact putSel_on (e := (1, 19, v215)) 0 rfl rfl (hon 1 (by kernel_rfl)) rfl
                replace ha := Aside0.mk ha
                have HO213 := Aside0.mk Q_HO213
                have HB := Aside0.mk Q_HB
                have HO216 := Aside0.mk (Q_HO216 (hon 1 (by kernel_rfl)))
                have HI201 := Aside0.mk (Q_HI201_e8 (hon 8 (by kernel_rfl)))
                refine value_ (w1 := w') (v := v215) (by rfl) rfl ?_ ?_
                · go_simp
                  (try simp only [i64_w])
                  try rfl
                refine hK.out _ _ ⟨v215, v223, adz_v223, m9_, (v215), (by rw [ha.out]; exact putSel_upk 7 hb_ rfl rfl rfl), Q_HO213, fun h0_ => absurd ((hon 1 (by kernel_rfl)).symm.trans h0_) (by decide), Q_HB, Q_HO216, fun _ h1_ => absurd ((hon 4 (by kernel_rfl)).symm.trans h1_) (by decide), fun _ h1_ => absurd ((hon 8 (by kernel_rfl)).symm.trans h1_) (by decide), Q_HO224, Q_HA_HO224, Q_HI201_e8, Q_X9_, fun _ => rfl⟩
              refine steps_cons ?_ ?_
              · rintro b a w' ⟨v215, v223, adz_v223, m9_, m11_, ha, Q_HO213, Q_HI201, Q_HB, Q_HO216, Q_HI201_e1, Q_HI201_e4, Q_HO224, Q_HA_HO224, Q_HI201_e8, Q_X9_, Q_X11_⟩ hb_ hon hoff
                refine ⟨_, rfl, fun K hK => ?_⟩
                have e20 : a.tmps[20]? = some (.string (strOfNums y211)) := by rw [ha]; exact (putSel_off rfl).trans rfl
                replace ha := Aside0.mk ha
                have HO213 := Aside0.mk Q_HO213
                have HB := Aside0.mk Q_HB
                have HO216 := Aside0.mk (Q_HO216 (hon 1 (by kernel_rfl)))
                have HI201 := Aside0.mk (Q_HI201_e8 (hon 8 (by kernel_rfl)))
                refine value_ (w1 := w') (v := .string (strOfNums y211)) (by rfl) rfl ?_ ?_
                · go_simp
                  (try simp only [i64_w])
                  try rfl
                refine hK.out _ _ ⟨v215, v223, adz_v223, m9_, m11_, (by rw [ha.out]; exact putSel_upk 8 hb_ rfl rfl rfl), Q_HO213, fun h0_ => absurd ((hon 1 (by kernel_rfl)).symm.trans h0_) (by decide), Q_HB, Q_HO216, fun _ h1_ => absurd ((hon 4 (by kernel_rfl)).symm.trans h1_) (by decide), fun _ h1_ => absurd ((hon 8 (by kernel_rfl)).symm.trans h1_) (by decide), Q_HO224, Q_HA_HO224, Q_HI201_e8, Q_X9_, Q_X11_⟩
              refine steps_cons ?_ ?_
              · rintro b a w' ⟨v215, v223, adz_v223, m9_, m11_, ha, Q_HO213, Q_HI201, Q_HB, Q_HO216, Q_HI201_e1, Q_HI201_e4, Q_HO224, Q_HA_HO224, Q_HI201_e8, Q_X9_, Q_X11_⟩ hb_ hon hoff
                refine ⟨_, rfl, fun K hK => ?_⟩
                have e28 : a.tmps[28]? = some (.int .i64 (rd y222 t225)) := by rw [ha]; exact putSel_on (e := (10, 28, .int .i64 (rd y222 t225))) 6 rfl rfl (hon 10 (by kernel_rfl)) rfl
                replace ha := Aside0.mk ha
                have HO213 := Aside0.mk Q_HO213
                have HB := Aside0.mk Q_HB
                have HO216 := Aside0.mk (Q_HO216 (hon 1 (by kernel_rfl)))
                have HO224 := Aside0.mk (Q_HO224 (hon 6 (by kernel_rfl)))
                have HA_HO224 := Aside0.mk (Q_HA_HO224 (hon 6 (by kernel_rfl)))
                have HI201 := Aside0.mk (Q_HI201_e8 (hon 8 (by kernel_rfl)))
                refine value_ (w1 := w') (v := .int .i64 (rd y222 t225)) (by rfl) rfl ?_ ?_
                · go_simp
                  (try simp only [i64_w])
                  try rfl
                refine hK.out _ _ ⟨v215, v223, adz_v223, m9_, m11_, (by rw [ha.out]; exact putSel_upk 9 hb_ rfl rfl rfl), Q_HO213, fun h0_ => absurd ((hon 1 (by kernel_rfl)).symm.trans h0_) (by decide), Q_HB, Q_HO216, fun _ h1_ => absurd ((hon 4 (by kernel_rfl)).symm.trans h1_) (by decide), fun _ h1_ => absurd ((hon 8 (by kernel_rfl)).symm.trans h1_) (by decide), Q_HO224, Q_HA_HO224, Q_HI201_e8, Q_X9_, Q_X11_⟩
              exact steps_nil
            rintro b a w29 hall ⟨v215, v223, adz_v223, m9_, m11_, ha, Q_HO213, Q_HI201, Q_HB, Q_HO216, Q_HI201_e1, Q_HI201_e4, Q_HO224, Q_HA_HO224, Q_HI201_e8, Q_X9_, Q_X11_⟩
            clear HB HI201 HO213
            have hb1_ := hall 1 (by kernel_rfl)
            have hb4_ := hall 4 (by kernel_rfl)
            have hb5_ := hall 5 (by kernel_rfl)
            have hb6_ := hall 6 (by kernel_rfl)
            have hb8_ := hall 8 (by kernel_rfl)
            have hb9_ := hall 9 (by kernel_rfl)
            have hb10_ := hall 10 (by kernel_rfl)
            have hb11_ := hall 11 (by kernel_rfl)
            have hb12_ := hall 12 (by kernel_rfl)
            have hb13_ := hall 13 (by kernel_rfl)
            subst ha
            obtain rfl := Q_X9_ hb9_
            obtain rfl := Q_X11_ hb11_
            simp only [putSel, hb1_, hb4_, hb5_, hb6_, hb8_, hb9_, hb10_, hb11_, hb12_, hb13_, if_true, Act.put, List.setIfInBounds_toArray, List.set_cons_zero, List.set_cons_succ]
            have HO213 := Aside0.mk Q_HO213
            clear Q_HO213
            clear Q_HI201
            have HB := Aside0.mk Q_HB
            clear Q_HB
            have HO216 := Aside0.mk (Q_HO216 hb1_)
            clear Q_HO216
            clear Q_HI201_e1
            clear Q_HI201_e4
            have HO224 := Aside0.mk (Q_HO224 hb6_)
            clear Q_HO224
            have HA_HO224 := Aside0.mk (Q_HA_HO224 hb6_)
            clear Q_HA_HO224
            have HI201 := Aside0.mk (Q_HI201_e8 hb8_)
            clear Q_HI201_e8
            clear hall hb1_ hb4_ hb5_ hb6_ hb8_ hb9_ hb10_ hb11_ hb12_ hb13_
            obtain ⟨co30, eo30⟩ := HA_HO224.out
            clear HA_HO224
            subst eo30
            try go_wp2
            go_ret3
            exact ⟨_, by first | rfl | (simp [errW_none, errW_some] <;> rfl) | (simp only [← hji7]; first | rfl | (simp [errW_none, errW_some] <;> rfl)) | (simp [*, errW_none, errW_some] <;> rfl), by (with_reducible repeat (first | apply Kd.R_alloc | apply Kd.R_drewN | apply Kd.R_drew)); exact HO216.out, by repeat (first | (with_reducible first | exact HB.out | apply below_alloc | apply pw_below_drewN | apply below_drew1 | refine below_set ?_ (IsS112.ge HI201.out)) | exact HB.out)⟩
          · rw [if_neg c14] at H
            exact absurd H (by simp)
        · rw [if_neg c13] at H
          exact absurd H (by simp)
      · rw [if_neg c9] at H
        exact absurd H (by simp)
    · rw [if_neg c8] at H
      exact absurd H (by simp)
  · replace c5 := Bool.eq_false_iff.mpr c5
    subst c5
    have H1 : ((spec_l01Src_anyNodes.f k t198 t206 t207).bind fun bt229 => ((spec_l01Src_n.f t198 bt229.2.1 bt229.2.2 6).bind fun bt234 => ((some (([1, 2, 3, 4, 5, 0, 65, wrap64 (1 + bt234.1)] : List Int) : List Int)).bind fun y237 => ((spec_l01Src_n.f t198 bt234.2.1 bt234.2.2 8).bind fun bt240 => (if 0 ≤ bt240.1 then (if bt240.1 < (y237.length : Int) then (some (bt229.1, t202, rd y237 bt240.1)) else (none)) else (none)))))) = some (r1, r2, r3) := by rw [if_neg (show ¬ (false = true) by decide)] at H; exact H
    clear H
    have H := H1
    clear H1
    replace H := Option.bind_eq_some_iff.mp H
    obtain ⟨⟨t229, t232, t233⟩, A310, H⟩ := H
    replace H : ((spec_l01Src_n.f t198 t232 t233 6).bind fun bt234 => ((some (([1, 2, 3, 4, 5, 0, 65, wrap64 (1 + bt234.1)] : List Int) : List Int)).bind fun y237 => ((spec_l01Src_n.f t198 bt234.2.1 bt234.2.2 8).bind fun bt240 => (if 0 ≤ bt240.1 then (if bt240.1 < (y237.length : Int) then (some (t229, t202, rd y237 bt240.1)) else (none)) else (none))))) = some (r1, r2, r3) := H
    have A31 := Aside0.mk A310
    clear A310
    replace H := Option.bind_eq_some_iff.mp H
    obtain ⟨⟨t234, t235, t236⟩, A320, H⟩ := H
    replace H : ((some (([1, 2, 3, 4, 5, 0, 65, wrap64 (1 + t234)] : List Int) : List Int)).bind fun y237 => ((spec_l01Src_n.f t198 t235 t236 8).bind fun bt240 => (if 0 ≤ bt240.1 then (if bt240.1 < (y237.length : Int) then (some (t229, t202, rd y237 bt240.1)) else (none)) else (none)))) = some (r1, r2, r3) := H
    have A32 := Aside0.mk A320
    clear A320
    obtain ⟨y237, hy237⟩ : ∃ y_ : List Int, y_ = (([1, 2, 3, 4, 5, 0, 65, wrap64 (1 + t234)] : List Int)) := ⟨_, rfl⟩
    replace H : ((spec_l01Src_n.f t198 t235 t236 8).bind fun bt240 => (if 0 ≤ bt240.1 then (if bt240.1 < (y237.length : Int) then (some (t229, t202, rd y237 bt240.1)) else (none)) else (none))) = some (r1, r2, r3) := by first | (rw [hy237]; with_reducible exact H) | (have H2_ := (Option.bind_some _ _).symm.trans H; rw [hy237]; with_reducible exact H2_) | (have H2_ := (Option.bind_some _ _).symm.trans H; with_reducible exact H2_) | with_reducible exact H | (rw [hy237]; exact H) | exact H
    have Ny237 := Aside0.mk hy237
    clear hy237
    replace H := Option.bind_eq_some_iff.mp H
    obtain ⟨⟨t240, t241, t242⟩, A330, H⟩ := H
    replace H : (if 0 ≤ t240 then (if t240 < (y237.length : Int) then (some (t229, t202, rd y237 t240)) else (none)) else (none)) = some (r1, r2, r3) := H
    have A33 := Aside0.mk A330
    clear A330
    by_cases c34 : 0 ≤ t240
    · rw [if_pos c34] at H
      have c34b0 : decide (0 ≤ t240) = true := decide_eq_true c34
      clear c34
      by_cases c35 : t240 < (y237.length : Int)
      · rw [if_pos c35] at H
        have c35b0 : decide (t240 < (y237.length : Int)) = true := decide_eq_true c35
        clear c35
        simp only [Option.some.injEq, Prod.mk.injEq] at H
        obtain ⟨rfl, rfl, rfl⟩ := H
        go_enter Try.func11, Try.ntmps11
        try go_wp2_with (first | ((with_reducible refine gate_callee (f := 49) rfl ?_); refine goesL_ (some 8) rfl rfl Try.func49 (by kernel_rfl) rfl #[.slice A0 l0.length c0] rfl (by (try simp only [List.map_toArray, List.map_cons, List.map_nil]); first | done | rfl | (simp only [List.length_drop, List.length_take]; rfl)) ?_; (with_reducible refine (spec_l01Source.calls _ _ l0 t198 t199 t200 w _ ?side1 ?side2 ?side3 A2.out).mono ?_); (case side1 => repeat (first | (with_reducible first | exact HB.out | apply below_alloc | apply pw_below_drewN | apply below_drew1) | exact HB.out)); (case side2 => exact HR0.out); (case side3 => exact HC0.out); rintro e w36 ⟨g201, rfl, hi, hb, hb2⟩; refine ⟨_, rfl, ?_⟩; have n0_ := Aside0.mk (hb); have n1_ := Aside0.mk (hi); clear HB; have HB := n0_; have HI201 := n1_; clear n0_ n1_; (try clear hb); (try clear hb2); (try clear hk); (try clear hi)) | ((with_reducible refine gate_callee (f := 50) rfl ?_); refine goesL_ (some 10) rfl rfl Try.func50 (by kernel_rfl) rfl #[.pointer (some ⟨g201, 0, none⟩)] rfl (by (try simp only [List.map_toArray, List.map_cons, List.map_nil]); first | done | rfl | (simp only [List.length_drop, List.length_take]; rfl)) ?_; (with_reducible refine (spec_l01Src_key.calls k g201 t198 t199 t200 t202 t203 t204 w _ ?side1 ?side2 A3.out).mono ?_); (case side1 => repeat (first | (with_reducible first | exact HI201.out | apply IsS112.alloc | apply IsS112.drewN | apply IsS112.drew | apply IsS112.set_1 | apply IsS112.set_2) | exact HI201.out)); (case side2 => repeat (first | (with_reducible first | exact HB.out | apply below_alloc | apply pw_below_drewN | apply below_drew1 | refine below_set ?_ (IsS112.ge HI201.out)) | exact HB.out)); rintro e w37 ⟨rfl, hi, hb, hk⟩; refine ⟨_, rfl, ?_⟩; have n0_ := Aside0.mk (hb); have n1_ := Aside0.mk (hi); clear HB; clear HI201; have HB := n0_; have HI201 := n1_; clear n0_ n1_; (try clear hb); (try clear hb2); (try clear hk); (try clear hi)) | ((with_reducible refine gate_callee (f := 51) rfl ?_); refine goesL_ (some 12) rfl rfl Try.func51 (by kernel_rfl) rfl #[.pointer (some ⟨g201, 0, none⟩), .int .i64 30] rfl (by (try simp only [List.map_toArray, List.map_cons, List.map_nil]); first | done | rfl | (simp only [List.length_drop, List.length_take]; rfl)) ?_; (with_reducible refine (spec_l01Src_one.calls g201 t198 t203 t204 30 false t206 t207 w _ ?side1 ?side2 A4.out).mono ?_); (case side1 => repeat (first | (with_reducible first | exact HI201.out | apply IsS112.alloc | apply IsS112.drewN | apply IsS112.drew | apply IsS112.set_1 | apply IsS112.set_2) | exact HI201.out)); (case side2 => repeat (first | (with_reducible first | exact HB.out | apply below_alloc | apply pw_below_drewN | apply below_drew1 | refine below_set ?_ (IsS112.ge HI201.out)) | exact HB.out)); rintro e w38 ⟨rfl, hi, hb, hk⟩; refine ⟨_, rfl, ?_⟩; have n0_ := Aside0.mk (hb); have n1_ := Aside0.mk (hi); clear HB; clear HI201; have HB := n0_; have HI201 := n1_; clear n0_ n1_; (try clear hb); (try clear hb2); (try clear hk); (try clear hi)))
        have pi243 : (0 ≤ (t240 : Int)) = True := eq_true (of_decide_eq_true (by first | (with_reducible assumption) | assumption))
        have qi243 : (t240 < (y237.length : Int)) = True := eq_true (of_decide_eq_true (by first | (with_reducible assumption) | assumption))
        have n0_ := Aside0.mk (IsS112.drew HI201.out)
        have n1_ := Aside0.mk (below_drew1 HB.out)
        clear HI201
        clear HB
        have HI201 := n0_
        have HB := n1_
        clear n0_ n1_
        refine start_ (n := 14) (S := fun w' => True) (ds := []) #[false, false, false, false, false, false, false, false, false, false, false, false, false, false] (by kernel_rfl) rfl rfl trivial (fun hHeld => ?_); refine with_tabW spec_DrawPlaceKey.tab5 spec_DrawPlaceKey.bits5 (fun HT_ HW_ => ?_)
        generalize w38.drew = w39 at HI201 HB hHeld ⊢
        refine pure_ (i := 0) (N := some 18) (v := ?_) (a' := ?_) #[true, false, false, false, false, false, false, false, false, false, false, false, false, false] rfl rfl (any_of HT_.out (by kernel_rfl)) (fun _ _ _ h => h) (Or.inl ⟨by rfl, ?_⟩) ?_ ?_
        rotate_left
        · intro w'
          go_simp
          with_reducible rfl
        rotate_left
        · simp only [Act.put, List.setIfInBounds_toArray, List.set_cons_zero, List.set_cons_succ, i64_w, i32_w]
          rfl
        refine pure_ (i := 2) (N := some 20) (v := ?_) (a' := ?_) #[true, false, true, false, false, false, false, false, false, false, false, false, false, false] rfl rfl (any_of HT_.out (by kernel_rfl)) (fun _ _ _ h => h) (Or.inl ⟨by rfl, ?_⟩) ?_ ?_
        rotate_left
        · intro w'
          go_simp
          with_reducible rfl
        rotate_left
        · simp only [Act.put, List.setIfInBounds_toArray, List.set_cons_zero, List.set_cons_succ, i64_w, i32_w]
          rfl
        refine pure_ (i := 3) (N := some 21) (v := ?_) (a' := ?_) #[true, false, true, true, false, false, false, false, false, false, false, false, false, false] rfl rfl (any_of HT_.out (by kernel_rfl)) (fun _ _ _ h => h) (Or.inl ⟨by rfl, ?_⟩) ?_ ?_
        rotate_left
        · intro w'
          go_simp
          with_reducible rfl
        rotate_left
        · simp only [Act.put, List.setIfInBounds_toArray, List.set_cons_zero, List.set_cons_succ, i64_w, i32_w]
          rfl
        refine pure_ (i := 7) (N := some 25) (v := ?_) (a' := ?_) #[true, false, true, true, false, false, false, true, false, false, false, false, false, false] rfl rfl (any_of HT_.out (by kernel_rfl)) (fun _ _ _ h => h) (Or.inl ⟨by rfl, ?_⟩) ?_ ?_
        rotate_left
        · intro w'
          go_simp
          with_reducible rfl
        rotate_left
        · simp only [Act.put, List.setIfInBounds_toArray, List.set_cons_zero, List.set_cons_succ, i64_w, i32_w]
          rfl
        refine inv_at [1, 4, 5, 6, 8, 9, 10, 11, 12, 13] (fun a0_ b a w' => ∃ (v230 : Value) (v238 : Value) (adz_v238 : Addr) (m9_ : Value) (m11_ : Value), a = putSel a0_ b [(1, 19, v230), (4, 22, .int .i64 t234), (5, 23, .int .i64 (wrap64 (1 + t234))), (6, 24, v238), (8, 26, .int .i64 t240), (9, 27, m9_), (10, 28, .int .i64 (rd y237 t240)), (11, 2, m11_), (12, 3, .string t202), (13, 4, .int .i64 (rd y237 t240))] ∧ (b 1 = false → IsS112 w w' g201 t198 t206 t207) ∧ (Below w.heap.size w w') ∧ (b 1 = true → Kd.R k32 32 w' w.heap.size (fun _ => True) v230 t229) ∧ (b 1 = true → b 4 = false → IsS112 w w' g201 t198 t232 t233) ∧ (b 4 = true → b 8 = false → IsS112 w w' g201 t198 t235 t236) ∧ (b 6 = true → Kd.R (Kd.int .i64) 2 w' w.heap.size (fun _ => True) v238 y237) ∧ (b 6 = true → ∃ c_, (v238 : Value) = .slice (some adz_v238) y237.length c_) ∧ (b 8 = true → IsS112 w w' g201 t198 t241 t242) ∧ (b 9 = true → (m9_ : Value) = .pointer (some (adz_v238.add (t240).toNat))) ∧ (b 11 = true → (m11_ : Value) = v230)) HT_.out HW_.out (by kernel_rfl) (by kernel_rfl) ?_ ?_ ?_
        · exact ⟨.bool false, .bool false, ⟨0, 0, none⟩, .bool false, .bool false, by simp only [putSel, Bool.false_eq_true, if_false], fun _ => HI201.out, HB.out, fun h_ => absurd h_ (by decide), fun h_ => absurd h_ (by decide), fun h_ => absurd h_ (by decide), fun h_ => absurd h_ (by decide), fun h_ => absurd h_ (by decide), fun h_ => absurd h_ (by decide), fun h_ => absurd h_ (by decide), fun h_ => absurd h_ (by decide)⟩
        · skip
          clear HB HI201
          refine steps_cons ?_ ?_
          · rintro b a w' ⟨v230, v238, adz_v238, m9_, m11_, ha, Q_HI201, Q_HB, Q_HO231, Q_HI201_e1, Q_HI201_e4, Q_HO239, Q_HA_HO239, Q_HI201_e8, Q_X9_, Q_X11_⟩ hb_ hon hoff
            refine ⟨_, rfl, fun K hK => ?_⟩
            have e18 : a.tmps[18]? = some (.pointer (some ⟨g201, 0, none⟩)) := by rw [ha]; exact (putSel_off rfl).trans rfl
            replace ha := Aside0.mk ha
            have HI201 := Aside0.mk (Q_HI201 hb_)
            have HB := Aside0.mk Q_HB
            refine goes_ Try.func53 (by kernel_rfl) rfl #[.pointer (some ⟨g201, 0, none⟩)] (by rfl) rfl rfl (by first | (simp only [List.map_toArray, List.map_cons, List.map_nil, Act.eval, Array.getD_eq_getD_getElem?, Option.getD_some, e18]; done) | (simp only [List.map_toArray, List.map_cons, List.map_nil, Act.eval, Array.getD_eq_getD_getElem?, Option.getD_some, e18]; rfl)) ?_
            with_reducible refine (spec_l01Src_anyNodes.calls k g201 t198 t206 t207 t229 t232 t233 w _ ?side1 ?side2 A31.out).mono ?_
            (case side1 => repeat (first | (with_reducible first | exact HI201.out | apply IsS112.alloc | apply IsS112.drewN | apply IsS112.drew | apply IsS112.set_1 | apply IsS112.set_2) | exact HI201.out))
            (case side2 => repeat (first | (with_reducible first | exact HB.out | apply below_alloc | apply pw_below_drewN | apply below_drew1 | refine below_set ?_ (IsS112.ge HI201.out)) | exact HB.out))
            rintro e w40 ⟨v230, rfl, ho0, hi, hb, hk⟩
            refine ⟨_, rfl, ?_⟩
            have n0_ := Aside0.mk (Kd.R_lower ho0 (below_size (by repeat (first | (with_reducible first | exact HB.out | apply below_alloc | apply pw_below_drewN | apply below_drew1 | refine below_set ?_ (IsS112.ge HI201.out)) | exact HB.out))))
            have n1_ := Aside0.mk (hb)
            have n2_ := Aside0.mk (hi)
            clear HB
            clear HI201
            have HO231 := n0_
            have HB := n1_
            have HI201 := n2_
            clear n0_ n1_ n2_
            (try clear hb)
            (try clear hb2)
            (try clear hk)
            (try clear hi)
            (try clear ho0)
            refine hK.out _ _ ⟨v230, v238, adz_v238, m9_, m11_, (by rw [ha.out]; exact putSel_upk 0 hb_ rfl rfl rfl), fun h0_ => absurd ((up_self b 1).symm.trans h0_) (by decide), (by repeat (first | (with_reducible first | exact HB.out | apply below_alloc | apply pw_below_drewN | apply below_drew1 | refine below_set ?_ (IsS112.ge HI201.out)) | exact HB.out)), fun _ => (by (with_reducible repeat (first | apply Kd.R_alloc | apply Kd.R_drewN | apply Kd.R_drew)); exact HO231.out), fun _ _ => (by repeat (first | (with_reducible first | exact HI201.out | apply IsS112.alloc | apply IsS112.drewN | apply IsS112.drew | apply IsS112.set_1 | apply IsS112.set_2) | exact HI201.out)), fun h0_ _ => absurd ((hoff 4 (by kernel_rfl)).symm.trans h0_) (by decide), fun h0_ => absurd ((hoff 6 (by kernel_rfl)).symm.trans h0_) (by decide), fun h0_ => absurd ((hoff 6 (by kernel_rfl)).symm.trans h0_) (by decide), fun h0_ => absurd ((hoff 8 (by kernel_rfl)).symm.trans h0_) (by decide), fun h0_ => absurd ((hoff 9 (by kernel_rfl)).symm.trans h0_) (by decide), fun h0_ => absurd ((hoff 11 (by kernel_rfl)).symm.trans h0_) (by decide)⟩
          refine steps_cons ?_ ?_
          · rintro b a w' ⟨v230, v238, adz_v238, m9_, m11_, ha, Q_HI201, Q_HB, Q_HO231, Q_HI201_e1, Q_HI201_e4, Q_HO239, Q_HA_HO239, Q_HI201_e8, Q_X9_, Q_X11_⟩ hb_ hon hoff
            refine ⟨_, rfl, fun K hK => ?_⟩
            have e21 : a.tmps[21]? = some (.pointer (some ⟨g201, 0, none⟩)) := by rw [ha]; exact (putSel_off rfl).trans rfl
            replace ha := Aside0.mk ha
            have HB := Aside0.mk Q_HB
            have HO231 := Aside0.mk (Q_HO231 (hon 1 (by kernel_rfl)))
            have HI201 := Aside0.mk (Q_HI201_e1 (hon 1 (by kernel_rfl)) hb_)
            refine goes_ Try.func52 (by kernel_rfl) rfl #[.pointer (some ⟨g201, 0, none⟩), .int .i64 6] (by rfl) rfl rfl (by first | (simp only [List.map_toArray, List.map_cons, List.map_nil, Act.eval, Array.getD_eq_getD_getElem?, Option.getD_some, e21]; done) | (simp only [List.map_toArray, List.map_cons, List.map_nil, Act.eval, Array.getD_eq_getD_getElem?, Option.getD_some, e21]; rfl)) ?_
            with_reducible refine (spec_l01Src_n.calls g201 t198 t232 t233 6 t234 t235 t236 w _ ?side1 ?side2 A32.out).mono ?_
            (case side1 => repeat (first | (with_reducible first | exact HI201.out | apply IsS112.alloc | apply IsS112.drewN | apply IsS112.drew | apply IsS112.set_1 | apply IsS112.set_2) | exact HI201.out))
            (case side2 => repeat (first | (with_reducible first | exact HB.out | apply below_alloc | apply pw_below_drewN | apply below_drew1 | refine below_set ?_ (IsS112.ge HI201.out)) | exact HB.out))
            rintro e w42 ⟨rfl, hi, hb, hk⟩
            refine ⟨_, rfl, ?_⟩
            have n0_ := Aside0.mk (Kd.R_mono (Kd.R_keep (IsS112.apart (show IsS112 w _ g201 t198 t232 t233 from by repeat (first | (with_reducible first | exact HI201.out | apply IsS112.alloc | apply IsS112.drewN | apply IsS112.drew | apply IsS112.set_1 | apply IsS112.set_2) | exact HI201.out)) (by (with_reducible repeat (first | apply Kd.R_alloc | apply Kd.R_drewN | apply Kd.R_drew)); exact HO231.out) (by decide)) hk (fun _ h => h.2)) (fun _ h => h.1))
            have n1_ := Aside0.mk (hb)
            have n2_ := Aside0.mk (hi)
            clear HO231
            clear HB
            clear HI201
            have HO231 := n0_
            have HB := n1_
            have HI201 := n2_
            clear n0_ n1_ n2_
            (try clear hb)
            (try clear hb2)
            (try clear hk)
            (try clear hi)
            refine hK.out _ _ ⟨v230, v238, adz_v238, m9_, m11_, (by rw [ha.out]; exact putSel_upk 1 hb_ rfl rfl rfl), fun h0_ => absurd ((hon 1 (by kernel_rfl)).symm.trans h0_) (by decide), (by repeat (first | (with_reducible first | exact HB.out | apply below_alloc | apply pw_below_drewN | apply below_drew1 | refine below_set ?_ (IsS112.ge HI201.out)) | exact HB.out)), fun _ => (by (with_reducible repeat (first | apply Kd.R_alloc | apply Kd.R_drewN | apply Kd.R_drew)); exact HO231.out), fun _ h1_ => absurd ((up_self b 4).symm.trans h1_) (by decide), fun _ _ => (by repeat (first | (with_reducible first | exact HI201.out | apply IsS112.alloc | apply IsS112.drewN | apply IsS112.drew | apply IsS112.set_1 | apply IsS112.set_2) | exact HI201.out)), fun h0_ => absurd ((hoff 6 (by kernel_rfl)).symm.trans h0_) (by decide), fun h0_ => absurd ((hoff 6 (by kernel_rfl)).symm.trans h0_) (by decide), fun h0_ => absurd ((hoff 8 (by kernel_rfl)).symm.trans h0_) (by decide), fun h0_ => absurd ((hoff 9 (by kernel_rfl)).symm.trans h0_) (by decide), fun h0_ => absurd ((hoff 11 (by kernel_rfl)).symm.trans h0_) (by decide)⟩
          refine steps_cons ?_ ?_
          · rintro b a w' ⟨v230, v238, adz_v238, m9_, m11_, ha, Q_HI201, Q_HB, Q_HO231, Q_HI201_e1, Q_HI201_e4, Q_HO239, Q_HA_HO239, Q_HI201_e8, Q_X9_, Q_X11_⟩ hb_ hon hoff
            refine ⟨_, rfl, fun K hK => ?_⟩
            have e22 : a.tmps[22]? = some (.int .i64 t234) := by rw [ha]; exact putSel_on (e := (4, 22, .int .i64 t234)) 1 rfl rfl (hon 4 (by kernel_rfl)) rfl
            replace ha := Aside0.mk ha
            have HB := Aside0.mk Q_HB
            have HO231 := Aside0.mk (Q_HO231 (hon 1 (by kernel_rfl)))
            refine value_ (w1 := w') (v := .int .i64 (wrap64 (1 + t234))) (by rfl) rfl ?_ ?_
            · go_simp
              (try simp only [i64_w])
              try rfl
            refine hK.out _ _ ⟨v230, v238, adz_v238, m9_, m11_, (by rw [ha.out]; exact putSel_upk 2 hb_ rfl rfl rfl), fun h0_ => absurd ((hon 1 (by kernel_rfl)).symm.trans h0_) (by decide), Q_HB, Q_HO231, fun _ h1_ => absurd ((hon 4 (by kernel_rfl)).symm.trans h1_) (by decide), Q_HI201_e4, fun h0_ => absurd ((hoff 6 (by kernel_rfl)).symm.trans h0_) (by decide), fun h0_ => absurd ((hoff 6 (by kernel_rfl)).symm.trans h0_) (by decide), Q_HI201_e8, fun h0_ => absurd ((hoff 9 (by kernel_rfl)).symm.trans h0_) (by decide), Q_X11_⟩
          refine steps_cons ?_ ?_
          · rintro b a w' ⟨v230, v238, adz_v238, m9_, m11_, ha, Q_HI201, Q_HB, Q_HO231, Q_HI201_e1, Q_HI201_e4, Q_HO239, Q_HA_HO239, Q_HI201_e8, Q_X9_, Q_X11_⟩ hb_ hon hoff
            refine ⟨_, rfl, fun K hK => ?_⟩
            have e23 : a.tmps[23]? = some (.int .i64 (wrap64 (1 + t234))) := by rw [ha]; exact putSel_on (e := (5, 23, .int .i64 (wrap64 (1 + t234)))) 2 rfl rfl (hon 5 (by kernel_rfl)) rfl
            replace ha := Aside0.mk ha
            have HB := Aside0.mk Q_HB
            have HO231 := Aside0.mk (Q_HO231 (hon 1 (by kernel_rfl)))
            refine Kd.R_lit_step (Kd.int .i64) _ 2 ?hg (N := 24) ?hd (xs := ([1, 2, 3, 4, 5, 0, 65, wrap64 (1 + t234)] : List Int)) (inner := [.int .i64 1, .int .i64 2, .int .i64 3, .int .i64 4, .int .i64 5, .int .i64 0, .int .i64 65, .int .i64 (wrap64 (1 + t234))]) (ok := fun _ => True) (okp := fun _ => True) ?hr ?hp (fun _ hk => hk) trivial (Below.refl _ _) (Nat.le_refl _) (by simp) ?_; (case hd => rfl); (case hg => rfl); (case hr => first | (go_simp; done) | (go_simp; rfl)); (case hp => exact (Reps.one (show Kd.M (Kd.int .i64) _ _ _ 1 [.int .i64 1] from rfl) (Reps.one (show Kd.M (Kd.int .i64) _ _ _ 2 [.int .i64 2] from rfl) (Reps.one (show Kd.M (Kd.int .i64) _ _ _ 3 [.int .i64 3] from rfl) (Reps.one (show Kd.M (Kd.int .i64) _ _ _ 4 [.int .i64 4] from rfl) (Reps.one (show Kd.M (Kd.int .i64) _ _ _ 5 [.int .i64 5] from rfl) (Reps.one (show Kd.M (Kd.int .i64) _ _ _ 0 [.int .i64 0] from rfl) (Reps.one (show Kd.M (Kd.int .i64) _ _ _ 65 [.int .i64 65] from rfl) (Reps.one (show Kd.M (Kd.int .i64) _ _ _ (wrap64 (1 + t234)) [.int .i64 (wrap64 (1 + t234))] from rfl) (Reps.none _ _))))))))))
            intro v238 w43 ho44 hb hg_ hnew_
            clear hg_ hnew_
            (first | rw [← Ny237.out] at ho44 | (simp only [Int.reduceToNat] at ho44; rw [← Ny237.out] at ho44))
            have n0_ := Aside0.mk (Kd.R_below (by (with_reducible repeat (first | apply Kd.R_alloc | apply Kd.R_drewN | apply Kd.R_drew)); exact HO231.out) hb)
            have n1_ := Aside0.mk (Kd.R_lower ho44 (below_size (by repeat (first | (with_reducible first | exact HB.out | apply below_alloc | apply pw_below_drewN | apply below_drew1) | exact HB.out))))
            have n3_ := Aside0.mk (below_step (by repeat (first | (with_reducible first | exact HB.out | apply below_alloc | apply pw_below_drewN | apply below_drew1) | exact HB.out)) hb)
            have z_HI201_e4 := fun (h0_ : b 4 = true) (h1_ : b 8 = false) => (show IsS112 w w43 g201 t198 t235 t236 from by first | exact (IsS112.below (by repeat (first | (with_reducible first | exact (Q_HI201_e4 h0_ h1_) | apply IsS112.alloc | apply IsS112.drewN | apply IsS112.drew | apply IsS112.set_1 | apply IsS112.set_2) | exact (Q_HI201_e4 h0_ h1_))) hb))
            have z_HI201_e8 := fun (h0_ : b 8 = true) => (show IsS112 w w43 g201 t198 t241 t242 from by first | exact (IsS112.below (by repeat (first | (with_reducible first | exact (Q_HI201_e8 h0_) | apply IsS112.alloc | apply IsS112.drewN | apply IsS112.drew | apply IsS112.set_1 | apply IsS112.set_2) | exact (Q_HI201_e8 h0_))) hb))
            clear HO231
            clear HB
            have HO231 := n0_
            have HO239 := n1_
            have HB := n3_
            clear n0_ n1_ n3_
            clear hb ho44
            obtain ⟨Ao45, co45, eo45⟩ := Kd.R_slice HO239.out
            subst eo45
            obtain ⟨ado45, fo45, _⟩ := Kd.at_int (Kd.R_reads' HO239.out).2.2 0 (by decide) (by rw [Ny237.out]; simp)
            cases fo45
            refine hK.out _ _ ⟨v230, .slice (some ado45) y237.length co45, ado45, m9_, m11_, (by rw [ha.out]; exact putSel_upk 3 hb_ rfl rfl rfl), fun h0_ => absurd ((hon 1 (by kernel_rfl)).symm.trans h0_) (by decide), (by repeat (first | (with_reducible first | exact HB.out | apply below_alloc | apply pw_below_drewN | apply below_drew1) | exact HB.out)), fun _ => (by (with_reducible repeat (first | apply Kd.R_alloc | apply Kd.R_drewN | apply Kd.R_drew)); exact HO231.out), fun _ h1_ => absurd ((hon 4 (by kernel_rfl)).symm.trans h1_) (by decide), z_HI201_e4, fun _ => (by (with_reducible repeat (first | apply Kd.R_alloc | apply Kd.R_drewN | apply Kd.R_drew)); exact HO239.out), fun _ => ⟨_, rfl⟩, z_HI201_e8, fun h0_ => absurd ((hoff 9 (by kernel_rfl)).symm.trans h0_) (by decide), Q_X11_⟩
          refine steps_cons ?_ ?_
          · rintro b a w' ⟨v230, v238, adz_v238, m9_, m11_, ha, Q_HI201, Q_HB, Q_HO231, Q_HI201_e1, Q_HI201_e4, Q_HO239, Q_HA_HO239, Q_HI201_e8, Q_X9_, Q_X11_⟩ hb_ hon hoff
            refine ⟨_, rfl, fun K hK => ?_⟩
            have e25 : a.tmps[25]? = some (.pointer (some ⟨g201, 0, none⟩)) := by rw [ha]; exact (putSel_off rfl).trans rfl
            replace ha := Aside0.mk ha
            have HB := Aside0.mk Q_HB
            have HO231 := Aside0.mk (Q_HO231 (hon 1 (by kernel_rfl)))
            have HI201 := Aside0.mk (Q_HI201_e4 (hon 4 (by kernel_rfl)) hb_)
            refine goes_ Try.func52 (by kernel_rfl) rfl #[.pointer (some ⟨g201, 0, none⟩), .int .i64 8] (by rfl) rfl rfl (by first | (simp only [List.map_toArray, List.map_cons, List.map_nil, Act.eval, Array.getD_eq_getD_getElem?, Option.getD_some, e25]; done) | (simp only [List.map_toArray, List.map_cons, List.map_nil, Act.eval, Array.getD_eq_getD_getElem?, Option.getD_some, e25]; rfl)) ?_
            with_reducible refine (spec_l01Src_n.calls g201 t198 t235 t236 8 t240 t241 t242 w _ ?side1 ?side2 A33.out).mono ?_
            (case side1 => repeat (first | (with_reducible first | exact HI201.out | apply IsS112.alloc | apply IsS112.drewN | apply IsS112.drew | apply IsS112.set_1 | apply IsS112.set_2) | exact HI201.out))
            (case side2 => repeat (first | (with_reducible first | exact HB.out | apply below_alloc | apply pw_below_drewN | apply below_drew1 | refine below_set ?_ (IsS112.ge HI201.out)) | exact HB.out))
            rintro e w43 ⟨rfl, hi, hb, hk⟩
            refine ⟨_, rfl, ?_⟩
            have n0_ := Aside0.mk (Kd.R_mono (Kd.R_keep (IsS112.apart (show IsS112 w _ g201 t198 t235 t236 from by repeat (first | (with_reducible first | exact HI201.out | apply IsS112.alloc | apply IsS112.drewN | apply IsS112.drew | apply IsS112.set_1 | apply IsS112.set_2) | exact HI201.out)) (by (with_reducible repeat (first | apply Kd.R_alloc | apply Kd.R_drewN | apply Kd.R_drew)); exact HO231.out) (by decide)) hk (fun _ h => h.2)) (fun _ h => h.1))
            have n1_ := Aside0.mk (hb)
            have n2_ := Aside0.mk (hi)
            have z_HO239 := fun (h0_ : b 6 = true) => (show Kd.R (Kd.int .i64) 2 w43 w.heap.size (fun _ => True) v238 y237 from by first | exact (Kd.R_mono (Kd.R_keep (IsS112.apart (show IsS112 w _ g201 t198 t235 t236 from by repeat (first | (with_reducible first | exact HI201.out | apply IsS112.alloc | apply IsS112.drewN | apply IsS112.drew | apply IsS112.set_1 | apply IsS112.set_2) | exact HI201.out)) (by (with_reducible repeat (first | apply Kd.R_alloc | apply Kd.R_drewN | apply Kd.R_drew)); exact (Q_HO239 h0_)) (by decide)) hk (fun _ h => h.2)) (fun _ h => h.1)) | exact Kd.R_mono (Kd.R_mono (Kd.R_keep (IsS112.apart (show IsS112 w _ g201 t198 t235 t236 from by repeat (first | (with_reducible first | exact HI201.out | apply IsS112.alloc | apply IsS112.drewN | apply IsS112.drew | apply IsS112.set_1 | apply IsS112.set_2) | exact HI201.out)) (by (with_reducible repeat (first | apply Kd.R_alloc | apply Kd.R_drewN | apply Kd.R_drew)); exact (Q_HO239 h0_)) (by decide)) hk (fun _ h => h.2)) (fun _ h => h.1)) (fun _ h_ => by first | trivial | exact h_ | exact h_.1))
            clear HO231
            clear HB
            clear HI201
            have HO231 := n0_
            have HB := n1_
            have HI201 := n2_
            clear n0_ n1_ n2_
            (try clear hb)
            (try clear hb2)
            (try clear hk)
            (try clear hi)
            refine hK.out _ _ ⟨v230, v238, adz_v238, m9_, m11_, (by rw [ha.out]; exact putSel_upk 4 hb_ rfl rfl rfl), fun h0_ => absurd ((hon 1 (by kernel_rfl)).symm.trans h0_) (by decide), (by repeat (first | (with_reducible first | exact HB.out | apply below_alloc | apply pw_below_drewN | apply below_drew1 | refine below_set ?_ (IsS112.ge HI201.out)) | exact HB.out)), fun _ => (by (with_reducible repeat (first | apply Kd.R_alloc | apply Kd.R_drewN | apply Kd.R_drew)); exact HO231.out), fun _ h1_ => absurd ((hon 4 (by kernel_rfl)).symm.trans h1_) (by decide), fun _ h1_ => absurd ((up_self b 8).symm.trans h1_) (by decide), z_HO239, Q_HA_HO239, fun _ => (by repeat (first | (with_reducible first | exact HI201.out | apply IsS112.alloc | apply IsS112.drewN | apply IsS112.drew | apply IsS112.set_1 | apply IsS112.set_2) | exact HI201.out)), fun h0_ => absurd ((hoff 9 (by kernel_rfl)).symm.trans h0_) (by decide), fun h0_ => absurd ((hoff 11 (by kernel_rfl)).symm.trans h0_) (by decide)⟩
          refine steps_cons ?_ ?_
          · rintro b a w' ⟨v230, v238, adz_v238, m9_, m11_, ha, Q_HI201, Q_HB, Q_HO231, Q_HI201_e1, Q_HI201_e4, Q_HO239, Q_HA_HO239, Q_HI201_e8, Q_X9_, Q_X11_⟩ hb_ hon hoff
            refine ⟨_, rfl, fun K hK => ?_⟩
            have e24 : a.tmps[24]? = some (v238) := by rw [ha]; exact putSel_on (e := (6, 24, v238)) 3 rfl rfl (hon 6 (by kernel_rfl)) rfl
            have e26 : a.tmps[26]? = some (.int .i64 t240) := by rw [ha]; exact putSel_on (e := (8, 26, .int .i64 t240)) 4 rfl rfl (hon 8 (by kernel_rfl)) rfl
            replace ha := Aside0.mk ha
            have HB := Aside0.mk Q_HB
            have HO231 := Aside0.mk (Q_HO231 (hon 1 (by kernel_rfl)))
            have HO239 := Aside0.mk (Q_HO239 (hon 6 (by kernel_rfl)))
            have HA_HO239 := Aside0.mk (Q_HA_HO239 (hon 6 (by kernel_rfl)))
            have HI201 := Aside0.mk (Q_HI201_e8 (hon 8 (by kernel_rfl)))
            obtain ⟨c_, hv_⟩ := HA_HO239.out
            rw [hv_] at e24
            refine value_ (w1 := w') (v := .pointer (some (adz_v238.add (t240).toNat))) (by rfl) rfl ?_ ?_
            · go_simp
              (try simp only [i64_w])
              try rfl
            refine hK.out _ _ ⟨v230, v238, adz_v238, (.pointer (some (adz_v238.add (t240).toNat))), m11_, (by rw [ha.out]; exact putSel_upk 5 hb_ rfl rfl rfl), fun h0_ => absurd ((hon 1 (by kernel_rfl)).symm.trans h0_) (by decide), Q_HB, Q_HO231, fun _ h1_ => absurd ((hon 4 (by kernel_rfl)).symm.trans h1_) (by decide), fun _ h1_ => absurd ((hon 8 (by kernel_rfl)).symm.trans h1_) (by decide), Q_HO239, Q_HA_HO239, Q_HI201_e8, fun _ => rfl, Q_X11_⟩
          refine steps_cons ?_ ?_
          · rintro b a w' ⟨v230, v238, adz_v238, m9_, m11_, ha, Q_HI201, Q_HB, Q_HO231, Q_HI201_e1, Q_HI201_e4, Q_HO239, Q_HA_HO239, Q_HI201_e8, Q_X9_, Q_X11_⟩ hb_ hon hoff
            refine ⟨_, rfl, fun K hK => ?_⟩
            have e27 : a.tmps[27]? = some (m9_) := by rw [ha]; exact putSel_on (e := (9, 27, m9_)) 5 rfl rfl (hon 9 (by kernel_rfl)) rfl
            rw [Q_X9_ (hon 9 (by kernel_rfl))] at e27
            replace ha := Aside0.mk ha
            have HB := Aside0.mk Q_HB
            have HO231 := Aside0.mk (Q_HO231 (hon 1 (by kernel_rfl)))
            have HO239 := Aside0.mk (Q_HO239 (hon 6 (by kernel_rfl)))
            have HA_HO239 := Aside0.mk (Q_HA_HO239 (hon 6 (by kernel_rfl)))
            have HI201 := Aside0.mk (Q_HI201_e8 (hon 8 (by kernel_rfl)))
            obtain ⟨c_, hv_⟩ := HA_HO239.out
            have hF_ := HO239.out
            rw [hv_] at hF_
            obtain ⟨ad_, ea_, hx_⟩ := Kd.at_int (Kd.R_reads' hF_).2.2 t240 (of_eq_true pi243) (of_eq_true qi243)
            cases ea_
            refine value_ (w1 := w') (v := .int .i64 (rd y237 t240)) (by rfl) rfl ?_ ?_
            · go_simp
              (try simp only [i64_w])
              try rfl
            refine hK.out _ _ ⟨v230, v238, adz_v238, m9_, m11_, (by rw [ha.out]; exact putSel_upk 6 hb_ rfl rfl rfl), fun h0_ => absurd ((hon 1 (by kernel_rfl)).symm.trans h0_) (by decide), Q_HB, Q_HO231, fun _ h1_ => absurd ((hon 4 (by kernel_rfl)).symm.trans h1_) (by decide), fun _ h1_ => absurd ((hon 8 (by kernel_rfl)).symm.trans h1_) (by decide), Q_HO239, Q_HA_HO239, Q_HI201_e8, Q_X9_, Q_X11_⟩
          refine steps_cons ?_ ?_
          · rintro b a w' ⟨v230, v238, adz_v238, m9_, m11_, ha, Q_HI201, Q_HB, Q_HO231, Q_HI201_e1, Q_HI201_e4, Q_HO239, Q_HA_HO239, Q_HI201_e8, Q_X9_, Q_X11_⟩ hb_ hon hoff
            refine ⟨_, rfl, fun K hK => ?_⟩
            have e19 : a.tmps[19]? = some (v230) := by rw [ha]; exact putSel_on (e := (1, 19, v230)) 0 rfl rfl (hon 1 (by kernel_rfl)) rfl
            replace ha := Aside0.mk ha
            have HB := Aside0.mk Q_HB
            have HO231 := Aside0.mk (Q_HO231 (hon 1 (by kernel_rfl)))
            have HI201 := Aside0.mk (Q_HI201_e8 (hon 8 (by kernel_rfl)))
            refine value_ (w1 := w') (v := v230) (by rfl) rfl ?_ ?_
            · go_simp
              (try simp only [i64_w])
              try rfl
            refine hK.out _ _ ⟨v230, v238, adz_v238, m9_, (v230), (by rw [ha.out]; exact putSel_upk 7 hb_ rfl rfl rfl), fun h0_ => absurd ((hon 1 (by kernel_rfl)).symm.trans h0_) (by decide), Q_HB, Q_HO231, fun _ h1_ => absurd ((hon 4 (by kernel_rfl)).symm.trans h1_) (by decide), fun _ h1_ => absurd ((hon 8 (by kernel_rfl)).symm.trans h1_) (by decide), Q_HO239, Q_HA_HO239, Q_HI201_e8, Q_X9_, fun _ => rfl⟩
          refine steps_cons ?_ ?_
          · rintro b a w' ⟨v230, v238, adz_v238, m9_, m11_, ha, Q_HI201, Q_HB, Q_HO231, Q_HI201_e1, Q_HI201_e4, Q_HO239, Q_HA_HO239, Q_HI201_e8, Q_X9_, Q_X11_⟩ hb_ hon hoff
            refine ⟨_, rfl, fun K hK => ?_⟩
            have e20 : a.tmps[20]? = some (.string t202) := by rw [ha]; exact (putSel_off rfl).trans rfl
            replace ha := Aside0.mk ha
            have HB := Aside0.mk Q_HB
            have HO231 := Aside0.mk (Q_HO231 (hon 1 (by kernel_rfl)))
            have HI201 := Aside0.mk (Q_HI201_e8 (hon 8 (by kernel_rfl)))
            refine value_ (w1 := w') (v := .string t202) (by rfl) rfl ?_ ?_
            · go_simp
              (try simp only [i64_w])
              try rfl
            refine hK.out _ _ ⟨v230, v238, adz_v238, m9_, m11_, (by rw [ha.out]; exact putSel_upk 8 hb_ rfl rfl rfl), fun h0_ => absurd ((hon 1 (by kernel_rfl)).symm.trans h0_) (by decide), Q_HB, Q_HO231, fun _ h1_ => absurd ((hon 4 (by kernel_rfl)).symm.trans h1_) (by decide), fun _ h1_ => absurd ((hon 8 (by kernel_rfl)).symm.trans h1_) (by decide), Q_HO239, Q_HA_HO239, Q_HI201_e8, Q_X9_, Q_X11_⟩
          refine steps_cons ?_ ?_
          · rintro b a w' ⟨v230, v238, adz_v238, m9_, m11_, ha, Q_HI201, Q_HB, Q_HO231, Q_HI201_e1, Q_HI201_e4, Q_HO239, Q_HA_HO239, Q_HI201_e8, Q_X9_, Q_X11_⟩ hb_ hon hoff
            refine ⟨_, rfl, fun K hK => ?_⟩
            have e28 : a.tmps[28]? = some (.int .i64 (rd y237 t240)) := by rw [ha]; exact putSel_on (e := (10, 28, .int .i64 (rd y237 t240))) 6 rfl rfl (hon 10 (by kernel_rfl)) rfl
            replace ha := Aside0.mk ha
            have HB := Aside0.mk Q_HB
            have HO231 := Aside0.mk (Q_HO231 (hon 1 (by kernel_rfl)))
            have HO239 := Aside0.mk (Q_HO239 (hon 6 (by kernel_rfl)))
            have HA_HO239 := Aside0.mk (Q_HA_HO239 (hon 6 (by kernel_rfl)))
            have HI201 := Aside0.mk (Q_HI201_e8 (hon 8 (by kernel_rfl)))
            refine value_ (w1 := w') (v := .int .i64 (rd y237 t240)) (by rfl) rfl ?_ ?_
            · go_simp
              (try simp only [i64_w])
              try rfl
            refine hK.out _ _ ⟨v230, v238, adz_v238, m9_, m11_, (by rw [ha.out]; exact putSel_upk 9 hb_ rfl rfl rfl), fun h0_ => absurd ((hon 1 (by kernel_rfl)).symm.trans h0_) (by decide), Q_HB, Q_HO231, fun _ h1_ => absurd ((hon 4 (by kernel_rfl)).symm.trans h1_) (by decide), fun _ h1_ => absurd ((hon 8 (by kernel_rfl)).symm.trans h1_) (by decide), Q_HO239, Q_HA_HO239, Q_HI201_e8, Q_X9_, Q_X11_⟩
          exact steps_nil
        rintro b a w46 hall ⟨v230, v238, adz_v238, m9_, m11_, ha, Q_HI201, Q_HB, Q_HO231, Q_HI201_e1, Q_HI201_e4, Q_HO239, Q_HA_HO239, Q_HI201_e8, Q_X9_, Q_X11_⟩
        clear HB HI201
        have hb1_ := hall 1 (by kernel_rfl)
        have hb4_ := hall 4 (by kernel_rfl)
        have hb5_ := hall 5 (by kernel_rfl)
        have hb6_ := hall 6 (by kernel_rfl)
        have hb8_ := hall 8 (by kernel_rfl)
        have hb9_ := hall 9 (by kernel_rfl)
        have hb10_ := hall 10 (by kernel_rfl)
        have hb11_ := hall 11 (by kernel_rfl)
        have hb12_ := hall 12 (by kernel_rfl)
        have hb13_ := hall 13 (by kernel_rfl)
        subst ha
        obtain rfl := Q_X9_ hb9_
        obtain rfl := Q_X11_ hb11_
        simp only [putSel, hb1_, hb4_, hb5_, hb6_, hb8_, hb9_, hb10_, hb11_, hb12_, hb13_, if_true, Act.put, List.setIfInBounds_toArray, List.set_cons_zero, List.set_cons_succ]
        clear Q_HI201
        have HB := Aside0.mk Q_HB
        clear Q_HB
        have HO231 := Aside0.mk (Q_HO231 hb1_)
        clear Q_HO231
        clear Q_HI201_e1
        clear Q_HI201_e4
        have HO239 := Aside0.mk (Q_HO239 hb6_)
        clear Q_HO239
        have HA_HO239 := Aside0.mk (Q_HA_HO239 hb6_)
        clear Q_HA_HO239
        have HI201 := Aside0.mk (Q_HI201_e8 hb8_)
        clear Q_HI201_e8
        clear hall hb1_ hb4_ hb5_ hb6_ hb8_ hb9_ hb10_ hb11_ hb12_ hb13_
        obtain ⟨co47, eo47⟩ := HA_HO239.out
        clear HA_HO239
        subst eo47
        try go_wp2
        go_ret3
        exact ⟨_, by first | rfl | (simp [errW_none, errW_some] <;> rfl) | (simp [*, errW_none, errW_some] <;> rfl), by (with_reducible repeat (first | apply Kd.R_alloc | apply Kd.R_drewN | apply Kd.R_drew)); exact HO231.out, by repeat (first | (with_reducible first | exact HB.out | apply below_alloc | apply pw_below_drewN | apply below_drew1 | refine below_set ?_ (IsS112.ge HI201.out)) | exact HB.out)⟩
      · rw [if_neg c35] at H
        exact absurd H (by simp)
    · rw [if_neg c34] at H
      exact absurd H (by simp)

end Go.Proofs.Ytmkeepildbkmeaa.PFnMoves
