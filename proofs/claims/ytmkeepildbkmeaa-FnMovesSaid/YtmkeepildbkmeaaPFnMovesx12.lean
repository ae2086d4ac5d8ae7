-- Printed by wip/print2.py (a program of this session, over the kit's printer) out of the translation.
import Derived.Test.YtmkeepildbkmeaaPFnMovesx0
import Derived.Test.YtmkeepildbkmeaaPFnMovesx4
import Derived.Test.YtmkeepildbkmeaaPFnMovesx7
import Derived.Test.YtmkeepildbkmeaaPFnMovesx8
import Derived.Test.YtmkeepildbkmeaaPFnMovesx10
import Derived.Test.YtmkeepildbkmeaaPFnMovesx11
namespace Go.Proofs.Ytmkeepildbkmeaa.PFnMoves
open Go.RowKit Go.Proofs.YtmkeepildbkmeaaW.PrintWords Go.Proofs.YtmkeepildbkmeaaW.PrintLast Go.Proofs.YtmkeepildbkmeaaW.PrintMore
attribute [local go_sem] max2_int min2_int max_two min_two max_three min_three max_four min_four   -- for this text's walks alone
set_option linter.unusedVariables false
set_option linter.unusedSimpArgs false

/-! ### laws_FnMoves: function 6 -/
mutual
def laws_FnMoves.j0 : Nat → List Int → List Int → Bool → Option (Bool)
  | 0, _, _, _ => none
  | k + 1, x0, x1, x21 => if x21 = true then (some true) else ((spec_DrawPlaceKey.f k x0).bind fun bt347 => ((spec_NodesFault.f k bt347.1).bind fun t352 => (if t352 = 0 then (laws_FnMoves.j1 k x1 bt347.1 bt347.2.1 bt347.2.2 ((bt347.1.length : Int) == 200)) else (laws_FnMoves.j1 k x1 bt347.1 bt347.2.1 bt347.2.2 true))))
def laws_FnMoves.j1 : Nat → List Int → List (S32) → ByteArray → Int → Bool → Option (Bool)
  | 0, _, _, _, _, _ => none
  | k + 1, x1, x5, x6, x7, x35 => if x35 = true then (some true) else ((some (([] : List (S32)) : List (S32))).bind fun y353 => (if y353.length + x5.length < 8796093022208 then ((some (y353 ++ x5 : List (S32))).bind fun y356 => ((laws_lwAt.f x1 0).bind fun t359 => (if (x5.length : Int) = 0 then (none) else ((laws_lwAt.f x1 1).bind fun t360 => (if (Int.tmod t360 3) = 0 then ((laws_lwAt.f x1 2).bind fun t361 => ((laws_lwAt.f x1 3).bind fun t362 => (if y356.length < 8796093022208 then (laws_FnMoves.j2 k x5 x6 x7 (y356 ++ [(⟨Int.tmod t361 8, Int.tmod t362 9⟩ : S32)]) (x5.length : Int)) else (none)))) else (if 0 ≤ (Int.tmod t359 (x5.length : Int)) then (if (Int.tmod t359 (x5.length : Int)) < (y356.length : Int) then (if ((rd_T32 y356 (Int.tmod t359 (x5.length : Int))).f1) < 64 then ((laws_lwAt.f x1 4).bind fun t368 => (if (wrap64 (64 - ((rd_T32 y356 (Int.tmod t359 (x5.length : Int))).f1))) = 0 then (none) else (laws_FnMoves.j2 k x5 x6 x7 (y356.set ((Int.tmod t359 (x5.length : Int)) : Int).toNat (⟨(rd_T32 y356 (Int.tmod t359 (x5.length : Int))).f0, wrap64 ((wrap64 (((rd_T32 y356 (Int.tmod t359 (x5.length : Int))).f1) + 1)) + (Int.tmod t368 (wrap64 (64 - ((rd_T32 y356 (Int.tmod t359 (x5.length : Int))).f1)))))⟩ : S32)) (Int.tmod t359 (x5.length : Int))))) else (laws_FnMoves.j2 k x5 x6 x7 y356 (Int.tmod t359 (x5.length : Int)))) else (none)) else (none))))))) else (none)))
def laws_FnMoves.j2 : Nat → List (S32) → ByteArray → Int → List (S32) → Int → Option (Bool)
  | 0, _, _, _, _, _ => none
  | k + 1, x5, x6, x7, x8, x9 => (impl_PlaceKey.f k x5 x6 x7).bind fun bt371 => ((impl_PlaceKey.f k x8 x6 x7).bind fun bt376 => ((spec_PlaceKey.f k x5 x6 x7).bind fun bt381 => (if bt371.1 = bt381.1 then ((spec_PlaceKey.f k x8 x6 x7).bind fun bt385 => (laws_FnMoves.j3 k x5 x6 x7 x8 x9 (bt376.1 != bt385.1) bt371.1 bt371.2 bt376.1 bt376.2)) else (laws_FnMoves.j3 k x5 x6 x7 x8 x9 true bt371.1 bt371.2 bt376.1 bt376.2))))
def laws_FnMoves.j3 : Nat → List (S32) → ByteArray → Int → List (S32) → Int → Bool → Int → List Int → Int → List Int → Option (Bool)
  | 0, _, _, _, _, _, _, _, _, _, _ => none
  | k + 1, x5, x6, x7, x8, x9, x111, x376000, x376001, x381000, x381001 => if x111 = true then (some false) else (if x376000 = 0 then (laws_FnMoves.j4 k x5 x6 x7 x8 x9 (x381000 != 0) x376000 x376001 x381000 x381001) else (laws_FnMoves.j4 k x5 x6 x7 x8 x9 true x376000 x376001 x381000 x381001))
def laws_FnMoves.j4 : Nat → List (S32) → ByteArray → Int → List (S32) → Int → Bool → Int → List Int → Int → List Int → Option (Bool)
  | 0, _, _, _, _, _, _, _, _, _, _ => none
  | k + 1, x5, x6, x7, x8, x9, x119, x376000, x376001, x381000, x381001 => if x119 = true then (some (x376000 != 0)) else (if (x376001.length : Int) = x7 then (laws_FnMoves.j5 k x5 x6 x7 x8 x9 ((x381001.length : Int) != x7) x376000 x376001 x381000 x381001) else (laws_FnMoves.j5 k x5 x6 x7 x8 x9 true x376000 x376001 x381000 x381001))
def laws_FnMoves.j5 : Nat → List (S32) → ByteArray → Int → List (S32) → Int → Bool → Int → List Int → Int → List Int → Option (Bool)
  | 0, _, _, _, _, _, _, _, _, _, _ => none
  | k + 1, x5, x6, x7, x8, x9, x134, x376000, x376001, x381000, x381001 => if x134 = true then (some false) else (laws_FnMoves.l0 k x5 x6 x7 x8 x9 0 0 x376000 x376001 x381000 x381001)
def laws_FnMoves.l0 : Nat → List (S32) → ByteArray → Int → List (S32) → Int → Int → Int → Int → List Int → Int → List Int → Option (Bool)
  | 0, _, _, _, _, _, _, _, _, _, _, _ => none
  | k + 1, x5, x6, x7, x8, x9, x12, x13, x376000, x376001, x381000, x381001 => if x13 < (x381001.length : Int) then (if 0 ≤ x13 then ((laws_lwHas.f k x376001 (rd x381001 x13)).bind fun t394 => (if t394 = true then (laws_FnMoves.l0 k x5 x6 x7 x8 x9 x12 (wrap64 (x13 + 1)) x376000 x376001 x381000 x381001) else (if (rd x381001 x13) = x9 then (laws_FnMoves.l0 k x5 x6 x7 x8 x9 (wrap64 (x12 + 1)) (wrap64 (x13 + 1)) x376000 x376001 x381000 x381001) else (some false)))) else (none)) else ((impl_MoveCount.f k x5 x8 (([x6, x6] : List ByteArray)) x7).bind fun t392 => (some (t392 == (wrap64 (2 * x12)))))
end
def laws_FnMoves.f (k : Nat) (l0 : List Int) (l1 : List Int) : Option (Bool) := if (l0.length : Int) > 1048576 then (laws_FnMoves.j0 k l0 l1 true) else (laws_FnMoves.j0 k l0 l1 (decide ((l1.length : Int) > 1048576)))
theorem laws_FnMoves.mono_l : ∀ k, (∀ y0 y1 y2, LeO (laws_FnMoves.j0 k y0 y1 y2) (laws_FnMoves.j0 (k + 1) y0 y1 y2)) ∧ (∀ y0 y1 y2 y3 y4, LeO (laws_FnMoves.j1 k y0 y1 y2 y3 y4) (laws_FnMoves.j1 (k + 1) y0 y1 y2 y3 y4)) ∧ (∀ y0 y1 y2 y3 y4, LeO (laws_FnMoves.j2 k y0 y1 y2 y3 y4) (laws_FnMoves.j2 (k + 1) y0 y1 y2 y3 y4)) ∧ (∀ y0 y1 y2 y3 y4 y5 y6 y7 y8 y9, LeO (laws_FnMoves.j3 k y0 y1 y2 y3 y4 y5 y6 y7 y8 y9) (laws_FnMoves.j3 (k + 1) y0 y1 y2 y3 y4 y5 y6 y7 y8 y9)) ∧ (∀ y0 y1 y2 y3 y4 y5 y6 y7 y8 y9, LeO (laws_FnMoves.j4 k y0 y1 y2 y3 y4 y5 y6 y7 y8 y9) (laws_FnMoves.j4 (k + 1) y0 y1 y2 y3 y4 y5 y6 y7 y8 y9)) ∧ (∀ y0 y1 y2 y3 y4 y5 y6 y7 y8 y9, LeO (laws_FnMoves.j5 k y0 y1 y2 y3 y4 y5 y6 y7 y8 y9) (laws_FnMoves.j5 (k + 1) y0 y1 y2 y3 y4 y5 y6 y7 y8 y9)) ∧ (∀ y0 y1 y2 y3 y4 y5 y6 y7 y8 y9 y10, LeO (laws_FnMoves.l0 k y0 y1 y2 y3 y4 y5 y6 y7 y8 y9 y10) (laws_FnMoves.l0 (k + 1) y0 y1 y2 y3 y4 y5 y6 y7 y8 y9 y10))
  | 0 => ⟨fun _ _ _ r h => by simp [laws_FnMoves.j0] at h, fun _ _ _ _ _ r h => by simp [laws_FnMoves.j1] at h, fun _ _ _ _ _ r h => by simp [laws_FnMoves.j2] at h, fun _ _ _ _ _ _ _ _ _ _ r h => by simp [laws_FnMoves.j3] at h, fun _ _ _ _ _ _ _ _ _ _ r h => by simp [laws_FnMoves.j4] at h, fun _ _ _ _ _ _ _ _ _ _ r h => by simp [laws_FnMoves.j5] at h, fun _ _ _ _ _ _ _ _ _ _ _ r h => by simp [laws_FnMoves.l0] at h⟩
  | k + 1 => by
    obtain ⟨ih0, ih1, ih2, ih3, ih4, ih5, ih6⟩ := laws_FnMoves.mono_l k
    refine ⟨?_, ?_, ?_, ?_, ?_, ?_, ?_⟩
    · intro y0 y1 y2
      unfold laws_FnMoves.j0
      repeat' first
      | (with_reducible exact ih0 _ _ _)
      | (with_reducible exact ih1 _ _ _ _ _)
      | (with_reducible exact ih2 _ _ _ _ _)
      | (with_reducible exact ih3 _ _ _ _ _ _ _ _ _ _)
      | (with_reducible exact ih4 _ _ _ _ _ _ _ _ _ _)
      | (with_reducible exact ih5 _ _ _ _ _ _ _ _ _ _)
      | (with_reducible exact ih6 _ _ _ _ _ _ _ _ _ _ _)
      | (with_reducible exact impl_MoveCount.mono _ _ _ _ _)
      | (with_reducible exact impl_PlaceKey.mono _ _ _ _)
      | (with_reducible exact laws_lwHas.mono _ _ _)
      | (with_reducible exact spec_DrawPlaceKey.mono _ _)
      | (with_reducible exact spec_NodesFault.mono _ _)
      | (with_reducible exact spec_PlaceKey.mono _ _ _ _)
      | (with_reducible exact LeO.refl _)
      | (with_reducible exact LeO.none _)
      | (with_reducible refine LeO.ite ?_ ?_)
      | (with_reducible refine LeO.bind ?_ (fun _ => ?_))
      | exact ih0 _ _ _
      | exact ih1 _ _ _ _ _
      | exact ih2 _ _ _ _ _
      | exact ih3 _ _ _ _ _ _ _ _ _ _
      | exact ih4 _ _ _ _ _ _ _ _ _ _
      | exact ih5 _ _ _ _ _ _ _ _ _ _
      | exact ih6 _ _ _ _ _ _ _ _ _ _ _
      | exact impl_MoveCount.mono _ _ _ _ _
      | exact impl_PlaceKey.mono _ _ _ _
      | exact laws_lwHas.mono _ _ _
      | exact spec_DrawPlaceKey.mono _ _
      | exact spec_NodesFault.mono _ _
      | exact spec_PlaceKey.mono _ _ _ _
      | exact LeO.none _
      | refine LeO.ite ?_ ?_
      | refine LeO.bind ?_ (fun _ => ?_)
    · intro y0 y1 y2 y3 y4
      unfold laws_FnMoves.j1
      repeat' first
      | (with_reducible exact ih0 _ _ _)
      | (with_reducible exact ih1 _ _ _ _ _)
      | (with_reducible exact ih2 _ _ _ _ _)
      | (with_reducible exact ih3 _ _ _ _ _ _ _ _ _ _)
      | (with_reducible exact ih4 _ _ _ _ _ _ _ _ _ _)
      | (with_reducible exact ih5 _ _ _ _ _ _ _ _ _ _)
      | (with_reducible exact ih6 _ _ _ _ _ _ _ _ _ _ _)
      | (with_reducible exact impl_MoveCount.mono _ _ _ _ _)
      | (with_reducible exact impl_PlaceKey.mono _ _ _ _)
      | (with_reducible exact laws_lwHas.mono _ _ _)
      | (with_reducible exact spec_DrawPlaceKey.mono _ _)
      | (with_reducible exact spec_NodesFault.mono _ _)
      | (with_reducible exact spec_PlaceKey.mono _ _ _ _)
      | (with_reducible exact LeO.refl _)
      | (with_reducible exact LeO.none _)
      | (with_reducible refine LeO.ite ?_ ?_)
      | (with_reducible refine LeO.bind ?_ (fun _ => ?_))
      | exact ih0 _ _ _
      | exact ih1 _ _ _ _ _
      | exact ih2 _ _ _ _ _
      | exact ih3 _ _ _ _ _ _ _ _ _ _
      | exact ih4 _ _ _ _ _ _ _ _ _ _
      | exact ih5 _ _ _ _ _ _ _ _ _ _
      | exact ih6 _ _ _ _ _ _ _ _ _ _ _
      | exact impl_MoveCount.mono _ _ _ _ _
      | exact impl_PlaceKey.mono _ _ _ _
      | exact laws_lwHas.mono _ _ _
      | exact spec_DrawPlaceKey.mono _ _
      | exact spec_NodesFault.mono _ _
      | exact spec_PlaceKey.mono _ _ _ _
      | exact LeO.none _
      | refine LeO.ite ?_ ?_
      | refine LeO.bind ?_ (fun _ => ?_)
    · intro y0 y1 y2 y3 y4
      unfold laws_FnMoves.j2
      repeat' first
      | (with_reducible exact ih0 _ _ _)
      | (with_reducible exact ih1 _ _ _ _ _)
      | (with_reducible exact ih2 _ _ _ _ _)
      | (with_reducible exact ih3 _ _ _ _ _ _ _ _ _ _)
      | (with_reducible exact ih4 _ _ _ _ _ _ _ _ _ _)
      | (with_reducible exact ih5 _ _ _ _ _ _ _ _ _ _)
      | (with_reducible exact ih6 _ _ _ _ _ _ _ _ _ _ _)
      | (with_reducible exact impl_MoveCount.mono _ _ _ _ _)
      | (with_reducible exact impl_PlaceKey.mono _ _ _ _)
      | (with_reducible exact laws_lwHas.mono _ _ _)
      | (with_reducible exact spec_DrawPlaceKey.mono _ _)
      | (with_reducible exact spec_NodesFault.mono _ _)
      | (with_reducible exact spec_PlaceKey.mono _ _ _ _)
      | (with_reducible exact LeO.refl _)
      | (with_reducible exact LeO.none _)
      | (with_reducible refine LeO.ite ?_ ?_)
      | (with_reducible refine LeO.bind ?_ (fun _ => ?_))
      | exact ih0 _ _ _
      | exact ih1 _ _ _ _ _
      | exact ih2 _ _ _ _ _
      | exact ih3 _ _ _ _ _ _ _ _ _ _
      | exact ih4 _ _ _ _ _ _ _ _ _ _
      | exact ih5 _ _ _ _ _ _ _ _ _ _
      | exact ih6 _ _ _ _ _ _ _ _ _ _ _
      | exact impl_MoveCount.mono _ _ _ _ _
      | exact impl_PlaceKey.mono _ _ _ _
      | exact laws_lwHas.mono _ _ _
      | exact spec_DrawPlaceKey.mono _ _
      | exact spec_NodesFault.mono _ _
      | exact spec_PlaceKey.mono _ _ _ _
      | exact LeO.none _
      | refine LeO.ite ?_ ?_
      | refine LeO.bind ?_ (fun _ => ?_)
    · intro y0 y1 y2 y3 y4 y5 y6 y7 y8 y9
      unfold laws_FnMoves.j3
      repeat' first
      | (with_reducible exact ih0 _ _ _)
      | (with_reducible exact ih1 _ _ _ _ _)
      | (with_reducible exact ih2 _ _ _ _ _)
      | (with_reducible exact ih3 _ _ _ _ _ _ _ _ _ _)
      | (with_reducible exact ih4 _ _ _ _ _ _ _ _ _ _)
      | (with_reducible exact ih5 _ _ _ _ _ _ _ _ _ _)
      | (with_reducible exact ih6 _ _ _ _ _ _ _ _ _ _ _)
      | (with_reducible exact impl_MoveCount.mono _ _ _ _ _)
      | (with_reducible exact impl_PlaceKey.mono _ _ _ _)
      | (with_reducible exact laws_lwHas.mono _ _ _)
      | (with_reducible exact spec_DrawPlaceKey.mono _ _)
      | (with_reducible exact spec_NodesFault.mono _ _)
      | (with_reducible exact spec_PlaceKey.mono _ _ _ _)
      | (with_reducible exact LeO.refl _)
      | (with_reducible exact LeO.none _)
      | (with_reducible refine LeO.ite ?_ ?_)
      | (with_reducible refine LeO.bind ?_ (fun _ => ?_))
      | exact ih0 _ _ _
      | exact ih1 _ _ _ _ _
      | exact ih2 _ _ _ _ _
      | exact ih3 _ _ _ _ _ _ _ _ _ _
      | exact ih4 _ _ _ _ _ _ _ _ _ _
      | exact ih5 _ _ _ _ _ _ _ _ _ _
      | exact ih6 _ _ _ _ _ _ _ _ _ _ _
      | exact impl_MoveCount.mono _ _ _ _ _
      | exact impl_PlaceKey.mono _ _ _ _
      | exact laws_lwHas.mono _ _ _
      | exact spec_DrawPlaceKey.mono _ _
      | exact spec_NodesFault.mono _ _
      | exact spec_PlaceKey.mono _ _ _ _
      | exact LeO.none _
      | refine LeO.ite ?_ ?_
      | refine LeO.bind ?_ (fun _ => ?_)
    · intro y0 y1 y2 y3 y4 y5 y6 y7 y8 y9
      unfold laws_FnMoves.j4
      repeat' first
      | (with_reducible exact ih0 _ _ _)
      | (with_reducible exact ih1 _ _ _ _ _)
      | (with_reducible exact ih2 _ _ _ _ _)
      | (with_reducible exact ih3 _ _ _ _ _ _ _ _ _ _)
      | (with_reducible exact ih4 _ _ _ _ _ _ _ _ _ _)
      | (with_reducible exact ih5 _ _ _ _ _ _ _ _ _ _)
      | (with_reducible exact ih6 _ _ _ _ _ _ _ _ _ _ _)
      | (with_reducible exact impl_MoveCount.mono _ _ _ _ _)
      | (with_reducible exact impl_PlaceKey.mono _ _ _ _)
      | (with_reducible exact laws_lwHas.mono _ _ _)
      | (with_reducible exact spec_DrawPlaceKey.mono _ _)
      | (with_reducible exact spec_NodesFault.mono _ _)
      | (with_reducible exact spec_PlaceKey.mono _ _ _ _)
      | (with_reducible exact LeO.refl _)
      | (with_reducible exact LeO.none _)
      | (with_reducible refine LeO.ite ?_ ?_)
      | (with_reducible refine LeO.bind ?_ (fun _ => ?_))
      | exact ih0 _ _ _
      | exact ih1 _ _ _ _ _
      | exact ih2 _ _ _ _ _
      | exact ih3 _ _ _ _ _ _ _ _ _ _
      | exact ih4 _ _ _ _ _ _ _ _ _ _
      | exact ih5 _ _ _ _ _ _ _ _ _ _
      | exact ih6 _ _ _ _ _ _ _ _ _ _ _
      | exact impl_MoveCount.mono _ _ _ _ _
      | exact impl_PlaceKey.mono _ _ _ _
      | exact laws_lwHas.mono _ _ _
      | exact spec_DrawPlaceKey.mono _ _
      | exact spec_NodesFault.mono _ _
      | exact spec_PlaceKey.mono _ _ _ _
      | exact LeO.none _
      | refine LeO.ite ?_ ?_
      | refine LeO.bind ?_ (fun _ => ?_)
    · intro y0 y1 y2 y3 y4 y5 y6 y7 y8 y9
      unfold laws_FnMoves.j5
      repeat' first
      | (with_reducible exact ih0 _ _ _)
      | (with_reducible exact ih1 _ _ _ _ _)
      | (with_reducible exact ih2 _ _ _ _ _)
      | (with_reducible exact ih3 _ _ _ _ _ _ _ _ _ _)
      | (with_reducible exact ih4 _ _ _ _ _ _ _ _ _ _)
      | (with_reducible exact ih5 _ _ _ _ _ _ _ _ _ _)
      | (with_reducible exact ih6 _ _ _ _ _ _ _ _ _ _ _)
      | (with_reducible exact impl_MoveCount.mono _ _ _ _ _)
      | (with_reducible exact impl_PlaceKey.mono _ _ _ _)
      | (with_reducible exact laws_lwHas.mono _ _ _)
      | (with_reducible exact spec_DrawPlaceKey.mono _ _)
      | (with_reducible exact spec_NodesFault.mono _ _)
      | (with_reducible exact spec_PlaceKey.mono _ _ _ _)
      | (with_reducible exact LeO.refl _)
      | (with_reducible exact LeO.none _)
      | (with_reducible refine LeO.ite ?_ ?_)
      | (with_reducible refine LeO.bind ?_ (fun _ => ?_))
      | exact ih0 _ _ _
      | exact ih1 _ _ _ _ _
      | exact ih2 _ _ _ _ _
      | exact ih3 _ _ _ _ _ _ _ _ _ _
      | exact ih4 _ _ _ _ _ _ _ _ _ _
      | exact ih5 _ _ _ _ _ _ _ _ _ _
      | exact ih6 _ _ _ _ _ _ _ _ _ _ _
      | exact impl_MoveCount.mono _ _ _ _ _
      | exact impl_PlaceKey.mono _ _ _ _
      | exact laws_lwHas.mono _ _ _
      | exact spec_DrawPlaceKey.mono _ _
      | exact spec_NodesFault.mono _ _
      | exact spec_PlaceKey.mono _ _ _ _
      | exact LeO.none _
      | refine LeO.ite ?_ ?_
      | refine LeO.bind ?_ (fun _ => ?_)
    · intro y0 y1 y2 y3 y4 y5 y6 y7 y8 y9 y10
      unfold laws_FnMoves.l0
      repeat' first
      | (with_reducible exact ih0 _ _ _)
      | (with_reducible exact ih1 _ _ _ _ _)
      | (with_reducible exact ih2 _ _ _ _ _)
      | (with_reducible exact ih3 _ _ _ _ _ _ _ _ _ _)
      | (with_reducible exact ih4 _ _ _ _ _ _ _ _ _ _)
      | (with_reducible exact ih5 _ _ _ _ _ _ _ _ _ _)
      | (with_reducible exact ih6 _ _ _ _ _ _ _ _ _ _ _)
      | (with_reducible exact impl_MoveCount.mono _ _ _ _ _)
      | (with_reducible exact impl_PlaceKey.mono _ _ _ _)
      | (with_reducible exact laws_lwHas.mono _ _ _)
      | (with_reducible exact spec_DrawPlaceKey.mono _ _)
      | (with_reducible exact spec_NodesFault.mono _ _)
      | (with_reducible exact spec_PlaceKey.mono _ _ _ _)
      | (with_reducible exact LeO.refl _)
      | (with_reducible exact LeO.none _)
      | (with_reducible refine LeO.ite ?_ ?_)
      | (with_reducible refine LeO.bind ?_ (fun _ => ?_))
      | exact ih0 _ _ _
      | exact ih1 _ _ _ _ _
      | exact ih2 _ _ _ _ _
      | exact ih3 _ _ _ _ _ _ _ _ _ _
      | exact ih4 _ _ _ _ _ _ _ _ _ _
      | exact ih5 _ _ _ _ _ _ _ _ _ _
      | exact ih6 _ _ _ _ _ _ _ _ _ _ _
      | exact impl_MoveCount.mono _ _ _ _ _
      | exact impl_PlaceKey.mono _ _ _ _
      | exact laws_lwHas.mono _ _ _
      | exact spec_DrawPlaceKey.mono _ _
      | exact spec_NodesFault.mono _ _
      | exact spec_PlaceKey.mono _ _ _ _
      | exact LeO.none _
      | refine LeO.ite ?_ ?_
      | refine LeO.bind ?_ (fun _ => ?_)
theorem laws_FnMoves.mono : ∀ a0 a1 k, LeO (laws_FnMoves.f k a0 a1) (laws_FnMoves.f (k + 1) a0 a1) := by
  intro a0 a1 k
  obtain ⟨ih0, ih1, ih2, ih3, ih4, ih5, ih6⟩ := laws_FnMoves.mono_l k
  unfold laws_FnMoves.f
  repeat' first
      | (with_reducible exact ih0 _ _ _)
      | (with_reducible exact ih1 _ _ _ _ _)
      | (with_reducible exact ih2 _ _ _ _ _)
      | (with_reducible exact ih3 _ _ _ _ _ _ _ _ _ _)
      | (with_reducible exact ih4 _ _ _ _ _ _ _ _ _ _)
      | (with_reducible exact ih5 _ _ _ _ _ _ _ _ _ _)
      | (with_reducible exact ih6 _ _ _ _ _ _ _ _ _ _ _)
      | (with_reducible exact impl_MoveCount.mono _ _ _ _ _)
      | (with_reducible exact impl_PlaceKey.mono _ _ _ _)
      | (with_reducible exact laws_lwHas.mono _ _ _)
      | (with_reducible exact spec_DrawPlaceKey.mono _ _)
      | (with_reducible exact spec_NodesFault.mono _ _)
      | (with_reducible exact spec_PlaceKey.mono _ _ _ _)
      | (with_reducible exact LeO.refl _)
      | (with_reducible exact LeO.none _)
      | (with_reducible refine LeO.ite ?_ ?_)
      | (with_reducible refine LeO.bind ?_ (fun _ => ?_))
      | exact ih0 _ _ _
      | exact ih1 _ _ _ _ _
      | exact ih2 _ _ _ _ _
      | exact ih3 _ _ _ _ _ _ _ _ _ _
      | exact ih4 _ _ _ _ _ _ _ _ _ _
      | exact ih5 _ _ _ _ _ _ _ _ _ _
      | exact ih6 _ _ _ _ _ _ _ _ _ _ _
      | exact impl_MoveCount.mono _ _ _ _ _
      | exact impl_PlaceKey.mono _ _ _ _
      | exact laws_lwHas.mono _ _ _
      | exact spec_DrawPlaceKey.mono _ _
      | exact spec_NodesFault.mono _ _
      | exact spec_PlaceKey.mono _ _ _ _
      | exact LeO.none _
      | refine LeO.ite ?_ ?_
      | refine LeO.bind ?_ (fun _ => ?_)
def laws_FnMoves.T12 : Bool × List (List Nat × List Nat) := (true, [([], []), ([], []), ([], []), ([], []), ([2, 3], [2, 3]), ([4], [4]), ([5], [5]), ([6], [6]), ([], []), ([8], [8]), ([], []), ([], []), ([10, 11], [10, 11]), ([12], [12]), ([13], [13]), ([14], [14]), ([9, 15], [9, 15]), ([7, 16], [7, 16]), ([0, 1, 0, 1, 2, 3, 4, 5, 6, 7, 8, 9, 10, 11, 12, 13, 14, 15, 16, 17], [0, 1]), ([18, 0, 1, 2, 3, 4, 5, 6, 7, 8, 9, 10, 11, 12, 13, 14, 15, 16, 17], [18]), ([19, 17, 9, 0, 1, 2, 3, 4, 5, 6, 7, 8, 9, 10, 11, 12, 13, 14, 15, 16, 17], [17, 19])])
def laws_FnMoves.B12 : List Nat := [0, 0, 0, 0, 12, 28, 60, 124, 0, 256, 0, 0, 3072, 7168, 15360, 31744, 65280, 131068, 262143, 524287, 1048575]
theorem laws_FnMoves.tab12 : rtab .any (opsOf Try.f6 12) = laws_FnMoves.T12 := by kernel_rfl
theorem laws_FnMoves.bits12 : waitsOk laws_FnMoves.T12.2 laws_FnMoves.B12 = true := by kernel_rfl
def laws_FnMoves.T15 : Bool × List (List Nat × List Nat) := (true, [([], []), ([0], [0]), ([], []), ([], []), ([], []), ([2, 3, 4], [2, 3, 4]), ([5], [5]), ([1, 6], [1, 6]), ([7, 5], [7]), ([8], [8]), ([9, 8], [8, 9]), ([8], [8]), ([8], [8]), ([8], [8]), ([11, 12, 13, 8, 8], [8, 11, 12, 13]), ([14, 8], [8, 14]), ([10, 15, 8], [8, 10, 15]), ([8, 16], [8, 16])])
def laws_FnMoves.B15 : List Nat := [0, 1, 0, 0, 0, 28, 60, 127, 255, 511, 1023, 511, 511, 511, 14847, 31231, 65535, 131071]
theorem laws_FnMoves.tab15 : rtab .any (opsOf Try.f6 15) = laws_FnMoves.T15 := by kernel_rfl
theorem laws_FnMoves.bits15 : waitsOk laws_FnMoves.T15.2 laws_FnMoves.B15 = true := by kernel_rfl
def laws_FnMoves.T25 : Bool × List (List Nat × List Nat) := (true, [([], []), ([0], [0]), ([], []), ([2], [2]), ([], []), ([3, 4], [3, 4]), ([5], [5]), ([1, 6], [1, 6]), ([7], [7])])
def laws_FnMoves.B25 : List Nat := [0, 1, 0, 4, 0, 28, 60, 127, 255]
theorem laws_FnMoves.tab25 : rtab .any (opsOf Try.f6 25) = laws_FnMoves.T25 := by kernel_rfl
theorem laws_FnMoves.bits25 : waitsOk laws_FnMoves.T25.2 laws_FnMoves.B25 = true := by kernel_rfl
set_option maxHeartbeats 8000000 in
set_option maxRecDepth 100000 in
theorem laws_FnMoves.calls (k : Nat) (A0 : Option Addr) (c0 : Nat) (l0 : List Int) (A1 : Option Addr) (c1 : Nat) (l1 : List Int) (_r : Bool) (w : World) (hr0 : Kd.C (Kd.int .u8) w A0 l0.length l0) (hc0 : l0.length ≤ c0) (hr1 : Kd.C (Kd.int .u8) w A1 l1.length l1) (hc1 : l1.length ≤ c1) (h : laws_FnMoves.f k l0 l1 = some true) :
    Calls Try.prog 6 #[.slice A0 l0.length c0, .slice A1 l1.length c1] w fun e w' => e = .returned (.bool true) ∧ Below w.heap.size w w' := by
  have hu32 := Try.underlying32
  have hu28 := Try.underlying28
  have hfd0 : ∀ (a : Int) (v : Value) (w : World), (Instr.field 28 (.agg #[.int .i64 a, v]) 0).run Try.prog w = .ok (.int .i64 a) w := fun _ _ _ => by kernel_rfl
  have HR0 := Aside0.mk hr0
  have HC0 := Aside0.mk hc0
  clear hr0 hc0
  have HR1 := Aside0.mk hr1
  have HC1 := Aside0.mk hc1
  clear hr1 hc1
  have HB := Aside0.mk (Below.refl w.heap.size w)
  have H : (if (l0.length : Int) > 1048576 then (laws_FnMoves.j0 k l0 l1 true) else (laws_FnMoves.j0 k l0 l1 (decide ((l1.length : Int) > 1048576)))) = some true := h
  clear h
  have HC3 := Aside0.mk H
  clear H
  go_enter Try.func6, Try.ntmps6
  go_upto_region 1 with (fail)
  go_cut [21] (fun v21 wc => ∃ (kq : Nat) (x21_2 : Bool), v21 = .bool x21_2 ∧ Aside0 (laws_FnMoves.j0 kq l0 l1 x21_2 = some true) ∧ Aside0 (kq ≤ k) ∧ Aside0 (Below w.heap.size w wc))
  case first =>
    have H := HC3.out
    clear HC3
    by_cases c4 : (l0.length : Int) > 1048576
    · rw [if_pos c4] at H
      have c4b0 : decide (1048576 < (l0.length : Int)) = true := decide_eq_true c4
      have c4b1 : decide (1048576 < l0.length) = true := decide_eq_true (by omega)
      clear c4
      (first | rw [c4b0] | (simp only [i64_w, i32_w]; rw [c4b0]) | skip)
      have H' := Aside0.mk H
      clear H
      go_wp2
      go_meet
      case rel => exact ⟨_, (true), (by first | rfl | (simp; done) | (simp [*]; done)), H', ⟨by first | omega | exact Nat.le_refl _⟩, ⟨by repeat (first | (with_reducible first | exact HB.out | apply below_alloc | apply pw_below_drewN | apply below_drew1) | exact HB.out)⟩⟩
    · rw [if_neg c4] at H
      have c4b0 : decide (1048576 < (l0.length : Int)) = false := decide_eq_false c4
      have c4b1 : decide (1048576 < l0.length) = false := decide_eq_false (by omega)
      clear c4
      (first | rw [c4b0] | (simp only [i64_w, i32_w]; rw [c4b0]) | skip)
      have H' := Aside0.mk H
      clear H
      go_wp2
      go_meet
      case rel => exact ⟨_, (decide ((l1.length : Int) > 1048576)), (by first | rfl | (simp; done) | (simp [*]; done)), H', ⟨by first | omega | exact Nat.le_refl _⟩, ⟨by repeat (first | (with_reducible first | exact HB.out | apply below_alloc | apply pw_below_drewN | apply below_drew1) | exact HB.out)⟩⟩
  case rest =>
    clear HC3
    try clear c1
    try clear p2
    try clear c4
    try clear c4b0
    try clear c4b1
    obtain ⟨kq, x21_2, rfl, HA, HJ2, HB⟩ := hcut
    cases kq with
    | zero => exact absurd HA.out (by simp [laws_FnMoves.j0])
    | succ kj2 =>
      have H := HA.out
      clear HA
      simp only [laws_FnMoves.j0] at H
      by_cases c5 : x21_2 = true
      · subst c5
        have H1 : (some true) = some true := rfl
        clear H
        have H := H1
        clear H1
        clear H
        go_wp2
        go_ret
        exact ⟨by first | rfl | (simp [errW_none, errW_some] <;> rfl) | (simp [*, errW_none, errW_some] <;> rfl), by repeat (first | (with_reducible first | exact HB.out | apply below_alloc | apply pw_below_drewN | apply below_drew1) | exact HB.out)⟩
      · replace c5 := Bool.eq_false_iff.mpr c5
        subst c5
        have H1 : ((spec_DrawPlaceKey.f kj2 l0).bind fun bt347 => ((spec_NodesFault.f kj2 bt347.1).bind fun t352 => (if t352 = 0 then (laws_FnMoves.j1 kj2 l1 bt347.1 bt347.2.1 bt347.2.2 ((bt347.1.length : Int) == 200)) else (laws_FnMoves.j1 kj2 l1 bt347.1 bt347.2.1 bt347.2.2 true)))) = some true := by rw [if_neg (show ¬ (false = true) by decide)] at H; exact H
        clear H
        have H := H1
        clear H1
        replace H := Option.bind_eq_some_iff.mp H
        obtain ⟨⟨t347, t348, t349⟩, A60, H⟩ := H
        replace H : ((spec_NodesFault.f kj2 t347).bind fun t352 => (if t352 = 0 then (laws_FnMoves.j1 kj2 l1 t347 t348 t349 ((t347.length : Int) == 200)) else (laws_FnMoves.j1 kj2 l1 t347 t348 t349 true))) = some true := H
        have A6 := Aside0.mk A60
        clear A60
        have HC7 := Aside0.mk H
        clear H
        go_upto_region 4 with (first | ((with_reducible refine gate_callee (f := 11) rfl ?_); refine goesL_ (some 24) rfl rfl Try.func11 (by kernel_rfl) rfl #[.slice A0 l0.length c0] rfl (by (try simp only [List.map_toArray, List.map_cons, List.map_nil]); first | done | rfl | (simp only [List.length_drop, List.length_take]; rfl)) ?_; (with_reducible refine (spec_DrawPlaceKey.calls kj2 _ _ l0 t347 t348 t349 _ ?side1 ?side2 A6.out).mono ?_); (case side1 => repeat (first | exact (Kd.C_below HR0.out HB.out) | (with_reducible refine Kd.C_alloc ?_ _) | (with_reducible refine Kd.C_drewN ?_ _) | (with_reducible refine Kd.C_drew ?_))); (case side2 => exact HC0.out); rintro e w8 ⟨v350, rfl, ho0, hb⟩; refine ⟨_, rfl, ?_⟩; have n0_ := Aside0.mk (Kd.R_lower ho0 (below_size (by repeat (first | (with_reducible first | exact HB.out | apply below_alloc | apply pw_below_drewN | apply below_drew1) | exact HB.out)))); have n1_ := Aside0.mk (below_step (by repeat (first | (with_reducible first | exact HB.out | apply below_alloc | apply pw_below_drewN | apply below_drew1) | exact HB.out)) hb); clear HB; have HO351 := n0_; have HB := n1_; clear n0_ n1_; (try clear hb); (try clear hb2); (try clear hk); (try clear hi); (try clear ho0)))
        (try simp only [Act.put, List.setIfInBounds_toArray, List.set_cons_zero, List.set_cons_succ])
        go_cut [35] (fun v35 wc => ∃ (kq : Nat) (x35_6 : Bool), v35 = .bool x35_6 ∧ Aside0 (laws_FnMoves.j1 kq l1 t347 t348 t349 x35_6 = some true) ∧ Aside0 (kq ≤ kj2) ∧ Aside0 (Kd.R k32 32 wc w.heap.size (fun _ => True) v350 t347) ∧ Aside0 (Below w.heap.size w wc))
        case first =>
          have H := HC7.out
          clear HC7
          replace H := Option.bind_eq_some_iff.mp H
          obtain ⟨t352, A90, H⟩ := H
          replace H : (if t352 = 0 then (laws_FnMoves.j1 kj2 l1 t347 t348 t349 ((t347.length : Int) == 200)) else (laws_FnMoves.j1 kj2 l1 t347 t348 t349 true)) = some true := H
          have A9 := Aside0.mk A90
          clear A90
          by_cases c10 : t352 = 0
          · rw [if_pos c10] at H
            have c10b0 : (t352 == 0) = true := beq_iff_eq.mpr c10
            have c10b1 : (t352 != 0) = false := bne_eq_false_iff_eq.mpr c10
            clear c10
            (first | rw [c10b0] | (simp only [i64_w, i32_w]; rw [c10b0]) | skip)
            have H' := Aside0.mk H
            clear H
            obtain ⟨Ao11, co11, eo11⟩ := Kd.R_slice HO351.out
            subst eo11
            go_wp2_with (first | ((with_reducible refine gate_callee (f := 28) rfl ?_); refine goesL_ (some 29) rfl rfl Try.func28 (by kernel_rfl) rfl #[.slice Ao11 t347.length co11] rfl (by (try simp only [List.map_toArray, List.map_cons, List.map_nil]); first | done | rfl | (simp only [List.length_drop, List.length_take]; rfl)) ?_; (with_reducible refine (spec_NodesFault.calls kj2 _ _ t347 t352 _ ?side1 ?side2 A9.out).mono ?_); (case side1 => repeat (first | exact (Kd.R_reads' HO351.out).2.2 | (with_reducible refine Kd.C_alloc ?_ _) | (with_reducible refine Kd.C_drewN ?_ _) | (with_reducible refine Kd.C_drew ?_))); (case side2 => exact (Kd.R_reads' HO351.out).2.1); rintro e w' ⟨rfl, ⟨nd, rfl⟩⟩; refine ⟨_, rfl, ?_⟩))
            go_meet
            case rel => exact ⟨_, (((t347.length : Int) == 200)), (by first | rfl | (simp; done) | (simp [*]; done)), H', ⟨by have := HJ2.out; first | omega | exact Nat.le_refl _⟩, ⟨by (with_reducible repeat (first | apply Kd.R_alloc | apply Kd.R_drewN | apply Kd.R_drew)); exact HO351.out⟩, ⟨by repeat (first | (with_reducible first | exact HB.out | apply below_alloc | apply pw_below_drewN | apply below_drew1) | exact HB.out)⟩⟩
          · rw [if_neg c10] at H
            have c10b0 : (t352 == 0) = false := beq_eq_false_iff_ne.mpr c10
            have c10b1 : (t352 != 0) = true := bne_iff_ne.mpr c10
            (first | rw [c10b0] | (simp only [i64_w, i32_w]; rw [c10b0]) | skip)
            have H' := Aside0.mk H
            clear H
            obtain ⟨Ao12, co12, eo12⟩ := Kd.R_slice HO351.out
            subst eo12
            go_wp2_with (first | ((with_reducible refine gate_callee (f := 28) rfl ?_); refine goesL_ (some 29) rfl rfl Try.func28 (by kernel_rfl) rfl #[.slice Ao12 t347.length co12] rfl (by (try simp only [List.map_toArray, List.map_cons, List.map_nil]); first | done | rfl | (simp only [List.length_drop, List.length_take]; rfl)) ?_; (with_reducible refine (spec_NodesFault.calls kj2 _ _ t347 t352 _ ?side1 ?side2 A9.out).mono ?_); (case side1 => repeat (first | exact (Kd.R_reads' HO351.out).2.2 | (with_reducible refine Kd.C_alloc ?_ _) | (with_reducible refine Kd.C_drewN ?_ _) | (with_reducible refine Kd.C_drew ?_))); (case side2 => exact (Kd.R_reads' HO351.out).2.1); rintro e w' ⟨rfl, ⟨nd, rfl⟩⟩; refine ⟨_, rfl, ?_⟩))
            go_meet
            case rel => exact ⟨_, (true), (by first | rfl | (simp; done) | (simp [*]; done)), H', ⟨by have := HJ2.out; first | omega | exact Nat.le_refl _⟩, ⟨by (with_reducible repeat (first | apply Kd.R_alloc | apply Kd.R_drewN | apply Kd.R_drew)); exact HO351.out⟩, ⟨by repeat (first | (with_reducible first | exact HB.out | apply below_alloc | apply pw_below_drewN | apply below_drew1) | exact HB.out)⟩⟩
        case rest =>
          clear HC7
          try clear c1
          try clear c2
          try clear p2
          try clear c4
          try clear c4b0
          try clear c4b1
          try clear c5
          try clear c6
          try clear c10
          try clear c10b0
          try clear c10b1
          try clear c11
          try clear p2
          obtain ⟨kq, x35_6, rfl, HA, HJ6, HO_5, HB⟩ := hcut
          cases kq with
          | zero => exact absurd HA.out (by simp [laws_FnMoves.j1])
          | succ kj6 =>
            have H := HA.out
            clear HA
            simp only [laws_FnMoves.j1] at H
            by_cases c13 : x35_6 = true
            · subst c13
              have H1 : (some true) = some true := rfl
              clear H
              have H := H1
              clear H1
              clear H
              go_wp2
              go_ret
              exact ⟨by first | rfl | (simp [errW_none, errW_some] <;> rfl) | (simp [*, errW_none, errW_some] <;> rfl), by repeat (first | (with_reducible first | exact HB.out | apply below_alloc | apply pw_below_drewN | apply below_drew1) | exact HB.out)⟩
            · replace c13 := Bool.eq_false_iff.mpr c13
              subst c13
              have H1 : ((some (([] : List (S32)) : List (S32))).bind fun y353 => (if y353.length + t347.length < 8796093022208 then ((some (y353 ++ t347 : List (S32))).bind fun y356 => ((laws_lwAt.f l1 0).bind fun t359 => (if (t347.length : Int) = 0 then (none) else ((laws_lwAt.f l1 1).bind fun t360 => (if (Int.tmod t360 3) = 0 then ((laws_lwAt.f l1 2).bind fun t361 => ((laws_lwAt.f l1 3).bind fun t362 => (if y356.length < 8796093022208 then (laws_FnMoves.j2 kj6 t347 t348 t349 (y356 ++ [(⟨Int.tmod t361 8, Int.tmod t362 9⟩ : S32)]) (t347.length : Int)) else (none)))) else (if 0 ≤ (Int.tmod t359 (t347.length : Int)) then (if (Int.tmod t359 (t347.length : Int)) < (y356.length : Int) then (if ((rd_T32 y356 (Int.tmod t359 (t347.length : Int))).f1) < 64 then ((laws_lwAt.f l1 4).bind fun t368 => (if (wrap64 (64 - ((rd_T32 y356 (Int.tmod t359 (t347.length : Int))).f1))) = 0 then (none) else (laws_FnMoves.j2 kj6 t347 t348 t349 (y356.set ((Int.tmod t359 (t347.length : Int)) : Int).toNat (⟨(rd_T32 y356 (Int.tmod t359 (t347.length : Int))).f0, wrap64 ((wrap64 (((rd_T32 y356 (Int.tmod t359 (t347.length : Int))).f1) + 1)) + (Int.tmod t368 (wrap64 (64 - ((rd_T32 y356 (Int.tmod t359 (t347.length : Int))).f1)))))⟩ : S32)) (Int.tmod t359 (t347.length : Int))))) else (laws_FnMoves.j2 kj6 t347 t348 t349 y356 (Int.tmod t359 (t347.length : Int)))) else (none)) else (none))))))) else (none))) = some true := by rw [if_neg (show ¬ (false = true) by decide)] at H; exact H
              clear H
              have H := H1
              clear H1
              obtain ⟨y353, hy353⟩ : ∃ y_ : List (S32), y_ = (([] : List (S32))) := ⟨_, rfl⟩
              replace H : (if y353.length + t347.length < 8796093022208 then ((some (y353 ++ t347 : List (S32))).bind fun y356 => ((laws_lwAt.f l1 0).bind fun t359 => (if (t347.length : Int) = 0 then (none) else ((laws_lwAt.f l1 1).bind fun t360 => (if (Int.tmod t360 3) = 0 then ((laws_lwAt.f l1 2).bind fun t361 => ((laws_lwAt.f l1 3).bind fun t362 => (if y356.length < 8796093022208 then (laws_FnMoves.j2 kj6 t347 t348 t349 (y356 ++ [(⟨Int.tmod t361 8, Int.tmod t362 9⟩ : S32)]) (t347.length : Int)) else (none)))) else (if 0 ≤ (Int.tmod t359 (t347.length : Int)) then (if (Int.tmod t359 (t347.length : Int)) < (y356.length : Int) then (if ((rd_T32 y356 (Int.tmod t359 (t347.length : Int))).f1) < 64 then ((laws_lwAt.f l1 4).bind fun t368 => (if (wrap64 (64 - ((rd_T32 y356 (Int.tmod t359 (t347.length : Int))).f1))) = 0 then (none) else (laws_FnMoves.j2 kj6 t347 t348 t349 (y356.set ((Int.tmod t359 (t347.length : Int)) : Int).toNat (⟨(rd_T32 y356 (Int.tmod t359 (t347.length : Int))).f0, wrap64 ((wrap64 (((rd_T32 y356 (Int.tmod t359 (t347.length : Int))).f1) + 1)) + (Int.tmod t368 (wrap64 (64 - ((rd_T32 y356 (Int.tmod t359 (t347.length : Int))).f1)))))⟩ : S32)) (Int.tmod t359 (t347.length : Int))))) else (laws_FnMoves.j2 kj6 t347 t348 t349 y356 (Int.tmod t359 (t347.length : Int)))) else (none)) else (none))))))) else (none)) = some true := by first | (rw [hy353]; with_reducible exact H) | (have H2_ := (Option.bind_some _ _).symm.trans H; rw [hy353]; with_reducible exact H2_) | (have H2_ := (Option.bind_some _ _).symm.trans H; with_reducible exact H2_) | with_reducible exact H | (rw [hy353]; exact H) | exact H
              have Ny353 := Aside0.mk hy353
              clear hy353
              by_cases c14 : y353.length + t347.length < 8796093022208
              · rw [if_pos c14] at H
                have LMc14 := Aside0.mk c14
                clear c14
                obtain ⟨y356, hy356⟩ : ∃ y_ : List (S32), y_ = (y353 ++ t347) := ⟨_, rfl⟩
                replace H : ((laws_lwAt.f l1 0).bind fun t359 => (if (t347.length : Int) = 0 then (none) else ((laws_lwAt.f l1 1).bind fun t360 => (if (Int.tmod t360 3) = 0 then ((laws_lwAt.f l1 2).bind fun t361 => ((laws_lwAt.f l1 3).bind fun t362 => (if y356.length < 8796093022208 then (laws_FnMoves.j2 kj6 t347 t348 t349 (y356 ++ [(⟨Int.tmod t361 8, Int.tmod t362 9⟩ : S32)]) (t347.length : Int)) else (none)))) else (if 0 ≤ (Int.tmod t359 (t347.length : Int)) then (if (Int.tmod t359 (t347.length : Int)) < (y356.length : Int) then (if ((rd_T32 y356 (Int.tmod t359 (t347.length : Int))).f1) < 64 then ((laws_lwAt.f l1 4).bind fun t368 => (if (wrap64 (64 - ((rd_T32 y356 (Int.tmod t359 (t347.length : Int))).f1))) = 0 then (none) else (laws_FnMoves.j2 kj6 t347 t348 t349 (y356.set ((Int.tmod t359 (t347.length : Int)) : Int).toNat (⟨(rd_T32 y356 (Int.tmod t359 (t347.length : Int))).f0, wrap64 ((wrap64 (((rd_T32 y356 (Int.tmod t359 (t347.length : Int))).f1) + 1)) + (Int.tmod t368 (wrap64 (64 - ((rd_T32 y356 (Int.tmod t359 (t347.length : Int))).f1)))))⟩ : S32)) (Int.tmod t359 (t347.length : Int))))) else (laws_FnMoves.j2 kj6 t347 t348 t349 y356 (Int.tmod t359 (t347.length : Int)))) else (none)) else (none)))))) = some true := by first | (rw [hy356]; with_reducible exact H) | (have H2_ := (Option.bind_some _ _).symm.trans H; rw [hy356]; with_reducible exact H2_) | (have H2_ := (Option.bind_some _ _).symm.trans H; with_reducible exact H2_) | with_reducible exact H | (rw [hy356]; exact H) | exact H
                have Ny356 := Aside0.mk hy356
                clear hy356
                replace H := Option.bind_eq_some_iff.mp H
                obtain ⟨t359, A150, H⟩ := H
                replace H : (if (t347.length : Int) = 0 then (none) else ((laws_lwAt.f l1 1).bind fun t360 => (if (Int.tmod t360 3) = 0 then ((laws_lwAt.f l1 2).bind fun t361 => ((laws_lwAt.f l1 3).bind fun t362 => (if y356.length < 8796093022208 then (laws_FnMoves.j2 kj6 t347 t348 t349 (y356 ++ [(⟨Int.tmod t361 8, Int.tmod t362 9⟩ : S32)]) (t347.length : Int)) else (none)))) else (if 0 ≤ (Int.tmod t359 (t347.length : Int)) then (if (Int.tmod t359 (t347.length : Int)) < (y356.length : Int) then (if ((rd_T32 y356 (Int.tmod t359 (t347.length : Int))).f1) < 64 then ((laws_lwAt.f l1 4).bind fun t368 => (if (wrap64 (64 - ((rd_T32 y356 (Int.tmod t359 (t347.length : Int))).f1))) = 0 then (none) else (laws_FnMoves.j2 kj6 t347 t348 t349 (y356.set ((Int.tmod t359 (t347.length : Int)) : Int).toNat (⟨(rd_T32 y356 (Int.tmod t359 (t347.length : Int))).f0, wrap64 ((wrap64 (((rd_T32 y356 (Int.tmod t359 (t347.length : Int))).f1) + 1)) + (Int.tmod t368 (wrap64 (64 - ((rd_T32 y356 (Int.tmod t359 (t347.length : Int))).f1)))))⟩ : S32)) (Int.tmod t359 (t347.length : Int))))) else (laws_FnMoves.j2 kj6 t347 t348 t349 y356 (Int.tmod t359 (t347.length : Int)))) else (none)) else (none))))) = some true := H
                have A15 := Aside0.mk A150
                clear A150
                by_cases c16 : (t347.length : Int) = 0
                · rw [if_pos c16] at H
                  exact absurd H (by simp)
                · rw [if_neg c16] at H
                  have c16b0 : ((t347.length : Int) == 0) = false := beq_eq_false_iff_ne.mpr c16
                  have c16b1 : ((t347.length : Int) != 0) = true := bne_iff_ne.mpr c16
                  have c16b2 : ¬ (t347 = []) := fun h_ => c16 (by rw [h_]; rfl)
                  replace H := Option.bind_eq_some_iff.mp H
                  obtain ⟨t360, A170, H⟩ := H
                  replace H : (if (Int.tmod t360 3) = 0 then ((laws_lwAt.f l1 2).bind fun t361 => ((laws_lwAt.f l1 3).bind fun t362 => (if y356.length < 8796093022208 then (laws_FnMoves.j2 kj6 t347 t348 t349 (y356 ++ [(⟨Int.tmod t361 8, Int.tmod t362 9⟩ : S32)]) (t347.length : Int)) else (none)))) else (if 0 ≤ (Int.tmod t359 (t347.length : Int)) then (if (Int.tmod t359 (t347.length : Int)) < (y356.length : Int) then (if ((rd_T32 y356 (Int.tmod t359 (t347.length : Int))).f1) < 64 then ((laws_lwAt.f l1 4).bind fun t368 => (if (wrap64 (64 - ((rd_T32 y356 (Int.tmod t359 (t347.length : Int))).f1))) = 0 then (none) else (laws_FnMoves.j2 kj6 t347 t348 t349 (y356.set ((Int.tmod t359 (t347.length : Int)) : Int).toNat (⟨(rd_T32 y356 (Int.tmod t359 (t347.length : Int))).f0, wrap64 ((wrap64 (((rd_T32 y356 (Int.tmod t359 (t347.length : Int))).f1) + 1)) + (Int.tmod t368 (wrap64 (64 - ((rd_T32 y356 (Int.tmod t359 (t347.length : Int))).f1)))))⟩ : S32)) (Int.tmod t359 (t347.length : Int))))) else (laws_FnMoves.j2 kj6 t347 t348 t349 y356 (Int.tmod t359 (t347.length : Int)))) else (none)) else (none))) = some true := H
                  have A17 := Aside0.mk A170
                  clear A170
                  have HC18 := Aside0.mk H
                  clear H
                  go_upto_if 47 with (first | ((with_reducible refine gate_dst (N := 36) rfl ?_); (try (refine gate_guard (by rfl) ?_; dsimp only)); refine Kd.R_lit k32 _ 32 ?hg (N := 36) ?hd (xs := ([] : List (S32))) (inner := []) (ok := fun _ => True) (okp := fun _ => True) ?hr ?hp (fun _ hk => hk) trivial (Below.refl _ _) (Nat.le_refl _) (by simp) ?_; (case hd => rfl); (case hg => rfl); (case hr => first | (go_simp; done) | (go_simp; rfl)); (case hp => exact (Reps.none _ _)); intro v354 w19 ho20 hb hg_ hnew_; clear hg_ hnew_; (first | rw [← Ny353.out] at ho20 | (simp only [Int.reduceToNat] at ho20; rw [← Ny353.out] at ho20)); have n0_ := Aside0.mk (Kd.R_elder' (by (with_reducible repeat (first | apply Kd.R_alloc | apply Kd.R_drewN | apply Kd.R_drew)); exact HO_5.out) (Kd.R_base ho20) hb); have n1_ := Aside0.mk (Kd.R_lower (Kd.R_new' ho20 (Kd.R_lt (by (with_reducible repeat (first | apply Kd.R_alloc | apply Kd.R_drewN | apply Kd.R_drew)); exact HO_5.out))) (below_size (by repeat (first | (with_reducible first | exact HB.out | apply below_alloc | apply pw_below_drewN | apply below_drew1) | exact HB.out)))); have n2_ := Aside0.mk (below_step (by repeat (first | (with_reducible first | exact HB.out | apply below_alloc | apply pw_below_drewN | apply below_drew1) | exact HB.out)) hb); clear HO_5; clear HB; have HO_5 := n0_; have HO355 := n1_; have HB := n2_; clear n0_ n1_ n2_; clear hb ho20; obtain ⟨Ao22, co22, eo22⟩ := Kd.R_slice HO_5.out; subst eo22) | ((with_reducible refine gate_builtin (b := .append) (xs := #[.tmp 36, .tmp 37]) rfl ?_); (try (refine gate_guard (by rfl) ?_; dsimp only)); at_builtin; refine Kd.R_append_rows k32 (w0 := w) w.heap.size rfl (.tmp 36) (.tmp 37) 23 32 (.agg #[(.int .i64 0), (.int .i64 0)]) 16 rfl Try.underlying23 info32 rfl (by decide) (by omega) v354 y353 t347 _ _ _ (fun k_ => some k_ ≠ (.slice Ao22 t347.length co22 : Value).ownBlock) (fun _ => False) rfl rfl ?aO ?aR (fun _ _ h => h) (fun _ h => h.elim) ?aF ?aB ?aS ?aL ?_; (case aR => repeat (first | exact (Kd.R_reads' HO_5.out).2.2 | (with_reducible refine Kd.C_alloc ?_ _) | (with_reducible refine Kd.C_drewN ?_ _) | (with_reducible refine Kd.C_drew ?_))); (case aB => exact (by repeat (first | (with_reducible first | exact HB.out | apply below_alloc | apply pw_below_drewN | apply below_drew1) | exact HB.out))); (case aF => exact (fun k_ hk => Kd.fresh' (Kd.R_lt (by (with_reducible repeat (first | apply Kd.R_alloc | apply Kd.R_drewN | apply Kd.R_drew)); exact HO_5.out)) k_ hk)); (case aO => exact (by (with_reducible repeat (first | apply Kd.R_alloc | apply Kd.R_drewN | apply Kd.R_drew)); exact Kd.R_mono HO355.out (fun _ hk => hk.2))); (case aS => exact (below_size (by repeat (first | (with_reducible first | exact HB.out | apply below_alloc | apply pw_below_drewN | apply below_drew1) | exact HB.out)))); (case aL => have := LMc14.out; omega); intro v357 w21 ho hb hg hat; rw [← Ny356.out] at ho; have n0_ := Aside0.mk (Kd.R_after (ok := (fun _ => True)) (by (with_reducible repeat (first | apply Kd.R_alloc | apply Kd.R_drewN | apply Kd.R_drew)); exact HO_5.out) hg hat); have n1_ := Aside0.mk (hb); have n2_ := Aside0.mk (ho); clear HO_5; clear HB; clear HO355; have HO_5 := n0_; have HB := n1_; have HO358 := n2_; clear n0_ n1_ n2_; clear ho hb hg hat) | ((with_reducible refine gate_callee (f := 29) rfl ?_); refine goesL_ (some 40) rfl rfl Try.func29 (by kernel_rfl) rfl #[.slice A1 l1.length c1, .int .i64 0] rfl (by (try simp only [List.map_toArray, List.map_cons, List.map_nil]); first | done | rfl | (simp only [List.length_drop, List.length_take]; rfl)) ?_; (with_reducible refine (laws_lwAt.calls _ _ l1 0 t359 _ ?side1 ?side2 A15.out).mono ?_); (case side1 => repeat (first | exact (Kd.C_below HR1.out HB.out) | (with_reducible refine Kd.C_alloc ?_ _) | (with_reducible refine Kd.C_drewN ?_ _) | (with_reducible refine Kd.C_drew ?_))); (case side2 => exact HC1.out); rintro e w' ⟨rfl, ⟨nd, rfl⟩⟩; refine ⟨_, rfl, ?_⟩) | ((with_reducible refine gate_callee (f := 29) rfl ?_); refine goesL_ (some 45) rfl rfl Try.func29 (by kernel_rfl) rfl #[.slice A1 l1.length c1, .int .i64 1] rfl (by (try simp only [List.map_toArray, List.map_cons, List.map_nil]); first | done | rfl | (simp only [List.length_drop, List.length_take]; rfl)) ?_; (with_reducible refine (laws_lwAt.calls _ _ l1 1 t360 _ ?side1 ?side2 A17.out).mono ?_); (case side1 => repeat (first | exact (Kd.C_below HR1.out (by repeat (first | (with_reducible first | exact HB.out | apply below_alloc | apply pw_below_drewN | apply below_drew1) | exact HB.out))) | (with_reducible refine Kd.C_alloc ?_ _) | (with_reducible refine Kd.C_drewN ?_ _) | (with_reducible refine Kd.C_drew ?_))); (case side2 => exact HC1.out); rintro e w' ⟨rfl, ⟨nd, rfl⟩⟩; refine ⟨_, rfl, ?_⟩))
                  (try simp only [Act.put, List.setIfInBounds_toArray, List.set_cons_zero, List.set_cons_succ])
                  go_cut [8, 9] (fun v8 v9 wc => ∃ (kq : Nat) (x5_17 : List (S32)) (x8_17 : List (S32)) (x9_17 : Int), v9 = .int .i64 x9_17 ∧ Aside0 (laws_FnMoves.j2 kq x5_17 t348 t349 x8_17 x9_17 = some true) ∧ Aside0 (kq ≤ kj6) ∧ Aside0 (Kd.R k32 32 wc w.heap.size (fun k_ => some k_ ≠ (v8 : Value).ownBlock) (.slice Ao22 t347.length co22) x5_17) ∧ Aside0 (Kd.R k32 32 wc w.heap.size (fun k_ => some k_ ≠ ((.slice Ao22 t347.length co22) : Value).ownBlock) v8 x8_17) ∧ Aside0 (Below w.heap.size w wc))
                  case first =>
                    as_aux_lemma =>
                      have H := HC18.out
                      clear HC18
                      by_cases c23 : (Int.tmod t360 3) = 0
                      · rw [if_pos c23] at H
                        have c23b0 : ((Int.tmod t360 3) == 0) = true := beq_iff_eq.mpr c23
                        have c23b1 : ((Int.tmod t360 3) != 0) = false := bne_eq_false_iff_eq.mpr c23
                        clear c23
                        (first | rw [c23b0] | (simp only [i64_w, i32_w]; rw [c23b0]) | skip)
                        replace H := Option.bind_eq_some_iff.mp H
                        obtain ⟨t361, A240, H⟩ := H
                        replace H : ((laws_lwAt.f l1 3).bind fun t362 => (if y356.length < 8796093022208 then (laws_FnMoves.j2 kj6 t347 t348 t349 (y356 ++ [(⟨Int.tmod t361 8, Int.tmod t362 9⟩ : S32)]) (t347.length : Int)) else (none))) = some true := H
                        have A24 := Aside0.mk A240
                        clear A240
                        replace H := Option.bind_eq_some_iff.mp H
                        obtain ⟨t362, A250, H⟩ := H
                        replace H : (if y356.length < 8796093022208 then (laws_FnMoves.j2 kj6 t347 t348 t349 (y356 ++ [(⟨Int.tmod t361 8, Int.tmod t362 9⟩ : S32)]) (t347.length : Int)) else (none)) = some true := H
                        have A25 := Aside0.mk A250
                        clear A250
                        by_cases c26 : y356.length < 8796093022208
                        · rw [if_pos c26] at H
                          have LMc26 := Aside0.mk c26
                          clear c26
                          obtain ⟨y363, hy363⟩ : ∃ y_ : List (S32), y_ = (y356 ++ [(⟨Int.tmod t361 8, Int.tmod t362 9⟩ : S32)]) := ⟨_, rfl⟩
                          replace H : (laws_FnMoves.j2 kj6 t347 t348 t349 y363 (t347.length : Int)) = some true := by first | (rw [hy363]; with_reducible exact H) | (have H2_ := (Option.bind_some _ _).symm.trans H; rw [hy363]; with_reducible exact H2_) | (have H2_ := (Option.bind_some _ _).symm.trans H; with_reducible exact H2_) | with_reducible exact H | (rw [hy363]; exact H) | exact H
                          have Ny363 := Aside0.mk hy363
                          clear hy363
                          have H' := Aside0.mk H
                          clear H
                          go_wp2_with (first | ((with_reducible refine gate_callee (f := 29) rfl ?_); refine goesL_ (some 52) rfl rfl Try.func29 (by kernel_rfl) rfl #[.slice A1 l1.length c1, .int .i64 2] rfl (by (try simp only [List.map_toArray, List.map_cons, List.map_nil]); first | done | rfl | (simp only [List.length_drop, List.length_take]; rfl)) ?_; (with_reducible refine (laws_lwAt.calls _ _ l1 2 t361 _ ?side1 ?side2 A24.out).mono ?_); (case side1 => repeat (first | exact (Kd.C_below HR1.out HB.out) | (with_reducible refine Kd.C_alloc ?_ _) | (with_reducible refine Kd.C_drewN ?_ _) | (with_reducible refine Kd.C_drew ?_))); (case side2 => exact HC1.out); rintro e w' ⟨rfl, ⟨nd, rfl⟩⟩; refine ⟨_, rfl, ?_⟩) | ((with_reducible refine gate_callee (f := 29) rfl ?_); refine goesL_ (some 55) rfl rfl Try.func29 (by kernel_rfl) rfl #[.slice A1 l1.length c1, .int .i64 3] rfl (by (try simp only [List.map_toArray, List.map_cons, List.map_nil]); first | done | rfl | (simp only [List.length_drop, List.length_take]; rfl)) ?_; (with_reducible refine (laws_lwAt.calls _ _ l1 3 t362 _ ?side1 ?side2 A25.out).mono ?_); (case side1 => repeat (first | exact (Kd.C_below HR1.out (by repeat (first | (with_reducible first | exact HB.out | apply below_alloc | apply pw_below_drewN | apply below_drew1) | exact HB.out))) | (with_reducible refine Kd.C_alloc ?_ _) | (with_reducible refine Kd.C_drewN ?_ _) | (with_reducible refine Kd.C_drew ?_))); (case side2 => exact HC1.out); rintro e w' ⟨rfl, ⟨nd, rfl⟩⟩; refine ⟨_, rfl, ?_⟩) | ((with_reducible refine gate_builtin (b := .append) (xs := #[.tmp 50, .tmp 58]) rfl ?_); (try (refine gate_guard (by rfl) ?_; dsimp only)); at_builtin; refine Kd.R_append k32 (w0 := w) w.heap.size rfl (.tmp 50) (.tmp 58) 23 32 (.agg #[(.int .i64 0), (.int .i64 0)]) 16 rfl Try.underlying23 info32 rfl (by decide) (by omega) v357 y356 (⟨Int.tmod t361 8, Int.tmod t362 9⟩ : S32) [.int .i64 (Int.tmod t361 8), .int .i64 (Int.tmod t362 9)] (fun k_ => some k_ ≠ (.slice Ao22 t347.length co22 : Value).ownBlock) (fun _ => False) rfl rfl ?aP (fun _ hk => hk.elim) ?aF ?aO ?aB ?aS ?aL ?_; (case aP => exact k32_mkM _ _ _ (⟨Int.tmod t361 8, Int.tmod t362 9⟩ : S32)); (case aB => exact (by repeat (first | (with_reducible first | exact HB.out | apply below_alloc | apply pw_below_drewN | apply below_drew1) | exact HB.out))); (case aF => exact (fun k_ hk => Kd.fresh' (Kd.R_lt (by (with_reducible repeat (first | apply Kd.R_alloc | apply Kd.R_drewN | apply Kd.R_drew)); exact HO_5.out)) k_ hk)); (case aO => exact (by (with_reducible repeat (first | apply Kd.R_alloc | apply Kd.R_drewN | apply Kd.R_drew)); exact HO358.out)); (case aS => exact (below_size (by repeat (first | (with_reducible first | exact HB.out | apply below_alloc | apply pw_below_drewN | apply below_drew1) | exact HB.out)))); (case aL => have := LMc26.out; omega); intro v364 w27 ho hb hg hat; rw [← Ny363.out] at ho; have n0_ := Aside0.mk (Kd.R_after (ok := (fun _ => True)) (by (with_reducible repeat (first | apply Kd.R_alloc | apply Kd.R_drewN | apply Kd.R_drew)); exact HO_5.out) hg hat); have n1_ := Aside0.mk (hb); have n2_ := Aside0.mk (ho); clear HO_5; clear HB; clear HO358; have HO_5 := n0_; have HB := n1_; have HO365 := n2_; clear n0_ n1_ n2_; clear ho hb hg hat))
                          go_meet
                          case rel => exact ⟨_, (t347), (y363), ((t347.length : Int)), (by first | rfl | (simp; done) | (simp [*]; done)), H', ⟨by have := HJ2.out; have := HJ6.out; first | omega | exact Nat.le_refl _⟩, ⟨by (with_reducible repeat (first | apply Kd.R_alloc | apply Kd.R_drewN | apply Kd.R_drew)); exact Kd.R_mono HO_5.out (fun _ hk => hk.2)⟩, ⟨by (with_reducible repeat (first | apply Kd.R_alloc | apply Kd.R_drewN | apply Kd.R_drew)); exact HO365.out⟩, ⟨by repeat (first | (with_reducible first | exact HB.out | apply below_alloc | apply pw_below_drewN | apply below_drew1) | exact HB.out)⟩⟩
                        · rw [if_neg c26] at H
                          exact absurd H (by simp)
                      · rw [if_neg c23] at H
                        have c23b0 : ((Int.tmod t360 3) == 0) = false := beq_eq_false_iff_ne.mpr c23
                        have c23b1 : ((Int.tmod t360 3) != 0) = true := bne_iff_ne.mpr c23
                        (first | rw [c23b0] | (simp only [i64_w, i32_w]; rw [c23b0]) | skip)
                        obtain ⟨ji28, hji28⟩ : ∃ j_ : Int, (Int.tmod t359 (t347.length : Int)) = j_ := ⟨_, rfl⟩
                        replace H : (if 0 ≤ (ji28) then (if (ji28) < (y356.length : Int) then (if ((rd_T32 y356 (ji28)).f1) < 64 then ((laws_lwAt.f l1 4).bind fun t368 => (if (wrap64 (64 - ((rd_T32 y356 (ji28)).f1))) = 0 then (none) else (laws_FnMoves.j2 kj6 t347 t348 t349 (y356.set ((ji28) : Int).toNat (⟨(rd_T32 y356 (ji28)).f0, wrap64 ((wrap64 (((rd_T32 y356 (ji28)).f1) + 1)) + (Int.tmod t368 (wrap64 (64 - ((rd_T32 y356 (ji28)).f1)))))⟩ : S32)) ji28))) else (laws_FnMoves.j2 kj6 t347 t348 t349 y356 ji28)) else (none)) else (none)) = some true := by first | (rw [hji28] at H; exact H) | (simp only [hji28] at H ⊢; exact H)
                        by_cases c29 : 0 ≤ (ji28)
                        · rw [if_pos c29] at H
                          have c29b0 : decide (0 ≤ (ji28)) = true := decide_eq_true c29
                          clear c29
                          by_cases c30 : (ji28) < (y356.length : Int)
                          · rw [if_pos c30] at H
                            have c30b0 : decide ((ji28) < (y356.length : Int)) = true := decide_eq_true c30
                            clear c30
                            by_cases c31 : ((rd_T32 y356 (ji28)).f1) < 64
                            · rw [if_pos c31] at H
                              have c31b0 : decide (((rd_T32 y356 (ji28)).f1) < 64) = true := decide_eq_true c31
                              clear c31
                              replace H := Option.bind_eq_some_iff.mp H
                              obtain ⟨t368, A320, H⟩ := H
                              replace H : (if (wrap64 (64 - ((rd_T32 y356 (ji28)).f1))) = 0 then (none) else (laws_FnMoves.j2 kj6 t347 t348 t349 (y356.set ((ji28) : Int).toNat (⟨(rd_T32 y356 (ji28)).f0, wrap64 ((wrap64 (((rd_T32 y356 (ji28)).f1) + 1)) + (Int.tmod t368 (wrap64 (64 - ((rd_T32 y356 (ji28)).f1)))))⟩ : S32)) ji28)) = some true := H
                              have A32 := Aside0.mk A320
                              clear A320
                              by_cases c33 : (wrap64 (64 - ((rd_T32 y356 (ji28)).f1))) = 0
                              · rw [if_pos c33] at H
                                exact absurd H (by simp)
                              · rw [if_neg c33] at H
                                have c33b0 : ((wrap64 (64 - ((rd_T32 y356 (ji28)).f1))) == 0) = false := beq_eq_false_iff_ne.mpr c33
                                have c33b1 : ((wrap64 (64 - ((rd_T32 y356 (ji28)).f1))) != 0) = true := bne_iff_ne.mpr c33
                                obtain ⟨y370, hy370⟩ : ∃ y_ : List (S32), y_ = (y356.set ((ji28) : Int).toNat (⟨(rd_T32 y356 (ji28)).f0, wrap64 ((wrap64 (((rd_T32 y356 (ji28)).f1) + 1)) + (Int.tmod t368 (wrap64 (64 - ((rd_T32 y356 (ji28)).f1)))))⟩ : S32)) := ⟨_, rfl⟩
                                replace H : (laws_FnMoves.j2 kj6 t347 t348 t349 y370 ji28) = some true := by first | (rw [hy370]; with_reducible exact H) | (have H2_ := (Option.bind_some _ _).symm.trans H; rw [hy370]; with_reducible exact H2_) | (have H2_ := (Option.bind_some _ _).symm.trans H; with_reducible exact H2_) | with_reducible exact H | (rw [hy370]; exact H) | exact H
                                have Ny370 := Aside0.mk hy370
                                clear hy370
                                have H' := Aside0.mk H
                                clear H
                                obtain ⟨Ao35, co35, eo35⟩ := Kd.R_slice HO358.out
                                subst eo35
                                have p366 : 0 ≤ ((ji28) : Int) := of_decide_eq_true (by first | (with_reducible assumption) | assumption)
                                have q366 : (ji28) < (y356.length : Int) := of_decide_eq_true (by first | (with_reducible assumption) | assumption)
                                obtain ⟨ad366, e366, hx366_0, hx366_1⟩ := at_T32 (Kd.R_reads' HO358.out).2.2 (ji28) p366 q366
                                cases e366
                                replace p366 := eq_true p366
                                replace q366 := eq_true q366
                                try go_wp2
                                (try (generalize hq_ : World.drewN w21 _ = w21; have n0_ := Aside0.mk (Kd.R_at hq_ HO_5.out); have n1_ := Aside0.mk (Kd.R_at hq_ HO358.out); have n2_ := Aside0.mk (below_at hq_ HB.out); clear hq_ HO_5 HO358 HB; have HO_5 := n0_; have HO358 := n1_; have HB := n2_; clear n0_ n1_ n2_))
                                have n0_ := Aside0.mk (Kd.R_drew HO_5.out)
                                have n1_ := Aside0.mk (Kd.R_drew HO358.out)
                                have n2_ := Aside0.mk (below_drew1 HB.out)
                                clear HO_5
                                clear HO358
                                clear HB
                                have HO_5 := n0_
                                have HO358 := n1_
                                have HB := n2_
                                clear n0_ n1_ n2_
                                have p367 : 0 ≤ ((ji28) : Int) := of_decide_eq_true (by first | (with_reducible assumption) | assumption)
                                have q367 : (ji28) < (y356.length : Int) := of_decide_eq_true (by first | (with_reducible assumption) | assumption)
                                obtain ⟨ad367, e367, hx367_0, hx367_1⟩ := at_T32 (Kd.R_reads' HO358.out).2.2 (ji28) p367 q367
                                obtain rfl : ad366 = ad367 := (by injection e367)
                                replace p367 := eq_true p367
                                replace q367 := eq_true q367
                                have p369 : 0 ≤ ((ji28) : Int) := of_decide_eq_true (by first | (with_reducible assumption) | assumption)
                                have q369 : (ji28) < (y356.length : Int) := of_decide_eq_true (by first | (with_reducible assumption) | assumption)
                                obtain ⟨ad369, e369, hx369_0, hx369_1⟩ := at_T32 (Kd.R_reads' HO358.out).2.2 (ji28) p369 q369
                                obtain rfl : ad366 = ad369 := (by injection e369)
                                replace p369 := eq_true p369
                                replace q369 := eq_true q369
                                refine start_ (n := 21) (S := fun w' => w'.cell? (ad366.add (((ji28)).toNat * 2)) = some (.int .i64 ((rd_T32 y356 (ji28)).f0)) ∧ w'.cell? ⟨(ad366.add (((ji28)).toNat * 2)).block, (ad366.add (((ji28)).toNat * 2)).off + 1, none⟩ = some (.int .i64 ((rd_T32 y356 (ji28)).f1)) ∧ w'.cell? (ad366.add (((ji28)).toNat * 2)) = some (.int .i64 ((rd_T32 y356 (ji28)).f0)) ∧ w'.cell? ⟨(ad366.add (((ji28)).toNat * 2)).block, (ad366.add (((ji28)).toNat * 2)).off + 1, none⟩ = some (.int .i64 ((rd_T32 y356 (ji28)).f1))) (ds := [20]) #[false, false, false, false, false, false, false, false, false, false, false, false, false, false, false, false, false, false, false, false, false] (by kernel_rfl) rfl rfl ⟨hx367_0, hx367_1, hx369_0, hx369_1⟩ (fun hHeld => ?_); refine with_tabW laws_FnMoves.tab12 laws_FnMoves.bits12 (fun HT_ HW_ => ?_)
                                generalize w21.drew = w36 at HO_5 HO358 HB hx367_0 hx367_1 hx369_0 hx369_1 hHeld ⊢
                                refine pure_ (i := 0) (N := some 66) (v := ?_) (a' := ?_) #[true, false, false, false, false, false, false, false, false, false, false, false, false, false, false, false, false, false, false, false, false] rfl rfl (any_of HT_.out (by kernel_rfl)) (fun _ _ _ h => h) (Or.inl ⟨by rfl, ?_⟩) ?_ ?_
                                rotate_left
                                · intro w'
                                  go_simp
                                  with_reducible rfl
                                rotate_left
                                · simp only [Act.put, List.setIfInBounds_toArray, List.set_cons_zero, List.set_cons_succ, i64_w, i32_w]
                                  rfl
                                refine pure_ (i := 1) (N := some 67) (v := ?_) (a' := ?_) #[true, true, false, false, false, false, false, false, false, false, false, false, false, false, false, false, false, false, false, false, false] rfl rfl (any_of HT_.out (by kernel_rfl)) (fun _ _ _ h => h) (Or.inl ⟨by rfl, ?_⟩) ?_ ?_
                                rotate_left
                                · intro w'
                                  go_simp
                                  with_reducible rfl
                                rotate_left
                                · simp only [Act.put, List.setIfInBounds_toArray, List.set_cons_zero, List.set_cons_succ, i64_w, i32_w]
                                  rfl
                                refine pure_ (i := 2) (N := some 68) (v := ?_) (a' := ?_) #[true, true, true, false, false, false, false, false, false, false, false, false, false, false, false, false, false, false, false, false, false] rfl rfl (any_of HT_.out (by kernel_rfl)) (fun _ _ _ h => h) (Or.inl ⟨by rfl, ?_⟩) ?_ ?_
                                rotate_left
                                · intro w'
                                  go_simp
                                  with_reducible rfl
                                rotate_left
                                · simp only [Act.put, List.setIfInBounds_toArray, List.set_cons_zero, List.set_cons_succ, i64_w, i32_w]
                                  rfl
                                refine pure_ (i := 3) (N := some 69) (v := ?_) (a' := ?_) #[true, true, true, true, false, false, false, false, false, false, false, false, false, false, false, false, false, false, false, false, false] rfl rfl (any_of HT_.out (by kernel_rfl)) (fun _ _ _ h => h) (Or.inl ⟨by rfl, ?_⟩) ?_ ?_
                                rotate_left
                                · intro w'
                                  go_simp
                                  with_reducible rfl
                                rotate_left
                                · simp only [Act.put, List.setIfInBounds_toArray, List.set_cons_zero, List.set_cons_succ, i64_w, i32_w]
                                  rfl
                                refine pure_ (i := 4) (N := some 70) (v := ?_) (a' := ?_) #[true, true, true, true, true, false, false, false, false, false, false, false, false, false, false, false, false, false, false, false, false] rfl rfl (any_of HT_.out (by kernel_rfl)) (fun _ _ _ h => h) (Or.inl ⟨by rfl, ?_⟩) ?_ ?_
                                rotate_left
                                · intro w'
                                  go_simp
                                  with_reducible rfl
                                rotate_left
                                · simp only [Act.put, List.setIfInBounds_toArray, List.set_cons_zero, List.set_cons_succ, i64_w, i32_w]
                                  rfl
                                refine pure_ (i := 5) (N := some 71) (v := ?_) (a' := ?_) #[true, true, true, true, true, true, false, false, false, false, false, false, false, false, false, false, false, false, false, false, false] rfl rfl (any_of HT_.out (by kernel_rfl)) (fun _ _ _ h => h) (Or.inl ⟨by rfl, ?_⟩) ?_ ?_
                                rotate_left
                                · intro w'
                                  go_simp
                                  with_reducible rfl
                                rotate_left
                                · simp only [Act.put, List.setIfInBounds_toArray, List.set_cons_zero, List.set_cons_succ, i64_w, i32_w]
                                  rfl
                                refine pure_ (i := 8) (N := some 74) (v := ?_) (a' := ?_) #[true, true, true, true, true, true, false, false, true, false, false, false, false, false, false, false, false, false, false, false, false] rfl rfl (any_of HT_.out (by kernel_rfl)) (fun _ _ _ h => h) (Or.inl ⟨by rfl, ?_⟩) ?_ ?_
                                rotate_left
                                · intro w'
                                  go_simp
                                  with_reducible rfl
                                rotate_left
                                · simp only [Act.put, List.setIfInBounds_toArray, List.set_cons_zero, List.set_cons_succ, i64_w, i32_w]
                                  rfl
                                refine pure_ (i := 10) (N := some 76) (v := ?_) (a' := ?_) #[true, true, true, true, true, true, false, false, true, false, true, false, false, false, false, false, false, false, false, false, false] rfl rfl (any_of HT_.out (by kernel_rfl)) (fun _ _ _ h => h) (Or.inl ⟨by rfl, ?_⟩) ?_ ?_
                                rotate_left
                                · intro w'
                                  go_simp
                                  with_reducible rfl
                                rotate_left
                                · simp only [Act.put, List.setIfInBounds_toArray, List.set_cons_zero, List.set_cons_succ, i64_w, i32_w]
                                  rfl
                                refine pure_ (i := 11) (N := some 77) (v := ?_) (a' := ?_) #[true, true, true, true, true, true, false, false, true, false, true, true, false, false, false, false, false, false, false, false, false] rfl rfl (any_of HT_.out (by kernel_rfl)) (fun _ _ _ h => h) (Or.inl ⟨by rfl, ?_⟩) ?_ ?_
                                rotate_left
                                · intro w'
                                  go_simp
                                  with_reducible rfl
                                rotate_left
                                · simp only [Act.put, List.setIfInBounds_toArray, List.set_cons_zero, List.set_cons_succ, i64_w, i32_w]
                                  rfl
                                refine pure_ (i := 12) (N := some 78) (v := ?_) (a' := ?_) #[true, true, true, true, true, true, false, false, true, false, true, true, true, false, false, false, false, false, false, false, false] rfl rfl (any_of HT_.out (by kernel_rfl)) (fun _ _ _ h => h) (Or.inl ⟨by rfl, ?_⟩) ?_ ?_
                                rotate_left
                                · intro w'
                                  go_simp
                                  with_reducible rfl
                                rotate_left
                                · simp only [Act.put, List.setIfInBounds_toArray, List.set_cons_zero, List.set_cons_succ, i64_w, i32_w]
                                  rfl
                                refine pure_ (i := 13) (N := some 79) (v := ?_) (a' := ?_) #[true, true, true, true, true, true, false, false, true, false, true, true, true, true, false, false, false, false, false, false, false] rfl rfl (any_of HT_.out (by kernel_rfl)) (fun _ _ _ h => h) (Or.inl ⟨by rfl, ?_⟩) ?_ ?_
                                rotate_left
                                · intro w'
                                  go_simp
                                  with_reducible rfl
                                rotate_left
                                · simp only [Act.put, List.setIfInBounds_toArray, List.set_cons_zero, List.set_cons_succ, i64_w, i32_w]
                                  rfl
                                refine take_ (i := 6) (N := some 72) (v := ?_) (a' := ?_) #[true, true, true, true, true, true, true, false, true, false, true, true, true, true, false, false, false, false, false, false, false] rfl rfl (take_ofW HT_.out HW_.out (by kernel_rfl)) (fun _ _ _ h => h) (Or.inl ⟨by rfl, ?_⟩) hHeld ?_ ?_
                                rotate_left
                                · rintro w' ⟨s0, s1, s2, s3⟩
                                  go_simp
                                  with_reducible rfl
                                rotate_left
                                · simp only [Act.put, List.setIfInBounds_toArray, List.set_cons_zero, List.set_cons_succ, i64_w, i32_w]
                                  rfl
                                refine pure_ (i := 7) (N := some 73) (v := ?_) (a' := ?_) #[true, true, true, true, true, true, true, true, true, false, true, true, true, true, false, false, false, false, false, false, false] rfl rfl (any_of HT_.out (by kernel_rfl)) (fun _ _ _ h => h) (Or.inl ⟨by rfl, ?_⟩) ?_ ?_
                                rotate_left
                                · intro w'
                                  go_simp
                                  with_reducible rfl
                                rotate_left
                                · simp only [Act.put, List.setIfInBounds_toArray, List.set_cons_zero, List.set_cons_succ, i64_w, i32_w]
                                  rfl
                                refine take_ (i := 14) (N := some 80) (v := ?_) (a' := ?_) #[true, true, true, true, true, true, true, true, true, false, true, true, true, true, true, false, false, false, false, false, false] rfl rfl (take_ofW HT_.out HW_.out (by kernel_rfl)) (fun _ _ _ h => h) (Or.inl ⟨by rfl, ?_⟩) hHeld ?_ ?_
                                rotate_left
                                · rintro w' ⟨s0, s1, s2, s3⟩
                                  go_simp
                                  with_reducible rfl
                                rotate_left
                                · simp only [Act.put, List.setIfInBounds_toArray, List.set_cons_zero, List.set_cons_succ, i64_w, i32_w]
                                  rfl
                                refine pure_ (i := 15) (N := some 81) (v := ?_) (a' := ?_) #[true, true, true, true, true, true, true, true, true, false, true, true, true, true, true, true, false, false, false, false, false] rfl rfl (any_of HT_.out (by kernel_rfl)) (fun _ _ _ h => h) (Or.inl ⟨by rfl, ?_⟩) ?_ ?_
                                rotate_left
                                · intro w'
                                  go_simp
                                  with_reducible rfl
                                rotate_left
                                · simp only [Act.put, List.setIfInBounds_toArray, List.set_cons_zero, List.set_cons_succ, i64_w, i32_w]
                                  rfl
                                refine one_ (i := 9) (N := some 75) #[true, true, true, true, true, true, true, true, true, true, true, true, true, true, true, true, false, false, false, false, false] rfl rfl (one_of HT_.out (by kernel_rfl)) (by decide) (fun K hK => ?_)
                                refine goes_ Try.func29 (by kernel_rfl) rfl #[.slice A1 l1.length c1, .int .i64 4] (by rfl) rfl rfl (by (try simp only [List.map_toArray, List.map_cons, List.map_nil]); first | done | rfl | (simp only [List.length_drop, List.length_take]; rfl)) ?_
                                with_reducible refine (laws_lwAt.calls _ _ l1 4 t368 _ ?side1 ?side2 A32.out).mono ?_
                                (case side1 => repeat (first | exact (Kd.C_below HR1.out HB.out) | (with_reducible refine Kd.C_alloc ?_ _) | (with_reducible refine Kd.C_drewN ?_ _) | (with_reducible refine Kd.C_drew ?_)))
                                (case side2 => exact HC1.out)
                                rintro e w' ⟨rfl, ⟨nd, rfl⟩⟩
                                refine ⟨_, rfl, ?_⟩
                                have p34 : 0 ≤ ((ji28) : Int) := of_decide_eq_true (by first | (with_reducible assumption) | assumption)
                                have q34 : ((ji28) : Int) < ((y356.length : Int) : Int) := of_decide_eq_true (by first | (with_reducible assumption) | assumption)
                                obtain ⟨go34, co34, eo34, gb34, gl34, cl34, HG34⟩ := Kd.R_form HO358.out (by omega)
                                (first | cases eo34 | (injection eo34 with ea_ en_ ec_; (first | subst ea_ | (injection ea_ with ea_; subst ea_)); subst ec_; clear en_))
                                have GB34 := Aside0.mk gb34
                                have GG34 := Aside0.mk HG34
                                clear gb34 gl34 HG34
                                (first | simp only [add_plain] at hx366_0 | skip)
                                (first | simp only [add_plain] at hx366_1 | skip)
                                (first | simp only [add_plain] at hx367_0 | skip)
                                (first | simp only [add_plain] at hx367_1 | skip)
                                (first | simp only [add_plain] at hx369_0 | skip)
                                (first | simp only [add_plain] at hx369_1 | skip)
                                obtain ⟨ce34, hcl34, hM34, hcc34, hfr34⟩ := Kd.R_elem HO358.out z32 ((ji28) : Int) p34 q34
                                obtain rfl := k32_openM hM34
                                have hx34_0 : World.cell? _ ⟨go34, ((ji28) : Int).toNat * 2, none⟩ = some (.int .i64 ((rd_T32 y356 (ji28)).f0)) := hcc34 0 _ rfl
                                have hx34_1 : World.cell? _ ⟨go34, ((ji28) : Int).toNat * 2 + 1, none⟩ = some (.int .i64 ((rd_T32 y356 (ji28)).f1)) := hcc34 1 _ rfl
                                have hf34_0 : World.frozen? _ ⟨go34, ((ji28) : Int).toNat * 2, none⟩ = false := hfr34 0
                                have hf34_1 : World.frozen? _ ⟨go34, ((ji28) : Int).toNat * 2 + 1, none⟩ = false := hfr34 1
                                clear hcl34 hcc34 hfr34 hM34
                                replace p34 := eq_true p34
                                replace q34 := eq_true q34
                                obtain ⟨ce37, hcl37, hM37, hcc37, hfr37⟩ := Kd.R_elem HO358.out z32 ((ji28) : Int) (of_decide_eq_true (by first | (with_reducible assumption) | assumption)) (by have h_ : ((ji28) : Int) < ((y356.length : Int) : Int) := of_decide_eq_true (by first | (with_reducible assumption) | assumption); first | exact h_ | (have e_ := (Kd.R_reads' HO358.out).1; omega) | simpa using h_)
                                obtain rfl := k32_openM hM37
                                have HP37 := (Kd.R_seg HO358.out ((ji28) : Int) (of_decide_eq_true (by first | (with_reducible assumption) | assumption)) (by have h_ : ((ji28) : Int) < ((y356.length : Int) : Int) := of_decide_eq_true (by first | (with_reducible assumption) | assumption); first | exact h_ | (have e_ := (Kd.R_reads' HO358.out).1; omega) | simpa using h_) (seg := [.int .i64 (wrap64 ((wrap64 (((rd_T32 y356 (ji28)).f1) + 1)) + (Int.tmod t368 (wrap64 (64 - ((rd_T32 y356 (ji28)).f1))))))]) (j := 1) hcl37 hcc37 (show 2 ≤ 2 from by decide) (x' := (⟨(rd_T32 y356 (ji28)).f0, wrap64 ((wrap64 (((rd_T32 y356 (ji28)).f1) + 1)) + (Int.tmod t368 (wrap64 (64 - ((rd_T32 y356 (ji28)).f1)))))⟩ : S32)) (k32_mkM _ _ _ (⟨(rd_T32 y356 (ji28)).f0, wrap64 ((wrap64 (((rd_T32 y356 (ji28)).f1) + 1)) + (Int.tmod t368 (wrap64 (64 - ((rd_T32 y356 (ji28)).f1)))))⟩ : S32) ) (fun _ hk => hk)).1
                                rw [← Ny370.out] at HP37
                                have HQ37 := Aside0.mk HP37
                                clear hcl37 hcc37 hfr37 hM37 HP37
                                refine hK.out _ _ ⟨hHeld.1, hHeld.2.1, hHeld.2.2.1, hHeld.2.2.2⟩ (fun hHeld => ?_)
                                clear hK K
                                refine norm_ (a' := ?_) ?_ ?_
                                rotate_left
                                · show Act.put _ (some 75) _ = _
                                  simp only [Act.put, List.setIfInBounds_toArray, List.set_cons_zero, List.set_cons_succ, i64_w, i32_w]
                                  rfl
                                refine pure_ (i := 16) (N := some 82) (v := ?_) (a' := ?_) #[true, true, true, true, true, true, true, true, true, true, true, true, true, true, true, true, true, false, false, false, false] rfl rfl (any_of HT_.out (by kernel_rfl)) (fun _ _ _ h => h) (Or.inl ⟨by rfl, ?_⟩) ?_ ?_
                                rotate_left
                                · intro w'
                                  go_simp
                                  with_reducible rfl
                                rotate_left
                                · simp only [Act.put, List.setIfInBounds_toArray, List.set_cons_zero, List.set_cons_succ, i64_w, i32_w]
                                  rfl
                                refine pure_ (i := 17) (N := some 83) (v := ?_) (a' := ?_) #[true, true, true, true, true, true, true, true, true, true, true, true, true, true, true, true, true, true, false, false, false] rfl rfl (any_of HT_.out (by kernel_rfl)) (fun _ _ _ h => h) (Or.inl ⟨by rfl, ?_⟩) ?_ ?_
                                rotate_left
                                · intro w'
                                  go_simp
                                  with_reducible rfl
                                rotate_left
                                · simp only [Act.put, List.setIfInBounds_toArray, List.set_cons_zero, List.set_cons_succ, i64_w, i32_w]
                                  rfl
                                refine pure_ (i := 18) (N := some 84) (v := ?_) (a' := ?_) #[true, true, true, true, true, true, true, true, true, true, true, true, true, true, true, true, true, true, true, false, false] rfl rfl (any_of HT_.out (by kernel_rfl)) (fun _ _ _ h => h) (Or.inl ⟨by rfl, ?_⟩) ?_ ?_
                                rotate_left
                                · intro w'
                                  go_simp
                                  with_reducible rfl
                                rotate_left
                                · simp only [Act.put, List.setIfInBounds_toArray, List.set_cons_zero, List.set_cons_succ, i64_w, i32_w]
                                  rfl
                                refine pure_ (i := 19) (N := some 85) (v := ?_) (a' := ?_) #[true, true, true, true, true, true, true, true, true, true, true, true, true, true, true, true, true, true, true, true, false] rfl rfl (any_of HT_.out (by kernel_rfl)) (fun _ _ _ h => h) (Or.inl ⟨by rfl, ?_⟩) ?_ ?_
                                rotate_left
                                · intro w'
                                  go_simp
                                  with_reducible rfl
                                rotate_left
                                · simp only [Act.put, List.setIfInBounds_toArray, List.set_cons_zero, List.set_cons_succ, i64_w, i32_w]
                                  rfl
                                refine last_ (i := 20) (N := none) #[true, true, true, true, true, true, true, true, true, true, true, true, true, true, true, true, true, true, true, true, true] rfl rfl (one_of HT_.out (by kernel_rfl)) (by decide) (fun K hK => ?_)
                                refine skip_ (w1 := ?_) (by rfl) rfl ?_ ?_
                                rotate_left
                                · go_simp
                                  rfl
                                refine hK.out _ _ ?_
                                clear hK K
                                refine done_ (done_of HT_.out (by kernel_rfl)) ?_
                                try go_wp2
                                go_meet
                                case rel => exact ⟨_, (t347), (y370), (ji28), (by first | rfl | (simp; done) | (simp only [← hji28] <;> (first | rfl | simp)) | (simp [*]; done)), H', ⟨by have := HJ2.out; have := HJ6.out; first | omega | exact Nat.le_refl _⟩, ⟨by (with_reducible repeat (first | apply Kd.R_alloc | apply Kd.R_drewN | apply Kd.R_drew)); exact Kd.R_mono (Kd.R_far (p := ⟨go34, ((ji28) : Int).toNat * 2 + 1, none⟩) (Kd.R_mono HO_5.out (fun k_ hk => (⟨hk, fun e_ => hk.2 (by rw [e_]; rfl)⟩ : _ ∧ k_ ≠ go34))) (fun _ hk => hk.2) (.int .i64 (wrap64 ((wrap64 (((rd_T32 y356 (ji28)).f1) + 1)) + (Int.tmod t368 (wrap64 (64 - ((rd_T32 y356 (ji28)).f1)))))))) (fun _ hk => hk.1.2)⟩, ⟨by (with_reducible repeat (first | apply Kd.R_alloc | apply Kd.R_drewN | apply Kd.R_drew)); exact HQ37.out⟩, ⟨by repeat (first | (with_reducible first | exact HB.out | apply below_alloc | apply pw_below_drewN | apply below_drew1 | refine below_set ?_ GB34.out) | exact HB.out)⟩⟩
                            · rw [if_neg c31] at H
                              have c31b0 : decide (((rd_T32 y356 (ji28)).f1) < 64) = false := decide_eq_false c31
                              clear c31
                              have H' := Aside0.mk H
                              clear H
                              obtain ⟨Ao38, co38, eo38⟩ := Kd.R_slice HO358.out
                              subst eo38
                              have p366 : 0 ≤ ((ji28) : Int) := of_decide_eq_true (by first | (with_reducible assumption) | assumption)
                              have q366 : (ji28) < (y356.length : Int) := of_decide_eq_true (by first | (with_reducible assumption) | assumption)
                              obtain ⟨ad366, e366, hx366_0, hx366_1⟩ := at_T32 (Kd.R_reads' HO358.out).2.2 (ji28) p366 q366
                              cases e366
                              replace p366 := eq_true p366
                              replace q366 := eq_true q366
                              go_wp2
                              go_meet
                              case rel => exact ⟨_, (t347), (y356), (ji28), (by first | rfl | (simp; done) | (simp only [← hji28] <;> (first | rfl | simp)) | (simp [*]; done)), H', ⟨by have := HJ2.out; have := HJ6.out; first | omega | exact Nat.le_refl _⟩, ⟨by (with_reducible repeat (first | apply Kd.R_alloc | apply Kd.R_drewN | apply Kd.R_drew)); exact Kd.R_mono HO_5.out (fun _ hk => hk.2)⟩, ⟨by (with_reducible repeat (first | apply Kd.R_alloc | apply Kd.R_drewN | apply Kd.R_drew)); exact HO358.out⟩, ⟨by repeat (first | (with_reducible first | exact HB.out | apply below_alloc | apply pw_below_drewN | apply below_drew1) | exact HB.out)⟩⟩
                          · rw [if_neg c30] at H
                            exact absurd H (by simp)
                        · rw [if_neg c29] at H
                          exact absurd H (by simp)
                  case rest =>
                    as_aux_lemma =>
                      clear HC18
                      try clear c1
                      try clear c2
                      try clear p2
                      try clear c3
                      try clear p3
                      try clear q3
                      try clear hx3
                      try clear hf3
                      try clear c4
                      try clear c4b0
                      try clear c4b1
                      try clear c5
                      try clear c6
                      try clear p6
                      try clear c10
                      try clear c10b0
                      try clear c10b1
                      try clear c11
                      try clear c13
                      try clear c14
                      try clear c16
                      try clear c16b0
                      try clear c16b1
                      try clear c16b2
                      try clear c23
                      try clear c23b0
                      try clear c23b1
                      try clear c26
                      try clear c28
                      try clear c29
                      try clear c29b0
                      try clear c30
                      try clear c30b0
                      try clear c31
                      try clear c31b0
                      try clear c33
                      try clear c33b0
                      try clear c33b1
                      try clear c34
                      try clear p34
                      try clear q34
                      try clear hx34
                      try clear hf34
                      try clear p36
                      try clear q36
                      try clear hx36
                      try clear c37
                      try clear hx34_0
                      try clear hx34_1
                      try clear hx366_0
                      try clear hx366_1
                      try clear hx367_0
                      try clear hx367_1
                      try clear hx369_0
                      try clear hx369_1
                      try clear p2
                      try clear p34
                      try clear p366
                      try clear p367
                      try clear p369
                      try clear q34
                      try clear q366
                      try clear q367
                      try clear q369
                      obtain ⟨kq, x5_17, x8_17, x9_17, rfl, HA, HJ17, HO_5, HO_8, HB⟩ := hcut
                      have hl5_17 := (Kd.R_reads' HO_5.out).1
                      rw [hl5_17] at HO_5
                      (try simp only [hl5_17])
                      (try simp only [hl5_17] at HO_8)
                      cases kq with
                      | zero => exact absurd HA.out (by simp [laws_FnMoves.j2])
                      | succ kj17 =>
                        have H := HA.out
                        clear HA
                        simp only [laws_FnMoves.j2] at H
                        replace H := Option.bind_eq_some_iff.mp H
                        obtain ⟨⟨t371, t372⟩, A390, H⟩ := H
                        replace H : ((impl_PlaceKey.f kj17 x8_17 t348 t349).bind fun bt376 => ((spec_PlaceKey.f kj17 x5_17 t348 t349).bind fun bt381 => (if t371 = bt381.1 then ((spec_PlaceKey.f kj17 x8_17 t348 t349).bind fun bt385 => (laws_FnMoves.j3 kj17 x5_17 t348 t349 x8_17 x9_17 (bt376.1 != bt385.1) t371 t372 bt376.1 bt376.2)) else (laws_FnMoves.j3 kj17 x5_17 t348 t349 x8_17 x9_17 true t371 t372 bt376.1 bt376.2)))) = some true := H
                        have A39 := Aside0.mk A390
                        clear A390
                        replace H := Option.bind_eq_some_iff.mp H
                        obtain ⟨⟨t376, t377⟩, A400, H⟩ := H
                        replace H : ((spec_PlaceKey.f kj17 x5_17 t348 t349).bind fun bt381 => (if t371 = bt381.1 then ((spec_PlaceKey.f kj17 x8_17 t348 t349).bind fun bt385 => (laws_FnMoves.j3 kj17 x5_17 t348 t349 x8_17 x9_17 (t376 != bt385.1) t371 t372 t376 t377)) else (laws_FnMoves.j3 kj17 x5_17 t348 t349 x8_17 x9_17 true t371 t372 t376 t377))) = some true := H
                        have A40 := Aside0.mk A400
                        clear A400
                        have HC41 := Aside0.mk H
                        clear H
                        go_upto_region 15 with (first | ((with_reducible refine gate_callee (f := 12) rfl ?_); refine goesL_ (some 89) rfl rfl Try.func12 (by kernel_rfl) rfl #[.slice Ao22 x5_17.length co22, .string t348, .int .i64 t349] rfl (by (try simp only [List.map_toArray, List.map_cons, List.map_nil]); first | done | rfl | (simp only [List.length_drop, List.length_take]; rfl)) ?_; (with_reducible refine (impl_PlaceKey.calls kj17 _ _ x5_17 t348 t349 t371 t372 _ ?side1 ?side2 A39.out).mono ?_); (case side1 => repeat (first | exact (Kd.R_reads' HO_5.out).2.2 | (with_reducible refine Kd.C_alloc ?_ _) | (with_reducible refine Kd.C_drewN ?_ _) | (with_reducible refine Kd.C_drew ?_))); (case side2 => exact (Kd.R_reads' HO_5.out).2.1); rintro e w42 ⟨v373, rfl, ho0, hb⟩; refine ⟨_, rfl, ?_⟩; have n0_ := Aside0.mk (Kd.R_below (by (with_reducible repeat (first | apply Kd.R_alloc | apply Kd.R_drewN | apply Kd.R_drew)); exact HO_5.out) hb); have n1_ := Aside0.mk (Kd.R_below (by (with_reducible repeat (first | apply Kd.R_alloc | apply Kd.R_drewN | apply Kd.R_drew)); exact HO_8.out) hb); have n2_ := Aside0.mk (Kd.R_lower ho0 (below_size (by repeat (first | (with_reducible first | exact HB.out | apply below_alloc | apply pw_below_drewN | apply below_drew1) | exact HB.out)))); have n3_ := Aside0.mk (below_step (by repeat (first | (with_reducible first | exact HB.out | apply below_alloc | apply pw_below_drewN | apply below_drew1) | exact HB.out)) hb); clear HO_5; clear HO_8; clear HB; have HO_5 := n0_; have HO_8 := n1_; have HO374 := n2_; have HB := n3_; clear n0_ n1_ n2_ n3_; (try clear hb); (try clear hb2); (try clear hk); (try clear hi); (try clear ho0)) | ((with_reducible refine gate_dst (N := 10) rfl ?_); (try (refine gate_guard (by rfl) ?_; dsimp only)); refine box_event ?hg (N := 10) ?hd (cs := #[.int .i64 0, .slice none 0 0]) (t := 28) ?hr ?_; (case hd => rfl); (case hg => rfl); (case hr => first | (go_simp; done) | (go_simp; rfl)); intro gb375 hg w43 hbox hb; have n0_ := Aside0.mk (Kd.R_below (by (with_reducible repeat (first | apply Kd.R_alloc | apply Kd.R_drewN | apply Kd.R_drew)); exact HO_5.out) hb); have n1_ := Aside0.mk (Kd.R_below (by (with_reducible repeat (first | apply Kd.R_alloc | apply Kd.R_drewN | apply Kd.R_drew)); exact HO_8.out) hb); have n2_ := Aside0.mk (Kd.R_below (by (with_reducible repeat (first | apply Kd.R_alloc | apply Kd.R_drewN | apply Kd.R_drew)); exact HO374.out) hb); have n3_ := Aside0.mk (below_step (by repeat (first | (with_reducible first | exact HB.out | apply below_alloc | apply pw_below_drewN | apply below_drew1) | exact HB.out)) hb); have n4_ := Aside0.mk (hbox); have n5_ := Aside0.mk ((by rw [hg]; exact (below_size (by repeat (first | (with_reducible first | exact HB.out | apply below_alloc | apply pw_below_drewN | apply below_drew1) | exact HB.out))) : w.heap.size ≤ gb375)); have n6_ := Aside0.mk ((by rw [hg]; exact (below_size (by repeat (first | (with_reducible first | exact HB.out | apply below_alloc | apply pw_below_drewN | apply below_drew1) | exact HB.out))) : w.heap.size ≤ gb375)); clear HO_5; clear HO_8; clear HO374; clear HB; have HO_5 := n0_; have HO_8 := n1_; have HO374 := n2_; have HB := n3_; have BK375 := n4_; have GW375 := n5_; have GE375 := n6_; clear n0_ n1_ n2_ n3_ n4_ n5_ n6_; clear hb hbox hg; have hcz44_0 : w43.cell? ⟨gb375, 0, none⟩ = some (.int .i64 0) := (blk_cell BK375.out 0).trans rfl; have hcz44_1 : w43.cell? ⟨gb375, 1, none⟩ = some (.slice none 0 0) := (blk_cell BK375.out 1).trans rfl; have hfz44_0 := blk_frozen BK375.out 0; have hfz44_1 := blk_frozen BK375.out 1; obtain ⟨Ao45, co45, eo45⟩ := Kd.R_slice HO374.out; subst eo45; obtain ⟨Ao46, co46, eo46⟩ := Kd.R_slice HO_8.out; subst eo46) | ((with_reducible refine gate_callee (f := 12) rfl ?_); refine goesL_ (some 93) rfl rfl Try.func12 (by kernel_rfl) rfl #[.slice Ao46 x8_17.length co46, .string t348, .int .i64 t349] rfl (by (try simp only [List.map_toArray, List.map_cons, List.map_nil]); first | done | rfl | (simp only [List.length_drop, List.length_take]; rfl)) ?_; (with_reducible refine (impl_PlaceKey.calls kj17 _ _ x8_17 t348 t349 t376 t377 _ ?side1 ?side2 A40.out).mono ?_); (case side1 => refine (Kd.R_reads' (e := 32) (base := w.heap.size) (ok := fun k_ => some k_ ≠ (.slice Ao22 x5_17.length co22 : Value).ownBlock) (n := x8_17.length) (c := co46) ?_).2.2; exact (by (with_reducible repeat (first | apply Kd.R_alloc | apply Kd.R_drewN | apply Kd.R_drew)); exact (Kd.R_mono (Kd.R_far (p := ⟨gb375, 1, none⟩) (Kd.R_far (p := ⟨gb375, 0, none⟩) (Kd.R_types HO_8.out BK375.out (by decide)) (fun _ hk => hk.2) (.int .i64 t371)) (fun _ hk => hk.2) (.slice Ao45 t372.length co45)) (fun _ h_ => h_.1)))); (case side2 => exact (Kd.R_reads' HO_8.out).2.1); rintro e w47 ⟨v378, rfl, ho0, hb⟩; refine ⟨_, rfl, ?_⟩; have n0_ := Aside0.mk (Kd.R_below (by (with_reducible repeat (first | apply Kd.R_alloc | apply Kd.R_drewN | apply Kd.R_drew)); exact (Kd.R_mono (Kd.R_far (p := ⟨gb375, 1, none⟩) (Kd.R_far (p := ⟨gb375, 0, none⟩) (Kd.R_types HO_5.out BK375.out (by decide)) (fun _ hk => hk.2) (.int .i64 t371)) (fun _ hk => hk.2) (.slice Ao45 t372.length co45)) (fun _ h_ => h_.1))) hb); have n1_ := Aside0.mk (Kd.R_below (by (with_reducible repeat (first | apply Kd.R_alloc | apply Kd.R_drewN | apply Kd.R_drew)); exact (Kd.R_mono (Kd.R_far (p := ⟨gb375, 1, none⟩) (Kd.R_far (p := ⟨gb375, 0, none⟩) (Kd.R_types HO_8.out BK375.out (by decide)) (fun _ hk => hk.2) (.int .i64 t371)) (fun _ hk => hk.2) (.slice Ao45 t372.length co45)) (fun _ h_ => h_.1))) hb); have n2_ := Aside0.mk (Kd.R_elder' (by (with_reducible repeat (first | apply Kd.R_alloc | apply Kd.R_drewN | apply Kd.R_drew)); exact (Kd.R_mono (Kd.R_far (p := ⟨gb375, 1, none⟩) (Kd.R_far (p := ⟨gb375, 0, none⟩) (Kd.R_types HO374.out BK375.out (by decide)) (fun _ hk => hk.2) (.int .i64 t371)) (fun _ hk => hk.2) (.slice Ao45 t372.length co45)) (fun _ h_ => h_.1))) (Kd.R_base ho0) hb); have n3_ := Aside0.mk (Kd.R_lower (Kd.R_new' ho0 (Kd.R_lt (by (with_reducible repeat (first | apply Kd.R_alloc | apply Kd.R_drewN | apply Kd.R_drew)); exact (Kd.R_mono (Kd.R_far (p := ⟨gb375, 1, none⟩) (Kd.R_far (p := ⟨gb375, 0, none⟩) (Kd.R_types HO374.out BK375.out (by decide)) (fun _ hk => hk.2) (.int .i64 t371)) (fun _ hk => hk.2) (.slice Ao45 t372.length co45)) (fun _ h_ => h_.1))))) (below_size (by repeat (first | (with_reducible first | exact HB.out | apply below_alloc | apply pw_below_drewN | apply below_drew1 | refine below_set ?_ GE375.out) | exact HB.out)))); have n4_ := Aside0.mk (blk_below (g := gb375) (o := .cells #[.int .i64 t371, .slice Ao45 t372.length co45] 28 (0, 0)) (by (with_reducible repeat (first | refine blk_drewN ?_ _ | refine blk_drew ?_ | refine blk_alloc ?_ _)); refine blk_put (cs := #[.int .i64 t371, .slice none 0 0]) ?_ 1 _ rfl; (with_reducible repeat (first | refine blk_drewN ?_ _ | refine blk_drew ?_ | refine blk_alloc ?_ _)); refine blk_put (cs := #[.int .i64 0, .slice none 0 0]) ?_ 0 _ rfl; (with_reducible repeat (first | refine blk_drewN ?_ _ | refine blk_drew ?_ | refine blk_alloc ?_ _)); exact BK375.out) hb); have n5_ := Aside0.mk (below_step (by repeat (first | (with_reducible first | exact HB.out | apply below_alloc | apply pw_below_drewN | apply below_drew1 | refine below_set ?_ GE375.out) | exact HB.out)) hb); clear HO_5; clear HO_8; clear HO374; clear BK375; clear HB; have HO_5 := n0_; have HO_8 := n1_; have HO374 := n2_; have HO379 := n3_; have BK375 := n4_; have HB := n5_; clear n0_ n1_ n2_ n3_ n4_ n5_; (try clear hb); (try clear hb2); (try clear hk); (try clear hi); (try clear ho0)) | ((with_reducible refine gate_dst (N := 11) rfl ?_); (try (refine gate_guard (by rfl) ?_; dsimp only)); refine box_event ?hg (N := 11) ?hd (cs := #[.int .i64 0, .slice none 0 0]) (t := 28) ?hr ?_; (case hd => rfl); (case hg => rfl); (case hr => first | (go_simp; done) | (go_simp; rfl)); intro gb380 hg w48 hbox hb; have n0_ := Aside0.mk (Kd.R_below (by (with_reducible repeat (first | apply Kd.R_alloc | apply Kd.R_drewN | apply Kd.R_drew)); exact HO_5.out) hb); have n1_ := Aside0.mk (Kd.R_below (by (with_reducible repeat (first | apply Kd.R_alloc | apply Kd.R_drewN | apply Kd.R_drew)); exact HO_8.out) hb); have n2_ := Aside0.mk (Kd.R_below (by (with_reducible repeat (first | apply Kd.R_alloc | apply Kd.R_drewN | apply Kd.R_drew)); exact HO374.out) hb); have n3_ := Aside0.mk (Kd.R_below (by (with_reducible repeat (first | apply Kd.R_alloc | apply Kd.R_drewN | apply Kd.R_drew)); exact HO379.out) hb); have n4_ := Aside0.mk (blk_below (g := gb375) (o := .cells #[.int .i64 t371, .slice Ao45 t372.length co45] 28 (0, 0)) (by (with_reducible repeat (first | refine blk_drewN ?_ _ | refine blk_drew ?_ | refine blk_alloc ?_ _)); exact BK375.out) hb); have n5_ := Aside0.mk (below_step (by repeat (first | (with_reducible first | exact HB.out | apply below_alloc | apply pw_below_drewN | apply below_drew1 | refine below_set ?_ GE375.out) | exact HB.out)) hb); have n6_ := Aside0.mk (hbox); have n7_ := Aside0.mk ((by rw [hg]; exact (below_size (by repeat (first | (with_reducible first | exact HB.out | apply below_alloc | apply pw_below_drewN | apply below_drew1 | refine below_set ?_ GE375.out) | exact HB.out))) : w.heap.size ≤ gb380)); have n8_ := Aside0.mk ((by rw [hg]; exact (below_size (by repeat (first | (with_reducible first | exact HB.out | apply below_alloc | apply pw_below_drewN | apply below_drew1 | refine below_set ?_ GE375.out) | exact HB.out))) : w.heap.size ≤ gb380)); have n9_ := Aside0.mk ((by rw [hg]; exact Nat.ne_of_lt (blk_lt (g := gb375) (o := .cells #[.int .i64 t371, .slice Ao45 t372.length co45] 28 (0, 0)) (by (with_reducible repeat (first | refine blk_drewN ?_ _ | refine blk_drew ?_ | refine blk_alloc ?_ _)); exact BK375.out)) : gb375 ≠ gb380)); have n10_ := Aside0.mk ((by rw [hg]; exact Nat.ne_of_gt (blk_lt (g := gb375) (o := .cells #[.int .i64 t371, .slice Ao45 t372.length co45] 28 (0, 0)) (by (with_reducible repeat (first | refine blk_drewN ?_ _ | refine blk_drew ?_ | refine blk_alloc ?_ _)); exact BK375.out)) : gb380 ≠ gb375)); clear HO_5; clear HO_8; clear HO374; clear HO379; clear BK375; clear HB; have HO_5 := n0_; have HO_8 := n1_; have HO374 := n2_; have HO379 := n3_; have BK375 := n4_; have HB := n5_; have BK380 := n6_; have GW380 := n7_; have GE380 := n8_; have NB375_380 := n9_; have NB380_375 := n10_; clear n0_ n1_ n2_ n3_ n4_ n5_ n6_ n7_ n8_ n9_ n10_; clear hb hbox hg; have hnb49 := NB380_375.out; have hnc49 := NB375_380.out; have hcz50_0 : w48.cell? ⟨gb380, 0, none⟩ = some (.int .i64 0) := (blk_cell BK380.out 0).trans rfl; have hcz50_1 : w48.cell? ⟨gb380, 1, none⟩ = some (.slice none 0 0) := (blk_cell BK380.out 1).trans rfl; have hfz50_0 := blk_frozen BK380.out 0; have hfz50_1 := blk_frozen BK380.out 1; obtain ⟨Ao51, co51, eo51⟩ := Kd.R_slice HO379.out; subst eo51))
                        (try simp only [Act.put, List.setIfInBounds_toArray, List.set_cons_zero, List.set_cons_succ])
                        go_cut [111] (fun v111 wc => ∃ (kq : Nat) (x111_40 : Bool), v111 = .bool x111_40 ∧ Aside0 (laws_FnMoves.j3 kq x5_17 t348 t349 x8_17 x9_17 x111_40 t371 t372 t376 t377 = some true) ∧ Aside0 (kq ≤ kj17) ∧ Aside0 (Kd.R k32 32 wc w.heap.size (fun k_ => some k_ ≠ ((.slice Ao46 x8_17.length co46) : Value).ownBlock) (.slice Ao22 x5_17.length co22) x5_17) ∧ Aside0 (Kd.R k32 32 wc w.heap.size (fun k_ => some k_ ≠ ((.slice Ao22 x5_17.length co22) : Value).ownBlock) (.slice Ao46 x8_17.length co46) x8_17) ∧ Aside0 (Kd.R (Kd.int .i64) 2 wc w.heap.size (fun k_ => some k_ ≠ ((.slice Ao51 t377.length co51) : Value).ownBlock) (.slice Ao45 t372.length co45) t372) ∧ Aside0 (Kd.R (Kd.int .i64) 2 wc w.heap.size (fun k_ => some k_ ≠ ((.slice Ao45 t372.length co45) : Value).ownBlock) (.slice Ao51 t377.length co51) t377) ∧ Aside0 (wc.heap[gb375]? = some (.cells #[.int .i64 t371, (.slice Ao45 t372.length co45)] 28 (0, 0))) ∧ Aside0 (wc.heap[gb380]? = some (.cells #[.int .i64 t376, (.slice Ao51 t377.length co51)] 28 (0, 0))) ∧ Aside0 (Below w.heap.size w wc))
                        case first =>
                          as_aux_lemma =>
                            have H := HC41.out
                            clear HC41
                            replace H := Option.bind_eq_some_iff.mp H
                            obtain ⟨⟨t381, t382⟩, A520, H⟩ := H
                            replace H : (if t371 = t381 then ((spec_PlaceKey.f kj17 x8_17 t348 t349).bind fun bt385 => (laws_FnMoves.j3 kj17 x5_17 t348 t349 x8_17 x9_17 (t376 != bt385.1) t371 t372 t376 t377)) else (laws_FnMoves.j3 kj17 x5_17 t348 t349 x8_17 x9_17 true t371 t372 t376 t377)) = some true := H
                            have A52 := Aside0.mk A520
                            clear A520
                            by_cases c53 : t371 = t381
                            · rw [if_pos c53] at H
                              have c53b0 : (t371 == t381) = true := beq_iff_eq.mpr c53
                              have c53b1 : (t371 != t381) = false := bne_eq_false_iff_eq.mpr c53
                              clear c53
                              (first | rw [c53b0] | (simp only [i64_w, i32_w]; rw [c53b0]) | skip)
                              replace H := Option.bind_eq_some_iff.mp H
                              obtain ⟨⟨t385, t386⟩, A540, H⟩ := H
                              replace H : (laws_FnMoves.j3 kj17 x5_17 t348 t349 x8_17 x9_17 (t376 != t385) t371 t372 t376 t377) = some true := H
                              have A54 := Aside0.mk A540
                              clear A540
                              have H' := Aside0.mk H
                              clear H
                              try go_wp2
                              have n0_ : Aside0 (Kd.R k32 32 ((w48.setCell ⟨gb380, 0, none⟩ (.int .i64 t376)).setCell ⟨gb380, 1, none⟩ (.slice Ao51 t377.length co51)) w.heap.size (fun k_ => some k_ ≠ (.slice Ao46 x8_17.length co46 : Value).ownBlock) (.slice Ao22 x5_17.length co22) x5_17) := ⟨by (with_reducible repeat (first | apply Kd.R_alloc | apply Kd.R_drewN | apply Kd.R_drew)); exact Kd.R_mono (Kd.R_far (p := ⟨gb380, 1, none⟩) (Kd.R_far (p := ⟨gb380, 0, none⟩) (Kd.R_types HO_5.out BK380.out (by decide)) (fun _ hk => hk.2) (.int .i64 t376)) (fun _ hk => hk.2) (.slice Ao51 t377.length co51)) (fun _ hk => hk.1)⟩
                              have n1_ : Aside0 (Kd.R k32 32 ((w48.setCell ⟨gb380, 0, none⟩ (.int .i64 t376)).setCell ⟨gb380, 1, none⟩ (.slice Ao51 t377.length co51)) w.heap.size (fun k_ => some k_ ≠ (.slice Ao22 x5_17.length co22 : Value).ownBlock) (.slice Ao46 x8_17.length co46) x8_17) := ⟨by (with_reducible repeat (first | apply Kd.R_alloc | apply Kd.R_drewN | apply Kd.R_drew)); exact Kd.R_mono (Kd.R_far (p := ⟨gb380, 1, none⟩) (Kd.R_far (p := ⟨gb380, 0, none⟩) (Kd.R_types HO_8.out BK380.out (by decide)) (fun _ hk => hk.2) (.int .i64 t376)) (fun _ hk => hk.2) (.slice Ao51 t377.length co51)) (fun _ hk => hk.1)⟩
                              have n2_ : Aside0 (Kd.R (Kd.int .i64) 2 ((w48.setCell ⟨gb380, 0, none⟩ (.int .i64 t376)).setCell ⟨gb380, 1, none⟩ (.slice Ao51 t377.length co51)) w.heap.size (fun k_ => some k_ ≠ (.slice Ao51 t377.length co51 : Value).ownBlock) (.slice Ao45 t372.length co45) t372) := ⟨by (with_reducible repeat (first | apply Kd.R_alloc | apply Kd.R_drewN | apply Kd.R_drew)); exact Kd.R_mono (Kd.R_far (p := ⟨gb380, 1, none⟩) (Kd.R_far (p := ⟨gb380, 0, none⟩) (Kd.R_types HO374.out BK380.out (by decide)) (fun _ hk => hk.2) (.int .i64 t376)) (fun _ hk => hk.2) (.slice Ao51 t377.length co51)) (fun _ hk => hk.1.2)⟩
                              have n3_ : Aside0 (Kd.R (Kd.int .i64) 2 ((w48.setCell ⟨gb380, 0, none⟩ (.int .i64 t376)).setCell ⟨gb380, 1, none⟩ (.slice Ao51 t377.length co51)) w.heap.size (fun k_ => some k_ ≠ (.slice Ao45 t372.length co45 : Value).ownBlock) (.slice Ao51 t377.length co51) t377) := ⟨by (with_reducible repeat (first | apply Kd.R_alloc | apply Kd.R_drewN | apply Kd.R_drew)); exact Kd.R_mono (Kd.R_far (p := ⟨gb380, 1, none⟩) (Kd.R_far (p := ⟨gb380, 0, none⟩) (Kd.R_types HO379.out BK380.out (by decide)) (fun _ hk => hk.2) (.int .i64 t376)) (fun _ hk => hk.2) (.slice Ao51 t377.length co51)) (fun _ hk => hk.1.2)⟩
                              have n4_ : Aside0 (((w48.setCell ⟨gb380, 0, none⟩ (.int .i64 t376)).setCell ⟨gb380, 1, none⟩ (.slice Ao51 t377.length co51)).heap[gb375]? = some (.cells #[.int .i64 t371, .slice Ao45 t372.length co45] 28 (0, 0))) := ⟨by (with_reducible repeat (first | refine blk_drewN ?_ _ | refine blk_drew ?_ | refine blk_alloc ?_ _)); refine blk_far ?_ NB375_380.out _; (with_reducible repeat (first | refine blk_drewN ?_ _ | refine blk_drew ?_ | refine blk_alloc ?_ _)); refine blk_far ?_ NB375_380.out _; (with_reducible repeat (first | refine blk_drewN ?_ _ | refine blk_drew ?_ | refine blk_alloc ?_ _)); exact BK375.out⟩
                              have n5_ : Aside0 (((w48.setCell ⟨gb380, 0, none⟩ (.int .i64 t376)).setCell ⟨gb380, 1, none⟩ (.slice Ao51 t377.length co51)).heap[gb380]? = some (.cells #[.int .i64 t376, .slice Ao51 t377.length co51] 28 (0, 0))) := ⟨by (with_reducible repeat (first | refine blk_drewN ?_ _ | refine blk_drew ?_ | refine blk_alloc ?_ _)); refine blk_put (cs := #[.int .i64 t376, .slice none 0 0]) ?_ 1 _ rfl; (with_reducible repeat (first | refine blk_drewN ?_ _ | refine blk_drew ?_ | refine blk_alloc ?_ _)); refine blk_put (cs := #[.int .i64 0, .slice none 0 0]) ?_ 0 _ rfl; (with_reducible repeat (first | refine blk_drewN ?_ _ | refine blk_drew ?_ | refine blk_alloc ?_ _)); exact BK380.out⟩
                              have n6_ : Aside0 (Below w.heap.size w ((w48.setCell ⟨gb380, 0, none⟩ (.int .i64 t376)).setCell ⟨gb380, 1, none⟩ (.slice Ao51 t377.length co51))) := ⟨by repeat (first | (with_reducible first | exact HB.out | apply below_alloc | apply pw_below_drewN | apply below_drew1 | refine below_set ?_ GE375.out | refine below_set ?_ GE380.out) | exact HB.out)⟩
                              (try clear HO_5)
                              (try clear HO_8)
                              (try clear HO374)
                              (try clear HO379)
                              (try clear BK375)
                              (try clear BK380)
                              (try clear HB)
                              generalize ((w48.setCell ⟨gb380, 0, none⟩ (.int .i64 t376)).setCell ⟨gb380, 1, none⟩ (.slice Ao51 t377.length co51)) = w55 at n0_ n1_ n2_ n3_ n4_ n5_ n6_ ⊢
                              have HO_5 := n0_
                              have HO_8 := n1_
                              have HO374 := n2_
                              have HO379 := n3_
                              have BK375 := n4_
                              have BK380 := n5_
                              have HB := n6_
                              clear n0_ n1_ n2_ n3_ n4_ n5_ n6_
                              have n0_ := Aside0.mk (Kd.R_drew HO_5.out)
                              have n1_ := Aside0.mk (Kd.R_drew HO_8.out)
                              have n2_ := Aside0.mk (Kd.R_drew HO374.out)
                              have n3_ := Aside0.mk (Kd.R_drew HO379.out)
                              have n4_ := Aside0.mk (blk_drew BK375.out)
                              have n5_ := Aside0.mk (blk_drew BK380.out)
                              have n6_ := Aside0.mk (below_drew1 HB.out)
                              clear HO_5
                              clear HO_8
                              clear HO374
                              clear HO379
                              clear BK375
                              clear BK380
                              clear HB
                              have HO_5 := n0_
                              have HO_8 := n1_
                              have HO374 := n2_
                              have HO379 := n3_
                              have BK375 := n4_
                              have BK380 := n5_
                              have HB := n6_
                              clear n0_ n1_ n2_ n3_ n4_ n5_ n6_
                              refine start_ (n := 18) (S := fun w' => w'.cell? ⟨gb375, 0, none⟩ = some (.int .i64 t371) ∧ w'.cell? ⟨gb375, 1, none⟩ = some (.slice Ao45 t372.length co45) ∧ w'.cell? ⟨gb380, 0, none⟩ = some (.int .i64 t376) ∧ w'.cell? ⟨gb380, 1, none⟩ = some (.slice Ao51 t377.length co51)) (ds := []) #[false, false, false, false, false, false, false, false, false, false, false, false, false, false, false, false, false, false] (by kernel_rfl) rfl rfl ⟨(blk_cell BK375.out 0).trans rfl, (blk_cell BK375.out 1).trans rfl, (blk_cell BK380.out 0).trans rfl, (blk_cell BK380.out 1).trans rfl⟩ (fun hHeld => ?_); refine with_tabW laws_FnMoves.tab15 laws_FnMoves.bits15 (fun HT_ HW_ => ?_)
                              generalize w55.drew = w56 at HO_5 HO_8 HO374 HO379 BK375 BK380 HB hHeld ⊢
                              refine pure_ (i := 0) (N := some 94) (v := ?_) (a' := ?_) #[true, false, false, false, false, false, false, false, false, false, false, false, false, false, false, false, false, false] rfl rfl (any_of HT_.out (by kernel_rfl)) (fun _ _ _ h => h) (Or.inl ⟨by rfl, ?_⟩) ?_ ?_
                              rotate_left
                              · intro w'
                                go_simp
                                with_reducible rfl
                              rotate_left
                              · simp only [Act.put, List.setIfInBounds_toArray, List.set_cons_zero, List.set_cons_succ, i64_w, i32_w]
                                rfl
                              refine pure_ (i := 2) (N := some 96) (v := ?_) (a' := ?_) #[true, false, true, false, false, false, false, false, false, false, false, false, false, false, false, false, false, false] rfl rfl (any_of HT_.out (by kernel_rfl)) (fun _ _ _ h => h) (Or.inl ⟨by rfl, ?_⟩) ?_ ?_
                              rotate_left
                              · intro w'
                                go_simp
                                with_reducible rfl
                              rotate_left
                              · simp only [Act.put, List.setIfInBounds_toArray, List.set_cons_zero, List.set_cons_succ, i64_w, i32_w]
                                rfl
                              refine pure_ (i := 3) (N := some 97) (v := ?_) (a' := ?_) #[true, false, true, true, false, false, false, false, false, false, false, false, false, false, false, false, false, false] rfl rfl (any_of HT_.out (by kernel_rfl)) (fun _ _ _ h => h) (Or.inl ⟨by rfl, ?_⟩) ?_ ?_
                              rotate_left
                              · intro w'
                                go_simp
                                with_reducible rfl
                              rotate_left
                              · simp only [Act.put, List.setIfInBounds_toArray, List.set_cons_zero, List.set_cons_succ, i64_w, i32_w]
                                rfl
                              refine pure_ (i := 4) (N := some 98) (v := ?_) (a' := ?_) #[true, false, true, true, true, false, false, false, false, false, false, false, false, false, false, false, false, false] rfl rfl (any_of HT_.out (by kernel_rfl)) (fun _ _ _ h => h) (Or.inl ⟨by rfl, ?_⟩) ?_ ?_
                              rotate_left
                              · intro w'
                                go_simp
                                with_reducible rfl
                              rotate_left
                              · simp only [Act.put, List.setIfInBounds_toArray, List.set_cons_zero, List.set_cons_succ, i64_w, i32_w]
                                rfl
                              refine take_ (i := 1) (N := some 95) (v := ?_) (a' := ?_) #[true, true, true, true, true, false, false, false, false, false, false, false, false, false, false, false, false, false] rfl rfl (take_ofW HT_.out HW_.out (by kernel_rfl)) (fun _ _ _ h => h) (Or.inl ⟨by rfl, ?_⟩) hHeld ?_ ?_
                              rotate_left
                              · rintro w' ⟨s0, s1, s2, s3⟩
                                go_simp
                                with_reducible rfl
                              rotate_left
                              · simp only [Act.put, List.setIfInBounds_toArray, List.set_cons_zero, List.set_cons_succ, i64_w, i32_w]
                                rfl
                              refine one_ (i := 5) (N := some 99) #[true, true, true, true, true, true, false, false, false, false, false, false, false, false, false, false, false, false] rfl rfl (one_of HT_.out (by kernel_rfl)) (by decide) (fun K hK => ?_)
                              refine goes_ Try.func13 (by kernel_rfl) rfl #[.slice Ao22 x5_17.length co22, .string t348, .int .i64 t349] (by rfl) rfl rfl (by (try simp only [List.map_toArray, List.map_cons, List.map_nil]); first | done | rfl | (simp only [List.length_drop, List.length_take]; rfl)) ?_
                              with_reducible refine (spec_PlaceKey.calls kj17 _ _ x5_17 t348 t349 t381 t382 _ ?side1 ?side2 A52.out).mono ?_
                              (case side1 => repeat (first | exact (Kd.R_reads' HO_5.out).2.2 | (with_reducible refine Kd.C_alloc ?_ _) | (with_reducible refine Kd.C_drewN ?_ _) | (with_reducible refine Kd.C_drew ?_)))
                              (case side2 => exact (Kd.R_reads' HO_5.out).2.1)
                              rintro e w57 ⟨v383, rfl, ho0, hb⟩
                              refine ⟨_, rfl, ?_⟩
                              have n0_ := Aside0.mk (Kd.R_below (by (with_reducible repeat (first | apply Kd.R_alloc | apply Kd.R_drewN | apply Kd.R_drew)); exact HO_5.out) hb)
                              have n1_ := Aside0.mk (Kd.R_below (by (with_reducible repeat (first | apply Kd.R_alloc | apply Kd.R_drewN | apply Kd.R_drew)); exact HO_8.out) hb)
                              have n2_ := Aside0.mk (Kd.R_elder' (by (with_reducible repeat (first | apply Kd.R_alloc | apply Kd.R_drewN | apply Kd.R_drew)); exact HO374.out) (Kd.R_base ho0) hb)
                              have n3_ := Aside0.mk (Kd.R_elder' (by (with_reducible repeat (first | apply Kd.R_alloc | apply Kd.R_drewN | apply Kd.R_drew)); exact HO379.out) (Kd.R_base ho0) hb)
                              have n4_ := Aside0.mk (Kd.R_lower (Kd.R_new' (Kd.R_new' ho0 (Kd.R_lt (by (with_reducible repeat (first | apply Kd.R_alloc | apply Kd.R_drewN | apply Kd.R_drew)); exact HO374.out))) (Kd.R_lt (by (with_reducible repeat (first | apply Kd.R_alloc | apply Kd.R_drewN | apply Kd.R_drew)); exact HO379.out))) (below_size (by repeat (first | (with_reducible first | exact HB.out | apply below_alloc | apply pw_below_drewN | apply below_drew1 | refine below_set ?_ GE375.out | refine below_set ?_ GE380.out) | exact HB.out))))
                              have n5_ := Aside0.mk (blk_below (g := gb375) (o := .cells #[.int .i64 t371, .slice Ao45 t372.length co45] 28 (0, 0)) (by (with_reducible repeat (first | refine blk_drewN ?_ _ | refine blk_drew ?_ | refine blk_alloc ?_ _)); exact BK375.out) hb)
                              have n6_ := Aside0.mk (blk_below (g := gb380) (o := .cells #[.int .i64 t376, .slice Ao51 t377.length co51] 28 (0, 0)) (by (with_reducible repeat (first | refine blk_drewN ?_ _ | refine blk_drew ?_ | refine blk_alloc ?_ _)); exact BK380.out) hb)
                              have n7_ := Aside0.mk (below_step (by repeat (first | (with_reducible first | exact HB.out | apply below_alloc | apply pw_below_drewN | apply below_drew1 | refine below_set ?_ GE375.out | refine below_set ?_ GE380.out) | exact HB.out)) hb)
                              clear HO_5
                              clear HO_8
                              clear HO374
                              clear HO379
                              clear BK375
                              clear BK380
                              clear HB
                              have HO_5 := n0_
                              have HO_8 := n1_
                              have HO374 := n2_
                              have HO379 := n3_
                              have HO384 := n4_
                              have BK375 := n5_
                              have BK380 := n6_
                              have HB := n7_
                              clear n0_ n1_ n2_ n3_ n4_ n5_ n6_ n7_
                              (try clear hb)
                              (try clear hb2)
                              (try clear hk)
                              (try clear hi)
                              (try clear ho0)
                              refine hK.out _ _ ⟨(blk_cell BK375.out 0).trans rfl, (blk_cell BK375.out 1).trans rfl, (blk_cell BK380.out 0).trans rfl, (blk_cell BK380.out 1).trans rfl⟩ (fun hHeld => ?_)
                              clear hK K
                              refine norm_ (a' := ?_) ?_ ?_
                              rotate_left
                              · show Act.put _ (some 99) _ = _
                                simp only [Act.put, List.setIfInBounds_toArray, List.set_cons_zero, List.set_cons_succ, i64_w, i32_w]
                                rfl
                              refine pure_ (i := 6) (N := some 100) (v := ?_) (a' := ?_) #[true, true, true, true, true, true, true, false, false, false, false, false, false, false, false, false, false, false] rfl rfl (any_of HT_.out (by kernel_rfl)) (fun _ _ _ h => h) (Or.inl ⟨by rfl, ?_⟩) ?_ ?_
                              rotate_left
                              · intro w'
                                go_simp
                                with_reducible rfl
                              rotate_left
                              · simp only [Act.put, List.setIfInBounds_toArray, List.set_cons_zero, List.set_cons_succ, i64_w, i32_w]
                                rfl
                              refine pure_ (i := 7) (N := some 101) (v := ?_) (a' := ?_) #[true, true, true, true, true, true, true, true, false, false, false, false, false, false, false, false, false, false] rfl rfl (any_of HT_.out (by kernel_rfl)) (fun _ _ _ h => h) (Or.inl ⟨by rfl, ?_⟩) ?_ ?_
                              rotate_left
                              · intro w'
                                go_simp
                                with_reducible rfl
                              rotate_left
                              · simp only [Act.put, List.setIfInBounds_toArray, List.set_cons_zero, List.set_cons_succ, i64_w, i32_w]
                                rfl
                              refine pure_ (i := 8) (N := some 102) (v := ?_) (a' := ?_) #[true, true, true, true, true, true, true, true, true, false, false, false, false, false, false, false, false, false] rfl rfl (any_of HT_.out (by kernel_rfl)) (fun _ _ _ h => h) (Or.inl ⟨by rfl, ?_⟩) ?_ ?_
                              rotate_left
                              · intro w'
                                go_simp
                                with_reducible rfl
                              rotate_left
                              · simp only [Act.put, List.setIfInBounds_toArray, List.set_cons_zero, List.set_cons_succ, i64_w, i32_w]
                                rfl
                              refine pure_ (i := 9) (N := some 103) (v := ?_) (a' := ?_) #[true, true, true, true, true, true, true, true, true, true, false, false, false, false, false, false, false, false] rfl rfl (any_of HT_.out (by kernel_rfl)) (fun _ _ _ h => h) (Or.inl ⟨by rfl, ?_⟩) ?_ ?_
                              rotate_left
                              · intro w'
                                go_simp
                                with_reducible rfl
                              rotate_left
                              · simp only [Act.put, List.setIfInBounds_toArray, List.set_cons_zero, List.set_cons_succ, i64_w, i32_w]
                                rfl
                              refine pure_ (i := 11) (N := some 105) (v := ?_) (a' := ?_) #[true, true, true, true, true, true, true, true, true, true, false, true, false, false, false, false, false, false] rfl rfl (any_of HT_.out (by kernel_rfl)) (fun _ _ _ h => h) (Or.inl ⟨by rfl, ?_⟩) ?_ ?_
                              rotate_left
                              · intro w'
                                go_simp
                                with_reducible rfl
                              rotate_left
                              · simp only [Act.put, List.setIfInBounds_toArray, List.set_cons_zero, List.set_cons_succ, i64_w, i32_w]
                                rfl
                              refine pure_ (i := 12) (N := some 106) (v := ?_) (a' := ?_) #[true, true, true, true, true, true, true, true, true, true, false, true, true, false, false, false, false, false] rfl rfl (any_of HT_.out (by kernel_rfl)) (fun _ _ _ h => h) (Or.inl ⟨by rfl, ?_⟩) ?_ ?_
                              rotate_left
                              · intro w'
                                go_simp
                                with_reducible rfl
                              rotate_left
                              · simp only [Act.put, List.setIfInBounds_toArray, List.set_cons_zero, List.set_cons_succ, i64_w, i32_w]
                                rfl
                              refine pure_ (i := 13) (N := some 107) (v := ?_) (a' := ?_) #[true, true, true, true, true, true, true, true, true, true, false, true, true, true, false, false, false, false] rfl rfl (any_of HT_.out (by kernel_rfl)) (fun _ _ _ h => h) (Or.inl ⟨by rfl, ?_⟩) ?_ ?_
                              rotate_left
                              · intro w'
                                go_simp
                                with_reducible rfl
                              rotate_left
                              · simp only [Act.put, List.setIfInBounds_toArray, List.set_cons_zero, List.set_cons_succ, i64_w, i32_w]
                                rfl
                              refine take_ (i := 10) (N := some 104) (v := ?_) (a' := ?_) #[true, true, true, true, true, true, true, true, true, true, true, true, true, true, false, false, false, false] rfl rfl (take_ofW HT_.out HW_.out (by kernel_rfl)) (fun _ _ _ h => h) (Or.inl ⟨by rfl, ?_⟩) hHeld ?_ ?_
                              rotate_left
                              · rintro w' ⟨s0, s1, s2, s3⟩
                                go_simp
                                with_reducible rfl
                              rotate_left
                              · simp only [Act.put, List.setIfInBounds_toArray, List.set_cons_zero, List.set_cons_succ, i64_w, i32_w]
                                rfl
                              refine one_ (i := 14) (N := some 108) #[true, true, true, true, true, true, true, true, true, true, true, true, true, true, true, false, false, false] rfl rfl (one_of HT_.out (by kernel_rfl)) (by decide) (fun K hK => ?_)
                              refine goes_ Try.func13 (by kernel_rfl) rfl #[.slice Ao46 x8_17.length co46, .string t348, .int .i64 t349] (by rfl) rfl rfl (by (try simp only [List.map_toArray, List.map_cons, List.map_nil]); first | done | rfl | (simp only [List.length_drop, List.length_take]; rfl)) ?_
                              with_reducible refine (spec_PlaceKey.calls kj17 _ _ x8_17 t348 t349 t385 t386 _ ?side1 ?side2 A54.out).mono ?_
                              (case side1 => repeat (first | exact (Kd.R_reads' HO_8.out).2.2 | (with_reducible refine Kd.C_alloc ?_ _) | (with_reducible refine Kd.C_drewN ?_ _) | (with_reducible refine Kd.C_drew ?_)))
                              (case side2 => exact (Kd.R_reads' HO_8.out).2.1)
                              rintro e w58 ⟨v387, rfl, ho0, hb⟩
                              refine ⟨_, rfl, ?_⟩
                              have n0_ := Aside0.mk (Kd.R_below (by (with_reducible repeat (first | apply Kd.R_alloc | apply Kd.R_drewN | apply Kd.R_drew)); exact HO_5.out) hb)
                              have n1_ := Aside0.mk (Kd.R_below (by (with_reducible repeat (first | apply Kd.R_alloc | apply Kd.R_drewN | apply Kd.R_drew)); exact HO_8.out) hb)
                              have n2_ := Aside0.mk (Kd.R_elder' (by (with_reducible repeat (first | apply Kd.R_alloc | apply Kd.R_drewN | apply Kd.R_drew)); exact HO374.out) (Kd.R_base ho0) hb)
                              have n3_ := Aside0.mk (Kd.R_elder' (by (with_reducible repeat (first | apply Kd.R_alloc | apply Kd.R_drewN | apply Kd.R_drew)); exact HO379.out) (Kd.R_base ho0) hb)
                              have n4_ := Aside0.mk (Kd.R_elder' (by (with_reducible repeat (first | apply Kd.R_alloc | apply Kd.R_drewN | apply Kd.R_drew)); exact HO384.out) (Kd.R_base ho0) hb)
                              have n5_ := Aside0.mk (Kd.R_lower (Kd.R_new' (Kd.R_new' (Kd.R_new' ho0 (Kd.R_lt (by (with_reducible repeat (first | apply Kd.R_alloc | apply Kd.R_drewN | apply Kd.R_drew)); exact HO374.out))) (Kd.R_lt (by (with_reducible repeat (first | apply Kd.R_alloc | apply Kd.R_drewN | apply Kd.R_drew)); exact HO379.out))) (Kd.R_lt (by (with_reducible repeat (first | apply Kd.R_alloc | apply Kd.R_drewN | apply Kd.R_drew)); exact HO384.out))) (below_size (by repeat (first | (with_reducible first | exact HB.out | apply below_alloc | apply pw_below_drewN | apply below_drew1 | refine below_set ?_ GE375.out | refine below_set ?_ GE380.out) | exact HB.out))))
                              have n6_ := Aside0.mk (blk_below (g := gb375) (o := .cells #[.int .i64 t371, .slice Ao45 t372.length co45] 28 (0, 0)) (by (with_reducible repeat (first | refine blk_drewN ?_ _ | refine blk_drew ?_ | refine blk_alloc ?_ _)); exact BK375.out) hb)
                              have n7_ := Aside0.mk (blk_below (g := gb380) (o := .cells #[.int .i64 t376, .slice Ao51 t377.length co51] 28 (0, 0)) (by (with_reducible repeat (first | refine blk_drewN ?_ _ | refine blk_drew ?_ | refine blk_alloc ?_ _)); exact BK380.out) hb)
                              have n8_ := Aside0.mk (below_step (by repeat (first | (with_reducible first | exact HB.out | apply below_alloc | apply pw_below_drewN | apply below_drew1 | refine below_set ?_ GE375.out | refine below_set ?_ GE380.out) | exact HB.out)) hb)
                              clear HO_5
                              clear HO_8
                              clear HO374
                              clear HO379
                              clear HO384
                              clear BK375
                              clear BK380
                              clear HB
                              have HO_5 := n0_
                              have HO_8 := n1_
                              have HO374 := n2_
                              have HO379 := n3_
                              have HO384 := n4_
                              have HO388 := n5_
                              have BK375 := n6_
                              have BK380 := n7_
                              have HB := n8_
                              clear n0_ n1_ n2_ n3_ n4_ n5_ n6_ n7_ n8_
                              (try clear hb)
                              (try clear hb2)
                              (try clear hk)
                              (try clear hi)
                              (try clear ho0)
                              refine hK.out _ _ ⟨(blk_cell BK375.out 0).trans rfl, (blk_cell BK375.out 1).trans rfl, (blk_cell BK380.out 0).trans rfl, (blk_cell BK380.out 1).trans rfl⟩ (fun hHeld => ?_)
                              clear hK K
                              refine norm_ (a' := ?_) ?_ ?_
                              rotate_left
                              · show Act.put _ (some 108) _ = _
                                simp only [Act.put, List.setIfInBounds_toArray, List.set_cons_zero, List.set_cons_succ, i64_w, i32_w]
                                rfl
                              refine pure_ (i := 15) (N := some 109) (v := ?_) (a' := ?_) #[true, true, true, true, true, true, true, true, true, true, true, true, true, true, true, true, false, false] rfl rfl (any_of HT_.out (by kernel_rfl)) (fun _ _ _ h => h) (Or.inl ⟨by rfl, ?_⟩) ?_ ?_
                              rotate_left
                              · intro w'
                                go_simp
                                with_reducible rfl
                              rotate_left
                              · simp only [Act.put, List.setIfInBounds_toArray, List.set_cons_zero, List.set_cons_succ, i64_w, i32_w]
                                rfl
                              refine pure_ (i := 16) (N := some 110) (v := ?_) (a' := ?_) #[true, true, true, true, true, true, true, true, true, true, true, true, true, true, true, true, true, false] rfl rfl (any_of HT_.out (by kernel_rfl)) (fun _ _ _ h => h) (Or.inl ⟨by rfl, ?_⟩) ?_ ?_
                              rotate_left
                              · intro w'
                                go_simp
                                with_reducible rfl
                              rotate_left
                              · simp only [Act.put, List.setIfInBounds_toArray, List.set_cons_zero, List.set_cons_succ, i64_w, i32_w]
                                rfl
                              refine pure_ (i := 17) (N := some 111) (v := ?_) (a' := ?_) #[true, true, true, true, true, true, true, true, true, true, true, true, true, true, true, true, true, true] rfl rfl (any_of HT_.out (by kernel_rfl)) (fun _ _ _ h => h) (Or.inl ⟨by rfl, ?_⟩) ?_ ?_
                              rotate_left
                              · intro w'
                                go_simp
                                with_reducible rfl
                              rotate_left
                              · simp only [Act.put, List.setIfInBounds_toArray, List.set_cons_zero, List.set_cons_succ, i64_w, i32_w]
                                rfl
                              refine done_ (done_of HT_.out (by kernel_rfl)) ?_
                              try go_wp2
                              go_meet
                              case rel => exact ⟨_, ((t376 != t385)), (by first | rfl | (simp; done) | (simp [*]; done)), H', ⟨by have := HJ2.out; have := HJ6.out; have := HJ17.out; first | omega | exact Nat.le_refl _⟩, ⟨by (try simp only [hl5_17]); (with_reducible repeat (first | apply Kd.R_alloc | apply Kd.R_drewN | apply Kd.R_drew)); exact HO_5.out⟩, ⟨by (try simp only [hl5_17]); (with_reducible repeat (first | apply Kd.R_alloc | apply Kd.R_drewN | apply Kd.R_drew)); exact HO_8.out⟩, ⟨by (try simp only [hl5_17]); (with_reducible repeat (first | apply Kd.R_alloc | apply Kd.R_drewN | apply Kd.R_drew)); exact Kd.R_mono HO374.out (fun _ hk => hk.1.1)⟩, ⟨by (try simp only [hl5_17]); (with_reducible repeat (first | apply Kd.R_alloc | apply Kd.R_drewN | apply Kd.R_drew)); exact Kd.R_mono HO379.out (fun _ hk => hk.1.1)⟩, ⟨by (try simp only [hl5_17]); (with_reducible repeat (first | refine blk_drewN ?_ _ | refine blk_drew ?_ | refine blk_alloc ?_ _)); exact BK375.out⟩, ⟨by (try simp only [hl5_17]); (with_reducible repeat (first | refine blk_drewN ?_ _ | refine blk_drew ?_ | refine blk_alloc ?_ _)); exact BK380.out⟩, ⟨by repeat (first | (with_reducible first | exact HB.out | apply below_alloc | apply pw_below_drewN | apply below_drew1 | refine below_set ?_ GE375.out | refine below_set ?_ GE380.out) | exact HB.out)⟩⟩
                            · rw [if_neg c53] at H
                              have c53b0 : (t371 == t381) = false := beq_eq_false_iff_ne.mpr c53
                              have c53b1 : (t371 != t381) = true := bne_iff_ne.mpr c53
                              (first | rw [c53b0] | (simp only [i64_w, i32_w]; rw [c53b0]) | skip)
                              have H' := Aside0.mk H
                              clear H
                              try go_wp2
                              have n0_ : Aside0 (Kd.R k32 32 ((w48.setCell ⟨gb380, 0, none⟩ (.int .i64 t376)).setCell ⟨gb380, 1, none⟩ (.slice Ao51 t377.length co51)) w.heap.size (fun k_ => some k_ ≠ (.slice Ao46 x8_17.length co46 : Value).ownBlock) (.slice Ao22 x5_17.length co22) x5_17) := ⟨by (with_reducible repeat (first | apply Kd.R_alloc | apply Kd.R_drewN | apply Kd.R_drew)); exact Kd.R_mono (Kd.R_far (p := ⟨gb380, 1, none⟩) (Kd.R_far (p := ⟨gb380, 0, none⟩) (Kd.R_types HO_5.out BK380.out (by decide)) (fun _ hk => hk.2) (.int .i64 t376)) (fun _ hk => hk.2) (.slice Ao51 t377.length co51)) (fun _ hk => hk.1)⟩
                              have n1_ : Aside0 (Kd.R k32 32 ((w48.setCell ⟨gb380, 0, none⟩ (.int .i64 t376)).setCell ⟨gb380, 1, none⟩ (.slice Ao51 t377.length co51)) w.heap.size (fun k_ => some k_ ≠ (.slice Ao22 x5_17.length co22 : Value).ownBlock) (.slice Ao46 x8_17.length co46) x8_17) := ⟨by (with_reducible repeat (first | apply Kd.R_alloc | apply Kd.R_drewN | apply Kd.R_drew)); exact Kd.R_mono (Kd.R_far (p := ⟨gb380, 1, none⟩) (Kd.R_far (p := ⟨gb380, 0, none⟩) (Kd.R_types HO_8.out BK380.out (by decide)) (fun _ hk => hk.2) (.int .i64 t376)) (fun _ hk => hk.2) (.slice Ao51 t377.length co51)) (fun _ hk => hk.1)⟩
                              have n2_ : Aside0 (Kd.R (Kd.int .i64) 2 ((w48.setCell ⟨gb380, 0, none⟩ (.int .i64 t376)).setCell ⟨gb380, 1, none⟩ (.slice Ao51 t377.length co51)) w.heap.size (fun k_ => some k_ ≠ (.slice Ao51 t377.length co51 : Value).ownBlock) (.slice Ao45 t372.length co45) t372) := ⟨by (with_reducible repeat (first | apply Kd.R_alloc | apply Kd.R_drewN | apply Kd.R_drew)); exact Kd.R_mono (Kd.R_far (p := ⟨gb380, 1, none⟩) (Kd.R_far (p := ⟨gb380, 0, none⟩) (Kd.R_types HO374.out BK380.out (by decide)) (fun _ hk => hk.2) (.int .i64 t376)) (fun _ hk => hk.2) (.slice Ao51 t377.length co51)) (fun _ hk => hk.1.2)⟩
                              have n3_ : Aside0 (Kd.R (Kd.int .i64) 2 ((w48.setCell ⟨gb380, 0, none⟩ (.int .i64 t376)).setCell ⟨gb380, 1, none⟩ (.slice Ao51 t377.length co51)) w.heap.size (fun k_ => some k_ ≠ (.slice Ao45 t372.length co45 : Value).ownBlock) (.slice Ao51 t377.length co51) t377) := ⟨by (with_reducible repeat (first | apply Kd.R_alloc | apply Kd.R_drewN | apply Kd.R_drew)); exact Kd.R_mono (Kd.R_far (p := ⟨gb380, 1, none⟩) (Kd.R_far (p := ⟨gb380, 0, none⟩) (Kd.R_types HO379.out BK380.out (by decide)) (fun _ hk => hk.2) (.int .i64 t376)) (fun _ hk => hk.2) (.slice Ao51 t377.length co51)) (fun _ hk => hk.1.2)⟩
                              have n4_ : Aside0 (((w48.setCell ⟨gb380, 0, none⟩ (.int .i64 t376)).setCell ⟨gb380, 1, none⟩ (.slice Ao51 t377.length co51)).heap[gb375]? = some (.cells #[.int .i64 t371, .slice Ao45 t372.length co45] 28 (0, 0))) := ⟨by (with_reducible repeat (first | refine blk_drewN ?_ _ | refine blk_drew ?_ | refine blk_alloc ?_ _)); refine blk_far ?_ NB375_380.out _; (with_reducible repeat (first | refine blk_drewN ?_ _ | refine blk_drew ?_ | refine blk_alloc ?_ _)); refine blk_far ?_ NB375_380.out _; (with_reducible repeat (first | refine blk_drewN ?_ _ | refine blk_drew ?_ | refine blk_alloc ?_ _)); exact BK375.out⟩
                              have n5_ : Aside0 (((w48.setCell ⟨gb380, 0, none⟩ (.int .i64 t376)).setCell ⟨gb380, 1, none⟩ (.slice Ao51 t377.length co51)).heap[gb380]? = some (.cells #[.int .i64 t376, .slice Ao51 t377.length co51] 28 (0, 0))) := ⟨by (with_reducible repeat (first | refine blk_drewN ?_ _ | refine blk_drew ?_ | refine blk_alloc ?_ _)); refine blk_put (cs := #[.int .i64 t376, .slice none 0 0]) ?_ 1 _ rfl; (with_reducible repeat (first | refine blk_drewN ?_ _ | refine blk_drew ?_ | refine blk_alloc ?_ _)); refine blk_put (cs := #[.int .i64 0, .slice none 0 0]) ?_ 0 _ rfl; (with_reducible repeat (first | refine blk_drewN ?_ _ | refine blk_drew ?_ | refine blk_alloc ?_ _)); exact BK380.out⟩
                              have n6_ : Aside0 (Below w.heap.size w ((w48.setCell ⟨gb380, 0, none⟩ (.int .i64 t376)).setCell ⟨gb380, 1, none⟩ (.slice Ao51 t377.length co51))) := ⟨by repeat (first | (with_reducible first | exact HB.out | apply below_alloc | apply pw_below_drewN | apply below_drew1 | refine below_set ?_ GE375.out | refine below_set ?_ GE380.out) | exact HB.out)⟩
                              (try clear HO_5)
                              (try clear HO_8)
                              (try clear HO374)
                              (try clear HO379)
                              (try clear BK375)
                              (try clear BK380)
                              (try clear HB)
                              generalize ((w48.setCell ⟨gb380, 0, none⟩ (.int .i64 t376)).setCell ⟨gb380, 1, none⟩ (.slice Ao51 t377.length co51)) = w59 at n0_ n1_ n2_ n3_ n4_ n5_ n6_ ⊢
                              have HO_5 := n0_
                              have HO_8 := n1_
                              have HO374 := n2_
                              have HO379 := n3_
                              have BK375 := n4_
                              have BK380 := n5_
                              have HB := n6_
                              clear n0_ n1_ n2_ n3_ n4_ n5_ n6_
                              have n0_ := Aside0.mk (Kd.R_drew HO_5.out)
                              have n1_ := Aside0.mk (Kd.R_drew HO_8.out)
                              have n2_ := Aside0.mk (Kd.R_drew HO374.out)
                              have n3_ := Aside0.mk (Kd.R_drew HO379.out)
                              have n4_ := Aside0.mk (blk_drew BK375.out)
                              have n5_ := Aside0.mk (blk_drew BK380.out)
                              have n6_ := Aside0.mk (below_drew1 HB.out)
                              clear HO_5
                              clear HO_8
                              clear HO374
                              clear HO379
                              clear BK375
                              clear BK380
                              clear HB
                              have HO_5 := n0_
                              have HO_8 := n1_
                              have HO374 := n2_
                              have HO379 := n3_
                              have BK375 := n4_
                              have BK380 := n5_
                              have HB := n6_
                              clear n0_ n1_ n2_ n3_ n4_ n5_ n6_
                              refine start_ (n := 18) (S := fun w' => w'.cell? ⟨gb375, 0, none⟩ = some (.int .i64 t371) ∧ w'.cell? ⟨gb375, 1, none⟩ = some (.slice Ao45 t372.length co45)) (ds := []) #[false, false, false, false, false, false, false, false, false, false, false, false, false, false, false, false, false, false] (by kernel_rfl) rfl rfl ⟨(blk_cell BK375.out 0).trans rfl, (blk_cell BK375.out 1).trans rfl⟩ (fun hHeld => ?_); refine with_tabW laws_FnMoves.tab15 laws_FnMoves.bits15 (fun HT_ HW_ => ?_)
                              generalize w59.drew = w60 at HO_5 HO_8 HO374 HO379 BK375 BK380 HB hHeld ⊢
                              refine pure_ (i := 0) (N := some 94) (v := ?_) (a' := ?_) #[true, false, false, false, false, false, false, false, false, false, false, false, false, false, false, false, false, false] rfl rfl (any_of HT_.out (by kernel_rfl)) (fun _ _ _ h => h) (Or.inl ⟨by rfl, ?_⟩) ?_ ?_
                              rotate_left
                              · intro w'
                                go_simp
                                with_reducible rfl
                              rotate_left
                              · simp only [Act.put, List.setIfInBounds_toArray, List.set_cons_zero, List.set_cons_succ, i64_w, i32_w]
                                rfl
                              refine pure_ (i := 2) (N := some 96) (v := ?_) (a' := ?_) #[true, false, true, false, false, false, false, false, false, false, false, false, false, false, false, false, false, false] rfl rfl (any_of HT_.out (by kernel_rfl)) (fun _ _ _ h => h) (Or.inl ⟨by rfl, ?_⟩) ?_ ?_
                              rotate_left
                              · intro w'
                                go_simp
                                with_reducible rfl
                              rotate_left
                              · simp only [Act.put, List.setIfInBounds_toArray, List.set_cons_zero, List.set_cons_succ, i64_w, i32_w]
                                rfl
                              refine pure_ (i := 3) (N := some 97) (v := ?_) (a' := ?_) #[true, false, true, true, false, false, false, false, false, false, false, false, false, false, false, false, false, false] rfl rfl (any_of HT_.out (by kernel_rfl)) (fun _ _ _ h => h) (Or.inl ⟨by rfl, ?_⟩) ?_ ?_
                              rotate_left
                              · intro w'
                                go_simp
                                with_reducible rfl
                              rotate_left
                              · simp only [Act.put, List.setIfInBounds_toArray, List.set_cons_zero, List.set_cons_succ, i64_w, i32_w]
                                rfl
                              refine pure_ (i := 4) (N := some 98) (v := ?_) (a' := ?_) #[true, false, true, true, true, false, false, false, false, false, false, false, false, false, false, false, false, false] rfl rfl (any_of HT_.out (by kernel_rfl)) (fun _ _ _ h => h) (Or.inl ⟨by rfl, ?_⟩) ?_ ?_
                              rotate_left
                              · intro w'
                                go_simp
                                with_reducible rfl
                              rotate_left
                              · simp only [Act.put, List.setIfInBounds_toArray, List.set_cons_zero, List.set_cons_succ, i64_w, i32_w]
                                rfl
                              refine take_ (i := 1) (N := some 95) (v := ?_) (a' := ?_) #[true, true, true, true, true, false, false, false, false, false, false, false, false, false, false, false, false, false] rfl rfl (take_ofW HT_.out HW_.out (by kernel_rfl)) (fun _ _ _ h => h) (Or.inl ⟨by rfl, ?_⟩) hHeld ?_ ?_
                              rotate_left
                              · rintro w' ⟨s0, s1⟩
                                go_simp
                                with_reducible rfl
                              rotate_left
                              · simp only [Act.put, List.setIfInBounds_toArray, List.set_cons_zero, List.set_cons_succ, i64_w, i32_w]
                                rfl
                              refine one_ (i := 5) (N := some 99) #[true, true, true, true, true, true, false, false, false, false, false, false, false, false, false, false, false, false] rfl rfl (one_of HT_.out (by kernel_rfl)) (by decide) (fun K hK => ?_)
                              refine goes_ Try.func13 (by kernel_rfl) rfl #[.slice Ao22 x5_17.length co22, .string t348, .int .i64 t349] (by rfl) rfl rfl (by (try simp only [List.map_toArray, List.map_cons, List.map_nil]); first | done | rfl | (simp only [List.length_drop, List.length_take]; rfl)) ?_
                              with_reducible refine (spec_PlaceKey.calls kj17 _ _ x5_17 t348 t349 t381 t382 _ ?side1 ?side2 A52.out).mono ?_
                              (case side1 => repeat (first | exact (Kd.R_reads' HO_5.out).2.2 | (with_reducible refine Kd.C_alloc ?_ _) | (with_reducible refine Kd.C_drewN ?_ _) | (with_reducible refine Kd.C_drew ?_)))
                              (case side2 => exact (Kd.R_reads' HO_5.out).2.1)
                              rintro e w61 ⟨v383, rfl, ho0, hb⟩
                              refine ⟨_, rfl, ?_⟩
                              have n0_ := Aside0.mk (Kd.R_below (by (with_reducible repeat (first | apply Kd.R_alloc | apply Kd.R_drewN | apply Kd.R_drew)); exact HO_5.out) hb)
                              have n1_ := Aside0.mk (Kd.R_below (by (with_reducible repeat (first | apply Kd.R_alloc | apply Kd.R_drewN | apply Kd.R_drew)); exact HO_8.out) hb)
                              have n2_ := Aside0.mk (Kd.R_elder' (by (with_reducible repeat (first | apply Kd.R_alloc | apply Kd.R_drewN | apply Kd.R_drew)); exact HO374.out) (Kd.R_base ho0) hb)
                              have n3_ := Aside0.mk (Kd.R_elder' (by (with_reducible repeat (first | apply Kd.R_alloc | apply Kd.R_drewN | apply Kd.R_drew)); exact HO379.out) (Kd.R_base ho0) hb)
                              have n4_ := Aside0.mk (Kd.R_lower (Kd.R_new' (Kd.R_new' ho0 (Kd.R_lt (by (with_reducible repeat (first | apply Kd.R_alloc | apply Kd.R_drewN | apply Kd.R_drew)); exact HO374.out))) (Kd.R_lt (by (with_reducible repeat (first | apply Kd.R_alloc | apply Kd.R_drewN | apply Kd.R_drew)); exact HO379.out))) (below_size (by repeat (first | (with_reducible first | exact HB.out | apply below_alloc | apply pw_below_drewN | apply below_drew1 | refine below_set ?_ GE375.out | refine below_set ?_ GE380.out) | exact HB.out))))
                              have n5_ := Aside0.mk (blk_below (g := gb375) (o := .cells #[.int .i64 t371, .slice Ao45 t372.length co45] 28 (0, 0)) (by (with_reducible repeat (first | refine blk_drewN ?_ _ | refine blk_drew ?_ | refine blk_alloc ?_ _)); exact BK375.out) hb)
                              have n6_ := Aside0.mk (blk_below (g := gb380) (o := .cells #[.int .i64 t376, .slice Ao51 t377.length co51] 28 (0, 0)) (by (with_reducible repeat (first | refine blk_drewN ?_ _ | refine blk_drew ?_ | refine blk_alloc ?_ _)); exact BK380.out) hb)
                              have n7_ := Aside0.mk (below_step (by repeat (first | (with_reducible first | exact HB.out | apply below_alloc | apply pw_below_drewN | apply below_drew1 | refine below_set ?_ GE375.out | refine below_set ?_ GE380.out) | exact HB.out)) hb)
                              clear HO_5
                              clear HO_8
                              clear HO374
                              clear HO379
                              clear BK375
                              clear BK380
                              clear HB
                              have HO_5 := n0_
                              have HO_8 := n1_
                              have HO374 := n2_
                              have HO379 := n3_
                              have HO384 := n4_
                              have BK375 := n5_
                              have BK380 := n6_
                              have HB := n7_
                              clear n0_ n1_ n2_ n3_ n4_ n5_ n6_ n7_
                              (try clear hb)
                              (try clear hb2)
                              (try clear hk)
                              (try clear hi)
                              (try clear ho0)
                              refine hK.out _ _ ⟨(blk_cell BK375.out 0).trans rfl, (blk_cell BK375.out 1).trans rfl⟩ (fun hHeld => ?_)
                              clear hK K
                              refine norm_ (a' := ?_) ?_ ?_
                              rotate_left
                              · show Act.put _ (some 99) _ = _
                                simp only [Act.put, List.setIfInBounds_toArray, List.set_cons_zero, List.set_cons_succ, i64_w, i32_w]
                                rfl
                              refine pure_ (i := 6) (N := some 100) (v := ?_) (a' := ?_) #[true, true, true, true, true, true, true, false, false, false, false, false, false, false, false, false, false, false] rfl rfl (any_of HT_.out (by kernel_rfl)) (fun _ _ _ h => h) (Or.inl ⟨by rfl, ?_⟩) ?_ ?_
                              rotate_left
                              · intro w'
                                go_simp
                                with_reducible rfl
                              rotate_left
                              · simp only [Act.put, List.setIfInBounds_toArray, List.set_cons_zero, List.set_cons_succ, i64_w, i32_w]
                                rfl
                              refine pure_ (i := 7) (N := some 101) (v := ?_) (a' := ?_) #[true, true, true, true, true, true, true, true, false, false, false, false, false, false, false, false, false, false] rfl rfl (any_of HT_.out (by kernel_rfl)) (fun _ _ _ h => h) (Or.inl ⟨by rfl, ?_⟩) ?_ ?_
                              rotate_left
                              · intro w'
                                go_simp
                                with_reducible rfl
                              rotate_left
                              · simp only [Act.put, List.setIfInBounds_toArray, List.set_cons_zero, List.set_cons_succ, i64_w, i32_w]
                                rfl
                              refine pure_ (i := 8) (N := some 102) (v := ?_) (a' := ?_) #[true, true, true, true, true, true, true, true, true, false, false, false, false, false, false, false, false, false] rfl rfl (any_of HT_.out (by kernel_rfl)) (fun _ _ _ h => h) (Or.inl ⟨by rfl, ?_⟩) ?_ ?_
                              rotate_left
                              · intro w'
                                go_simp
                                with_reducible rfl
                              rotate_left
                              · simp only [Act.put, List.setIfInBounds_toArray, List.set_cons_zero, List.set_cons_succ, i64_w, i32_w]
                                rfl
                              refine pure_ (i := 9) (N := some 103) (v := undef) (a' := ?_) #[true, true, true, true, true, true, true, true, true, true, false, false, false, false, false, false, false, false] rfl rfl (any_of HT_.out (by kernel_rfl)) (fun _ _ _ h => h) (Or.inr ⟨by rfl, rfl⟩) ?_ ?_
                              rotate_left
                              · simp only [Act.put, List.setIfInBounds_toArray, List.set_cons_zero, List.set_cons_succ, i64_w, i32_w]
                                rfl
                              refine pure_ (i := 10) (N := some 104) (v := undef) (a' := ?_) #[true, true, true, true, true, true, true, true, true, true, true, false, false, false, false, false, false, false] rfl rfl (any_of HT_.out (by kernel_rfl)) (fun _ _ _ h => h) (Or.inr ⟨by rfl, rfl⟩) ?_ ?_
                              rotate_left
                              · simp only [Act.put, List.setIfInBounds_toArray, List.set_cons_zero, List.set_cons_succ, i64_w, i32_w]
                                rfl
                              refine pure_ (i := 11) (N := some 105) (v := undef) (a' := ?_) #[true, true, true, true, true, true, true, true, true, true, true, true, false, false, false, false, false, false] rfl rfl (any_of HT_.out (by kernel_rfl)) (fun _ _ _ h => h) (Or.inr ⟨by rfl, rfl⟩) ?_ ?_
                              rotate_left
                              · simp only [Act.put, List.setIfInBounds_toArray, List.set_cons_zero, List.set_cons_succ, i64_w, i32_w]
                                rfl
                              refine pure_ (i := 12) (N := some 106) (v := undef) (a' := ?_) #[true, true, true, true, true, true, true, true, true, true, true, true, true, false, false, false, false, false] rfl rfl (any_of HT_.out (by kernel_rfl)) (fun _ _ _ h => h) (Or.inr ⟨by rfl, rfl⟩) ?_ ?_
                              rotate_left
                              · simp only [Act.put, List.setIfInBounds_toArray, List.set_cons_zero, List.set_cons_succ, i64_w, i32_w]
                                rfl
                              refine pure_ (i := 13) (N := some 107) (v := undef) (a' := ?_) #[true, true, true, true, true, true, true, true, true, true, true, true, true, true, false, false, false, false] rfl rfl (any_of HT_.out (by kernel_rfl)) (fun _ _ _ h => h) (Or.inr ⟨by rfl, rfl⟩) ?_ ?_
                              rotate_left
                              · simp only [Act.put, List.setIfInBounds_toArray, List.set_cons_zero, List.set_cons_succ, i64_w, i32_w]
                                rfl
                              refine pure_ (i := 14) (N := some 108) (v := undef) (a' := ?_) #[true, true, true, true, true, true, true, true, true, true, true, true, true, true, true, false, false, false] rfl rfl (any_of HT_.out (by kernel_rfl)) (fun _ _ _ h => h) (Or.inr ⟨by rfl, rfl⟩) ?_ ?_
                              rotate_left
                              · simp only [Act.put, List.setIfInBounds_toArray, List.set_cons_zero, List.set_cons_succ, i64_w, i32_w]
                                rfl
                              refine pure_ (i := 15) (N := some 109) (v := undef) (a' := ?_) #[true, true, true, true, true, true, true, true, true, true, true, true, true, true, true, true, false, false] rfl rfl (any_of HT_.out (by kernel_rfl)) (fun _ _ _ h => h) (Or.inr ⟨by rfl, rfl⟩) ?_ ?_
                              rotate_left
                              · simp only [Act.put, List.setIfInBounds_toArray, List.set_cons_zero, List.set_cons_succ, i64_w, i32_w]
                                rfl
                              refine pure_ (i := 16) (N := some 110) (v := undef) (a' := ?_) #[true, true, true, true, true, true, true, true, true, true, true, true, true, true, true, true, true, false] rfl rfl (any_of HT_.out (by kernel_rfl)) (fun _ _ _ h => h) (Or.inr ⟨by rfl, rfl⟩) ?_ ?_
                              rotate_left
                              · simp only [Act.put, List.setIfInBounds_toArray, List.set_cons_zero, List.set_cons_succ, i64_w, i32_w]
                                rfl
                              refine pure_ (i := 17) (N := some 111) (v := ?_) (a' := ?_) #[true, true, true, true, true, true, true, true, true, true, true, true, true, true, true, true, true, true] rfl rfl (any_of HT_.out (by kernel_rfl)) (fun _ _ _ h => h) (Or.inl ⟨by rfl, ?_⟩) ?_ ?_
                              rotate_left
                              · intro w'
                                go_simp
                                with_reducible rfl
                              rotate_left
                              · simp only [Act.put, List.setIfInBounds_toArray, List.set_cons_zero, List.set_cons_succ, i64_w, i32_w]
                                rfl
                              refine done_ (done_of HT_.out (by kernel_rfl)) ?_
                              try go_wp2
                              go_meet
                              case rel => exact ⟨_, (true), (by first | rfl | (simp; done) | (simp [*]; done)), H', ⟨by have := HJ2.out; have := HJ6.out; have := HJ17.out; first | omega | exact Nat.le_refl _⟩, ⟨by (try simp only [hl5_17]); (with_reducible repeat (first | apply Kd.R_alloc | apply Kd.R_drewN | apply Kd.R_drew)); exact HO_5.out⟩, ⟨by (try simp only [hl5_17]); (with_reducible repeat (first | apply Kd.R_alloc | apply Kd.R_drewN | apply Kd.R_drew)); exact HO_8.out⟩, ⟨by (try simp only [hl5_17]); (with_reducible repeat (first | apply Kd.R_alloc | apply Kd.R_drewN | apply Kd.R_drew)); exact Kd.R_mono HO374.out (fun _ hk => hk.1)⟩, ⟨by (try simp only [hl5_17]); (with_reducible repeat (first | apply Kd.R_alloc | apply Kd.R_drewN | apply Kd.R_drew)); exact Kd.R_mono HO379.out (fun _ hk => hk.1)⟩, ⟨by (try simp only [hl5_17]); (with_reducible repeat (first | refine blk_drewN ?_ _ | refine blk_drew ?_ | refine blk_alloc ?_ _)); exact BK375.out⟩, ⟨by (try simp only [hl5_17]); (with_reducible repeat (first | refine blk_drewN ?_ _ | refine blk_drew ?_ | refine blk_alloc ?_ _)); exact BK380.out⟩, ⟨by repeat (first | (with_reducible first | exact HB.out | apply below_alloc | apply pw_below_drewN | apply below_drew1 | refine below_set ?_ GE375.out | refine below_set ?_ GE380.out) | exact HB.out)⟩⟩
                        case rest =>
                          as_aux_lemma =>
                            clear HC41
                            try clear c1
                            try clear c2
                            try clear p2
                            try clear c3
                            try clear p3
                            try clear q3
                            try clear hx3
                            try clear hf3
                            try clear c4
                            try clear c4b0
                            try clear c4b1
                            try clear c5
                            try clear c6
                            try clear p6
                            try clear c10
                            try clear c10b0
                            try clear c10b1
                            try clear c11
                            try clear c12
                            try clear c13
                            try clear c14
                            try clear c16
                            try clear c16b0
                            try clear c16b1
                            try clear c16b2
                            try clear c23
                            try clear c23b0
                            try clear c23b1
                            try clear c26
                            try clear c28
                            try clear c29
                            try clear c29b0
                            try clear c30
                            try clear c30b0
                            try clear c31
                            try clear c31b0
                            try clear c33
                            try clear c33b0
                            try clear c33b1
                            try clear c34
                            try clear p34
                            try clear q34
                            try clear hx34
                            try clear hf34
                            try clear p36
                            try clear q36
                            try clear hx36
                            try clear c37
                            try clear c49
                            try clear c53
                            try clear c53b0
                            try clear c53b1
                            try clear hcz44_0
                            try clear hcz44_1
                            try clear hcz50_0
                            try clear hcz50_1
                            try clear hfz44_0
                            try clear hfz44_1
                            try clear hfz50_0
                            try clear hfz50_1
                            try clear hx34_0
                            try clear hx34_1
                            try clear hx366_0
                            try clear hx366_1
                            try clear hx367_0
                            try clear hx367_1
                            try clear hx369_0
                            try clear hx369_1
                            try clear p2
                            try clear p3
                            try clear p34
                            try clear p36
                            try clear p366
                            try clear p367
                            try clear p369
                            try clear p6
                            try clear q3
                            try clear q34
                            try clear q36
                            try clear q366
                            try clear q367
                            try clear q369
                            obtain ⟨kq, x111_40, rfl, HA, HJ40, HO_5, HO_8, HO_376001, HO_381001, BK375, BK380, HB⟩ := hcut
                            cases kq with
                            | zero => exact absurd HA.out (by simp [laws_FnMoves.j3])
                            | succ kj40 =>
                              have H := HA.out
                              clear HA
                              simp only [laws_FnMoves.j3] at H
                              by_cases c62 : x111_40 = true
                              · subst c62
                                have H1 : (some false) = some true := by rw [if_pos rfl] at H; exact H
                                clear H
                                have H := H1
                                clear H1
                                exact absurd (Option.some.inj H) (by decide)
                              · replace c62 := Bool.eq_false_iff.mpr c62
                                subst c62
                                have H1 : (if t371 = 0 then (laws_FnMoves.j4 kj40 x5_17 t348 t349 x8_17 x9_17 (t376 != 0) t371 t372 t376 t377) else (laws_FnMoves.j4 kj40 x5_17 t348 t349 x8_17 x9_17 true t371 t372 t376 t377)) = some true := by rw [if_neg (show ¬ (false = true) by decide)] at H; exact H
                                clear H
                                have H := H1
                                clear H1
                                have HC63 := Aside0.mk H
                                clear H
                                go_upto_region 17 with (fail)
                                go_cut [119] (fun v119 wc => ∃ (kq : Nat) (x119_62 : Bool), v119 = .bool x119_62 ∧ Aside0 (laws_FnMoves.j4 kq x5_17 t348 t349 x8_17 x9_17 x119_62 t371 t372 t376 t377 = some true) ∧ Aside0 (kq ≤ kj40) ∧ Aside0 (Kd.R k32 32 wc w.heap.size (fun k_ => some k_ ≠ ((.slice Ao46 x8_17.length co46) : Value).ownBlock) (.slice Ao22 x5_17.length co22) x5_17) ∧ Aside0 (Kd.R k32 32 wc w.heap.size (fun k_ => some k_ ≠ ((.slice Ao22 x5_17.length co22) : Value).ownBlock) (.slice Ao46 x8_17.length co46) x8_17) ∧ Aside0 (Kd.R (Kd.int .i64) 2 wc w.heap.size (fun k_ => some k_ ≠ ((.slice Ao51 t377.length co51) : Value).ownBlock) (.slice Ao45 t372.length co45) t372) ∧ Aside0 (Kd.R (Kd.int .i64) 2 wc w.heap.size (fun k_ => some k_ ≠ ((.slice Ao45 t372.length co45) : Value).ownBlock) (.slice Ao51 t377.length co51) t377) ∧ Aside0 (wc.heap[gb375]? = some (.cells #[.int .i64 t371, (.slice Ao45 t372.length co45)] 28 (0, 0))) ∧ Aside0 (wc.heap[gb380]? = some (.cells #[.int .i64 t376, (.slice Ao51 t377.length co51)] 28 (0, 0))) ∧ Aside0 (Below w.heap.size w wc))
                                case first =>
                                  have H := HC63.out
                                  clear HC63
                                  by_cases c64 : t371 = 0
                                  · rw [if_pos c64] at H
                                    have c64b0 : (t371 == 0) = true := beq_iff_eq.mpr c64
                                    have c64b1 : (t371 != 0) = false := bne_eq_false_iff_eq.mpr c64
                                    clear c64
                                    (first | rw [c64b0] | (simp only [i64_w, i32_w]; rw [c64b0]) | skip)
                                    have H' := Aside0.mk H
                                    clear H
                                    have hnb65 := NB375_380.out
                                    have hnc65 := NB380_375.out
                                    have hcz66_0 : wc.cell? ⟨gb375, 0, none⟩ = some (.int .i64 t371) := (blk_cell BK375.out 0).trans rfl
                                    have hcz66_1 : wc.cell? ⟨gb375, 1, none⟩ = some (.slice Ao45 t372.length co45) := (blk_cell BK375.out 1).trans rfl
                                    have hfz66_0 := blk_frozen BK375.out 0
                                    have hfz66_1 := blk_frozen BK375.out 1
                                    have hcz67_0 : wc.cell? ⟨gb380, 0, none⟩ = some (.int .i64 t376) := (blk_cell BK380.out 0).trans rfl
                                    have hcz67_1 : wc.cell? ⟨gb380, 1, none⟩ = some (.slice Ao51 t377.length co51) := (blk_cell BK380.out 1).trans rfl
                                    have hfz67_0 := blk_frozen BK380.out 0
                                    have hfz67_1 := blk_frozen BK380.out 1
                                    go_wp2
                                    go_meet
                                    case rel => exact ⟨_, ((t376 != 0)), (by first | rfl | (simp; done) | (simp [*]; done)), H', ⟨by have := HJ2.out; have := HJ6.out; have := HJ17.out; have := HJ40.out; first | omega | exact Nat.le_refl _⟩, ⟨by (try simp only [hl5_17]); (with_reducible repeat (first | apply Kd.R_alloc | apply Kd.R_drewN | apply Kd.R_drew)); exact HO_5.out⟩, ⟨by (try simp only [hl5_17]); (with_reducible repeat (first | apply Kd.R_alloc | apply Kd.R_drewN | apply Kd.R_drew)); exact HO_8.out⟩, ⟨by (try simp only [hl5_17]); (with_reducible repeat (first | apply Kd.R_alloc | apply Kd.R_drewN | apply Kd.R_drew)); exact HO_376001.out⟩, ⟨by (try simp only [hl5_17]); (with_reducible repeat (first | apply Kd.R_alloc | apply Kd.R_drewN | apply Kd.R_drew)); exact HO_381001.out⟩, ⟨by (try simp only [hl5_17]); (with_reducible repeat (first | refine blk_drewN ?_ _ | refine blk_drew ?_ | refine blk_alloc ?_ _)); exact BK375.out⟩, ⟨by (try simp only [hl5_17]); (with_reducible repeat (first | refine blk_drewN ?_ _ | refine blk_drew ?_ | refine blk_alloc ?_ _)); exact BK380.out⟩, ⟨by repeat (first | (with_reducible first | exact HB.out | apply below_alloc | apply pw_below_drewN | apply below_drew1 | refine below_set ?_ GE375.out | refine below_set ?_ GE380.out) | exact HB.out)⟩⟩
                                  · rw [if_neg c64] at H
                                    have c64b0 : (t371 == 0) = false := beq_eq_false_iff_ne.mpr c64
                                    have c64b1 : (t371 != 0) = true := bne_iff_ne.mpr c64
                                    (first | rw [c64b0] | (simp only [i64_w, i32_w]; rw [c64b0]) | skip)
                                    have H' := Aside0.mk H
                                    clear H
                                    have hnb68 := NB375_380.out
                                    have hnc68 := NB380_375.out
                                    have hcz69_0 : wc.cell? ⟨gb375, 0, none⟩ = some (.int .i64 t371) := (blk_cell BK375.out 0).trans rfl
                                    have hcz69_1 : wc.cell? ⟨gb375, 1, none⟩ = some (.slice Ao45 t372.length co45) := (blk_cell BK375.out 1).trans rfl
                                    have hfz69_0 := blk_frozen BK375.out 0
                                    have hfz69_1 := blk_frozen BK375.out 1
                                    go_wp2
                                    go_meet
                                    case rel => exact ⟨_, (true), (by first | rfl | (simp; done) | (simp [*]; done)), H', ⟨by have := HJ2.out; have := HJ6.out; have := HJ17.out; have := HJ40.out; first | omega | exact Nat.le_refl _⟩, ⟨by (try simp only [hl5_17]); (with_reducible repeat (first | apply Kd.R_alloc | apply Kd.R_drewN | apply Kd.R_drew)); exact HO_5.out⟩, ⟨by (try simp only [hl5_17]); (with_reducible repeat (first | apply Kd.R_alloc | apply Kd.R_drewN | apply Kd.R_drew)); exact HO_8.out⟩, ⟨by (try simp only [hl5_17]); (with_reducible repeat (first | apply Kd.R_alloc | apply Kd.R_drewN | apply Kd.R_drew)); exact HO_376001.out⟩, ⟨by (try simp only [hl5_17]); (with_reducible repeat (first | apply Kd.R_alloc | apply Kd.R_drewN | apply Kd.R_drew)); exact HO_381001.out⟩, ⟨by (try simp only [hl5_17]); (with_reducible repeat (first | refine blk_drewN ?_ _ | refine blk_drew ?_ | refine blk_alloc ?_ _)); exact BK375.out⟩, ⟨by (try simp only [hl5_17]); (with_reducible repeat (first | refine blk_drewN ?_ _ | refine blk_drew ?_ | refine blk_alloc ?_ _)); exact BK380.out⟩, ⟨by repeat (first | (with_reducible first | exact HB.out | apply below_alloc | apply pw_below_drewN | apply below_drew1 | refine below_set ?_ GE375.out | refine below_set ?_ GE380.out) | exact HB.out)⟩⟩
                                case rest =>
                                  clear HC63
                                  try clear c1
                                  try clear c2
                                  try clear p2
                                  try clear c3
                                  try clear p3
                                  try clear q3
                                  try clear hx3
                                  try clear hf3
                                  try clear c4
                                  try clear c4b0
                                  try clear c4b1
                                  try clear c5
                                  try clear c6
                                  try clear p6
                                  try clear c10
                                  try clear c10b0
                                  try clear c10b1
                                  try clear c11
                                  try clear c12
                                  try clear c13
                                  try clear c14
                                  try clear c16
                                  try clear c16b0
                                  try clear c16b1
                                  try clear c16b2
                                  try clear c23
                                  try clear c23b0
                                  try clear c23b1
                                  try clear c26
                                  try clear c28
                                  try clear c29
                                  try clear c29b0
                                  try clear c30
                                  try clear c30b0
                                  try clear c31
                                  try clear c31b0
                                  try clear c33
                                  try clear c33b0
                                  try clear c33b1
                                  try clear c34
                                  try clear p34
                                  try clear q34
                                  try clear hx34
                                  try clear hf34
                                  try clear p36
                                  try clear q36
                                  try clear hx36
                                  try clear c37
                                  try clear c49
                                  try clear c53
                                  try clear c53b0
                                  try clear c53b1
                                  try clear c62
                                  try clear c64
                                  try clear c64b0
                                  try clear c64b1
                                  try clear c65
                                  try clear c68
                                  try clear hcz44_0
                                  try clear hcz44_1
                                  try clear hcz50_0
                                  try clear hcz50_1
                                  try clear hcz66_0
                                  try clear hcz66_1
                                  try clear hcz67_0
                                  try clear hcz67_1
                                  try clear hcz69_0
                                  try clear hcz69_1
                                  try clear hfz44_0
                                  try clear hfz44_1
                                  try clear hfz50_0
                                  try clear hfz50_1
                                  try clear hfz66_0
                                  try clear hfz66_1
                                  try clear hfz67_0
                                  try clear hfz67_1
                                  try clear hfz69_0
                                  try clear hfz69_1
                                  try clear hx34_0
                                  try clear hx34_1
                                  try clear hx366_0
                                  try clear hx366_1
                                  try clear hx367_0
                                  try clear hx367_1
                                  try clear hx369_0
                                  try clear hx369_1
                                  try clear p2
                                  try clear p3
                                  try clear p34
                                  try clear p36
                                  try clear p366
                                  try clear p367
                                  try clear p369
                                  try clear p6
                                  try clear q3
                                  try clear q34
                                  try clear q36
                                  try clear q366
                                  try clear q367
                                  try clear q369
                                  obtain ⟨kq, x119_62, rfl, HA, HJ62, HO_5, HO_8, HO_376001, HO_381001, BK375, BK380, HB⟩ := hcut
                                  cases kq with
                                  | zero => exact absurd HA.out (by simp [laws_FnMoves.j4])
                                  | succ kj62 =>
                                    have H := HA.out
                                    clear HA
                                    simp only [laws_FnMoves.j4] at H
                                    by_cases c70 : x119_62 = true
                                    · subst c70
                                      have H1 : (some (t371 != 0)) = some true := by rw [if_pos rfl] at H; exact H
                                      clear H
                                      have H := H1
                                      clear H1
                                      have hT_ := Option.some.inj H
                                      clear H
                                      have hnb71 := NB375_380.out
                                      have hnc71 := NB380_375.out
                                      have hcz72_0 : wc.cell? ⟨gb375, 0, none⟩ = some (.int .i64 t371) := (blk_cell BK375.out 0).trans rfl
                                      have hcz72_1 : wc.cell? ⟨gb375, 1, none⟩ = some (.slice Ao45 t372.length co45) := (blk_cell BK375.out 1).trans rfl
                                      have hfz72_0 := blk_frozen BK375.out 0
                                      have hfz72_1 := blk_frozen BK375.out 1
                                      go_wp2
                                      go_ret
                                      exact ⟨by first | rfl | (simp [errW_none, errW_some] <;> rfl) | (simp [*, errW_none, errW_some] <;> rfl), by repeat (first | (with_reducible first | exact HB.out | apply below_alloc | apply pw_below_drewN | apply below_drew1 | refine below_set ?_ GE375.out | refine below_set ?_ GE380.out) | exact HB.out)⟩
                                    · replace c70 := Bool.eq_false_iff.mpr c70
                                      subst c70
                                      have H1 : (if (t372.length : Int) = t349 then (laws_FnMoves.j5 kj62 x5_17 t348 t349 x8_17 x9_17 ((t377.length : Int) != t349) t371 t372 t376 t377) else (laws_FnMoves.j5 kj62 x5_17 t348 t349 x8_17 x9_17 true t371 t372 t376 t377)) = some true := by rw [if_neg (show ¬ (false = true) by decide)] at H; exact H
                                      clear H
                                      have H := H1
                                      clear H1
                                      have HC73 := Aside0.mk H
                                      clear H
                                      go_upto_region 19 with (fail)
                                      go_cut [134] (fun v134 wc => ∃ (kq : Nat) (x134_72 : Bool), v134 = .bool x134_72 ∧ Aside0 (laws_FnMoves.j5 kq x5_17 t348 t349 x8_17 x9_17 x134_72 t371 t372 t376 t377 = some true) ∧ Aside0 (kq ≤ kj62) ∧ Aside0 (Kd.R k32 32 wc w.heap.size (fun k_ => some k_ ≠ ((.slice Ao46 x8_17.length co46) : Value).ownBlock) (.slice Ao22 x5_17.length co22) x5_17) ∧ Aside0 (Kd.R k32 32 wc w.heap.size (fun k_ => some k_ ≠ ((.slice Ao22 x5_17.length co22) : Value).ownBlock) (.slice Ao46 x8_17.length co46) x8_17) ∧ Aside0 (Kd.R (Kd.int .i64) 2 wc w.heap.size (fun k_ => some k_ ≠ ((.slice Ao51 t377.length co51) : Value).ownBlock) (.slice Ao45 t372.length co45) t372) ∧ Aside0 (Kd.R (Kd.int .i64) 2 wc w.heap.size (fun k_ => some k_ ≠ ((.slice Ao45 t372.length co45) : Value).ownBlock) (.slice Ao51 t377.length co51) t377) ∧ Aside0 (wc.heap[gb375]? = some (.cells #[.int .i64 t371, (.slice Ao45 t372.length co45)] 28 (0, 0))) ∧ Aside0 (wc.heap[gb380]? = some (.cells #[.int .i64 t376, (.slice Ao51 t377.length co51)] 28 (0, 0))) ∧ Aside0 (Below w.heap.size w wc))
                                      case first =>
                                        have H := HC73.out
                                        clear HC73
                                        by_cases c74 : (t372.length : Int) = t349
                                        · rw [if_pos c74] at H
                                          have c74b0 : ((t372.length : Int) == t349) = true := beq_iff_eq.mpr c74
                                          have c74b1 : ((t372.length : Int) != t349) = false := bne_eq_false_iff_eq.mpr c74
                                          clear c74
                                          (first | rw [c74b0] | (simp only [i64_w, i32_w]; rw [c74b0]) | skip)
                                          have H' := Aside0.mk H
                                          clear H
                                          have hnb75 := NB375_380.out
                                          have hnc75 := NB380_375.out
                                          have hcz76_0 : wc.cell? ⟨gb375, 0, none⟩ = some (.int .i64 t371) := (blk_cell BK375.out 0).trans rfl
                                          have hcz76_1 : wc.cell? ⟨gb375, 1, none⟩ = some (.slice Ao45 t372.length co45) := (blk_cell BK375.out 1).trans rfl
                                          have hfz76_0 := blk_frozen BK375.out 0
                                          have hfz76_1 := blk_frozen BK375.out 1
                                          have hcz77_0 : wc.cell? ⟨gb380, 0, none⟩ = some (.int .i64 t376) := (blk_cell BK380.out 0).trans rfl
                                          have hcz77_1 : wc.cell? ⟨gb380, 1, none⟩ = some (.slice Ao51 t377.length co51) := (blk_cell BK380.out 1).trans rfl
                                          have hfz77_0 := blk_frozen BK380.out 0
                                          have hfz77_1 := blk_frozen BK380.out 1
                                          go_wp2
                                          go_meet
                                          case rel => exact ⟨_, (((t377.length : Int) != t349)), (by first | rfl | (simp; done) | (simp [*]; done)), H', ⟨by have := HJ2.out; have := HJ6.out; have := HJ17.out; have := HJ40.out; have := HJ62.out; first | omega | exact Nat.le_refl _⟩, ⟨by (try simp only [hl5_17]); (with_reducible repeat (first | apply Kd.R_alloc | apply Kd.R_drewN | apply Kd.R_drew)); exact HO_5.out⟩, ⟨by (try simp only [hl5_17]); (with_reducible repeat (first | apply Kd.R_alloc | apply Kd.R_drewN | apply Kd.R_drew)); exact HO_8.out⟩, ⟨by (try simp only [hl5_17]); (with_reducible repeat (first | apply Kd.R_alloc | apply Kd.R_drewN | apply Kd.R_drew)); exact HO_376001.out⟩, ⟨by (try simp only [hl5_17]); (with_reducible repeat (first | apply Kd.R_alloc | apply Kd.R_drewN | apply Kd.R_drew)); exact HO_381001.out⟩, ⟨by (try simp only [hl5_17]); (with_reducible repeat (first | refine blk_drewN ?_ _ | refine blk_drew ?_ | refine blk_alloc ?_ _)); exact BK375.out⟩, ⟨by (try simp only [hl5_17]); (with_reducible repeat (first | refine blk_drewN ?_ _ | refine blk_drew ?_ | refine blk_alloc ?_ _)); exact BK380.out⟩, ⟨by repeat (first | (with_reducible first | exact HB.out | apply below_alloc | apply pw_below_drewN | apply below_drew1 | refine below_set ?_ GE375.out | refine below_set ?_ GE380.out) | exact HB.out)⟩⟩
                                        · rw [if_neg c74] at H
                                          have c74b0 : ((t372.length : Int) == t349) = false := beq_eq_false_iff_ne.mpr c74
                                          have c74b1 : ((t372.length : Int) != t349) = true := bne_iff_ne.mpr c74
                                          (first | rw [c74b0] | (simp only [i64_w, i32_w]; rw [c74b0]) | skip)
                                          have H' := Aside0.mk H
                                          clear H
                                          have hnb78 := NB375_380.out
                                          have hnc78 := NB380_375.out
                                          have hcz79_0 : wc.cell? ⟨gb375, 0, none⟩ = some (.int .i64 t371) := (blk_cell BK375.out 0).trans rfl
                                          have hcz79_1 : wc.cell? ⟨gb375, 1, none⟩ = some (.slice Ao45 t372.length co45) := (blk_cell BK375.out 1).trans rfl
                                          have hfz79_0 := blk_frozen BK375.out 0
                                          have hfz79_1 := blk_frozen BK375.out 1
                                          go_wp2
                                          go_meet
                                          case rel => exact ⟨_, (true), (by first | rfl | (simp; done) | (simp [*]; done)), H', ⟨by have := HJ2.out; have := HJ6.out; have := HJ17.out; have := HJ40.out; have := HJ62.out; first | omega | exact Nat.le_refl _⟩, ⟨by (try simp only [hl5_17]); (with_reducible repeat (first | apply Kd.R_alloc | apply Kd.R_drewN | apply Kd.R_drew)); exact HO_5.out⟩, ⟨by (try simp only [hl5_17]); (with_reducible repeat (first | apply Kd.R_alloc | apply Kd.R_drewN | apply Kd.R_drew)); exact HO_8.out⟩, ⟨by (try simp only [hl5_17]); (with_reducible repeat (first | apply Kd.R_alloc | apply Kd.R_drewN | apply Kd.R_drew)); exact HO_376001.out⟩, ⟨by (try simp only [hl5_17]); (with_reducible repeat (first | apply Kd.R_alloc | apply Kd.R_drewN | apply Kd.R_drew)); exact HO_381001.out⟩, ⟨by (try simp only [hl5_17]); (with_reducible repeat (first | refine blk_drewN ?_ _ | refine blk_drew ?_ | refine blk_alloc ?_ _)); exact BK375.out⟩, ⟨by (try simp only [hl5_17]); (with_reducible repeat (first | refine blk_drewN ?_ _ | refine blk_drew ?_ | refine blk_alloc ?_ _)); exact BK380.out⟩, ⟨by repeat (first | (with_reducible first | exact HB.out | apply below_alloc | apply pw_below_drewN | apply below_drew1 | refine below_set ?_ GE375.out | refine below_set ?_ GE380.out) | exact HB.out)⟩⟩
                                      case rest =>
                                        clear HC73
                                        try clear c1
                                        try clear c2
                                        try clear p2
                                        try clear c3
                                        try clear p3
                                        try clear q3
                                        try clear hx3
                                        try clear hf3
                                        try clear c4
                                        try clear c4b0
                                        try clear c4b1
                                        try clear c5
                                        try clear c6
                                        try clear p6
                                        try clear c7
                                        try clear c10
                                        try clear c10b0
                                        try clear c10b1
                                        try clear c11
                                        try clear c12
                                        try clear c13
                                        try clear c14
                                        try clear c16
                                        try clear c16b0
                                        try clear c16b1
                                        try clear c16b2
                                        try clear c23
                                        try clear c23b0
                                        try clear c23b1
                                        try clear c26
                                        try clear c28
                                        try clear c29
                                        try clear c29b0
                                        try clear c30
                                        try clear c30b0
                                        try clear c31
                                        try clear c31b0
                                        try clear c33
                                        try clear c33b0
                                        try clear c33b1
                                        try clear c34
                                        try clear p34
                                        try clear q34
                                        try clear hx34
                                        try clear hf34
                                        try clear p36
                                        try clear q36
                                        try clear hx36
                                        try clear c37
                                        try clear c49
                                        try clear c53
                                        try clear c53b0
                                        try clear c53b1
                                        try clear c62
                                        try clear c64
                                        try clear c64b0
                                        try clear c64b1
                                        try clear c65
                                        try clear c68
                                        try clear c70
                                        try clear c71
                                        try clear c74
                                        try clear c74b0
                                        try clear c74b1
                                        try clear c75
                                        try clear c78
                                        try clear hcz44_0
                                        try clear hcz44_1
                                        try clear hcz50_0
                                        try clear hcz50_1
                                        try clear hcz66_0
                                        try clear hcz66_1
                                        try clear hcz67_0
                                        try clear hcz67_1
                                        try clear hcz69_0
                                        try clear hcz69_1
                                        try clear hcz72_0
                                        try clear hcz72_1
                                        try clear hcz76_0
                                        try clear hcz76_1
                                        try clear hcz77_0
                                        try clear hcz77_1
                                        try clear hcz79_0
                                        try clear hcz79_1
                                        try clear hfz44_0
                                        try clear hfz44_1
                                        try clear hfz50_0
                                        try clear hfz50_1
                                        try clear hfz66_0
                                        try clear hfz66_1
                                        try clear hfz67_0
                                        try clear hfz67_1
                                        try clear hfz69_0
                                        try clear hfz69_1
                                        try clear hfz72_0
                                        try clear hfz72_1
                                        try clear hfz76_0
                                        try clear hfz76_1
                                        try clear hfz77_0
                                        try clear hfz77_1
                                        try clear hfz79_0
                                        try clear hfz79_1
                                        try clear hx34_0
                                        try clear hx34_1
                                        try clear hx366_0
                                        try clear hx366_1
                                        try clear hx367_0
                                        try clear hx367_1
                                        try clear hx369_0
                                        try clear hx369_1
                                        try clear p2
                                        try clear p3
                                        try clear p34
                                        try clear p36
                                        try clear p366
                                        try clear p367
                                        try clear p369
                                        try clear p6
                                        try clear q3
                                        try clear q34
                                        try clear q36
                                        try clear q366
                                        try clear q367
                                        try clear q369
                                        obtain ⟨kq, x134_72, rfl, HA, HJ72, HO_5, HO_8, HO_376001, HO_381001, BK375, BK380, HB⟩ := hcut
                                        cases kq with
                                        | zero => exact absurd HA.out (by simp [laws_FnMoves.j5])
                                        | succ kj72 =>
                                          have H := HA.out
                                          clear HA
                                          simp only [laws_FnMoves.j5] at H
                                          by_cases c80 : x134_72 = true
                                          · subst c80
                                            have H1 : (some false) = some true := by rw [if_pos rfl] at H; exact H
                                            clear H
                                            have H := H1
                                            clear H1
                                            exact absurd (Option.some.inj H) (by decide)
                                          · replace c80 := Bool.eq_false_iff.mpr c80
                                            subst c80
                                            have H1 : (laws_FnMoves.l0 kj72 x5_17 t348 t349 x8_17 x9_17 0 0 t371 t372 t376 t377) = some true := by rw [if_neg (show ¬ (false = true) by decide)] at H; exact H
                                            clear H
                                            have H := H1
                                            clear H1
                                            have H' := Aside0.mk H
                                            clear H
                                            go_wp2
                                            go_loopg [12, 13] kj72 (fun kq v12 v13 w' => ∃ (x12_7 : Int) (x13_7 : Int), v12 = .int .i64 x12_7 ∧ v13 = .int .i64 x13_7 ∧ Aside0 (laws_FnMoves.l0 kq x5_17 t348 t349 x8_17 x9_17 x12_7 x13_7 t371 t372 t376 t377 = some true) ∧ Aside0 (kq ≤ kj72) ∧ Aside0 (Kd.R k32 32 w' w.heap.size (fun k_ => some k_ ≠ ((.slice Ao46 x8_17.length co46) : Value).ownBlock) (.slice Ao22 x5_17.length co22) x5_17) ∧ Aside0 (Kd.R k32 32 w' w.heap.size (fun k_ => some k_ ≠ ((.slice Ao22 x5_17.length co22) : Value).ownBlock) (.slice Ao46 x8_17.length co46) x8_17) ∧ Aside0 (Kd.R (Kd.int .i64) 2 w' w.heap.size (fun k_ => some k_ ≠ ((.slice Ao51 t377.length co51) : Value).ownBlock) (.slice Ao45 t372.length co45) t372) ∧ Aside0 (Kd.R (Kd.int .i64) 2 w' w.heap.size (fun k_ => some k_ ≠ ((.slice Ao45 t372.length co45) : Value).ownBlock) (.slice Ao51 t377.length co51) t377) ∧ Aside0 (w'.heap[gb375]? = some (.cells #[.int .i64 t371, (.slice Ao45 t372.length co45)] 28 (0, 0))) ∧ Aside0 (w'.heap[gb380]? = some (.cells #[.int .i64 t376, (.slice Ao51 t377.length co51)] 28 (0, 0))) ∧ Aside0 (Below w.heap.size w w'))
                                            case atStart => exact ⟨(0), (0), (by first | rfl | (simp; done) | (simp [*]; done)), (by first | rfl | (simp; done) | (simp [*]; done)), H', ⟨Nat.le_refl _⟩, ⟨by (try simp only [hl5_17]); (with_reducible repeat (first | apply Kd.R_alloc | apply Kd.R_drewN | apply Kd.R_drew)); exact HO_5.out⟩, ⟨by (try simp only [hl5_17]); (with_reducible repeat (first | apply Kd.R_alloc | apply Kd.R_drewN | apply Kd.R_drew)); exact HO_8.out⟩, ⟨by (try simp only [hl5_17]); (with_reducible repeat (first | apply Kd.R_alloc | apply Kd.R_drewN | apply Kd.R_drew)); exact HO_376001.out⟩, ⟨by (try simp only [hl5_17]); (with_reducible repeat (first | apply Kd.R_alloc | apply Kd.R_drewN | apply Kd.R_drew)); exact HO_381001.out⟩, ⟨by (try simp only [hl5_17]); (with_reducible repeat (first | refine blk_drewN ?_ _ | refine blk_drew ?_ | refine blk_alloc ?_ _)); exact BK375.out⟩, ⟨by (try simp only [hl5_17]); (with_reducible repeat (first | refine blk_drewN ?_ _ | refine blk_drew ?_ | refine blk_alloc ?_ _)); exact BK380.out⟩, ⟨by repeat (first | (with_reducible first | exact HB.out | apply below_alloc | apply pw_below_drewN | apply below_drew1 | refine below_set ?_ GE375.out | refine below_set ?_ GE380.out) | exact HB.out)⟩⟩
                                            case round =>
                                              as_aux_lemma =>
                                                clear H'
                                                try clear c1
                                                try clear c2
                                                try clear p2
                                                try clear c3
                                                try clear p3
                                                try clear q3
                                                try clear hx3
                                                try clear hf3
                                                try clear c4
                                                try clear c4b0
                                                try clear c4b1
                                                try clear c5
                                                try clear c6
                                                try clear p6
                                                try clear c7
                                                try clear c8
                                                try clear c10
                                                try clear c10b0
                                                try clear c10b1
                                                try clear c11
                                                try clear c12
                                                try clear c13
                                                try clear c14
                                                try clear c16
                                                try clear c16b0
                                                try clear c16b1
                                                try clear c16b2
                                                try clear c23
                                                try clear c23b0
                                                try clear c23b1
                                                try clear c26
                                                try clear c28
                                                try clear c29
                                                try clear c29b0
                                                try clear c30
                                                try clear c30b0
                                                try clear c31
                                                try clear c31b0
                                                try clear c33
                                                try clear c33b0
                                                try clear c33b1
                                                try clear c34
                                                try clear p34
                                                try clear q34
                                                try clear hx34
                                                try clear hf34
                                                try clear p36
                                                try clear q36
                                                try clear hx36
                                                try clear c37
                                                try clear c49
                                                try clear c53
                                                try clear c53b0
                                                try clear c53b1
                                                try clear c62
                                                try clear c64
                                                try clear c64b0
                                                try clear c64b1
                                                try clear c65
                                                try clear c68
                                                try clear c70
                                                try clear c71
                                                try clear c74
                                                try clear c74b0
                                                try clear c74b1
                                                try clear c75
                                                try clear c78
                                                try clear c80
                                                try clear hcz44_0
                                                try clear hcz44_1
                                                try clear hcz50_0
                                                try clear hcz50_1
                                                try clear hcz66_0
                                                try clear hcz66_1
                                                try clear hcz67_0
                                                try clear hcz67_1
                                                try clear hcz69_0
                                                try clear hcz69_1
                                                try clear hcz72_0
                                                try clear hcz72_1
                                                try clear hcz76_0
                                                try clear hcz76_1
                                                try clear hcz77_0
                                                try clear hcz77_1
                                                try clear hcz79_0
                                                try clear hcz79_1
                                                try clear hfz44_0
                                                try clear hfz44_1
                                                try clear hfz50_0
                                                try clear hfz50_1
                                                try clear hfz66_0
                                                try clear hfz66_1
                                                try clear hfz67_0
                                                try clear hfz67_1
                                                try clear hfz69_0
                                                try clear hfz69_1
                                                try clear hfz72_0
                                                try clear hfz72_1
                                                try clear hfz76_0
                                                try clear hfz76_1
                                                try clear hfz77_0
                                                try clear hfz77_1
                                                try clear hfz79_0
                                                try clear hfz79_1
                                                try clear hx34_0
                                                try clear hx34_1
                                                try clear hx366_0
                                                try clear hx366_1
                                                try clear hx367_0
                                                try clear hx367_1
                                                try clear hx369_0
                                                try clear hx369_1
                                                try clear p2
                                                try clear p3
                                                try clear p34
                                                try clear p36
                                                try clear p366
                                                try clear p367
                                                try clear p369
                                                try clear p6
                                                try clear q3
                                                try clear q34
                                                try clear q36
                                                try clear q366
                                                try clear q367
                                                try clear q369
                                                obtain ⟨x12_7, x13_7, rfl, rfl, HA, HK7, HO_5, HO_8, HO_376001, HO_381001, BK375, BK380, HB⟩ := hrel
                                                cases gk with
                                                | zero => exact absurd HA.out (by simp [laws_FnMoves.l0])
                                                | succ k7 =>
                                                  have H := HA.out
                                                  clear HA
                                                  simp only [laws_FnMoves.l0] at H
                                                  by_cases c81 : x13_7 < (t377.length : Int)
                                                  · rw [if_pos c81] at H
                                                    have c81b0 : decide (x13_7 < (t377.length : Int)) = true := decide_eq_true c81
                                                    clear c81
                                                    by_cases c82 : 0 ≤ x13_7
                                                    · rw [if_pos c82] at H
                                                      have c82b0 : decide (0 ≤ x13_7) = true := decide_eq_true c82
                                                      clear c82
                                                      replace H := Option.bind_eq_some_iff.mp H
                                                      obtain ⟨t394, A830, H⟩ := H
                                                      replace H : (if t394 = true then (laws_FnMoves.l0 k7 x5_17 t348 t349 x8_17 x9_17 x12_7 (wrap64 (x13_7 + 1)) t371 t372 t376 t377) else (if (rd t377 x13_7) = x9_17 then (laws_FnMoves.l0 k7 x5_17 t348 t349 x8_17 x9_17 (wrap64 (x12_7 + 1)) (wrap64 (x13_7 + 1)) t371 t372 t376 t377) else (some false))) = some true := H
                                                      have A83 := Aside0.mk A830
                                                      clear A830
                                                      by_cases c84 : t394 = true
                                                      · subst c84
                                                        have H1 : (laws_FnMoves.l0 k7 x5_17 t348 t349 x8_17 x9_17 x12_7 (wrap64 (x13_7 + 1)) t371 t372 t376 t377) = some true := by rw [if_pos rfl] at H; exact H
                                                        clear H
                                                        have H := H1
                                                        clear H1
                                                        have H' := Aside0.mk H
                                                        clear H
                                                        have hnb85 := NB380_375.out
                                                        have hnc85 := NB375_380.out
                                                        have hcz86_0 : wr.cell? ⟨gb380, 0, none⟩ = some (.int .i64 t376) := (blk_cell BK380.out 0).trans rfl
                                                        have hcz86_1 : wr.cell? ⟨gb380, 1, none⟩ = some (.slice Ao51 t377.length co51) := (blk_cell BK380.out 1).trans rfl
                                                        have hfz86_0 := blk_frozen BK380.out 0
                                                        have hfz86_1 := blk_frozen BK380.out 1
                                                        try go_wp2
                                                        have n0_ := Aside0.mk (Kd.R_drew HO_5.out)
                                                        have n1_ := Aside0.mk (Kd.R_drew HO_8.out)
                                                        have n2_ := Aside0.mk (Kd.R_drew HO_376001.out)
                                                        have n3_ := Aside0.mk (Kd.R_drew HO_381001.out)
                                                        have n4_ := Aside0.mk (blk_drew BK375.out)
                                                        have n5_ := Aside0.mk (blk_drew BK380.out)
                                                        have n6_ := Aside0.mk (below_drew1 HB.out)
                                                        clear HO_5
                                                        clear HO_8
                                                        clear HO_376001
                                                        clear HO_381001
                                                        clear BK375
                                                        clear BK380
                                                        clear HB
                                                        have HO_5 := n0_
                                                        have HO_8 := n1_
                                                        have HO_376001 := n2_
                                                        have HO_381001 := n3_
                                                        have BK375 := n4_
                                                        have BK380 := n5_
                                                        have HB := n6_
                                                        clear n0_ n1_ n2_ n3_ n4_ n5_ n6_
                                                        have p393 : 0 ≤ (x13_7 : Int) := of_decide_eq_true (by first | (with_reducible assumption) | assumption)
                                                        have q393 : x13_7 < (t377.length : Int) := of_decide_eq_true (by first | (with_reducible assumption) | assumption)
                                                        obtain ⟨ad393, e393, hx393_0⟩ := Kd.at_int (Kd.R_reads' HO_381001.out).2.2 x13_7 p393 q393
                                                        cases e393
                                                        replace p393 := eq_true p393
                                                        replace q393 := eq_true q393
                                                        refine start_ (n := 9) (S := fun w' => w'.cell? ⟨gb375, 0, none⟩ = some (.int .i64 t371) ∧ w'.cell? ⟨gb375, 1, none⟩ = some (.slice Ao45 t372.length co45) ∧ w'.cell? ⟨gb380, 0, none⟩ = some (.int .i64 t376) ∧ w'.cell? ⟨gb380, 1, none⟩ = some (.slice (some ad393) t377.length co51) ∧ w'.cell? (ad393.add (x13_7).toNat) = some (.int .i64 (rd t377 x13_7))) (ds := []) #[false, false, false, false, false, false, false, false, false] (by kernel_rfl) rfl rfl ⟨(blk_cell BK375.out 0).trans rfl, (blk_cell BK375.out 1).trans rfl, (blk_cell BK380.out 0).trans rfl, (blk_cell BK380.out 1).trans rfl, hx393_0⟩ (fun hHeld => ?_); refine with_tabW laws_FnMoves.tab25 laws_FnMoves.bits25 (fun HT_ HW_ => ?_)
                                                        generalize wr.drew = w87 at HO_5 HO_8 HO_376001 HO_381001 BK375 BK380 HB hx393_0 hHeld ⊢
                                                        refine pure_ (i := 0) (N := some 142) (v := ?_) (a' := ?_) #[true, false, false, false, false, false, false, false, false] rfl rfl (any_of HT_.out (by kernel_rfl)) (fun _ _ _ h => h) (Or.inl ⟨by rfl, ?_⟩) ?_ ?_
                                                        rotate_left
                                                        · intro w'
                                                          go_simp
                                                          with_reducible rfl
                                                        rotate_left
                                                        · simp only [Act.put, List.setIfInBounds_toArray, List.set_cons_zero, List.set_cons_succ, i64_w, i32_w]
                                                          rfl
                                                        refine pure_ (i := 2) (N := some 144) (v := ?_) (a' := ?_) #[true, false, true, false, false, false, false, false, false] rfl rfl (any_of HT_.out (by kernel_rfl)) (fun _ _ _ h => h) (Or.inl ⟨by rfl, ?_⟩) ?_ ?_
                                                        rotate_left
                                                        · intro w'
                                                          go_simp
                                                          with_reducible rfl
                                                        rotate_left
                                                        · simp only [Act.put, List.setIfInBounds_toArray, List.set_cons_zero, List.set_cons_succ, i64_w, i32_w]
                                                          rfl
                                                        refine pure_ (i := 4) (N := some 146) (v := ?_) (a' := ?_) #[true, false, true, false, true, false, false, false, false] rfl rfl (any_of HT_.out (by kernel_rfl)) (fun _ _ _ h => h) (Or.inl ⟨by rfl, ?_⟩) ?_ ?_
                                                        rotate_left
                                                        · intro w'
                                                          go_simp
                                                          with_reducible rfl
                                                        rotate_left
                                                        · simp only [Act.put, List.setIfInBounds_toArray, List.set_cons_zero, List.set_cons_succ, i64_w, i32_w]
                                                          rfl
                                                        refine take_ (i := 1) (N := some 143) (v := ?_) (a' := ?_) #[true, true, true, false, true, false, false, false, false] rfl rfl (take_ofW HT_.out HW_.out (by kernel_rfl)) (fun _ _ _ h => h) (Or.inl ⟨by rfl, ?_⟩) hHeld ?_ ?_
                                                        rotate_left
                                                        · rintro w' ⟨s0, s1, s2, s3, s4⟩
                                                          go_simp
                                                          with_reducible rfl
                                                        rotate_left
                                                        · simp only [Act.put, List.setIfInBounds_toArray, List.set_cons_zero, List.set_cons_succ, i64_w, i32_w]
                                                          rfl
                                                        refine take_ (i := 3) (N := some 145) (v := ?_) (a' := ?_) #[true, true, true, true, true, false, false, false, false] rfl rfl (take_ofW HT_.out HW_.out (by kernel_rfl)) (fun _ _ _ h => h) (Or.inl ⟨by rfl, ?_⟩) hHeld ?_ ?_
                                                        rotate_left
                                                        · rintro w' ⟨s0, s1, s2, s3, s4⟩
                                                          go_simp
                                                          with_reducible rfl
                                                        rotate_left
                                                        · simp only [Act.put, List.setIfInBounds_toArray, List.set_cons_zero, List.set_cons_succ, i64_w, i32_w]
                                                          rfl
                                                        refine pure_ (i := 5) (N := some 147) (v := ?_) (a' := ?_) #[true, true, true, true, true, true, false, false, false] rfl rfl (any_of HT_.out (by kernel_rfl)) (fun _ _ _ h => h) (Or.inl ⟨by rfl, ?_⟩) ?_ ?_
                                                        rotate_left
                                                        · intro w'
                                                          go_simp
                                                          with_reducible rfl
                                                        rotate_left
                                                        · simp only [Act.put, List.setIfInBounds_toArray, List.set_cons_zero, List.set_cons_succ, i64_w, i32_w]
                                                          rfl
                                                        refine take_ (i := 6) (N := some 148) (v := ?_) (a' := ?_) #[true, true, true, true, true, true, true, false, false] rfl rfl (take_ofW HT_.out HW_.out (by kernel_rfl)) (fun _ _ _ h => h) (Or.inl ⟨by rfl, ?_⟩) hHeld ?_ ?_
                                                        rotate_left
                                                        · rintro w' ⟨s0, s1, s2, s3, s4⟩
                                                          go_simp
                                                          with_reducible rfl
                                                        rotate_left
                                                        · simp only [Act.put, List.setIfInBounds_toArray, List.set_cons_zero, List.set_cons_succ, i64_w, i32_w]
                                                          rfl
                                                        refine one_ (i := 7) (N := some 149) #[true, true, true, true, true, true, true, true, false] rfl rfl (one_of HT_.out (by kernel_rfl)) (by decide) (fun K hK => ?_)
                                                        refine goes_ Try.func30 (by kernel_rfl) rfl #[.slice Ao45 t372.length co45, .int .i64 (rd t377 x13_7)] (by rfl) rfl rfl (by (try simp only [List.map_toArray, List.map_cons, List.map_nil]); first | done | rfl | (simp only [List.length_drop, List.length_take]; rfl)) ?_
                                                        with_reducible refine (laws_lwHas.calls k7 _ _ t372 (rd t377 x13_7) true _ ?side1 ?side2 A83.out).mono ?_
                                                        (case side1 => repeat (first | exact (Kd.R_reads' HO_376001.out).2.2 | (with_reducible refine Kd.C_alloc ?_ _) | (with_reducible refine Kd.C_drewN ?_ _) | (with_reducible refine Kd.C_drew ?_)))
                                                        (case side2 => exact (Kd.R_reads' HO_376001.out).2.1)
                                                        rintro e w' ⟨rfl, ⟨nd, rfl⟩⟩
                                                        refine ⟨_, rfl, ?_⟩
                                                        refine hK.out _ _ ⟨(blk_cell BK375.out 0).trans rfl, (blk_cell BK375.out 1).trans rfl, (blk_cell BK380.out 0).trans rfl, (blk_cell BK380.out 1).trans rfl, hHeld.2.2.2.2⟩ (fun hHeld => ?_)
                                                        clear hK K
                                                        refine norm_ (a' := ?_) ?_ ?_
                                                        rotate_left
                                                        · show Act.put _ (some 149) _ = _
                                                          simp only [Act.put, List.setIfInBounds_toArray, List.set_cons_zero, List.set_cons_succ, i64_w, i32_w]
                                                          rfl
                                                        refine pure_ (i := 8) (N := some 150) (v := ?_) (a' := ?_) #[true, true, true, true, true, true, true, true, true] rfl rfl (any_of HT_.out (by kernel_rfl)) (fun _ _ _ h => h) (Or.inl ⟨by rfl, ?_⟩) ?_ ?_
                                                        rotate_left
                                                        · intro w'
                                                          go_simp
                                                          with_reducible rfl
                                                        rotate_left
                                                        · simp only [Act.put, List.setIfInBounds_toArray, List.set_cons_zero, List.set_cons_succ, i64_w, i32_w]
                                                          rfl
                                                        refine done_ (done_of HT_.out (by kernel_rfl)) ?_
                                                        try go_wp2
                                                        go_roundg k7
                                                        case measure => have := HJ2.out; have := HJ6.out; have := HJ17.out; have := HJ40.out; have := HJ62.out; have := HJ72.out; have := HK7.out; omega
                                                        case rel => exact ⟨(x12_7), (wrap64 (x13_7 + 1)), (by first | rfl | (simp; done) | (simp [*]; done)), (by first | rfl | (simp; done) | (simp [*]; done)), H', ⟨by have := HJ2.out; have := HJ6.out; have := HJ17.out; have := HJ40.out; have := HJ62.out; have := HJ72.out; have := HK7.out; omega⟩, ⟨by (try simp only [hl5_17]); (with_reducible repeat (first | apply Kd.R_alloc | apply Kd.R_drewN | apply Kd.R_drew)); exact HO_5.out⟩, ⟨by (try simp only [hl5_17]); (with_reducible repeat (first | apply Kd.R_alloc | apply Kd.R_drewN | apply Kd.R_drew)); exact HO_8.out⟩, ⟨by (try simp only [hl5_17]); (with_reducible repeat (first | apply Kd.R_alloc | apply Kd.R_drewN | apply Kd.R_drew)); exact HO_376001.out⟩, ⟨by (try simp only [hl5_17]); (with_reducible repeat (first | apply Kd.R_alloc | apply Kd.R_drewN | apply Kd.R_drew)); exact HO_381001.out⟩, ⟨by (try simp only [hl5_17]); (with_reducible repeat (first | refine blk_drewN ?_ _ | refine blk_drew ?_ | refine blk_alloc ?_ _)); exact BK375.out⟩, ⟨by (try simp only [hl5_17]); (with_reducible repeat (first | refine blk_drewN ?_ _ | refine blk_drew ?_ | refine blk_alloc ?_ _)); exact BK380.out⟩, ⟨by repeat (first | (with_reducible first | exact HB.out | apply below_alloc | apply pw_below_drewN | apply below_drew1 | refine below_set ?_ GE375.out | refine below_set ?_ GE380.out) | exact HB.out)⟩⟩
                                                      · replace c84 := Bool.eq_false_iff.mpr c84
                                                        subst c84
                                                        have H1 : (if (rd t377 x13_7) = x9_17 then (laws_FnMoves.l0 k7 x5_17 t348 t349 x8_17 x9_17 (wrap64 (x12_7 + 1)) (wrap64 (x13_7 + 1)) t371 t372 t376 t377) else (some false)) = some true := by rw [if_neg (show ¬ (false = true) by decide)] at H; exact H
                                                        clear H
                                                        have H := H1
                                                        clear H1
                                                        by_cases c88 : (rd t377 x13_7) = x9_17
                                                        · rw [if_pos c88] at H
                                                          have c88b0 : ((rd t377 x13_7) == x9_17) = true := beq_iff_eq.mpr c88
                                                          have c88b1 : ((rd t377 x13_7) != x9_17) = false := bne_eq_false_iff_eq.mpr c88
                                                          clear c88
                                                          have H' := Aside0.mk H
                                                          clear H
                                                          have hnb89 := NB380_375.out
                                                          have hnc89 := NB375_380.out
                                                          have hcz90_0 : wr.cell? ⟨gb380, 0, none⟩ = some (.int .i64 t376) := (blk_cell BK380.out 0).trans rfl
                                                          have hcz90_1 : wr.cell? ⟨gb380, 1, none⟩ = some (.slice Ao51 t377.length co51) := (blk_cell BK380.out 1).trans rfl
                                                          have hfz90_0 := blk_frozen BK380.out 0
                                                          have hfz90_1 := blk_frozen BK380.out 1
                                                          try go_wp2
                                                          have n0_ := Aside0.mk (Kd.R_drew HO_5.out)
                                                          have n1_ := Aside0.mk (Kd.R_drew HO_8.out)
                                                          have n2_ := Aside0.mk (Kd.R_drew HO_376001.out)
                                                          have n3_ := Aside0.mk (Kd.R_drew HO_381001.out)
                                                          have n4_ := Aside0.mk (blk_drew BK375.out)
                                                          have n5_ := Aside0.mk (blk_drew BK380.out)
                                                          have n6_ := Aside0.mk (below_drew1 HB.out)
                                                          clear HO_5
                                                          clear HO_8
                                                          clear HO_376001
                                                          clear HO_381001
                                                          clear BK375
                                                          clear BK380
                                                          clear HB
                                                          have HO_5 := n0_
                                                          have HO_8 := n1_
                                                          have HO_376001 := n2_
                                                          have HO_381001 := n3_
                                                          have BK375 := n4_
                                                          have BK380 := n5_
                                                          have HB := n6_
                                                          clear n0_ n1_ n2_ n3_ n4_ n5_ n6_
                                                          have p393 : 0 ≤ (x13_7 : Int) := of_decide_eq_true (by first | (with_reducible assumption) | assumption)
                                                          have q393 : x13_7 < (t377.length : Int) := of_decide_eq_true (by first | (with_reducible assumption) | assumption)
                                                          obtain ⟨ad393, e393, hx393_0⟩ := Kd.at_int (Kd.R_reads' HO_381001.out).2.2 x13_7 p393 q393
                                                          cases e393
                                                          replace p393 := eq_true p393
                                                          replace q393 := eq_true q393
                                                          refine start_ (n := 9) (S := fun w' => w'.cell? ⟨gb375, 0, none⟩ = some (.int .i64 t371) ∧ w'.cell? ⟨gb375, 1, none⟩ = some (.slice Ao45 t372.length co45) ∧ w'.cell? ⟨gb380, 0, none⟩ = some (.int .i64 t376) ∧ w'.cell? ⟨gb380, 1, none⟩ = some (.slice (some ad393) t377.length co51) ∧ w'.cell? (ad393.add (x13_7).toNat) = some (.int .i64 (rd t377 x13_7))) (ds := []) #[false, false, false, false, false, false, false, false, false] (by kernel_rfl) rfl rfl ⟨(blk_cell BK375.out 0).trans rfl, (blk_cell BK375.out 1).trans rfl, (blk_cell BK380.out 0).trans rfl, (blk_cell BK380.out 1).trans rfl, hx393_0⟩ (fun hHeld => ?_); refine with_tabW laws_FnMoves.tab25 laws_FnMoves.bits25 (fun HT_ HW_ => ?_)
                                                          generalize wr.drew = w91 at HO_5 HO_8 HO_376001 HO_381001 BK375 BK380 HB hx393_0 hHeld ⊢
                                                          refine pure_ (i := 0) (N := some 142) (v := ?_) (a' := ?_) #[true, false, false, false, false, false, false, false, false] rfl rfl (any_of HT_.out (by kernel_rfl)) (fun _ _ _ h => h) (Or.inl ⟨by rfl, ?_⟩) ?_ ?_
                                                          rotate_left
                                                          · intro w'
                                                            go_simp
                                                            with_reducible rfl
                                                          rotate_left
                                                          · simp only [Act.put, List.setIfInBounds_toArray, List.set_cons_zero, List.set_cons_succ, i64_w, i32_w]
                                                            rfl
                                                          refine pure_ (i := 2) (N := some 144) (v := ?_) (a' := ?_) #[true, false, true, false, false, false, false, false, false] rfl rfl (any_of HT_.out (by kernel_rfl)) (fun _ _ _ h => h) (Or.inl ⟨by rfl, ?_⟩) ?_ ?_
                                                          rotate_left
                                                          · intro w'
                                                            go_simp
                                                            with_reducible rfl
                                                          rotate_left
                                                          · simp only [Act.put, List.setIfInBounds_toArray, List.set_cons_zero, List.set_cons_succ, i64_w, i32_w]
                                                            rfl
                                                          refine pure_ (i := 4) (N := some 146) (v := ?_) (a' := ?_) #[true, false, true, false, true, false, false, false, false] rfl rfl (any_of HT_.out (by kernel_rfl)) (fun _ _ _ h => h) (Or.inl ⟨by rfl, ?_⟩) ?_ ?_
                                                          rotate_left
                                                          · intro w'
                                                            go_simp
                                                            with_reducible rfl
                                                          rotate_left
                                                          · simp only [Act.put, List.setIfInBounds_toArray, List.set_cons_zero, List.set_cons_succ, i64_w, i32_w]
                                                            rfl
                                                          refine take_ (i := 1) (N := some 143) (v := ?_) (a' := ?_) #[true, true, true, false, true, false, false, false, false] rfl rfl (take_ofW HT_.out HW_.out (by kernel_rfl)) (fun _ _ _ h => h) (Or.inl ⟨by rfl, ?_⟩) hHeld ?_ ?_
                                                          rotate_left
                                                          · rintro w' ⟨s0, s1, s2, s3, s4⟩
                                                            go_simp
                                                            with_reducible rfl
                                                          rotate_left
                                                          · simp only [Act.put, List.setIfInBounds_toArray, List.set_cons_zero, List.set_cons_succ, i64_w, i32_w]
                                                            rfl
                                                          refine take_ (i := 3) (N := some 145) (v := ?_) (a' := ?_) #[true, true, true, true, true, false, false, false, false] rfl rfl (take_ofW HT_.out HW_.out (by kernel_rfl)) (fun _ _ _ h => h) (Or.inl ⟨by rfl, ?_⟩) hHeld ?_ ?_
                                                          rotate_left
                                                          · rintro w' ⟨s0, s1, s2, s3, s4⟩
                                                            go_simp
                                                            with_reducible rfl
                                                          rotate_left
                                                          · simp only [Act.put, List.setIfInBounds_toArray, List.set_cons_zero, List.set_cons_succ, i64_w, i32_w]
                                                            rfl
                                                          refine pure_ (i := 5) (N := some 147) (v := ?_) (a' := ?_) #[true, true, true, true, true, true, false, false, false] rfl rfl (any_of HT_.out (by kernel_rfl)) (fun _ _ _ h => h) (Or.inl ⟨by rfl, ?_⟩) ?_ ?_
                                                          rotate_left
                                                          · intro w'
                                                            go_simp
                                                            with_reducible rfl
                                                          rotate_left
                                                          · simp only [Act.put, List.setIfInBounds_toArray, List.set_cons_zero, List.set_cons_succ, i64_w, i32_w]
                                                            rfl
                                                          refine take_ (i := 6) (N := some 148) (v := ?_) (a' := ?_) #[true, true, true, true, true, true, true, false, false] rfl rfl (take_ofW HT_.out HW_.out (by kernel_rfl)) (fun _ _ _ h => h) (Or.inl ⟨by rfl, ?_⟩) hHeld ?_ ?_
                                                          rotate_left
                                                          · rintro w' ⟨s0, s1, s2, s3, s4⟩
                                                            go_simp
                                                            with_reducible rfl
                                                          rotate_left
                                                          · simp only [Act.put, List.setIfInBounds_toArray, List.set_cons_zero, List.set_cons_succ, i64_w, i32_w]
                                                            rfl
                                                          refine one_ (i := 7) (N := some 149) #[true, true, true, true, true, true, true, true, false] rfl rfl (one_of HT_.out (by kernel_rfl)) (by decide) (fun K hK => ?_)
                                                          refine goes_ Try.func30 (by kernel_rfl) rfl #[.slice Ao45 t372.length co45, .int .i64 (rd t377 x13_7)] (by rfl) rfl rfl (by (try simp only [List.map_toArray, List.map_cons, List.map_nil]); first | done | rfl | (simp only [List.length_drop, List.length_take]; rfl)) ?_
                                                          with_reducible refine (laws_lwHas.calls k7 _ _ t372 (rd t377 x13_7) false _ ?side1 ?side2 A83.out).mono ?_
                                                          (case side1 => repeat (first | exact (Kd.R_reads' HO_376001.out).2.2 | (with_reducible refine Kd.C_alloc ?_ _) | (with_reducible refine Kd.C_drewN ?_ _) | (with_reducible refine Kd.C_drew ?_)))
                                                          (case side2 => exact (Kd.R_reads' HO_376001.out).2.1)
                                                          rintro e w' ⟨rfl, ⟨nd, rfl⟩⟩
                                                          refine ⟨_, rfl, ?_⟩
                                                          refine hK.out _ _ ⟨(blk_cell BK375.out 0).trans rfl, (blk_cell BK375.out 1).trans rfl, (blk_cell BK380.out 0).trans rfl, (blk_cell BK380.out 1).trans rfl, hHeld.2.2.2.2⟩ (fun hHeld => ?_)
                                                          clear hK K
                                                          refine norm_ (a' := ?_) ?_ ?_
                                                          rotate_left
                                                          · show Act.put _ (some 149) _ = _
                                                            simp only [Act.put, List.setIfInBounds_toArray, List.set_cons_zero, List.set_cons_succ, i64_w, i32_w]
                                                            rfl
                                                          refine pure_ (i := 8) (N := some 150) (v := ?_) (a' := ?_) #[true, true, true, true, true, true, true, true, true] rfl rfl (any_of HT_.out (by kernel_rfl)) (fun _ _ _ h => h) (Or.inl ⟨by rfl, ?_⟩) ?_ ?_
                                                          rotate_left
                                                          · intro w'
                                                            go_simp
                                                            with_reducible rfl
                                                          rotate_left
                                                          · simp only [Act.put, List.setIfInBounds_toArray, List.set_cons_zero, List.set_cons_succ, i64_w, i32_w]
                                                            rfl
                                                          refine done_ (done_of HT_.out (by kernel_rfl)) ?_
                                                          have hcz92_0 : w91.cell? ⟨gb380, 0, none⟩ = some (.int .i64 t376) := (blk_cell BK380.out 0).trans rfl
                                                          have hcz92_1 : w91.cell? ⟨gb380, 1, none⟩ = some (.slice (some ad393) t377.length co51) := (blk_cell BK380.out 1).trans rfl
                                                          have hfz92_0 := blk_frozen BK380.out 0
                                                          have hfz92_1 := blk_frozen BK380.out 1
                                                          have p395 : 0 ≤ (x13_7 : Int) := of_decide_eq_true (by first | (with_reducible assumption) | assumption)
                                                          have q395 : x13_7 < (t377.length : Int) := of_decide_eq_true (by first | (with_reducible assumption) | assumption)
                                                          obtain ⟨ad395, e395, hx395_0⟩ := Kd.at_int (Kd.R_reads' HO_381001.out).2.2 x13_7 p395 q395
                                                          obtain rfl : ad393 = ad395 := (by injection e395)
                                                          replace p395 := eq_true p395
                                                          replace q395 := eq_true q395
                                                          try go_wp2
                                                          go_roundg k7
                                                          case measure => have := HJ2.out; have := HJ6.out; have := HJ17.out; have := HJ40.out; have := HJ62.out; have := HJ72.out; have := HK7.out; omega
                                                          case rel => exact ⟨(wrap64 (x12_7 + 1)), (wrap64 (x13_7 + 1)), (by first | rfl | (simp; done) | (simp [*]; done)), (by first | rfl | (simp; done) | (simp [*]; done)), H', ⟨by have := HJ2.out; have := HJ6.out; have := HJ17.out; have := HJ40.out; have := HJ62.out; have := HJ72.out; have := HK7.out; omega⟩, ⟨by (try simp only [hl5_17]); (with_reducible repeat (first | apply Kd.R_alloc | apply Kd.R_drewN | apply Kd.R_drew)); exact HO_5.out⟩, ⟨by (try simp only [hl5_17]); (with_reducible repeat (first | apply Kd.R_alloc | apply Kd.R_drewN | apply Kd.R_drew)); exact HO_8.out⟩, ⟨by (try simp only [hl5_17]); (with_reducible repeat (first | apply Kd.R_alloc | apply Kd.R_drewN | apply Kd.R_drew)); exact HO_376001.out⟩, ⟨by (try simp only [hl5_17]); (with_reducible repeat (first | apply Kd.R_alloc | apply Kd.R_drewN | apply Kd.R_drew)); exact HO_381001.out⟩, ⟨by (try simp only [hl5_17]); (with_reducible repeat (first | refine blk_drewN ?_ _ | refine blk_drew ?_ | refine blk_alloc ?_ _)); exact BK375.out⟩, ⟨by (try simp only [hl5_17]); (with_reducible repeat (first | refine blk_drewN ?_ _ | refine blk_drew ?_ | refine blk_alloc ?_ _)); exact BK380.out⟩, ⟨by repeat (first | (with_reducible first | exact HB.out | apply below_alloc | apply pw_below_drewN | apply below_drew1 | refine below_set ?_ GE375.out | refine below_set ?_ GE380.out) | exact HB.out)⟩⟩
                                                        · rw [if_neg c88] at H
                                                          have c88b0 : ((rd t377 x13_7) == x9_17) = false := beq_eq_false_iff_ne.mpr c88
                                                          have c88b1 : ((rd t377 x13_7) != x9_17) = true := bne_iff_ne.mpr c88
                                                          exact absurd (Option.some.inj H) (by decide)
                                                    · rw [if_neg c82] at H
                                                      exact absurd H (by simp)
                                                  · rw [if_neg c81] at H
                                                    have c81b0 : decide (x13_7 < (t377.length : Int)) = false := decide_eq_false c81
                                                    clear c81
                                                    obtain ⟨y389, hy389⟩ : ∃ y_ : List ByteArray, y_ = (([t348, t348] : List ByteArray)) := ⟨_, rfl⟩
                                                    replace H : ((impl_MoveCount.f k7 x5_17 x8_17 y389 t349).bind fun t392 => (some (t392 == (wrap64 (2 * x12_7))))) = some true := by first | (rw [hy389]; with_reducible exact H) | (have H2_ := (Option.bind_some _ _).symm.trans H; rw [hy389]; with_reducible exact H2_) | (have H2_ := (Option.bind_some _ _).symm.trans H; with_reducible exact H2_) | with_reducible exact H | (rw [hy389]; exact H) | exact H
                                                    have Ny389 := Aside0.mk hy389
                                                    clear hy389
                                                    replace H := Option.bind_eq_some_iff.mp H
                                                    obtain ⟨t392, A970, H⟩ := H
                                                    replace H : (some (t392 == (wrap64 (2 * x12_7)))) = some true := H
                                                    have A97 := Aside0.mk A970
                                                    clear A970
                                                    have hT_ := Option.some.inj H
                                                    clear H
                                                    have hnb98 := NB380_375.out
                                                    have hnc98 := NB375_380.out
                                                    have hcz99_0 : wr.cell? ⟨gb380, 0, none⟩ = some (.int .i64 t376) := (blk_cell BK380.out 0).trans rfl
                                                    have hcz99_1 : wr.cell? ⟨gb380, 1, none⟩ = some (.slice Ao51 t377.length co51) := (blk_cell BK380.out 1).trans rfl
                                                    have hfz99_0 := blk_frozen BK380.out 0
                                                    have hfz99_1 := blk_frozen BK380.out 1
                                                    go_wp2_with (first | ((with_reducible refine gate_dst (N := 164) rfl ?_); (try (refine gate_guard (by rfl) ?_; dsimp only)); refine Kd.R_lit Kd.string _ 9 ?hg (N := 164) ?hd (xs := ([t348, t348] : List ByteArray)) (inner := [.string t348, .string t348]) (ok := fun _ => True) (okp := fun _ => True) ?hr ?hp (fun _ hk => hk) trivial (Below.refl _ _) (Nat.le_refl _) (by simp) ?_; (case hd => rfl); (case hg => rfl); (case hr => first | (go_simp; done) | (go_simp; rfl)); (case hp => exact (Reps.one (show Kd.M Kd.string _ _ _ t348 [.string t348] from rfl) (Reps.one (show Kd.M Kd.string _ _ _ t348 [.string t348] from rfl) (Reps.none _ _)))); intro v390 w100 ho101 hb hg_ hnew_; clear hg_ hnew_; (first | rw [← Ny389.out] at ho101 | (simp only [Int.reduceToNat] at ho101; rw [← Ny389.out] at ho101)); have n0_ := Aside0.mk (Kd.R_below (by (with_reducible repeat (first | apply Kd.R_alloc | apply Kd.R_drewN | apply Kd.R_drew)); exact HO_5.out) hb); have n1_ := Aside0.mk (Kd.R_below (by (with_reducible repeat (first | apply Kd.R_alloc | apply Kd.R_drewN | apply Kd.R_drew)); exact HO_8.out) hb); have n2_ := Aside0.mk (Kd.R_below (by (with_reducible repeat (first | apply Kd.R_alloc | apply Kd.R_drewN | apply Kd.R_drew)); exact HO_376001.out) hb); have n3_ := Aside0.mk (Kd.R_below (by (with_reducible repeat (first | apply Kd.R_alloc | apply Kd.R_drewN | apply Kd.R_drew)); exact HO_381001.out) hb); have n4_ := Aside0.mk (Kd.R_lower ho101 (below_size (by repeat (first | (with_reducible first | exact HB.out | apply below_alloc | apply pw_below_drewN | apply below_drew1 | refine below_set ?_ GE375.out | refine below_set ?_ GE380.out) | exact HB.out)))); have n5_ := Aside0.mk (blk_below (g := gb375) (o := .cells #[.int .i64 t371, .slice Ao45 t372.length co45] 28 (0, 0)) (by (with_reducible repeat (first | refine blk_drewN ?_ _ | refine blk_drew ?_ | refine blk_alloc ?_ _)); exact BK375.out) hb); have n6_ := Aside0.mk (blk_below (g := gb380) (o := .cells #[.int .i64 t376, .slice Ao51 t377.length co51] 28 (0, 0)) (by (with_reducible repeat (first | refine blk_drewN ?_ _ | refine blk_drew ?_ | refine blk_alloc ?_ _)); exact BK380.out) hb); have n7_ := Aside0.mk (below_step (by repeat (first | (with_reducible first | exact HB.out | apply below_alloc | apply pw_below_drewN | apply below_drew1 | refine below_set ?_ GE375.out | refine below_set ?_ GE380.out) | exact HB.out)) hb); clear HO_5; clear HO_8; clear HO_376001; clear HO_381001; clear BK375; clear BK380; clear HB; have HO_5 := n0_; have HO_8 := n1_; have HO_376001 := n2_; have HO_381001 := n3_; have HO391 := n4_; have BK375 := n5_; have BK380 := n6_; have HB := n7_; clear n0_ n1_ n2_ n3_ n4_ n5_ n6_ n7_; clear hb ho101; obtain ⟨Ao102, co102, eo102⟩ := Kd.R_slice HO391.out; subst eo102) | ((with_reducible refine gate_callee (f := 26) rfl ?_); refine goesL_ (some 166) rfl rfl Try.func26 (by kernel_rfl) rfl #[.slice Ao22 x5_17.length co22, .slice Ao46 x8_17.length co46, .slice Ao102 y389.length co102, .int .i64 t349] rfl (by (try simp only [List.map_toArray, List.map_cons, List.map_nil]); first | done | rfl | (simp only [List.length_drop, List.length_take]; rfl)) ?_; (with_reducible refine (impl_MoveCount.calls k7 _ _ x5_17 _ _ x8_17 _ _ y389 t349 t392 _ ?side1 ?side2 ?side3 ?side4 ?side5 ?side6 A97.out).mono ?_); (case side1 => repeat (first | exact (Kd.R_reads' HO_5.out).2.2 | (with_reducible refine Kd.C_alloc ?_ _) | (with_reducible refine Kd.C_drewN ?_ _) | (with_reducible refine Kd.C_drew ?_))); (case side2 => exact (Kd.R_reads' HO_5.out).2.1); (case side3 => repeat (first | exact (Kd.R_reads' HO_8.out).2.2 | (with_reducible refine Kd.C_alloc ?_ _) | (with_reducible refine Kd.C_drewN ?_ _) | (with_reducible refine Kd.C_drew ?_))); (case side4 => exact (Kd.R_reads' HO_8.out).2.1); (case side5 => repeat (first | exact (Kd.R_reads' HO391.out).2.2 | (with_reducible refine Kd.C_alloc ?_ _) | (with_reducible refine Kd.C_drewN ?_ _) | (with_reducible refine Kd.C_drew ?_))); (case side6 => exact (Kd.R_reads' HO391.out).2.1); rintro e w103 ⟨rfl, hb⟩; refine ⟨_, rfl, ?_⟩; have n0_ := Aside0.mk (Kd.R_below (by (with_reducible repeat (first | apply Kd.R_alloc | apply Kd.R_drewN | apply Kd.R_drew)); exact HO_5.out) hb); have n1_ := Aside0.mk (Kd.R_below (by (with_reducible repeat (first | apply Kd.R_alloc | apply Kd.R_drewN | apply Kd.R_drew)); exact HO_8.out) hb); have n2_ := Aside0.mk (Kd.R_below (by (with_reducible repeat (first | apply Kd.R_alloc | apply Kd.R_drewN | apply Kd.R_drew)); exact HO_376001.out) hb); have n3_ := Aside0.mk (Kd.R_below (by (with_reducible repeat (first | apply Kd.R_alloc | apply Kd.R_drewN | apply Kd.R_drew)); exact HO_381001.out) hb); have n4_ := Aside0.mk (Kd.R_below (by (with_reducible repeat (first | apply Kd.R_alloc | apply Kd.R_drewN | apply Kd.R_drew)); exact HO391.out) hb); have n5_ := Aside0.mk (blk_below (g := gb375) (o := .cells #[.int .i64 t371, .slice Ao45 t372.length co45] 28 (0, 0)) (by (with_reducible repeat (first | refine blk_drewN ?_ _ | refine blk_drew ?_ | refine blk_alloc ?_ _)); exact BK375.out) hb); have n6_ := Aside0.mk (blk_below (g := gb380) (o := .cells #[.int .i64 t376, .slice Ao51 t377.length co51] 28 (0, 0)) (by (with_reducible repeat (first | refine blk_drewN ?_ _ | refine blk_drew ?_ | refine blk_alloc ?_ _)); exact BK380.out) hb); have n7_ := Aside0.mk (below_step (by repeat (first | (with_reducible first | exact HB.out | apply below_alloc | apply pw_below_drewN | apply below_drew1 | refine below_set ?_ GE375.out | refine below_set ?_ GE380.out) | exact HB.out)) hb); clear HO_5; clear HO_8; clear HO_376001; clear HO_381001; clear HO391; clear BK375; clear BK380; clear HB; have HO_5 := n0_; have HO_8 := n1_; have HO_376001 := n2_; have HO_381001 := n3_; have HO391 := n4_; have BK375 := n5_; have BK380 := n6_; have HB := n7_; clear n0_ n1_ n2_ n3_ n4_ n5_ n6_ n7_; (try clear hb); (try clear hb2); (try clear hk); (try clear hi)))
                                                    go_ret
                                                    exact ⟨by first | rfl | (simp [errW_none, errW_some] <;> rfl) | (simp [*, errW_none, errW_some] <;> rfl), by repeat (first | (with_reducible first | exact HB.out | apply below_alloc | apply pw_below_drewN | apply below_drew1 | refine below_set ?_ GE375.out | refine below_set ?_ GE380.out) | exact HB.out)⟩
              · rw [if_neg c14] at H
                exact absurd H (by simp)

end Go.Proofs.Ytmkeepildbkmeaa.PFnMoves
