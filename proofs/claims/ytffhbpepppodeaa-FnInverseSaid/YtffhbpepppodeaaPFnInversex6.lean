import Derived.Test.YtffhbpepppodeaaPFnInversex0
import Derived.Test.YtffhbpepppodeaaPFnInversex3
import Derived.Test.YtffhbpepppodeaaPFnInversex4
import Derived.Test.YtffhbpepppodeaaPFnInversex5
namespace Go.Proofs.Ytffhbpepppodeaa.PFnInverse
open Go.RowKit Go.Proofs.YtffhbpepppodeaaW.PrintWords Go.Proofs.YtffhbpepppodeaaW.PrintLast Go.Proofs.YtffhbpepppodeaaW.PrintMore
attribute [local go_sem] max2_int min2_int max_two min_two max_three min_three max_four min_four   -- for this text's walks alone
set_option linter.unusedVariables false
set_option linter.unusedSimpArgs false

/-! ### spec_MatInv: function 17 -/
mutual
def spec_MatInv.j0 : Nat → Bool → Int → Int → List Int → Option (Int × Int × Int × List Int)
 | 0,_,_,_,_=>none
 | k + 1,x21,x148000,x148001,x148002=>if x21 = true then (some (1,0,0,([] : List Int))) else ((spec_l03Rank.f k x148000 x148001 x148002).bind fun t150=>(if t150 < x148000 then (some (5,0,0,([] : List Int))) else ((spec_l03New.f x148000 (wrap64 (2 * x148000))).bind fun bt151=>(spec_MatInv.l0 k x148000 0 x148000 x148001 x148002 bt151.1 bt151.2.1 bt151.2.2))))
def spec_MatInv.l0 : Nat → Int → Int → Int → Int → List Int → Int → Int → List Int → Option (Int × Int × Int × List Int)
 | 0,_,_,_,_,_,_,_,_=>none
 | k + 1,x3,x5,x148000,x148001,x148002,x157000,x157001,x157002=>if x5 < x3 then (spec_MatInv.l1 k x3 x5 0 x148000 x148001 x148002 x157000 x157001 x157002) else (spec_MatInv.l2 k x3 0 x157000 x157001 x157002)
def spec_MatInv.l1 : Nat → Int → Int → Int → Int → Int → List Int → Int → Int → List Int → Option (Int × Int × Int × List Int)
 | 0,_,_,_,_,_,_,_,_,_=>none
 | k + 1,x3,x5,x6,x148000,x148001,x148002,x157000,x157001,x157002=>if x6 < x3 then ((spec_l03At.f x148000 x148001 x148002 x5 x6).bind fun t157=>(if 0 ≤ (wrap64 ((wrap64 ((wrap64 (x5 * 2)) * x3)) + x6)) then (if (wrap64 ((wrap64 ((wrap64 (x5 * 2)) * x3)) + x6)) < (x157002.length : Int) then (spec_MatInv.l1 k x3 x5 (wrap64 (x6 + 1)) x148000 x148001 x148002 x157000 x157001 (x157002.set ((wrap64 ((wrap64 ((wrap64 (x5 * 2)) * x3)) + x6)) : Int).toNat t157)) else (none)) else (none))) else (if 0 ≤ (wrap64 ((wrap64 ((wrap64 ((wrap64 (x5 * 2)) * x3)) + x3)) + x5)) then (if (wrap64 ((wrap64 ((wrap64 ((wrap64 (x5 * 2)) * x3)) + x3)) + x5)) < (x157002.length : Int) then (spec_MatInv.l0 k x3 (wrap64 (x5 + 1)) x148000 x148001 x148002 x157000 x157001 (x157002.set ((wrap64 ((wrap64 ((wrap64 ((wrap64 (x5 * 2)) * x3)) + x3)) + x5)) : Int).toNat 1)) else (none)) else (none))
def spec_MatInv.l2 : Nat → Int → Int → Int → Int → List Int → Option (Int × Int × Int × List Int)
 | 0,_,_,_,_,_=>none
 | k + 1,x3,x7,x157000,x157001,x157002=>if x7 < x3 then (spec_MatInv.l3 k x3 x7 x7 x157000 x157001 x157002) else ((spec_l03New.f x3 x3).bind fun bt163=>(spec_MatInv.l4 k x3 0 x157000 x157001 x157002 bt163.1 bt163.2.1 bt163.2.2))
def spec_MatInv.l3 : Nat → Int → Int → Int → Int → Int → List Int → Option (Int × Int × Int × List Int)
 | 0,_,_,_,_,_,_=>none
 | k + 1,x3,x7,x8,x157000,x157001,x157002=>(spec_l03At.f x157000 x157001 x157002 x8 x7).bind fun t160=>(if t160 = 0 then (spec_MatInv.l3 k x3 x7 (wrap64 (x8 + 1)) x157000 x157001 x157002) else ((spec_l03Swap.f k x157000 x157001 x157002 x7 x8).bind fun t161=>((spec_l03Clear.f k x157000 x157001 t161 x7 x7).bind fun t162=>(spec_MatInv.l2 k x3 (wrap64 (x7 + 1)) x157000 x157001 t162))))
def spec_MatInv.l4 : Nat → Int → Int → Int → Int → List Int → Int → Int → List Int → Option (Int × Int × Int × List Int)
 | 0,_,_,_,_,_,_,_,_=>none
 | k + 1,x3,x10,x157000,x157001,x157002,x169000,x169001,x169002=>if x10 < x3 then (spec_MatInv.l5 k x3 x10 0 x157000 x157001 x157002 x169000 x169001 x169002) else (some (0,x169000,x169001,x169002))
def spec_MatInv.l5 : Nat → Int → Int → Int → Int → Int → List Int → Int → Int → List Int → Option (Int × Int × Int × List Int)
 | 0,_,_,_,_,_,_,_,_,_=>none
 | k + 1,x3,x10,x11,x157000,x157001,x157002,x169000,x169001,x169002=>if x11 < x3 then ((spec_l03At.f x157000 x157001 x157002 x10 (wrap64 (x3 + x11))).bind fun t169=>(if 0 ≤ (wrap64 ((wrap64 (x10 * x3)) + x11)) then (if (wrap64 ((wrap64 (x10 * x3)) + x11)) < (x169002.length : Int) then (spec_MatInv.l5 k x3 x10 (wrap64 (x11 + 1)) x157000 x157001 x157002 x169000 x169001 (x169002.set ((wrap64 ((wrap64 (x10 * x3)) + x11)) : Int).toNat t169)) else (none)) else (none))) else (spec_MatInv.l4 k x3 (wrap64 (x10 + 1)) x157000 x157001 x157002 x169000 x169001 x169002)
end
def spec_MatInv.f (k : Nat) (a0_0 : Int) (a0_1 : Int) (l0_2 : List Int) : Option (Int × Int × Int × List Int):=(spec_MatrixFault.f k a0_0 a0_1 l0_2).bind fun t149=>(if t149 = 0 then (spec_MatInv.j0 k (a0_0 != a0_1) a0_0 a0_1 l0_2) else (spec_MatInv.j0 k true a0_0 a0_1 l0_2))
theorem spec_MatInv.mono_l : ∀ k,(∀ y0 y1 y2 y3,LeO (spec_MatInv.j0 k y0 y1 y2 y3) (spec_MatInv.j0 (k + 1) y0 y1 y2 y3)) ∧ (∀ y0 y1 y2 y3 y4 y5 y6 y7,LeO (spec_MatInv.l0 k y0 y1 y2 y3 y4 y5 y6 y7) (spec_MatInv.l0 (k + 1) y0 y1 y2 y3 y4 y5 y6 y7)) ∧ (∀ y0 y1 y2 y3 y4 y5 y6 y7 y8,LeO (spec_MatInv.l1 k y0 y1 y2 y3 y4 y5 y6 y7 y8) (spec_MatInv.l1 (k + 1) y0 y1 y2 y3 y4 y5 y6 y7 y8)) ∧ (∀ y0 y1 y2 y3 y4,LeO (spec_MatInv.l2 k y0 y1 y2 y3 y4) (spec_MatInv.l2 (k + 1) y0 y1 y2 y3 y4)) ∧ (∀ y0 y1 y2 y3 y4 y5,LeO (spec_MatInv.l3 k y0 y1 y2 y3 y4 y5) (spec_MatInv.l3 (k + 1) y0 y1 y2 y3 y4 y5)) ∧ (∀ y0 y1 y2 y3 y4 y5 y6 y7,LeO (spec_MatInv.l4 k y0 y1 y2 y3 y4 y5 y6 y7) (spec_MatInv.l4 (k + 1) y0 y1 y2 y3 y4 y5 y6 y7)) ∧ (∀ y0 y1 y2 y3 y4 y5 y6 y7 y8,LeO (spec_MatInv.l5 k y0 y1 y2 y3 y4 y5 y6 y7 y8) (spec_MatInv.l5 (k + 1) y0 y1 y2 y3 y4 y5 y6 y7 y8))
 | 0=>⟨fun _ _ _ _ r h=>by simp [spec_MatInv.j0] at h,fun _ _ _ _ _ _ _ _ r h=>by simp [spec_MatInv.l0] at h,fun _ _ _ _ _ _ _ _ _ r h=>by simp [spec_MatInv.l1] at h,fun _ _ _ _ _ r h=>by simp [spec_MatInv.l2] at h,fun _ _ _ _ _ _ r h=>by simp [spec_MatInv.l3] at h,fun _ _ _ _ _ _ _ _ r h=>by simp [spec_MatInv.l4] at h,fun _ _ _ _ _ _ _ _ _ r h=>by simp [spec_MatInv.l5] at h⟩
 | k + 1=>by
  obtain ⟨ih0,ih1,ih2,ih3,ih4,ih5,ih6⟩:=spec_MatInv.mono_l k
  refine ⟨?_,?_,?_,?_,?_,?_,?_⟩
  ·intro y0 y1 y2 y3
   unfold spec_MatInv.j0
   repeat' first
   | (with_reducible exact ih0 _ _ _ _)
   | (with_reducible exact ih1 _ _ _ _ _ _ _ _)
   | (with_reducible exact ih2 _ _ _ _ _ _ _ _ _)
   | (with_reducible exact ih3 _ _ _ _ _)
   | (with_reducible exact ih4 _ _ _ _ _ _)
   | (with_reducible exact ih5 _ _ _ _ _ _ _ _)
   | (with_reducible exact ih6 _ _ _ _ _ _ _ _ _)
   | (with_reducible exact spec_MatrixFault.mono _ _ _ _)
   | (with_reducible exact spec_l03Clear.mono _ _ _ _ _ _)
   | (with_reducible exact spec_l03Rank.mono _ _ _ _)
   | (with_reducible exact spec_l03Swap.mono _ _ _ _ _ _)
   | (with_reducible exact LeO.refl _)
   | (with_reducible exact LeO.none _)
   | (with_reducible refine LeO.ite ?_ ?_)
   | (with_reducible refine LeO.bind ?_ (fun _=>?_))
   | exact ih0 _ _ _ _
   | exact ih1 _ _ _ _ _ _ _ _
   | exact ih2 _ _ _ _ _ _ _ _ _
   | exact ih3 _ _ _ _ _
   | exact ih4 _ _ _ _ _ _
   | exact ih5 _ _ _ _ _ _ _ _
   | exact ih6 _ _ _ _ _ _ _ _ _
   | exact spec_MatrixFault.mono _ _ _ _
   | exact spec_l03Clear.mono _ _ _ _ _ _
   | exact spec_l03Rank.mono _ _ _ _
   | exact spec_l03Swap.mono _ _ _ _ _ _
   | exact LeO.none _
   | refine LeO.ite ?_ ?_
   | refine LeO.bind ?_ (fun _=>?_)
  ·intro y0 y1 y2 y3 y4 y5 y6 y7
   unfold spec_MatInv.l0
   repeat' first
   | (with_reducible exact ih0 _ _ _ _)
   | (with_reducible exact ih1 _ _ _ _ _ _ _ _)
   | (with_reducible exact ih2 _ _ _ _ _ _ _ _ _)
   | (with_reducible exact ih3 _ _ _ _ _)
   | (with_reducible exact ih4 _ _ _ _ _ _)
   | (with_reducible exact ih5 _ _ _ _ _ _ _ _)
   | (with_reducible exact ih6 _ _ _ _ _ _ _ _ _)
   | (with_reducible exact spec_MatrixFault.mono _ _ _ _)
   | (with_reducible exact spec_l03Clear.mono _ _ _ _ _ _)
   | (with_reducible exact spec_l03Rank.mono _ _ _ _)
   | (with_reducible exact spec_l03Swap.mono _ _ _ _ _ _)
   | (with_reducible exact LeO.refl _)
   | (with_reducible exact LeO.none _)
   | (with_reducible refine LeO.ite ?_ ?_)
   | (with_reducible refine LeO.bind ?_ (fun _=>?_))
   | exact ih0 _ _ _ _
   | exact ih1 _ _ _ _ _ _ _ _
   | exact ih2 _ _ _ _ _ _ _ _ _
   | exact ih3 _ _ _ _ _
   | exact ih4 _ _ _ _ _ _
   | exact ih5 _ _ _ _ _ _ _ _
   | exact ih6 _ _ _ _ _ _ _ _ _
   | exact spec_MatrixFault.mono _ _ _ _
   | exact spec_l03Clear.mono _ _ _ _ _ _
   | exact spec_l03Rank.mono _ _ _ _
   | exact spec_l03Swap.mono _ _ _ _ _ _
   | exact LeO.none _
   | refine LeO.ite ?_ ?_
   | refine LeO.bind ?_ (fun _=>?_)
  ·intro y0 y1 y2 y3 y4 y5 y6 y7 y8
   unfold spec_MatInv.l1
   repeat' first
   | (with_reducible exact ih0 _ _ _ _)
   | (with_reducible exact ih1 _ _ _ _ _ _ _ _)
   | (with_reducible exact ih2 _ _ _ _ _ _ _ _ _)
   | (with_reducible exact ih3 _ _ _ _ _)
   | (with_reducible exact ih4 _ _ _ _ _ _)
   | (with_reducible exact ih5 _ _ _ _ _ _ _ _)
   | (with_reducible exact ih6 _ _ _ _ _ _ _ _ _)
   | (with_reducible exact spec_MatrixFault.mono _ _ _ _)
   | (with_reducible exact spec_l03Clear.mono _ _ _ _ _ _)
   | (with_reducible exact spec_l03Rank.mono _ _ _ _)
   | (with_reducible exact spec_l03Swap.mono _ _ _ _ _ _)
   | (with_reducible exact LeO.refl _)
   | (with_reducible exact LeO.none _)
   | (with_reducible refine LeO.ite ?_ ?_)
   | (with_reducible refine LeO.bind ?_ (fun _=>?_))
   | exact ih0 _ _ _ _
   | exact ih1 _ _ _ _ _ _ _ _
   | exact ih2 _ _ _ _ _ _ _ _ _
   | exact ih3 _ _ _ _ _
   | exact ih4 _ _ _ _ _ _
   | exact ih5 _ _ _ _ _ _ _ _
   | exact ih6 _ _ _ _ _ _ _ _ _
   | exact spec_MatrixFault.mono _ _ _ _
   | exact spec_l03Clear.mono _ _ _ _ _ _
   | exact spec_l03Rank.mono _ _ _ _
   | exact spec_l03Swap.mono _ _ _ _ _ _
   | exact LeO.none _
   | refine LeO.ite ?_ ?_
   | refine LeO.bind ?_ (fun _=>?_)
  ·intro y0 y1 y2 y3 y4
   unfold spec_MatInv.l2
   repeat' first
   | (with_reducible exact ih0 _ _ _ _)
   | (with_reducible exact ih1 _ _ _ _ _ _ _ _)
   | (with_reducible exact ih2 _ _ _ _ _ _ _ _ _)
   | (with_reducible exact ih3 _ _ _ _ _)
   | (with_reducible exact ih4 _ _ _ _ _ _)
   | (with_reducible exact ih5 _ _ _ _ _ _ _ _)
   | (with_reducible exact ih6 _ _ _ _ _ _ _ _ _)
   | (with_reducible exact spec_MatrixFault.mono _ _ _ _)
   | (with_reducible exact spec_l03Clear.mono _ _ _ _ _ _)
   | (with_reducible exact spec_l03Rank.mono _ _ _ _)
   | (with_reducible exact spec_l03Swap.mono _ _ _ _ _ _)
   | (with_reducible exact LeO.refl _)
   | (with_reducible exact LeO.none _)
   | (with_reducible refine LeO.ite ?_ ?_)
   | (with_reducible refine LeO.bind ?_ (fun _=>?_))
   | exact ih0 _ _ _ _
   | exact ih1 _ _ _ _ _ _ _ _
   | exact ih2 _ _ _ _ _ _ _ _ _
   | exact ih3 _ _ _ _ _
   | exact ih4 _ _ _ _ _ _
   | exact ih5 _ _ _ _ _ _ _ _
   | exact ih6 _ _ _ _ _ _ _ _ _
   | exact spec_MatrixFault.mono _ _ _ _
   | exact spec_l03Clear.mono _ _ _ _ _ _
   | exact spec_l03Rank.mono _ _ _ _
   | exact spec_l03Swap.mono _ _ _ _ _ _
   | exact LeO.none _
   | refine LeO.ite ?_ ?_
   | refine LeO.bind ?_ (fun _=>?_)
  ·intro y0 y1 y2 y3 y4 y5
   unfold spec_MatInv.l3
   repeat' first
   | (with_reducible exact ih0 _ _ _ _)
   | (with_reducible exact ih1 _ _ _ _ _ _ _ _)
   | (with_reducible exact ih2 _ _ _ _ _ _ _ _ _)
   | (with_reducible exact ih3 _ _ _ _ _)
   | (with_reducible exact ih4 _ _ _ _ _ _)
   | (with_reducible exact ih5 _ _ _ _ _ _ _ _)
   | (with_reducible exact ih6 _ _ _ _ _ _ _ _ _)
   | (with_reducible exact spec_MatrixFault.mono _ _ _ _)
   | (with_reducible exact spec_l03Clear.mono _ _ _ _ _ _)
   | (with_reducible exact spec_l03Rank.mono _ _ _ _)
   | (with_reducible exact spec_l03Swap.mono _ _ _ _ _ _)
   | (with_reducible exact LeO.refl _)
   | (with_reducible exact LeO.none _)
   | (with_reducible refine LeO.ite ?_ ?_)
   | (with_reducible refine LeO.bind ?_ (fun _=>?_))
   | exact ih0 _ _ _ _
   | exact ih1 _ _ _ _ _ _ _ _
   | exact ih2 _ _ _ _ _ _ _ _ _
   | exact ih3 _ _ _ _ _
   | exact ih4 _ _ _ _ _ _
   | exact ih5 _ _ _ _ _ _ _ _
   | exact ih6 _ _ _ _ _ _ _ _ _
   | exact spec_MatrixFault.mono _ _ _ _
   | exact spec_l03Clear.mono _ _ _ _ _ _
   | exact spec_l03Rank.mono _ _ _ _
   | exact spec_l03Swap.mono _ _ _ _ _ _
   | exact LeO.none _
   | refine LeO.ite ?_ ?_
   | refine LeO.bind ?_ (fun _=>?_)
  ·intro y0 y1 y2 y3 y4 y5 y6 y7
   unfold spec_MatInv.l4
   repeat' first
   | (with_reducible exact ih0 _ _ _ _)
   | (with_reducible exact ih1 _ _ _ _ _ _ _ _)
   | (with_reducible exact ih2 _ _ _ _ _ _ _ _ _)
   | (with_reducible exact ih3 _ _ _ _ _)
   | (with_reducible exact ih4 _ _ _ _ _ _)
   | (with_reducible exact ih5 _ _ _ _ _ _ _ _)
   | (with_reducible exact ih6 _ _ _ _ _ _ _ _ _)
   | (with_reducible exact spec_MatrixFault.mono _ _ _ _)
   | (with_reducible exact spec_l03Clear.mono _ _ _ _ _ _)
   | (with_reducible exact spec_l03Rank.mono _ _ _ _)
   | (with_reducible exact spec_l03Swap.mono _ _ _ _ _ _)
   | (with_reducible exact LeO.refl _)
   | (with_reducible exact LeO.none _)
   | (with_reducible refine LeO.ite ?_ ?_)
   | (with_reducible refine LeO.bind ?_ (fun _=>?_))
   | exact ih0 _ _ _ _
   | exact ih1 _ _ _ _ _ _ _ _
   | exact ih2 _ _ _ _ _ _ _ _ _
   | exact ih3 _ _ _ _ _
   | exact ih4 _ _ _ _ _ _
   | exact ih5 _ _ _ _ _ _ _ _
   | exact ih6 _ _ _ _ _ _ _ _ _
   | exact spec_MatrixFault.mono _ _ _ _
   | exact spec_l03Clear.mono _ _ _ _ _ _
   | exact spec_l03Rank.mono _ _ _ _
   | exact spec_l03Swap.mono _ _ _ _ _ _
   | exact LeO.none _
   | refine LeO.ite ?_ ?_
   | refine LeO.bind ?_ (fun _=>?_)
  ·intro y0 y1 y2 y3 y4 y5 y6 y7 y8
   unfold spec_MatInv.l5
   repeat' first
   | (with_reducible exact ih0 _ _ _ _)
   | (with_reducible exact ih1 _ _ _ _ _ _ _ _)
   | (with_reducible exact ih2 _ _ _ _ _ _ _ _ _)
   | (with_reducible exact ih3 _ _ _ _ _)
   | (with_reducible exact ih4 _ _ _ _ _ _)
   | (with_reducible exact ih5 _ _ _ _ _ _ _ _)
   | (with_reducible exact ih6 _ _ _ _ _ _ _ _ _)
   | (with_reducible exact spec_MatrixFault.mono _ _ _ _)
   | (with_reducible exact spec_l03Clear.mono _ _ _ _ _ _)
   | (with_reducible exact spec_l03Rank.mono _ _ _ _)
   | (with_reducible exact spec_l03Swap.mono _ _ _ _ _ _)
   | (with_reducible exact LeO.refl _)
   | (with_reducible exact LeO.none _)
   | (with_reducible refine LeO.ite ?_ ?_)
   | (with_reducible refine LeO.bind ?_ (fun _=>?_))
   | exact ih0 _ _ _ _
   | exact ih1 _ _ _ _ _ _ _ _
   | exact ih2 _ _ _ _ _ _ _ _ _
   | exact ih3 _ _ _ _ _
   | exact ih4 _ _ _ _ _ _
   | exact ih5 _ _ _ _ _ _ _ _
   | exact ih6 _ _ _ _ _ _ _ _ _
   | exact spec_MatrixFault.mono _ _ _ _
   | exact spec_l03Clear.mono _ _ _ _ _ _
   | exact spec_l03Rank.mono _ _ _ _
   | exact spec_l03Swap.mono _ _ _ _ _ _
   | exact LeO.none _
   | refine LeO.ite ?_ ?_
   | refine LeO.bind ?_ (fun _=>?_)
theorem spec_MatInv.mono : ∀ a0 a1 a2 k,LeO (spec_MatInv.f k a0 a1 a2) (spec_MatInv.f (k + 1) a0 a1 a2):=by
 intro a0 a1 a2 k
 obtain ⟨ih0,ih1,ih2,ih3,ih4,ih5,ih6⟩:=spec_MatInv.mono_l k
 unfold spec_MatInv.f
 repeat' first
   | (with_reducible exact ih0 _ _ _ _)
   | (with_reducible exact ih1 _ _ _ _ _ _ _ _)
   | (with_reducible exact ih2 _ _ _ _ _ _ _ _ _)
   | (with_reducible exact ih3 _ _ _ _ _)
   | (with_reducible exact ih4 _ _ _ _ _ _)
   | (with_reducible exact ih5 _ _ _ _ _ _ _ _)
   | (with_reducible exact ih6 _ _ _ _ _ _ _ _ _)
   | (with_reducible exact spec_MatrixFault.mono _ _ _ _)
   | (with_reducible exact spec_l03Clear.mono _ _ _ _ _ _)
   | (with_reducible exact spec_l03Rank.mono _ _ _ _)
   | (with_reducible exact spec_l03Swap.mono _ _ _ _ _ _)
   | (with_reducible exact LeO.refl _)
   | (with_reducible exact LeO.none _)
   | (with_reducible refine LeO.ite ?_ ?_)
   | (with_reducible refine LeO.bind ?_ (fun _=>?_))
   | exact ih0 _ _ _ _
   | exact ih1 _ _ _ _ _ _ _ _
   | exact ih2 _ _ _ _ _ _ _ _ _
   | exact ih3 _ _ _ _ _
   | exact ih4 _ _ _ _ _ _
   | exact ih5 _ _ _ _ _ _ _ _
   | exact ih6 _ _ _ _ _ _ _ _ _
   | exact spec_MatrixFault.mono _ _ _ _
   | exact spec_l03Clear.mono _ _ _ _ _ _
   | exact spec_l03Rank.mono _ _ _ _
   | exact spec_l03Swap.mono _ _ _ _ _ _
   | exact LeO.none _
   | refine LeO.ite ?_ ?_
   | refine LeO.bind ?_ (fun _=>?_)
def spec_MatInv.T13 : Bool × List (List Nat × List Nat):=(true,[([],[]),([0],[0]),([],[]),([2],[2]),([],[]),([3,4],[3,4]),([],[]),([5,6],[5,6]),([],[]),([],[]),([],[]),([8,9,10],[8,9,10]),([1,7,0,1,2,3,4,5,6,7,8,9,10,11],[1,7]),([12,11,11,0,1,2,3,4,5,6,7,8,9,10,11],[11,12])])
def spec_MatInv.B13 : List Nat:=[0,1,0,4,0,28,0,124,0,0,0,1792,4095,8191]
theorem spec_MatInv.tab13 : rtab .any (opsOf Try.f17 13) = spec_MatInv.T13:=by kernel_rfl
theorem spec_MatInv.bits13 : waitsOk spec_MatInv.T13.2 spec_MatInv.B13 = true:=by kernel_rfl
def spec_MatInv.T30 : Bool × List (List Nat × List Nat):=(true,[([],[]),([0],[0]),([],[]),([],[]),([2,3],[2,3]),([],[]),([4,5],[4,5]),([],[]),([],[]),([],[]),([],[]),([9,10],[9,10]),([7,8,11],[7,8,11]),([1,6,0,1,2,3,4,5,6,7,8,9,10,11,12],[1,6]),([13,12,12,0,1,2,3,4,5,6,7,8,9,10,11,12],[12,13])])
def spec_MatInv.B30 : List Nat:=[0,1,0,0,12,0,60,0,0,0,0,1536,3968,8191,16383]
theorem spec_MatInv.tab30 : rtab .any (opsOf Try.f17 30) = spec_MatInv.T30:=by kernel_rfl
theorem spec_MatInv.bits30 : waitsOk spec_MatInv.T30.2 spec_MatInv.B30 = true:=by kernel_rfl
set_option maxHeartbeats 8000000 in
set_option maxRecDepth 100000 in
theorem spec_MatInv.calls (k : Nat) (a0_0 : Int) (a0_1 : Int) (A0_2 : Option Addr) (c0_2 : Nat) (l0_2 : List Int) (r1 : Int) (r2 : Int) (r3 : Int) (r4 : List Int) (w : World) (hr0_2 : Kd.C (Kd.int .i64) w A0_2 l0_2.length l0_2) (hc0_2 : l0_2.length ≤ c0_2) (h : spec_MatInv.f k a0_0 a0_1 l0_2 = some (r1,r2,r3,r4)) :
  Calls Try.prog 17 #[.agg #[.int .i64 a0_0,.int .i64 a0_1,.slice A0_2 l0_2.length c0_2]] w fun e w'=>∃ v3_ : Value,e = .returned (.agg #[.int .i64 r1,.int .i64 r2,.int .i64 r3,v3_]) ∧ Kd.R (Kd.int .i64) 2 w' w.heap.size (fun _=>True) v3_ r4 ∧ Below w.heap.size w w':=by
 have hu27:=Try.underlying27
 have hu32:=Try.underlying32
 have HR0_2:=Aside0.mk hr0_2
 have HC0_2:=Aside0.mk hc0_2
 clear hr0_2 hc0_2
 have HB:=Aside0.mk (Below.refl w.heap.size w)
 have H : ((spec_MatrixFault.f k a0_0 a0_1 l0_2).bind fun t149=>(if t149 = 0 then (spec_MatInv.j0 k (a0_0 != a0_1) a0_0 a0_1 l0_2) else (spec_MatInv.j0 k true a0_0 a0_1 l0_2))) = some (r1,r2,r3,r4):=h
 clear h
 have HC2:=Aside0.mk H
 clear H
 go_enter Try.func17,Try.ntmps17
 go_upto_region 1 with (first|((with_reducible refine gate_dst (N:=1) rfl ?_);refine box_event ?hg (N:=1) ?hd (cs:=#[.int .i64 a0_0,.int .i64 a0_1,.slice A0_2 l0_2.length c0_2]) (t:=27) ?hr ?_;(case hd=>rfl);(case hg=>rfl);(case hr=>first|(go_simp;done)|(go_simp;rfl));intro gb147 hg w3 hbox hb;have n0_:=Aside0.mk (below_step (by repeat (first|(with_reducible first|exact HB.out|apply below_alloc|apply pw_below_drewN|apply below_drew1)|exact HB.out)) hb);have n1_:=Aside0.mk (hbox);have n2_:=Aside0.mk ((by rw [hg];exact (below_size (by repeat (first|(with_reducible first|exact HB.out|apply below_alloc|apply pw_below_drewN|apply below_drew1)|exact HB.out))) : w.heap.size ≤ gb147));have n3_:=Aside0.mk ((by rw [hg];exact (below_size (by repeat (first|(with_reducible first|exact HB.out|apply below_alloc|apply pw_below_drewN|apply below_drew1)|exact HB.out))) : w.heap.size ≤ gb147));clear HB;have HB:=n0_;have BK147:=n1_;have GW147:=n2_;have GE147:=n3_;clear n0_ n1_ n2_ n3_ hb hbox hg)|((with_reducible refine gate_dst (N:=2) rfl ?_);refine box_event ?hg (N:=2) ?hd (cs:=#[.int .i64 0,.int .i64 0,.int .i64 0,.slice none 0 0]) (t:=32) ?hr ?_;(case hd=>rfl);(case hg=>rfl);(case hr=>first|(go_simp;done)|(go_simp;rfl));intro gb148 hg w4 hbox hb;have n0_:=Aside0.mk (blk_below (g:=gb147) (o:=.cells #[.int .i64 a0_0,.int .i64 a0_1,.slice A0_2 l0_2.length c0_2] 27 (0,0)) (by (with_reducible repeat first|refine blk_drewN ?_ _|refine blk_alloc ?_ _);exact BK147.out) hb);have n1_:=Aside0.mk (below_step (by repeat (first|(with_reducible first|exact HB.out|apply below_alloc|apply pw_below_drewN|apply below_drew1|refine below_set ?_ GE147.out)|exact HB.out)) hb);have n2_:=Aside0.mk (hbox);have n3_:=Aside0.mk ((by rw [hg];exact (below_size (by repeat (first|(with_reducible first|exact HB.out|apply below_alloc|apply pw_below_drewN|apply below_drew1|refine below_set ?_ GE147.out)|exact HB.out))) : w.heap.size ≤ gb148));have n4_:=Aside0.mk ((by rw [hg];exact (below_size (by repeat (first|(with_reducible first|exact HB.out|apply below_alloc|apply pw_below_drewN|apply below_drew1|refine below_set ?_ GE147.out)|exact HB.out))) : w.heap.size ≤ gb148));have n5_:=Aside0.mk ((by rw [hg];exact Nat.ne_of_lt (blk_lt (g:=gb147) (o:=.cells #[.int .i64 a0_0,.int .i64 a0_1,.slice A0_2 l0_2.length c0_2] 27 (0,0)) (by (with_reducible repeat first|refine blk_drewN ?_ _|refine blk_alloc ?_ _);exact BK147.out)) : gb147 ≠ gb148));have n6_:=Aside0.mk ((by rw [hg];exact Nat.ne_of_gt (blk_lt (g:=gb147) (o:=.cells #[.int .i64 a0_0,.int .i64 a0_1,.slice A0_2 l0_2.length c0_2] 27 (0,0)) (by (with_reducible repeat first|refine blk_drewN ?_ _|refine blk_alloc ?_ _);exact BK147.out)) : gb148 ≠ gb147));clear BK147 HB;have BK147:=n0_;have HB:=n1_;have BK148:=n2_;have GW148:=n3_;have GE148:=n4_;have NB147_148:=n5_;have NB148_147:=n6_;clear n0_ n1_ n2_ n3_ n4_ n5_ n6_ hb hbox hg))
 (try simp only [Act.put,List.setIfInBounds_toArray,List.set_cons_zero,List.set_cons_succ])
 go_cut [21] (fun v21 wc=>∃ (kq : Nat) (x21_1 : Bool),v21 = .bool x21_1 ∧ Aside0 (spec_MatInv.j0 kq x21_1 a0_0 a0_1 l0_2 = some (r1,r2,r3,r4)) ∧ Aside0 (kq ≤ k) ∧ Aside0 (wc.heap[gb147]? = some (.cells #[.int .i64 a0_0,.int .i64 a0_1,(.slice A0_2 l0_2.length c0_2)] 27 (0,0))) ∧ Aside0 (wc.heap[gb148]? = some (.cells #[.int .i64 0,.int .i64 0,.int .i64 0,(.slice none 0 0)] 32 (0,0))) ∧ Aside0 (Below w.heap.size w wc))
 case first=>
  have H:=HC2.out
  clear HC2
  replace H:=Option.bind_eq_some_iff.mp H
  obtain ⟨t149,A50,H⟩:=H
  replace H : (if t149 = 0 then (spec_MatInv.j0 k (a0_0 != a0_1) a0_0 a0_1 l0_2) else (spec_MatInv.j0 k true a0_0 a0_1 l0_2)) = some (r1,r2,r3,r4):=H
  have A5:=Aside0.mk A50
  clear A50
  by_cases c6 : t149 = 0
  ·rw [if_pos c6] at H
   have c6b0 : (t149 == 0) = true:=beq_iff_eq.mpr c6
   have c6b1 : (t149 != 0) = false:=bne_eq_false_iff_eq.mpr c6
   clear c6
   (first|rw [c6b0]|(simp only [i64_w,i32_w];rw [c6b0])|skip)
   have H':=Aside0.mk H
   clear H
   have hnb7:=NB147_148.out
   have hnc7:=NB148_147.out
   have hcz8_0 : w4.cell? ⟨gb147,0,none⟩ = some (.int .i64 a0_0):=(blk_cell BK147.out 0).trans rfl
   have hcz8_1 : w4.cell? ⟨gb147,1,none⟩ = some (.int .i64 a0_1):=(blk_cell BK147.out 1).trans rfl
   have hcz8_2 : w4.cell? ⟨gb147,2,none⟩ = some (.slice A0_2 l0_2.length c0_2):=(blk_cell BK147.out 2).trans rfl
   have hfz8_0:=blk_frozen BK147.out 0
   have hfz8_1:=blk_frozen BK147.out 1
   have hfz8_2:=blk_frozen BK147.out 2
   go_wp2_with (first|((with_reducible refine gate_callee (f:=24) rfl ?_);refine goesL_ (some 13) rfl rfl Try.func24 (by kernel_rfl) rfl #[.agg #[.int .i64 a0_0,.int .i64 a0_1,.slice A0_2 l0_2.length c0_2]] rfl (by (try simp only [List.map_toArray,List.map_cons,List.map_nil]);first|done|rfl) ?_;(with_reducible refine (spec_MatrixFault.calls k a0_0 a0_1 _ _ l0_2 t149 _ ?side1 ?side2 A5.out).mono ?_);(case side1=>repeat (first|exact (Kd.C_below HR0_2.out HB.out)|(with_reducible refine Kd.C_alloc ?_ _)|(with_reducible refine Kd.C_drewN ?_ _)|(with_reducible refine Kd.C_drew ?_)));(case side2=>exact HC0_2.out);rintro e w9 ⟨rfl,hb⟩;refine ⟨_,rfl,?_⟩;have n0_:=Aside0.mk (blk_below (g:=gb147) (o:=.cells #[.int .i64 a0_0,.int .i64 a0_1,.slice A0_2 l0_2.length c0_2] 27 (0,0)) (by (with_reducible repeat first|refine blk_drewN ?_ _|refine blk_alloc ?_ _);exact BK147.out) hb);have n1_:=Aside0.mk (blk_below (g:=gb148) (o:=.cells #[.int .i64 0,.int .i64 0,.int .i64 0,.slice none 0 0] 32 (0,0)) (by (with_reducible repeat first|refine blk_drewN ?_ _|refine blk_alloc ?_ _);exact BK148.out) hb);have n2_:=Aside0.mk (below_step (by repeat (first|(with_reducible first|exact HB.out|apply below_alloc|apply pw_below_drewN|apply below_drew1|refine below_set ?_ GE147.out|refine below_set ?_ GE148.out)|exact HB.out)) hb);clear BK147 BK148 HB;have BK147:=n0_;have BK148:=n1_;have HB:=n2_;clear n0_ n1_ n2_;(try clear hb);(try clear hb2);(try clear hk);(try clear hi);have hcz10_0 : w9.cell? ⟨gb147,0,none⟩ = some (.int .i64 a0_0):=(blk_cell BK147.out 0).trans rfl;have hcz10_1 : w9.cell? ⟨gb147,1,none⟩ = some (.int .i64 a0_1):=(blk_cell BK147.out 1).trans rfl;have hcz10_2 : w9.cell? ⟨gb147,2,none⟩ = some (.slice A0_2 l0_2.length c0_2):=(blk_cell BK147.out 2).trans rfl;have hfz10_0:=blk_frozen BK147.out 0;have hfz10_1:=blk_frozen BK147.out 1;have hfz10_2:=blk_frozen BK147.out 2))
   go_meet
   case rel=>exact ⟨_,((a0_0 != a0_1)),(by first|rfl|(simp;done)|(simp [*];done)),H',⟨by first|omega|exact Nat.le_refl _⟩,⟨by (with_reducible repeat first|refine blk_drewN ?_ _|refine blk_alloc ?_ _);exact BK147.out⟩,⟨by (with_reducible repeat first|refine blk_drewN ?_ _|refine blk_alloc ?_ _);exact BK148.out⟩,⟨by repeat (first|(with_reducible first|exact HB.out|apply below_alloc|apply pw_below_drewN|apply below_drew1|refine below_set ?_ GE147.out|refine below_set ?_ GE148.out)|exact HB.out)⟩⟩
  ·rw [if_neg c6] at H
   have c6b0 : (t149 == 0) = false:=beq_eq_false_iff_ne.mpr c6
   have c6b1 : (t149 != 0) = true:=bne_iff_ne.mpr c6
   (first|rw [c6b0]|(simp only [i64_w,i32_w];rw [c6b0])|skip)
   have H':=Aside0.mk H
   clear H
   have hnb11:=NB147_148.out
   have hnc11:=NB148_147.out
   have hcz12_0 : w4.cell? ⟨gb147,0,none⟩ = some (.int .i64 a0_0):=(blk_cell BK147.out 0).trans rfl
   have hcz12_1 : w4.cell? ⟨gb147,1,none⟩ = some (.int .i64 a0_1):=(blk_cell BK147.out 1).trans rfl
   have hcz12_2 : w4.cell? ⟨gb147,2,none⟩ = some (.slice A0_2 l0_2.length c0_2):=(blk_cell BK147.out 2).trans rfl
   have hfz12_0:=blk_frozen BK147.out 0
   have hfz12_1:=blk_frozen BK147.out 1
   have hfz12_2:=blk_frozen BK147.out 2
   go_wp2_with (first|((with_reducible refine gate_callee (f:=24) rfl ?_);refine goesL_ (some 13) rfl rfl Try.func24 (by kernel_rfl) rfl #[.agg #[.int .i64 a0_0,.int .i64 a0_1,.slice A0_2 l0_2.length c0_2]] rfl (by (try simp only [List.map_toArray,List.map_cons,List.map_nil]);first|done|rfl) ?_;(with_reducible refine (spec_MatrixFault.calls k a0_0 a0_1 _ _ l0_2 t149 _ ?side1 ?side2 A5.out).mono ?_);(case side1=>repeat (first|exact (Kd.C_below HR0_2.out HB.out)|(with_reducible refine Kd.C_alloc ?_ _)|(with_reducible refine Kd.C_drewN ?_ _)|(with_reducible refine Kd.C_drew ?_)));(case side2=>exact HC0_2.out);rintro e w13 ⟨rfl,hb⟩;refine ⟨_,rfl,?_⟩;have n0_:=Aside0.mk (blk_below (g:=gb147) (o:=.cells #[.int .i64 a0_0,.int .i64 a0_1,.slice A0_2 l0_2.length c0_2] 27 (0,0)) (by (with_reducible repeat first|refine blk_drewN ?_ _|refine blk_alloc ?_ _);exact BK147.out) hb);have n1_:=Aside0.mk (blk_below (g:=gb148) (o:=.cells #[.int .i64 0,.int .i64 0,.int .i64 0,.slice none 0 0] 32 (0,0)) (by (with_reducible repeat first|refine blk_drewN ?_ _|refine blk_alloc ?_ _);exact BK148.out) hb);have n2_:=Aside0.mk (below_step (by repeat (first|(with_reducible first|exact HB.out|apply below_alloc|apply pw_below_drewN|apply below_drew1|refine below_set ?_ GE147.out|refine below_set ?_ GE148.out)|exact HB.out)) hb);clear BK147 BK148 HB;have BK147:=n0_;have BK148:=n1_;have HB:=n2_;clear n0_ n1_ n2_;(try clear hb);(try clear hb2);(try clear hk);(try clear hi)))
   go_meet
   case rel=>exact ⟨_,(true),(by first|rfl|(simp;done)|(simp [*];done)),H',⟨by first|omega|exact Nat.le_refl _⟩,⟨by (with_reducible repeat first|refine blk_drewN ?_ _|refine blk_alloc ?_ _);exact BK147.out⟩,⟨by (with_reducible repeat first|refine blk_drewN ?_ _|refine blk_alloc ?_ _);exact BK148.out⟩,⟨by repeat (first|(with_reducible first|exact HB.out|apply below_alloc|apply pw_below_drewN|apply below_drew1|refine below_set ?_ GE147.out|refine below_set ?_ GE148.out)|exact HB.out)⟩⟩
 case rest=>
  clear HC2
  (try clear c1);(try clear c2);(try clear p2);(try clear c6);(try clear c6b0);(try clear c6b1);(try clear c7);(try clear c11);(try clear hcz10_0);(try clear hcz10_1);(try clear hcz10_2);(try clear hcz12_0);(try clear hcz12_1);(try clear hcz12_2);(try clear hcz8_0);(try clear hcz8_1);(try clear hcz8_2);(try clear hfz10_0);(try clear hfz10_1);(try clear hfz10_2);(try clear hfz12_0);(try clear hfz12_1);(try clear hfz12_2);(try clear hfz8_0);(try clear hfz8_1);(try clear hfz8_2)
  obtain ⟨kq,x21_1,rfl,HA,HJ1,BK147,BK148,HB⟩:=hcut
  cases kq with
  | zero=>exact absurd HA.out (by simp [spec_MatInv.j0])
  | succ kj1=>
   have H:=HA.out
   clear HA
   simp only [spec_MatInv.j0] at H
   by_cases c14 : x21_1 = true
   ·subst c14
    have H1 : (some (1,0,0,([] : List Int))) = some (r1,r2,r3,r4):=by rw [if_pos rfl] at H;exact H
    clear H
    have H:=H1
    clear H1
    simp only [Option.some.injEq,Prod.mk.injEq] at H
    obtain ⟨rfl,rfl,rfl,rfl⟩:=H
    have hnb15:=NB148_147.out
    have hnc15:=NB147_148.out
    have hcz16_0 : wc.cell? ⟨gb148,0,none⟩ = some (.int .i64 0):=(blk_cell BK148.out 0).trans rfl
    have hcz16_1 : wc.cell? ⟨gb148,1,none⟩ = some (.int .i64 0):=(blk_cell BK148.out 1).trans rfl
    have hcz16_2 : wc.cell? ⟨gb148,2,none⟩ = some (.int .i64 0):=(blk_cell BK148.out 2).trans rfl
    have hcz16_3 : wc.cell? ⟨gb148,3,none⟩ = some (.slice none 0 0):=(blk_cell BK148.out 3).trans rfl
    have hfz16_0:=blk_frozen BK148.out 0
    have hfz16_1:=blk_frozen BK148.out 1
    have hfz16_2:=blk_frozen BK148.out 2
    have hfz16_3:=blk_frozen BK148.out 3
    go_wp2
    refine bodyPost_ret (results_cell_row rfl _ _ gb148 32 #[.int .i64 1,.int .i64 0,.int .i64 0,.slice none 0 0] (0,0) _ rfl (by (with_reducible repeat first|refine blk_drewN ?_ _|refine blk_alloc ?_ _);refine blk_put (cs:=#[.int .i64 1,.int .i64 0,.int .i64 0,.slice none 0 0]) ?_ 3 _ rfl;(with_reducible repeat first|refine blk_drewN ?_ _|refine blk_alloc ?_ _);refine blk_put (cs:=#[.int .i64 1,.int .i64 0,.int .i64 0,.slice none 0 0]) ?_ 2 _ rfl;(with_reducible repeat first|refine blk_drewN ?_ _|refine blk_alloc ?_ _);refine blk_put (cs:=#[.int .i64 1,.int .i64 0,.int .i64 0,.slice none 0 0]) ?_ 1 _ rfl;(with_reducible repeat first|refine blk_drewN ?_ _|refine blk_alloc ?_ _);refine blk_put (cs:=#[.int .i64 0,.int .i64 0,.int .i64 0,.slice none 0 0]) ?_ 0 _ rfl;(with_reducible repeat first|refine blk_drewN ?_ _|refine blk_alloc ?_ _);exact BK148.out) Try.underlying32 rfl (by kernel_rfl)) rfl ?_
    exact ⟨_,by first|rfl|(simp [errW_none,errW_some] <;> rfl)|(simp [*,errW_none,errW_some] <;> rfl),by first|exact Kd.R_nil _ _ _ _ _|exact Kd.N_nil _ _ _ _ _|exact Kd.V_nil _ _ _ _ _|exact Kd.Q_nil _ _ _ _ _|exact Kd.S_nil _ _ _ _ _,by repeat (first|(with_reducible first|exact HB.out|apply below_alloc|apply pw_below_drewN|apply below_drew1|refine below_set ?_ GE147.out|refine below_set ?_ GE148.out)|exact HB.out)⟩
   ·replace c14:=Bool.eq_false_iff.mpr c14
    subst c14
    have H1 : ((spec_l03Rank.f kj1 a0_0 a0_1 l0_2).bind fun t150=>(if t150 < a0_0 then (some (5,0,0,([] : List Int))) else ((spec_l03New.f a0_0 (wrap64 (2 * a0_0))).bind fun bt151=>(spec_MatInv.l0 kj1 a0_0 0 a0_0 a0_1 l0_2 bt151.1 bt151.2.1 bt151.2.2)))) = some (r1,r2,r3,r4):=by rw [if_neg (show ¬ (false = true) by decide)] at H;exact H
    clear H
    have H:=H1
    clear H1
    replace H:=Option.bind_eq_some_iff.mp H
    obtain ⟨t150,A170,H⟩:=H
    replace H : (if t150 < a0_0 then (some (5,0,0,([] : List Int))) else ((spec_l03New.f a0_0 (wrap64 (2 * a0_0))).bind fun bt151=>(spec_MatInv.l0 kj1 a0_0 0 a0_0 a0_1 l0_2 bt151.1 bt151.2.1 bt151.2.2))) = some (r1,r2,r3,r4):=H
    have A17:=Aside0.mk A170
    clear A170
    by_cases c18 : t150 < a0_0
    ·rw [if_pos c18] at H
     have c18b0 : decide (t150 < a0_0) = true:=decide_eq_true c18
     clear c18
     simp only [Option.some.injEq,Prod.mk.injEq] at H
     obtain ⟨rfl,rfl,rfl,rfl⟩:=H
     try go_wp2
     have n0_:=Aside0.mk (blk_drew BK147.out)
     have n1_:=Aside0.mk (blk_drew BK148.out)
     have n2_:=Aside0.mk (below_drew1 HB.out)
     clear BK147 BK148 HB
     have BK147:=n0_
     have BK148:=n1_
     have HB:=n2_
     clear n0_ n1_ n2_
     refine start_ (n:=5) (S:=fun w'=>w'.cell? ⟨gb147,0,none⟩ = some (.int .i64 a0_0) ∧ w'.cell? ⟨gb147,1,none⟩ = some (.int .i64 a0_1) ∧ w'.cell? ⟨gb147,2,none⟩ = some (.slice A0_2 l0_2.length c0_2)) (ds:=[]) #[false,false,false,false,false] (by kernel_rfl) rfl rfl ⟨(blk_cell BK147.out 0).trans rfl,(blk_cell BK147.out 1).trans rfl,(blk_cell BK147.out 2).trans rfl⟩ (fun hHeld=>?_)
     generalize wc.drew = w19 at BK147 BK148 HB hHeld ⊢
     refine pure_ (i:=2) (N:=some 25) (v:=?_) (a':=?_) #[false,false,true,false,false] rfl rfl (by kernel_rfl) (fun _ _ _ h=>h) (Or.inl ⟨by rfl,?_⟩) ?_ ?_
     rotate_left
     ·intro w'
      go_simp
      with_reducible rfl
     rotate_left
     ·simp only [Act.put,List.setIfInBounds_toArray,List.set_cons_zero,List.set_cons_succ,i64_w,i32_w]
      rfl
     refine take_ (i:=0) (N:=some 23) (v:=?_) (a':=?_) #[true,false,true,false,false] rfl rfl (by kernel_rfl) (fun _ _ _ h=>h) (Or.inl ⟨by rfl,?_⟩) hHeld ?_ ?_
     rotate_left
     ·rintro w' ⟨s0,s1,s2⟩
      go_simp
      with_reducible rfl
     rotate_left
     ·simp only [Act.put,List.setIfInBounds_toArray,List.set_cons_zero,List.set_cons_succ,i64_w,i32_w]
      rfl
     refine take_ (i:=3) (N:=some 26) (v:=?_) (a':=?_) #[true,false,true,true,false] rfl rfl (by kernel_rfl) (fun _ _ _ h=>h) (Or.inl ⟨by rfl,?_⟩) hHeld ?_ ?_
     rotate_left
     ·rintro w' ⟨s0,s1,s2⟩
      go_simp
      with_reducible rfl
     rotate_left
     ·simp only [Act.put,List.setIfInBounds_toArray,List.set_cons_zero,List.set_cons_succ,i64_w,i32_w]
      rfl
     refine one_ (i:=1) (N:=some 24) #[true,true,true,true,false] rfl rfl (by kernel_rfl) (by decide) (fun K hK=>?_)
     refine goes_ Try.func59 (by kernel_rfl) rfl #[.agg #[.int .i64 a0_0,.int .i64 a0_1,.slice A0_2 l0_2.length c0_2]] (by rfl) rfl rfl (by (try simp only [List.map_toArray,List.map_cons,List.map_nil]);first|done|rfl) ?_
     with_reducible refine (spec_l03Rank.calls kj1 a0_0 a0_1 _ _ l0_2 t150 _ ?side1 ?side2 A17.out).mono ?_
     (case side1=>repeat (first|exact (Kd.C_below HR0_2.out HB.out)|(with_reducible refine Kd.C_alloc ?_ _)|(with_reducible refine Kd.C_drewN ?_ _)|(with_reducible refine Kd.C_drew ?_)))
     (case side2=>exact HC0_2.out)
     rintro e w20 ⟨rfl,hb⟩
     refine ⟨_,rfl,?_⟩
     have n0_:=Aside0.mk (blk_below (g:=gb147) (o:=.cells #[.int .i64 a0_0,.int .i64 a0_1,.slice A0_2 l0_2.length c0_2] 27 (0,0)) (by (with_reducible repeat first|refine blk_drewN ?_ _|refine blk_alloc ?_ _);exact BK147.out) hb)
     have n1_:=Aside0.mk (blk_below (g:=gb148) (o:=.cells #[.int .i64 0,.int .i64 0,.int .i64 0,.slice none 0 0] 32 (0,0)) (by (with_reducible repeat first|refine blk_drewN ?_ _|refine blk_alloc ?_ _);exact BK148.out) hb)
     have n2_:=Aside0.mk (below_step (by repeat (first|(with_reducible first|exact HB.out|apply below_alloc|apply pw_below_drewN|apply below_drew1|refine below_set ?_ GE147.out|refine below_set ?_ GE148.out)|exact HB.out)) hb)
     clear BK147 BK148 HB
     have BK147:=n0_
     have BK148:=n1_
     have HB:=n2_
     clear n0_ n1_ n2_
     (try clear hb);(try clear hb2);(try clear hk);(try clear hi)
     refine hK.out _ _ ⟨(blk_cell BK147.out 0).trans rfl,(blk_cell BK147.out 1).trans rfl,(blk_cell BK147.out 2).trans rfl⟩ (fun hHeld=>?_)
     clear hK K
     refine norm_ (a':=?_) ?_ ?_
     rotate_left
     ·show Act.put _ (some 24) _ = _
      simp only [Act.put,List.setIfInBounds_toArray,List.set_cons_zero,List.set_cons_succ,i64_w,i32_w]
      rfl
     refine pure_ (i:=4) (N:=some 27) (v:=?_) (a':=?_) #[true,true,true,true,true] rfl rfl (by kernel_rfl) (fun _ _ _ h=>h) (Or.inl ⟨by rfl,?_⟩) ?_ ?_
     rotate_left
     ·intro w'
      go_simp
      with_reducible rfl
     rotate_left
     ·simp only [Act.put,List.setIfInBounds_toArray,List.set_cons_zero,List.set_cons_succ,i64_w,i32_w]
      rfl
     refine done_ (by kernel_rfl) ?_
     have hnb21:=NB148_147.out
     have hnc21:=NB147_148.out
     have hcz22_0 : w20.cell? ⟨gb148,0,none⟩ = some (.int .i64 0):=(blk_cell BK148.out 0).trans rfl
     have hcz22_1 : w20.cell? ⟨gb148,1,none⟩ = some (.int .i64 0):=(blk_cell BK148.out 1).trans rfl
     have hcz22_2 : w20.cell? ⟨gb148,2,none⟩ = some (.int .i64 0):=(blk_cell BK148.out 2).trans rfl
     have hcz22_3 : w20.cell? ⟨gb148,3,none⟩ = some (.slice none 0 0):=(blk_cell BK148.out 3).trans rfl
     have hfz22_0:=blk_frozen BK148.out 0
     have hfz22_1:=blk_frozen BK148.out 1
     have hfz22_2:=blk_frozen BK148.out 2
     have hfz22_3:=blk_frozen BK148.out 3
     try go_wp2
     refine bodyPost_ret (results_cell_row rfl _ _ gb148 32 #[.int .i64 5,.int .i64 0,.int .i64 0,.slice none 0 0] (0,0) _ rfl (by (with_reducible repeat first|refine blk_drewN ?_ _|refine blk_alloc ?_ _);refine blk_put (cs:=#[.int .i64 5,.int .i64 0,.int .i64 0,.slice none 0 0]) ?_ 3 _ rfl;(with_reducible repeat first|refine blk_drewN ?_ _|refine blk_alloc ?_ _);refine blk_put (cs:=#[.int .i64 5,.int .i64 0,.int .i64 0,.slice none 0 0]) ?_ 2 _ rfl;(with_reducible repeat first|refine blk_drewN ?_ _|refine blk_alloc ?_ _);refine blk_put (cs:=#[.int .i64 5,.int .i64 0,.int .i64 0,.slice none 0 0]) ?_ 1 _ rfl;(with_reducible repeat first|refine blk_drewN ?_ _|refine blk_alloc ?_ _);refine blk_put (cs:=#[.int .i64 0,.int .i64 0,.int .i64 0,.slice none 0 0]) ?_ 0 _ rfl;(with_reducible repeat first|refine blk_drewN ?_ _|refine blk_alloc ?_ _);exact BK148.out) Try.underlying32 rfl (by kernel_rfl)) rfl ?_
     exact ⟨_,by first|rfl|(simp [errW_none,errW_some] <;> rfl)|(simp [*,errW_none,errW_some] <;> rfl),by first|exact Kd.R_nil _ _ _ _ _|exact Kd.N_nil _ _ _ _ _|exact Kd.V_nil _ _ _ _ _|exact Kd.Q_nil _ _ _ _ _|exact Kd.S_nil _ _ _ _ _,by repeat (first|(with_reducible first|exact HB.out|apply below_alloc|apply pw_below_drewN|apply below_drew1|refine below_set ?_ GE147.out|refine below_set ?_ GE148.out)|exact HB.out)⟩
    ·rw [if_neg c18] at H
     have c18b0 : decide (t150 < a0_0) = false:=decide_eq_false c18
     clear c18
     replace H:=Option.bind_eq_some_iff.mp H
     obtain ⟨⟨t151,t152,t153⟩,A230,H⟩:=H
     replace H : (spec_MatInv.l0 kj1 a0_0 0 a0_0 a0_1 l0_2 t151 t152 t153) = some (r1,r2,r3,r4):=H
     have A23:=Aside0.mk A230
     clear A230
     have H':=Aside0.mk H
     clear H
     try go_wp2
     have n0_:=Aside0.mk (blk_drew BK147.out)
     have n1_:=Aside0.mk (blk_drew BK148.out)
     have n2_:=Aside0.mk (below_drew1 HB.out)
     clear BK147 BK148 HB
     have BK147:=n0_
     have BK148:=n1_
     have HB:=n2_
     clear n0_ n1_ n2_
     refine start_ (n:=5) (S:=fun w'=>w'.cell? ⟨gb147,0,none⟩ = some (.int .i64 a0_0) ∧ w'.cell? ⟨gb147,1,none⟩ = some (.int .i64 a0_1) ∧ w'.cell? ⟨gb147,2,none⟩ = some (.slice A0_2 l0_2.length c0_2)) (ds:=[]) #[false,false,false,false,false] (by kernel_rfl) rfl rfl ⟨(blk_cell BK147.out 0).trans rfl,(blk_cell BK147.out 1).trans rfl,(blk_cell BK147.out 2).trans rfl⟩ (fun hHeld=>?_)
     generalize wc.drew = w24 at BK147 BK148 HB hHeld ⊢
     refine pure_ (i:=2) (N:=some 25) (v:=?_) (a':=?_) #[false,false,true,false,false] rfl rfl (by kernel_rfl) (fun _ _ _ h=>h) (Or.inl ⟨by rfl,?_⟩) ?_ ?_
     rotate_left
     ·intro w'
      go_simp
      with_reducible rfl
     rotate_left
     ·simp only [Act.put,List.setIfInBounds_toArray,List.set_cons_zero,List.set_cons_succ,i64_w,i32_w]
      rfl
     refine take_ (i:=0) (N:=some 23) (v:=?_) (a':=?_) #[true,false,true,false,false] rfl rfl (by kernel_rfl) (fun _ _ _ h=>h) (Or.inl ⟨by rfl,?_⟩) hHeld ?_ ?_
     rotate_left
     ·rintro w' ⟨s0,s1,s2⟩
      go_simp
      with_reducible rfl
     rotate_left
     ·simp only [Act.put,List.setIfInBounds_toArray,List.set_cons_zero,List.set_cons_succ,i64_w,i32_w]
      rfl
     refine take_ (i:=3) (N:=some 26) (v:=?_) (a':=?_) #[true,false,true,true,false] rfl rfl (by kernel_rfl) (fun _ _ _ h=>h) (Or.inl ⟨by rfl,?_⟩) hHeld ?_ ?_
     rotate_left
     ·rintro w' ⟨s0,s1,s2⟩
      go_simp
      with_reducible rfl
     rotate_left
     ·simp only [Act.put,List.setIfInBounds_toArray,List.set_cons_zero,List.set_cons_succ,i64_w,i32_w]
      rfl
     refine one_ (i:=1) (N:=some 24) #[true,true,true,true,false] rfl rfl (by kernel_rfl) (by decide) (fun K hK=>?_)
     refine goes_ Try.func59 (by kernel_rfl) rfl #[.agg #[.int .i64 a0_0,.int .i64 a0_1,.slice A0_2 l0_2.length c0_2]] (by rfl) rfl rfl (by (try simp only [List.map_toArray,List.map_cons,List.map_nil]);first|done|rfl) ?_
     with_reducible refine (spec_l03Rank.calls kj1 a0_0 a0_1 _ _ l0_2 t150 _ ?side1 ?side2 A17.out).mono ?_
     (case side1=>repeat (first|exact (Kd.C_below HR0_2.out HB.out)|(with_reducible refine Kd.C_alloc ?_ _)|(with_reducible refine Kd.C_drewN ?_ _)|(with_reducible refine Kd.C_drew ?_)))
     (case side2=>exact HC0_2.out)
     rintro e w25 ⟨rfl,hb⟩
     refine ⟨_,rfl,?_⟩
     have n0_:=Aside0.mk (blk_below (g:=gb147) (o:=.cells #[.int .i64 a0_0,.int .i64 a0_1,.slice A0_2 l0_2.length c0_2] 27 (0,0)) (by (with_reducible repeat first|refine blk_drewN ?_ _|refine blk_alloc ?_ _);exact BK147.out) hb)
     have n1_:=Aside0.mk (blk_below (g:=gb148) (o:=.cells #[.int .i64 0,.int .i64 0,.int .i64 0,.slice none 0 0] 32 (0,0)) (by (with_reducible repeat first|refine blk_drewN ?_ _|refine blk_alloc ?_ _);exact BK148.out) hb)
     have n2_:=Aside0.mk (below_step (by repeat (first|(with_reducible first|exact HB.out|apply below_alloc|apply pw_below_drewN|apply below_drew1|refine below_set ?_ GE147.out|refine below_set ?_ GE148.out)|exact HB.out)) hb)
     clear BK147 BK148 HB
     have BK147:=n0_
     have BK148:=n1_
     have HB:=n2_
     clear n0_ n1_ n2_
     (try clear hb);(try clear hb2);(try clear hk);(try clear hi)
     refine hK.out _ _ ⟨(blk_cell BK147.out 0).trans rfl,(blk_cell BK147.out 1).trans rfl,(blk_cell BK147.out 2).trans rfl⟩ (fun hHeld=>?_)
     clear hK K
     refine norm_ (a':=?_) ?_ ?_
     rotate_left
     ·show Act.put _ (some 24) _ = _
      simp only [Act.put,List.setIfInBounds_toArray,List.set_cons_zero,List.set_cons_succ,i64_w,i32_w]
      rfl
     refine pure_ (i:=4) (N:=some 27) (v:=?_) (a':=?_) #[true,true,true,true,true] rfl rfl (by kernel_rfl) (fun _ _ _ h=>h) (Or.inl ⟨by rfl,?_⟩) ?_ ?_
     rotate_left
     ·intro w'
      go_simp
      with_reducible rfl
     rotate_left
     ·simp only [Act.put,List.setIfInBounds_toArray,List.set_cons_zero,List.set_cons_succ,i64_w,i32_w]
      rfl
     refine done_ (by kernel_rfl) ?_
     have hnb26:=NB147_148.out
     have hnc26:=NB148_147.out
     have hcz27_0 : w25.cell? ⟨gb147,0,none⟩ = some (.int .i64 a0_0):=(blk_cell BK147.out 0).trans rfl
     have hcz27_1 : w25.cell? ⟨gb147,1,none⟩ = some (.int .i64 a0_1):=(blk_cell BK147.out 1).trans rfl
     have hcz27_2 : w25.cell? ⟨gb147,2,none⟩ = some (.slice A0_2 l0_2.length c0_2):=(blk_cell BK147.out 2).trans rfl
     have hfz27_0:=blk_frozen BK147.out 0
     have hfz27_1:=blk_frozen BK147.out 1
     have hfz27_2:=blk_frozen BK147.out 2
     try go_wp2_with (first|((with_reducible refine gate_callee (f:=66) rfl ?_);refine goesL_ (some 34) rfl rfl Try.func66 (by kernel_rfl) rfl #[.int .i64 a0_0,.int .i64 (wrap64 (2 * a0_0))] rfl (by (try simp only [List.map_toArray,List.map_cons,List.map_nil]);first|done|rfl) ?_;(with_reducible refine (spec_l03New.calls a0_0 (wrap64 (2 * a0_0)) t151 t152 t153 _ A23.out).mono ?_);rintro e w28 ⟨v154,rfl,ho0,hb⟩;refine ⟨_,rfl,?_⟩;have n0_:=Aside0.mk (Kd.R_lower ho0 (below_size (by repeat (first|(with_reducible first|exact HB.out|apply below_alloc|apply pw_below_drewN|apply below_drew1|refine below_set ?_ GE147.out|refine below_set ?_ GE148.out)|exact HB.out))));have n1_:=Aside0.mk (blk_below (g:=gb147) (o:=.cells #[.int .i64 a0_0,.int .i64 a0_1,.slice A0_2 l0_2.length c0_2] 27 (0,0)) (by (with_reducible repeat first|refine blk_drewN ?_ _|refine blk_alloc ?_ _);exact BK147.out) hb);have n2_:=Aside0.mk (blk_below (g:=gb148) (o:=.cells #[.int .i64 0,.int .i64 0,.int .i64 0,.slice none 0 0] 32 (0,0)) (by (with_reducible repeat first|refine blk_drewN ?_ _|refine blk_alloc ?_ _);exact BK148.out) hb);have n3_:=Aside0.mk (below_step (by repeat (first|(with_reducible first|exact HB.out|apply below_alloc|apply pw_below_drewN|apply below_drew1|refine below_set ?_ GE147.out|refine below_set ?_ GE148.out)|exact HB.out)) hb);clear BK147 BK148 HB;have HO155:=n0_;have BK147:=n1_;have BK148:=n2_;have HB:=n3_;clear n0_ n1_ n2_ n3_;(try clear hb);(try clear hb2);(try clear hk);(try clear hi);(try clear ho0))|((with_reducible refine gate_dst (N:=4) rfl ?_);refine box_event ?hg (N:=4) ?hd (cs:=#[.int .i64 0,.int .i64 0,.slice none 0 0]) (t:=27) ?hr ?_;(case hd=>rfl);(case hg=>rfl);(case hr=>first|(go_simp;done)|(go_simp;rfl));intro gb156 hg w29 hbox hb;have n0_:=Aside0.mk (Kd.R_below (by (with_reducible repeat (first|apply Kd.R_alloc|apply Kd.R_drewN));exact HO155.out) hb);have n1_:=Aside0.mk (blk_below (g:=gb147) (o:=.cells #[.int .i64 a0_0,.int .i64 a0_1,.slice A0_2 l0_2.length c0_2] 27 (0,0)) (by (with_reducible repeat first|refine blk_drewN ?_ _|refine blk_alloc ?_ _);exact BK147.out) hb);have n2_:=Aside0.mk (blk_below (g:=gb148) (o:=.cells #[.int .i64 0,.int .i64 0,.int .i64 0,.slice none 0 0] 32 (0,0)) (by (with_reducible repeat first|refine blk_drewN ?_ _|refine blk_alloc ?_ _);exact BK148.out) hb);have n3_:=Aside0.mk (below_step (by repeat (first|(with_reducible first|exact HB.out|apply below_alloc|apply pw_below_drewN|apply below_drew1|refine below_set ?_ GE147.out|refine below_set ?_ GE148.out)|exact HB.out)) hb);have n4_:=Aside0.mk (hbox);have n5_:=Aside0.mk ((by rw [hg];exact (below_size (by repeat (first|(with_reducible first|exact HB.out|apply below_alloc|apply pw_below_drewN|apply below_drew1|refine below_set ?_ GE147.out|refine below_set ?_ GE148.out)|exact HB.out))) : w.heap.size ≤ gb156));have n6_:=Aside0.mk ((by rw [hg];exact (below_size (by repeat (first|(with_reducible first|exact HB.out|apply below_alloc|apply pw_below_drewN|apply below_drew1|refine below_set ?_ GE147.out|refine below_set ?_ GE148.out)|exact HB.out))) : w.heap.size ≤ gb156));have n7_:=Aside0.mk ((by rw [hg];exact Nat.ne_of_lt (blk_lt (g:=gb147) (o:=.cells #[.int .i64 a0_0,.int .i64 a0_1,.slice A0_2 l0_2.length c0_2] 27 (0,0)) (by (with_reducible repeat first|refine blk_drewN ?_ _|refine blk_alloc ?_ _);exact BK147.out)) : gb147 ≠ gb156));have n8_:=Aside0.mk ((by rw [hg];exact Nat.ne_of_gt (blk_lt (g:=gb147) (o:=.cells #[.int .i64 a0_0,.int .i64 a0_1,.slice A0_2 l0_2.length c0_2] 27 (0,0)) (by (with_reducible repeat first|refine blk_drewN ?_ _|refine blk_alloc ?_ _);exact BK147.out)) : gb156 ≠ gb147));have n9_:=Aside0.mk ((by rw [hg];exact Nat.ne_of_lt (blk_lt (g:=gb148) (o:=.cells #[.int .i64 0,.int .i64 0,.int .i64 0,.slice none 0 0] 32 (0,0)) (by (with_reducible repeat first|refine blk_drewN ?_ _|refine blk_alloc ?_ _);exact BK148.out)) : gb148 ≠ gb156));have n10_:=Aside0.mk ((by rw [hg];exact Nat.ne_of_gt (blk_lt (g:=gb148) (o:=.cells #[.int .i64 0,.int .i64 0,.int .i64 0,.slice none 0 0] 32 (0,0)) (by (with_reducible repeat first|refine blk_drewN ?_ _|refine blk_alloc ?_ _);exact BK148.out)) : gb156 ≠ gb148));clear HO155 BK147 BK148 HB;have HO155:=n0_;have BK147:=n1_;have BK148:=n2_;have HB:=n3_;have BK156:=n4_;have GW156:=n5_;have GE156:=n6_;have NB147_156:=n7_;have NB156_147:=n8_;have NB148_156:=n9_;have NB156_148:=n10_;clear n0_ n1_ n2_ n3_ n4_ n5_ n6_ n7_ n8_ n9_ n10_ hb hbox hg;have hnb30:=NB156_147.out;have hnc30:=NB147_156.out;have hnb31:=NB156_148.out;have hnc31:=NB148_156.out;have hcz32_0 : w29.cell? ⟨gb156,0,none⟩ = some (.int .i64 0):=(blk_cell BK156.out 0).trans rfl;have hcz32_1 : w29.cell? ⟨gb156,1,none⟩ = some (.int .i64 0):=(blk_cell BK156.out 1).trans rfl;have hcz32_2 : w29.cell? ⟨gb156,2,none⟩ = some (.slice none 0 0):=(blk_cell BK156.out 2).trans rfl;have hfz32_0:=blk_frozen BK156.out 0;have hfz32_1:=blk_frozen BK156.out 1;have hfz32_2:=blk_frozen BK156.out 2;obtain ⟨Ao33,co33,eo33⟩:=Kd.R_slice HO155.out;subst eo33))
     go_loopg [5] kj1 (fun kq v5 w'=>∃ (x5_2 : Int) (x157002_2 : List Int) (u157002 : Value),v5 = .int .i64 x5_2 ∧ Aside0 (spec_MatInv.l0 kq a0_0 x5_2 a0_0 a0_1 l0_2 t151 t152 x157002_2 = some (r1,r2,r3,r4)) ∧ Aside0 (kq ≤ kj1) ∧ Aside0 (Kd.R (Kd.int .i64) 2 w' w.heap.size (fun _=>True) u157002 x157002_2) ∧ Aside0 (w'.heap[gb147]? = some (.cells #[.int .i64 a0_0,.int .i64 a0_1,(.slice A0_2 l0_2.length c0_2)] 27 (0,0))) ∧ Aside0 (w'.heap[gb148]? = some (.cells #[.int .i64 0,.int .i64 0,.int .i64 0,(.slice none 0 0)] 32 (0,0))) ∧ Aside0 (w'.heap[gb156]? = some (.cells #[.int .i64 t151,.int .i64 t152,u157002] 27 (0,0))) ∧ Aside0 (Below w.heap.size w w'))
     case atStart=>exact ⟨(0),(t153),(.slice Ao33 t153.length co33),(by first|rfl|(simp;done)|(simp [*];done)),H',⟨Nat.le_refl _⟩,⟨by (with_reducible repeat (first|apply Kd.R_alloc|apply Kd.R_drewN));exact Kd.R_mono (Kd.R_far (p:=⟨gb156,2,none⟩) (Kd.R_far (p:=⟨gb156,1,none⟩) (Kd.R_far (p:=⟨gb156,0,none⟩) (Kd.R_types HO155.out BK156.out (by decide)) (fun _ hk=>hk.2) (.int .i64 t151)) (fun _ hk=>hk.2) (.int .i64 t152)) (fun _ hk=>hk.2) (.slice Ao33 t153.length co33)) (fun _ hk=>trivial)⟩,⟨by (with_reducible repeat first|refine blk_drewN ?_ _|refine blk_alloc ?_ _);refine blk_far ?_ NB147_156.out _;(with_reducible repeat first|refine blk_drewN ?_ _|refine blk_alloc ?_ _);refine blk_far ?_ NB147_156.out _;(with_reducible repeat first|refine blk_drewN ?_ _|refine blk_alloc ?_ _);refine blk_far ?_ NB147_156.out _;(with_reducible repeat first|refine blk_drewN ?_ _|refine blk_alloc ?_ _);exact BK147.out⟩,⟨by (with_reducible repeat first|refine blk_drewN ?_ _|refine blk_alloc ?_ _);refine blk_far ?_ NB148_156.out _;(with_reducible repeat first|refine blk_drewN ?_ _|refine blk_alloc ?_ _);refine blk_far ?_ NB148_156.out _;(with_reducible repeat first|refine blk_drewN ?_ _|refine blk_alloc ?_ _);refine blk_far ?_ NB148_156.out _;(with_reducible repeat first|refine blk_drewN ?_ _|refine blk_alloc ?_ _);exact BK148.out⟩,⟨by (with_reducible repeat first|refine blk_drewN ?_ _|refine blk_alloc ?_ _);refine blk_put (cs:=#[.int .i64 t151,.int .i64 t152,.slice none 0 0]) ?_ 2 _ rfl;(with_reducible repeat first|refine blk_drewN ?_ _|refine blk_alloc ?_ _);refine blk_put (cs:=#[.int .i64 t151,.int .i64 0,.slice none 0 0]) ?_ 1 _ rfl;(with_reducible repeat first|refine blk_drewN ?_ _|refine blk_alloc ?_ _);refine blk_put (cs:=#[.int .i64 0,.int .i64 0,.slice none 0 0]) ?_ 0 _ rfl;(with_reducible repeat first|refine blk_drewN ?_ _|refine blk_alloc ?_ _);exact BK156.out⟩,⟨by repeat (first|(with_reducible first|exact HB.out|apply below_alloc|apply pw_below_drewN|apply below_drew1|refine below_set ?_ GE147.out|refine below_set ?_ GE148.out|refine below_set ?_ GE156.out)|exact HB.out)⟩⟩
     case round=>
      clear H'
      (try clear c1);(try clear c2);(try clear p2);(try clear c3);(try clear c5);(try clear c6);(try clear c6b0);(try clear c6b1);(try clear p6);(try clear c7);(try clear c11);(try clear c14);(try clear c15);(try clear c17);(try clear c18);(try clear c18b0);(try clear c21);(try clear c24);(try clear c26);(try clear c30);(try clear c31);(try clear hcz10_0);(try clear hcz10_1);(try clear hcz10_2);(try clear hcz12_0);(try clear hcz12_1);(try clear hcz12_2);(try clear hcz16_0);(try clear hcz16_1);(try clear hcz16_2);(try clear hcz16_3);(try clear hcz22_0);(try clear hcz22_1);(try clear hcz22_2);(try clear hcz22_3);(try clear hcz27_0);(try clear hcz27_1);(try clear hcz27_2);(try clear hcz32_0);(try clear hcz32_1);(try clear hcz32_2);(try clear hcz8_0);(try clear hcz8_1);(try clear hcz8_2);(try clear hfz10_0);(try clear hfz10_1);(try clear hfz10_2);(try clear hfz12_0);(try clear hfz12_1);(try clear hfz12_2);(try clear hfz16_0);(try clear hfz16_1);(try clear hfz16_2);(try clear hfz16_3);(try clear hfz22_0);(try clear hfz22_1);(try clear hfz22_2);(try clear hfz22_3);(try clear hfz27_0);(try clear hfz27_1);(try clear hfz27_2);(try clear hfz32_0);(try clear hfz32_1);(try clear hfz32_2);(try clear hfz8_0);(try clear hfz8_1);(try clear hfz8_2);(try clear p2)
      obtain ⟨x5_2,x157002_2,u157002,rfl,HA,HK2,HO_157002,BK147,BK148,BK156,HB⟩:=hrel
      cases gk with
      | zero=>exact absurd HA.out (by simp [spec_MatInv.l0])
      | succ k2=>
       have H:=HA.out
       clear HA
       simp only [spec_MatInv.l0] at H
       by_cases c34 : x5_2 < a0_0
       ·rw [if_pos c34] at H
        have c34b0 : decide (x5_2 < a0_0) = true:=decide_eq_true c34
        clear c34
        have H':=Aside0.mk H
        clear H
        go_wp2
        go_loopg [6] k2 (fun kq v6 w'=>∃ (x6_3 : Int) (x157002_3 : List Int) (u157002 : Value),v6 = .int .i64 x6_3 ∧ Aside0 (spec_MatInv.l1 kq a0_0 x5_2 x6_3 a0_0 a0_1 l0_2 t151 t152 x157002_3 = some (r1,r2,r3,r4)) ∧ Aside0 (kq ≤ k2) ∧ Aside0 (Kd.R (Kd.int .i64) 2 w' w.heap.size (fun _=>True) u157002 x157002_3) ∧ Aside0 (w'.heap[gb147]? = some (.cells #[.int .i64 a0_0,.int .i64 a0_1,(.slice A0_2 l0_2.length c0_2)] 27 (0,0))) ∧ Aside0 (w'.heap[gb148]? = some (.cells #[.int .i64 0,.int .i64 0,.int .i64 0,(.slice none 0 0)] 32 (0,0))) ∧ Aside0 (w'.heap[gb156]? = some (.cells #[.int .i64 t151,.int .i64 t152,u157002] 27 (0,0))) ∧ Aside0 (Below w.heap.size w w'))
        case atStart=>exact ⟨(0),(x157002_2),(u157002),(by first|rfl|(simp;done)|(simp [*];done)),H',⟨Nat.le_refl _⟩,⟨by (with_reducible repeat (first|apply Kd.R_alloc|apply Kd.R_drewN));exact HO_157002.out⟩,⟨by (with_reducible repeat first|refine blk_drewN ?_ _|refine blk_alloc ?_ _);exact BK147.out⟩,⟨by (with_reducible repeat first|refine blk_drewN ?_ _|refine blk_alloc ?_ _);exact BK148.out⟩,⟨by (with_reducible repeat first|refine blk_drewN ?_ _|refine blk_alloc ?_ _);exact BK156.out⟩,⟨by repeat (first|(with_reducible first|exact HB.out|apply below_alloc|apply pw_below_drewN|apply below_drew1|refine below_set ?_ GE147.out|refine below_set ?_ GE148.out|refine below_set ?_ GE156.out)|exact HB.out)⟩⟩
        case round=>
         clear H'
         (try clear c1);(try clear c2);(try clear p2);(try clear c3);(try clear c5);(try clear c6);(try clear c6b0);(try clear c6b1);(try clear p6);(try clear c7);(try clear c11);(try clear c14);(try clear c15);(try clear c17);(try clear c18);(try clear c18b0);(try clear c21);(try clear c24);(try clear c26);(try clear c30);(try clear c31);(try clear c34);(try clear c34b0);(try clear hcz10_0);(try clear hcz10_1);(try clear hcz10_2);(try clear hcz12_0);(try clear hcz12_1);(try clear hcz12_2);(try clear hcz16_0);(try clear hcz16_1);(try clear hcz16_2);(try clear hcz16_3);(try clear hcz22_0);(try clear hcz22_1);(try clear hcz22_2);(try clear hcz22_3);(try clear hcz27_0);(try clear hcz27_1);(try clear hcz27_2);(try clear hcz32_0);(try clear hcz32_1);(try clear hcz32_2);(try clear hcz8_0);(try clear hcz8_1);(try clear hcz8_2);(try clear hfz10_0);(try clear hfz10_1);(try clear hfz10_2);(try clear hfz12_0);(try clear hfz12_1);(try clear hfz12_2);(try clear hfz16_0);(try clear hfz16_1);(try clear hfz16_2);(try clear hfz16_3);(try clear hfz22_0);(try clear hfz22_1);(try clear hfz22_2);(try clear hfz22_3);(try clear hfz27_0);(try clear hfz27_1);(try clear hfz27_2);(try clear hfz32_0);(try clear hfz32_1);(try clear hfz32_2);(try clear hfz8_0);(try clear hfz8_1);(try clear hfz8_2);(try clear p2);(try clear p6)
         obtain ⟨x6_3,x157002_3,u157002,rfl,HA,HK3,HO_157002,BK147,BK148,BK156,HB⟩:=hrel
         cases gk with
         | zero=>exact absurd HA.out (by simp [spec_MatInv.l1])
         | succ k3=>
          have H:=HA.out
          clear HA
          simp only [spec_MatInv.l1] at H
          by_cases c35 : x6_3 < a0_0
          ·rw [if_pos c35] at H
           have c35b0 : decide (x6_3 < a0_0) = true:=decide_eq_true c35
           clear c35
           replace H:=Option.bind_eq_some_iff.mp H
           obtain ⟨t157,A360,H⟩:=H
           replace H : (if 0 ≤ (wrap64 ((wrap64 ((wrap64 (x5_2 * 2)) * a0_0)) + x6_3)) then (if (wrap64 ((wrap64 ((wrap64 (x5_2 * 2)) * a0_0)) + x6_3)) < (x157002_3.length : Int) then (spec_MatInv.l1 k3 a0_0 x5_2 (wrap64 (x6_3 + 1)) a0_0 a0_1 l0_2 t151 t152 (x157002_3.set ((wrap64 ((wrap64 ((wrap64 (x5_2 * 2)) * a0_0)) + x6_3)) : Int).toNat t157)) else (none)) else (none)) = some (r1,r2,r3,r4):=H
           have A36:=Aside0.mk A360
           clear A360
           obtain ⟨ji37,hji37⟩ : ∃ j_ : Int,(wrap64 ((wrap64 ((wrap64 (x5_2 * 2)) * a0_0)) + x6_3)) = j_:=⟨_,rfl⟩
           replace H : (if 0 ≤ (ji37) then (if (ji37) < (x157002_3.length : Int) then (spec_MatInv.l1 k3 a0_0 x5_2 (wrap64 (x6_3 + 1)) a0_0 a0_1 l0_2 t151 t152 (x157002_3.set ((ji37) : Int).toNat t157)) else (none)) else (none)) = some (r1,r2,r3,r4):=by first|(rw [hji37] at H;exact H)|(simp only [hji37] at H ⊢;exact H)
           (try rw [hji37] at A36)
           have hji37w : (IntKind.i64.wrap ((wrap64 ((wrap64 (x5_2 * 2)) * a0_0)) + x6_3)) = ji37:=(i64_w _).trans hji37
           by_cases c38 : 0 ≤ (ji37)
           ·rw [if_pos c38] at H
            have c38b0 : decide (0 ≤ (ji37)) = true:=decide_eq_true c38
            clear c38
            by_cases c39 : (ji37) < (x157002_3.length : Int)
            ·rw [if_pos c39] at H
             have c39b0 : decide ((ji37) < (x157002_3.length : Int)) = true:=decide_eq_true c39
             clear c39
             obtain ⟨y158,hy158⟩ : ∃ y_ : List Int,y_ = (x157002_3.set ((ji37) : Int).toNat t157):=⟨_,rfl⟩
             replace H : (spec_MatInv.l1 k3 a0_0 x5_2 (wrap64 (x6_3 + 1)) a0_0 a0_1 l0_2 t151 t152 y158) = some (r1,r2,r3,r4):=by first|(rw [hy158];with_reducible exact H)|(have H2_:=(Option.bind_some _ _).symm.trans H;rw [hy158];with_reducible exact H2_)|(have H2_:=(Option.bind_some _ _).symm.trans H;with_reducible exact H2_)|with_reducible exact H|(rw [hy158];exact H)|exact H
             have Ny158:=Aside0.mk hy158
             clear hy158
             have H':=Aside0.mk H
             clear H
             try go_wp2
             have n0_:=Aside0.mk (Kd.R_drew HO_157002.out)
             have n1_:=Aside0.mk (blk_drew BK147.out)
             have n2_:=Aside0.mk (blk_drew BK148.out)
             have n3_:=Aside0.mk (blk_drew BK156.out)
             have n4_:=Aside0.mk (below_drew1 HB.out)
             clear HO_157002 BK147 BK148 BK156 HB
             have HO_157002:=n0_
             have BK147:=n1_
             have BK148:=n2_
             have BK156:=n3_
             have HB:=n4_
             clear n0_ n1_ n2_ n3_ n4_
             refine start_ (n:=14) (S:=fun w'=>w'.cell? ⟨gb156,0,none⟩ = some (.int .i64 t151) ∧ w'.cell? ⟨gb156,1,none⟩ = some (.int .i64 t152) ∧ w'.cell? ⟨gb156,2,none⟩ = some (u157002) ∧ w'.cell? ⟨gb147,0,none⟩ = some (.int .i64 a0_0) ∧ w'.cell? ⟨gb147,1,none⟩ = some (.int .i64 a0_1) ∧ w'.cell? ⟨gb147,2,none⟩ = some (.slice A0_2 l0_2.length c0_2)) (ds:=[13]) #[false,false,false,false,false,false,false,false,false,false,false,false,false,false] (by kernel_rfl) rfl rfl ⟨(blk_cell BK156.out 0).trans rfl,(blk_cell BK156.out 1).trans rfl,(blk_cell BK156.out 2).trans rfl,(blk_cell BK147.out 0).trans rfl,(blk_cell BK147.out 1).trans rfl,(blk_cell BK147.out 2).trans rfl⟩ (fun hHeld=>?_);refine with_tabW spec_MatInv.tab13 spec_MatInv.bits13 (fun HT_ HW_=>?_)
             generalize wr.drew = w41 at HO_157002 BK147 BK148 BK156 HB hHeld ⊢
             refine pure_ (i:=0) (N:=some 45) (v:=?_) (a':=?_) #[true,false,false,false,false,false,false,false,false,false,false,false,false,false] rfl rfl (any_of HT_.out (by kernel_rfl)) (fun _ _ _ h=>h) (Or.inl ⟨by rfl,?_⟩) ?_ ?_
             rotate_left
             ·intro w'
              go_simp
              with_reducible rfl
             rotate_left
             ·simp only [Act.put,List.setIfInBounds_toArray,List.set_cons_zero,List.set_cons_succ,i64_w,i32_w]
              rfl
             refine pure_ (i:=2) (N:=some 47) (v:=?_) (a':=?_) #[true,false,true,false,false,false,false,false,false,false,false,false,false,false] rfl rfl (any_of HT_.out (by kernel_rfl)) (fun _ _ _ h=>h) (Or.inl ⟨by rfl,?_⟩) ?_ ?_
             rotate_left
             ·intro w'
              go_simp
              with_reducible rfl
             rotate_left
             ·simp only [Act.put,List.setIfInBounds_toArray,List.set_cons_zero,List.set_cons_succ,i64_w,i32_w]
              rfl
             refine pure_ (i:=3) (N:=some 48) (v:=?_) (a':=?_) #[true,false,true,true,false,false,false,false,false,false,false,false,false,false] rfl rfl (any_of HT_.out (by kernel_rfl)) (fun _ _ _ h=>h) (Or.inl ⟨by rfl,?_⟩) ?_ ?_
             rotate_left
             ·intro w'
              go_simp
              with_reducible rfl
             rotate_left
             ·simp only [Act.put,List.setIfInBounds_toArray,List.set_cons_zero,List.set_cons_succ,i64_w,i32_w]
              rfl
             refine pure_ (i:=4) (N:=some 49) (v:=?_) (a':=?_) #[true,false,true,true,true,false,false,false,false,false,false,false,false,false] rfl rfl (any_of HT_.out (by kernel_rfl)) (fun _ _ _ h=>h) (Or.inl ⟨by rfl,?_⟩) ?_ ?_
             rotate_left
             ·intro w'
              go_simp
              with_reducible rfl
             rotate_left
             ·simp only [Act.put,List.setIfInBounds_toArray,List.set_cons_zero,List.set_cons_succ,i64_w,i32_w]
              rfl
             refine pure_ (i:=5) (N:=some 50) (v:=?_) (a':=?_) #[true,false,true,true,true,true,false,false,false,false,false,false,false,false] rfl rfl (any_of HT_.out (by kernel_rfl)) (fun _ _ _ h=>h) (Or.inl ⟨by rfl,?_⟩) ?_ ?_
             rotate_left
             ·intro w'
              go_simp
              with_reducible rfl
             rotate_left
             ·simp only [Act.put,List.setIfInBounds_toArray,List.set_cons_zero,List.set_cons_succ,i64_w,i32_w]
              rfl
             refine pure_ (i:=6) (N:=some 51) (v:=?_) (a':=?_) #[true,false,true,true,true,true,true,false,false,false,false,false,false,false] rfl rfl (any_of HT_.out (by kernel_rfl)) (fun _ _ _ h=>h) (Or.inl ⟨by rfl,?_⟩) ?_ ?_
             rotate_left
             ·intro w'
              go_simp
              with_reducible rfl
             rotate_left
             ·simp only [Act.put,List.setIfInBounds_toArray,List.set_cons_zero,List.set_cons_succ,i64_w,i32_w]
              rfl
             refine pure_ (i:=7) (N:=some 52) (v:=?_) (a':=?_) #[true,false,true,true,true,true,true,true,false,false,false,false,false,false] rfl rfl (any_of HT_.out (by kernel_rfl)) (fun _ _ _ h=>h) (Or.inl ⟨by rfl,?_⟩) ?_ ?_
             rotate_left
             ·intro w'
              go_simp
              with_reducible rfl
             rotate_left
             ·simp only [Act.put,List.setIfInBounds_toArray,List.set_cons_zero,List.set_cons_succ,i64_w,i32_w]
              rfl
             refine pure_ (i:=9) (N:=some 54) (v:=?_) (a':=?_) #[true,false,true,true,true,true,true,true,false,true,false,false,false,false] rfl rfl (any_of HT_.out (by kernel_rfl)) (fun _ _ _ h=>h) (Or.inl ⟨by rfl,?_⟩) ?_ ?_
             rotate_left
             ·intro w'
              go_simp
              with_reducible rfl
             rotate_left
             ·simp only [Act.put,List.setIfInBounds_toArray,List.set_cons_zero,List.set_cons_succ,i64_w,i32_w]
              rfl
             refine pure_ (i:=10) (N:=some 55) (v:=?_) (a':=?_) #[true,false,true,true,true,true,true,true,false,true,true,false,false,false] rfl rfl (any_of HT_.out (by kernel_rfl)) (fun _ _ _ h=>h) (Or.inl ⟨by rfl,?_⟩) ?_ ?_
             rotate_left
             ·intro w'
              go_simp
              with_reducible rfl
             rotate_left
             ·simp only [Act.put,List.setIfInBounds_toArray,List.set_cons_zero,List.set_cons_succ,i64_w,i32_w]
              rfl
             refine take_ (i:=1) (N:=some 46) (v:=?_) (a':=?_) #[true,true,true,true,true,true,true,true,false,true,true,false,false,false] rfl rfl (take_ofW HT_.out HW_.out (by kernel_rfl)) (fun _ _ _ h=>h) (Or.inl ⟨by rfl,?_⟩) hHeld ?_ ?_
             rotate_left
             ·rintro w' ⟨s0,s1,s2,s3,s4,s5⟩
              go_simp
              with_reducible rfl
             rotate_left
             ·simp only [Act.put,List.setIfInBounds_toArray,List.set_cons_zero,List.set_cons_succ,i64_w,i32_w]
              rfl
             refine take_ (i:=8) (N:=some 53) (v:=?_) (a':=?_) #[true,true,true,true,true,true,true,true,true,true,true,false,false,false] rfl rfl (take_ofW HT_.out HW_.out (by kernel_rfl)) (fun _ _ _ h=>h) (Or.inl ⟨by rfl,?_⟩) hHeld ?_ ?_
             rotate_left
             ·rintro w' ⟨s0,s1,s2,s3,s4,s5⟩
              go_simp
              with_reducible rfl
             rotate_left
             ·simp only [Act.put,List.setIfInBounds_toArray,List.set_cons_zero,List.set_cons_succ,i64_w,i32_w]
              rfl
             refine one_ (i:=11) (N:=some 56) #[true,true,true,true,true,true,true,true,true,true,true,true,false,false] rfl rfl (one_of HT_.out (by kernel_rfl)) (by decide) (fun K hK=>?_)
             refine goes_ Try.func67 (by kernel_rfl) rfl #[.agg #[.int .i64 a0_0,.int .i64 a0_1,.slice A0_2 l0_2.length c0_2],.int .i64 x5_2,.int .i64 x6_3] (by rfl) rfl rfl (by (try simp only [List.map_toArray,List.map_cons,List.map_nil]);first|done|rfl) ?_
             with_reducible refine (spec_l03At.calls a0_0 a0_1 _ _ l0_2 x5_2 x6_3 t157 _ ?side1 ?side2 A36.out).mono ?_
             (case side1=>repeat (first|exact (Kd.C_below HR0_2.out HB.out)|(with_reducible refine Kd.C_alloc ?_ _)|(with_reducible refine Kd.C_drewN ?_ _)|(with_reducible refine Kd.C_drew ?_)))
             (case side2=>exact HC0_2.out)
             rintro e w42 ⟨rfl,hb⟩
             refine ⟨_,rfl,?_⟩
             have n0_:=Aside0.mk (Kd.R_below (by (with_reducible repeat (first|apply Kd.R_alloc|apply Kd.R_drewN));exact HO_157002.out) hb)
             have n1_:=Aside0.mk (blk_below (g:=gb147) (o:=.cells #[.int .i64 a0_0,.int .i64 a0_1,.slice A0_2 l0_2.length c0_2] 27 (0,0)) (by (with_reducible repeat first|refine blk_drewN ?_ _|refine blk_alloc ?_ _);exact BK147.out) hb)
             have n2_:=Aside0.mk (blk_below (g:=gb148) (o:=.cells #[.int .i64 0,.int .i64 0,.int .i64 0,.slice none 0 0] 32 (0,0)) (by (with_reducible repeat first|refine blk_drewN ?_ _|refine blk_alloc ?_ _);exact BK148.out) hb)
             have n3_:=Aside0.mk (blk_below (g:=gb156) (o:=.cells #[.int .i64 t151,.int .i64 t152,u157002] 27 (0,0)) (by (with_reducible repeat first|refine blk_drewN ?_ _|refine blk_alloc ?_ _);exact BK156.out) hb)
             have n4_:=Aside0.mk (below_step (by repeat (first|(with_reducible first|exact HB.out|apply below_alloc|apply pw_below_drewN|apply below_drew1|refine below_set ?_ GE147.out|refine below_set ?_ GE148.out|refine below_set ?_ GE156.out)|exact HB.out)) hb)
             clear HO_157002 BK147 BK148 BK156 HB
             have HO_157002:=n0_
             have BK147:=n1_
             have BK148:=n2_
             have BK156:=n3_
             have HB:=n4_
             clear n0_ n1_ n2_ n3_ n4_
             (try clear hb);(try clear hb2);(try clear hk);(try clear hi)
             have p40 : 0 ≤ ((ji37) : Int):=of_decide_eq_true (by first|(with_reducible assumption)|assumption)
             have q40 : ((ji37) : Int) < ((x157002_3.length : Int) : Int):=of_decide_eq_true (by first|(with_reducible assumption)|assumption)
             obtain ⟨go40,co40,eo40,gb40,gl40,cl40,HG40⟩:=Kd.R_form HO_157002.out (by omega)
             (first|cases eo40|(injection eo40 with ea_ en_ ec_;(first|subst ea_|(injection ea_ with ea_;subst ea_));subst ec_;clear en_))
             have GB40:=Aside0.mk gb40
             have GG40:=Aside0.mk HG40
             clear gb40 gl40 HG40
             obtain ⟨hx40_0,hf40_0⟩:=Kd.R_celln 0 HO_157002.out ((ji37) : Int) p40 q40
             replace p40:=eq_true p40
             replace q40:=eq_true q40
             have HP43:=Kd.R_putn HO_157002.out ((ji37) : Int) t157
             rw [← Ny158.out] at HP43
             have HQ43:=Aside0.mk HP43
             clear HP43
             refine hK.out _ _ ⟨(blk_cell BK156.out 0).trans rfl,(blk_cell BK156.out 1).trans rfl,(blk_cell BK156.out 2).trans rfl,(blk_cell BK147.out 0).trans rfl,(blk_cell BK147.out 1).trans rfl,(blk_cell BK147.out 2).trans rfl⟩ (fun hHeld=>?_)
             clear hK K
             refine norm_ (a':=?_) ?_ ?_
             rotate_left
             ·show Act.put _ (some 56) _ = _
              simp only [Act.put,List.setIfInBounds_toArray,List.set_cons_zero,List.set_cons_succ,i64_w,i32_w]
              rfl
             refine pure_ (i:=12) (N:=some 57) (v:=?_) (a':=?_) #[true,true,true,true,true,true,true,true,true,true,true,true,true,false] rfl rfl (any_of HT_.out (by kernel_rfl)) (fun _ _ _ h=>h) (Or.inl ⟨by rfl,?_⟩) ?_ ?_
             rotate_left
             ·intro w'
              go_simp
              with_reducible rfl
             rotate_left
             ·simp only [Act.put,List.setIfInBounds_toArray,List.set_cons_zero,List.set_cons_succ,i64_w,i32_w]
              rfl
             refine last_ (i:=13) (N:=none) #[true,true,true,true,true,true,true,true,true,true,true,true,true,true] rfl rfl (one_of HT_.out (by kernel_rfl)) (by decide) (fun K hK=>?_)
             refine skip_ (w1:=?_) (by rfl) rfl ?_ ?_
             rotate_left
             ·go_simp
              rfl
             refine hK.out _ _ ?_
             clear hK K
             refine done_ (done_of HT_.out (by kernel_rfl)) ?_
             try go_wp2
             go_roundg k3
             case measure=>have:=HJ1.out;have:=HK2.out;have:=HK3.out;omega
             case rel=>exact ⟨(wrap64 (x6_3 + 1)),(y158),(.slice (some ⟨go40,0,none⟩) x157002_3.length co40),(by first|rfl|(simp;done)|(simp [*];done)),H',⟨by have:=HJ1.out;have:=HK2.out;have:=HK3.out;omega⟩,⟨by (with_reducible repeat (first|apply Kd.R_alloc|apply Kd.R_drewN));exact HQ43.out⟩,⟨by (with_reducible repeat first|refine blk_drewN ?_ _|refine blk_alloc ?_ _);refine blk_far ?_ (by have h_:=Kd.R_ne HO_157002.out BK147.out (by decide);intro e_;exact h_ (by rw [e_];rfl)) _;(with_reducible repeat first|refine blk_drewN ?_ _|refine blk_alloc ?_ _);exact BK147.out⟩,⟨by (with_reducible repeat first|refine blk_drewN ?_ _|refine blk_alloc ?_ _);refine blk_far ?_ (by have h_:=Kd.R_ne HO_157002.out BK148.out (by decide);intro e_;exact h_ (by rw [e_];rfl)) _;(with_reducible repeat first|refine blk_drewN ?_ _|refine blk_alloc ?_ _);exact BK148.out⟩,⟨by (with_reducible repeat first|refine blk_drewN ?_ _|refine blk_alloc ?_ _);refine blk_far ?_ (by have h_:=Kd.R_ne HO_157002.out BK156.out (by decide);intro e_;exact h_ (by rw [e_];rfl)) _;(with_reducible repeat first|refine blk_drewN ?_ _|refine blk_alloc ?_ _);exact BK156.out⟩,⟨by repeat (first|(with_reducible first|exact HB.out|apply below_alloc|apply pw_below_drewN|apply below_drew1|refine below_set ?_ GB40.out|refine below_set ?_ GE147.out|refine below_set ?_ GE148.out|refine below_set ?_ GE156.out)|exact HB.out)⟩⟩
            ·rw [if_neg c39] at H
             exact absurd H (by simp)
           ·rw [if_neg c38] at H
            exact absurd H (by simp)
          ·rw [if_neg c35] at H
           have c35b0 : decide (x6_3 < a0_0) = false:=decide_eq_false c35
           clear c35
           obtain ⟨ji44,hji44⟩ : ∃ j_ : Int,(wrap64 ((wrap64 ((wrap64 ((wrap64 (x5_2 * 2)) * a0_0)) + a0_0)) + x5_2)) = j_:=⟨_,rfl⟩
           replace H : (if 0 ≤ (ji44) then (if (ji44) < (x157002_3.length : Int) then (spec_MatInv.l0 k3 a0_0 (wrap64 (x5_2 + 1)) a0_0 a0_1 l0_2 t151 t152 (x157002_3.set ((ji44) : Int).toNat 1)) else (none)) else (none)) = some (r1,r2,r3,r4):=by first|(rw [hji44] at H;exact H)|(simp only [hji44] at H ⊢;exact H)
           have hji44w : (IntKind.i64.wrap ((wrap64 ((wrap64 ((wrap64 (x5_2 * 2)) * a0_0)) + a0_0)) + x5_2)) = ji44:=(i64_w _).trans hji44
           by_cases c45 : 0 ≤ (ji44)
           ·rw [if_pos c45] at H
            have c45b0 : decide (0 ≤ (ji44)) = true:=decide_eq_true c45
            clear c45
            by_cases c46 : (ji44) < (x157002_3.length : Int)
            ·rw [if_pos c46] at H
             have c46b0 : decide ((ji44) < (x157002_3.length : Int)) = true:=decide_eq_true c46
             clear c46
             obtain ⟨y159,hy159⟩ : ∃ y_ : List Int,y_ = (x157002_3.set ((ji44) : Int).toNat 1):=⟨_,rfl⟩
             replace H : (spec_MatInv.l0 k3 a0_0 (wrap64 (x5_2 + 1)) a0_0 a0_1 l0_2 t151 t152 y159) = some (r1,r2,r3,r4):=by first|(rw [hy159];with_reducible exact H)|(have H2_:=(Option.bind_some _ _).symm.trans H;rw [hy159];with_reducible exact H2_)|(have H2_:=(Option.bind_some _ _).symm.trans H;with_reducible exact H2_)|with_reducible exact H|(rw [hy159];exact H)|exact H
             have Ny159:=Aside0.mk hy159
             clear hy159
             have H':=Aside0.mk H
             clear H
             have hnb48:=NB156_147.out
             have hnc48:=NB147_156.out
             have hnb49:=NB156_148.out
             have hnc49:=NB148_156.out
             have hcz50_0 : wr.cell? ⟨gb156,0,none⟩ = some (.int .i64 t151):=(blk_cell BK156.out 0).trans rfl
             have hcz50_1 : wr.cell? ⟨gb156,1,none⟩ = some (.int .i64 t152):=(blk_cell BK156.out 1).trans rfl
             have hcz50_2 : wr.cell? ⟨gb156,2,none⟩ = some (u157002):=(blk_cell BK156.out 2).trans rfl
             have hfz50_0:=blk_frozen BK156.out 0
             have hfz50_1:=blk_frozen BK156.out 1
             have hfz50_2:=blk_frozen BK156.out 2
             have p47 : 0 ≤ ((ji44) : Int):=of_decide_eq_true (by first|(with_reducible assumption)|assumption)
             have q47 : ((ji44) : Int) < ((x157002_3.length : Int) : Int):=of_decide_eq_true (by first|(with_reducible assumption)|assumption)
             obtain ⟨go47,co47,eo47,gb47,gl47,cl47,HG47⟩:=Kd.R_form HO_157002.out (by omega)
             (first|cases eo47|(injection eo47 with ea_ en_ ec_;(first|subst ea_|(injection ea_ with ea_;subst ea_));subst ec_;clear en_))
             have GB47:=Aside0.mk gb47
             have GG47:=Aside0.mk HG47
             clear gb47 gl47 HG47
             obtain ⟨hx47_0,hf47_0⟩:=Kd.R_celln 0 HO_157002.out ((ji44) : Int) p47 q47
             replace p47:=eq_true p47
             replace q47:=eq_true q47
             have HP51:=Kd.R_putg HO_157002.out ((ji44) : Int) 1
             go_wp2_with (first|((with_reducible refine gate_store (t:=2) (p:=68) rfl ?_);refine store_event (t:=2) (p:=68) (v:=?vo_w52) (w1:=(wr.setCell ⟨go47,((ji44) : Int).toNat,none⟩ (.int .i64 1))) ?hg ?ho ?hn ?hr ?_;(case ho=>rfl);(case hg=>rfl);(case hn=>rfl);(case hr=>first|(go_simp;done)|(go_simp;rfl));intro w52 hw;have hg : wr.grownBy w52 (some go47):=(by rw [hw];exact HP51.2);have hp_ : Kd.R (Kd.int .i64) 2 w52 w.heap.size (fun _=>True) (.slice (some ⟨go47,0,none⟩) x157002_3.length co47) y159:=(by rw [hw,Ny159.out];exact HP51.1);clear HP51;have n0_:=Aside0.mk (hp_);have n1_:=Aside0.mk (blk_grown (g:=gb147) (o:=.cells #[.int .i64 a0_0,.int .i64 a0_1,.slice A0_2 l0_2.length c0_2] 27 (0,0)) (by (with_reducible repeat first|refine blk_drewN ?_ _|refine blk_alloc ?_ _);exact BK147.out) hg (Kd.R_ne HO_157002.out BK147.out (by decide)));have n2_:=Aside0.mk (blk_grown (g:=gb148) (o:=.cells #[.int .i64 0,.int .i64 0,.int .i64 0,.slice none 0 0] 32 (0,0)) (by (with_reducible repeat first|refine blk_drewN ?_ _|refine blk_alloc ?_ _);exact BK148.out) hg (Kd.R_ne HO_157002.out BK148.out (by decide)));have n3_:=Aside0.mk (blk_grown (g:=gb156) (o:=.cells #[.int .i64 t151,.int .i64 t152,.slice (some ⟨go47,0,none⟩) x157002_3.length co47] 27 (0,0)) (by (with_reducible repeat first|refine blk_drewN ?_ _|refine blk_alloc ?_ _);exact BK156.out) hg (Kd.R_ne HO_157002.out BK156.out (by decide)));have n4_:=Aside0.mk ((by rw [hw];exact below_set (HB.out) GB47.out : Below w.heap.size w w52));clear HO_157002 BK147 BK148 BK156 HB;have HO_157002:=n0_;have BK147:=n1_;have BK148:=n2_;have BK156:=n3_;have HB:=n4_;clear n0_ n1_ n2_ n3_ n4_ hg hw hp_))
             go_roundg k3
             case measure=>have:=HJ1.out;have:=HK2.out;have:=HK3.out;omega
             case rel=>exact ⟨(wrap64 (x5_2 + 1)),(y159),(.slice (some ⟨go47,0,none⟩) x157002_3.length co47),(by first|rfl|(simp;done)|(simp [*];done)),H',⟨by have:=HJ1.out;have:=HK2.out;have:=HK3.out;omega⟩,⟨by (with_reducible repeat (first|apply Kd.R_alloc|apply Kd.R_drewN));exact HO_157002.out⟩,⟨by (with_reducible repeat first|refine blk_drewN ?_ _|refine blk_alloc ?_ _);exact BK147.out⟩,⟨by (with_reducible repeat first|refine blk_drewN ?_ _|refine blk_alloc ?_ _);exact BK148.out⟩,⟨by (with_reducible repeat first|refine blk_drewN ?_ _|refine blk_alloc ?_ _);exact BK156.out⟩,⟨by repeat (first|(with_reducible first|exact HB.out|apply below_alloc|apply pw_below_drewN|apply below_drew1|refine below_set ?_ GE147.out|refine below_set ?_ GE148.out|refine below_set ?_ GE156.out)|exact HB.out)⟩⟩
            ·rw [if_neg c46] at H
             exact absurd H (by simp)
           ·rw [if_neg c45] at H
            exact absurd H (by simp)
       ·rw [if_neg c34] at H
        have c34b0 : decide (x5_2 < a0_0) = false:=decide_eq_false c34
        clear c34
        have H':=Aside0.mk H
        clear H
        go_wp2
        go_loopg [7] k2 (fun kq v7 w'=>∃ (x7_3 : Int) (x157002_3 : List Int) (u157002 : Value),v7 = .int .i64 x7_3 ∧ Aside0 (spec_MatInv.l2 kq a0_0 x7_3 t151 t152 x157002_3 = some (r1,r2,r3,r4)) ∧ Aside0 (kq ≤ k2) ∧ Aside0 (Kd.R (Kd.int .i64) 2 w' w.heap.size (fun _=>True) u157002 x157002_3) ∧ Aside0 (w'.heap[gb147]? = some (.cells #[.int .i64 a0_0,.int .i64 a0_1,(.slice A0_2 l0_2.length c0_2)] 27 (0,0))) ∧ Aside0 (w'.heap[gb148]? = some (.cells #[.int .i64 0,.int .i64 0,.int .i64 0,(.slice none 0 0)] 32 (0,0))) ∧ Aside0 (w'.heap[gb156]? = some (.cells #[.int .i64 t151,.int .i64 t152,u157002] 27 (0,0))) ∧ Aside0 (Below w.heap.size w w'))
        case atStart=>exact ⟨(0),(x157002_2),(u157002),(by first|rfl|(simp;done)|(simp [*];done)),H',⟨Nat.le_refl _⟩,⟨by (with_reducible repeat (first|apply Kd.R_alloc|apply Kd.R_drewN));exact HO_157002.out⟩,⟨by (with_reducible repeat first|refine blk_drewN ?_ _|refine blk_alloc ?_ _);exact BK147.out⟩,⟨by (with_reducible repeat first|refine blk_drewN ?_ _|refine blk_alloc ?_ _);exact BK148.out⟩,⟨by (with_reducible repeat first|refine blk_drewN ?_ _|refine blk_alloc ?_ _);exact BK156.out⟩,⟨by repeat (first|(with_reducible first|exact HB.out|apply below_alloc|apply pw_below_drewN|apply below_drew1|refine below_set ?_ GE147.out|refine below_set ?_ GE148.out|refine below_set ?_ GE156.out)|exact HB.out)⟩⟩
        case round=>
         clear H'
         (try clear c1);(try clear c2);(try clear p2);(try clear c3);(try clear c4);(try clear p4);(try clear q4);(try clear hx4);(try clear hf4);(try clear c5);(try clear c6);(try clear c6b0);(try clear c6b1);(try clear p6);(try clear c7);(try clear c11);(try clear c14);(try clear c15);(try clear c17);(try clear c18);(try clear c18b0);(try clear c21);(try clear c24);(try clear c26);(try clear c30);(try clear c31);(try clear c34);(try clear c34b0);(try clear c35);(try clear c35b0);(try clear c38);(try clear c38b0);(try clear c39);(try clear c39b0);(try clear p40);(try clear q40);(try clear hx40);(try clear hf40);(try clear c45);(try clear c45b0);(try clear c46);(try clear c46b0);(try clear p47);(try clear q47);(try clear hx47);(try clear hf47);(try clear c48);(try clear c49);(try clear hcz10_0);(try clear hcz10_1);(try clear hcz10_2);(try clear hcz12_0);(try clear hcz12_1);(try clear hcz12_2);(try clear hcz16_0);(try clear hcz16_1);(try clear hcz16_2);(try clear hcz16_3);(try clear hcz22_0);(try clear hcz22_1);(try clear hcz22_2);(try clear hcz22_3);(try clear hcz27_0);(try clear hcz27_1);(try clear hcz27_2);(try clear hcz32_0);(try clear hcz32_1);(try clear hcz32_2);(try clear hcz50_0);(try clear hcz50_1);(try clear hcz50_2);(try clear hcz8_0);(try clear hcz8_1);(try clear hcz8_2);(try clear hfz10_0);(try clear hfz10_1);(try clear hfz10_2);(try clear hfz12_0);(try clear hfz12_1);(try clear hfz12_2);(try clear hfz16_0);(try clear hfz16_1);(try clear hfz16_2);(try clear hfz16_3);(try clear hfz22_0);(try clear hfz22_1);(try clear hfz22_2);(try clear hfz22_3);(try clear hfz27_0);(try clear hfz27_1);(try clear hfz27_2);(try clear hfz32_0);(try clear hfz32_1);(try clear hfz32_2);(try clear hfz50_0);(try clear hfz50_1);(try clear hfz50_2);(try clear hfz8_0);(try clear hfz8_1);(try clear hfz8_2);(try clear hx40_0);(try clear hx47_0);(try clear p2);(try clear p40);(try clear p47);(try clear p6);(try clear q40);(try clear q47)
         obtain ⟨x7_3,x157002_3,u157002,rfl,HA,HK3,HO_157002,BK147,BK148,BK156,HB⟩:=hrel
         cases gk with
         | zero=>exact absurd HA.out (by simp [spec_MatInv.l2])
         | succ k3=>
          have H:=HA.out
          clear HA
          simp only [spec_MatInv.l2] at H
          by_cases c53 : x7_3 < a0_0
          ·rw [if_pos c53] at H
           have c53b0 : decide (x7_3 < a0_0) = true:=decide_eq_true c53
           clear c53
           have H':=Aside0.mk H
           clear H
           go_wp2
           go_loopg [8] k3 (fun kq v8 w'=>∃ (x8_4 : Int),v8 = .int .i64 x8_4 ∧ Aside0 (spec_MatInv.l3 kq a0_0 x7_3 x8_4 t151 t152 x157002_3 = some (r1,r2,r3,r4)) ∧ Aside0 (kq ≤ k3) ∧ Aside0 (Kd.R (Kd.int .i64) 2 w' w.heap.size (fun _=>True) u157002 x157002_3) ∧ Aside0 (w'.heap[gb147]? = some (.cells #[.int .i64 a0_0,.int .i64 a0_1,(.slice A0_2 l0_2.length c0_2)] 27 (0,0))) ∧ Aside0 (w'.heap[gb148]? = some (.cells #[.int .i64 0,.int .i64 0,.int .i64 0,(.slice none 0 0)] 32 (0,0))) ∧ Aside0 (w'.heap[gb156]? = some (.cells #[.int .i64 t151,.int .i64 t152,u157002] 27 (0,0))) ∧ Aside0 (Below w.heap.size w w'))
           case atStart=>exact ⟨(x7_3),(by first|rfl|(simp;done)|(simp [*];done)),H',⟨Nat.le_refl _⟩,⟨by (with_reducible repeat (first|apply Kd.R_alloc|apply Kd.R_drewN));exact HO_157002.out⟩,⟨by (with_reducible repeat first|refine blk_drewN ?_ _|refine blk_alloc ?_ _);exact BK147.out⟩,⟨by (with_reducible repeat first|refine blk_drewN ?_ _|refine blk_alloc ?_ _);exact BK148.out⟩,⟨by (with_reducible repeat first|refine blk_drewN ?_ _|refine blk_alloc ?_ _);exact BK156.out⟩,⟨by repeat (first|(with_reducible first|exact HB.out|apply below_alloc|apply pw_below_drewN|apply below_drew1|refine below_set ?_ GE147.out|refine below_set ?_ GE148.out|refine below_set ?_ GE156.out)|exact HB.out)⟩⟩
           case round=>
            clear H'
            (try clear c1);(try clear c2);(try clear p2);(try clear c3);(try clear c4);(try clear p4);(try clear q4);(try clear hx4);(try clear hf4);(try clear c5);(try clear c6);(try clear c6b0);(try clear c6b1);(try clear p6);(try clear c7);(try clear c11);(try clear c14);(try clear c15);(try clear c17);(try clear c18);(try clear c18b0);(try clear c21);(try clear c24);(try clear c26);(try clear c30);(try clear c31);(try clear c34);(try clear c34b0);(try clear c35);(try clear c35b0);(try clear c38);(try clear c38b0);(try clear c39);(try clear c39b0);(try clear p40);(try clear q40);(try clear hx40);(try clear hf40);(try clear c45);(try clear c45b0);(try clear c46);(try clear c46b0);(try clear p47);(try clear q47);(try clear hx47);(try clear hf47);(try clear c48);(try clear c49);(try clear c53);(try clear c53b0);(try clear hcz10_0);(try clear hcz10_1);(try clear hcz10_2);(try clear hcz12_0);(try clear hcz12_1);(try clear hcz12_2);(try clear hcz16_0);(try clear hcz16_1);(try clear hcz16_2);(try clear hcz16_3);(try clear hcz22_0);(try clear hcz22_1);(try clear hcz22_2);(try clear hcz22_3);(try clear hcz27_0);(try clear hcz27_1);(try clear hcz27_2);(try clear hcz32_0);(try clear hcz32_1);(try clear hcz32_2);(try clear hcz50_0);(try clear hcz50_1);(try clear hcz50_2);(try clear hcz8_0);(try clear hcz8_1);(try clear hcz8_2);(try clear hfz10_0);(try clear hfz10_1);(try clear hfz10_2);(try clear hfz12_0);(try clear hfz12_1);(try clear hfz12_2);(try clear hfz16_0);(try clear hfz16_1);(try clear hfz16_2);(try clear hfz16_3);(try clear hfz22_0);(try clear hfz22_1);(try clear hfz22_2);(try clear hfz22_3);(try clear hfz27_0);(try clear hfz27_1);(try clear hfz27_2);(try clear hfz32_0);(try clear hfz32_1);(try clear hfz32_2);(try clear hfz50_0);(try clear hfz50_1);(try clear hfz50_2);(try clear hfz8_0);(try clear hfz8_1);(try clear hfz8_2);(try clear hx40_0);(try clear hx47_0);(try clear p2);(try clear p4);(try clear p40);(try clear p47);(try clear p6);(try clear q4);(try clear q40);(try clear q47)
            obtain ⟨x8_4,rfl,HA,HK4,HO_157002,BK147,BK148,BK156,HB⟩:=hrel
            cases gk with
            | zero=>exact absurd HA.out (by simp [spec_MatInv.l3])
            | succ k4=>
             have H:=HA.out
             clear HA
             simp only [spec_MatInv.l3] at H
             replace H:=Option.bind_eq_some_iff.mp H
             obtain ⟨t160,A540,H⟩:=H
             replace H : (if t160 = 0 then (spec_MatInv.l3 k4 a0_0 x7_3 (wrap64 (x8_4 + 1)) t151 t152 x157002_3) else ((spec_l03Swap.f k4 t151 t152 x157002_3 x7_3 x8_4).bind fun t161=>((spec_l03Clear.f k4 t151 t152 t161 x7_3 x7_3).bind fun t162=>(spec_MatInv.l2 k4 a0_0 (wrap64 (x7_3 + 1)) t151 t152 t162)))) = some (r1,r2,r3,r4):=H
             have A54:=Aside0.mk A540
             clear A540
             by_cases c55 : t160 = 0
             ·rw [if_pos c55] at H
              have c55b0 : (t160 == 0) = true:=beq_iff_eq.mpr c55
              have c55b1 : (t160 != 0) = false:=bne_eq_false_iff_eq.mpr c55
              clear c55
              have H':=Aside0.mk H
              clear H
              have hnb56:=NB156_147.out
              have hnc56:=NB147_156.out
              have hnb57:=NB156_148.out
              have hnc57:=NB148_156.out
              have hcz58_0 : wr.cell? ⟨gb156,0,none⟩ = some (.int .i64 t151):=(blk_cell BK156.out 0).trans rfl
              have hcz58_1 : wr.cell? ⟨gb156,1,none⟩ = some (.int .i64 t152):=(blk_cell BK156.out 1).trans rfl
              have hcz58_2 : wr.cell? ⟨gb156,2,none⟩ = some (u157002):=(blk_cell BK156.out 2).trans rfl
              have hfz58_0:=blk_frozen BK156.out 0
              have hfz58_1:=blk_frozen BK156.out 1
              have hfz58_2:=blk_frozen BK156.out 2
              obtain ⟨Ao59,co59,eo59⟩:=Kd.R_slice HO_157002.out
              subst eo59
              go_wp2_with (first|((with_reducible refine gate_callee (f:=67) rfl ?_);refine goesL_ (some 78) rfl rfl Try.func67 (by kernel_rfl) rfl #[.agg #[.int .i64 t151,.int .i64 t152,.slice Ao59 x157002_3.length co59],.int .i64 x8_4,.int .i64 x7_3] rfl (by (try simp only [List.map_toArray,List.map_cons,List.map_nil]);first|done|rfl) ?_;(with_reducible refine (spec_l03At.calls t151 t152 _ _ x157002_3 x8_4 x7_3 t160 _ ?side1 ?side2 A54.out).mono ?_);(case side1=>repeat (first|exact (Kd.R_reads' HO_157002.out).2.2|(with_reducible refine Kd.C_alloc ?_ _)|(with_reducible refine Kd.C_drewN ?_ _)|(with_reducible refine Kd.C_drew ?_)));(case side2=>exact (Kd.R_reads' HO_157002.out).2.1);rintro e w60 ⟨rfl,hb⟩;refine ⟨_,rfl,?_⟩;have n0_:=Aside0.mk (Kd.R_below (by (with_reducible repeat (first|apply Kd.R_alloc|apply Kd.R_drewN));exact HO_157002.out) hb);have n1_:=Aside0.mk (blk_below (g:=gb147) (o:=.cells #[.int .i64 a0_0,.int .i64 a0_1,.slice A0_2 l0_2.length c0_2] 27 (0,0)) (by (with_reducible repeat first|refine blk_drewN ?_ _|refine blk_alloc ?_ _);exact BK147.out) hb);have n2_:=Aside0.mk (blk_below (g:=gb148) (o:=.cells #[.int .i64 0,.int .i64 0,.int .i64 0,.slice none 0 0] 32 (0,0)) (by (with_reducible repeat first|refine blk_drewN ?_ _|refine blk_alloc ?_ _);exact BK148.out) hb);have n3_:=Aside0.mk (blk_below (g:=gb156) (o:=.cells #[.int .i64 t151,.int .i64 t152,.slice Ao59 x157002_3.length co59] 27 (0,0)) (by (with_reducible repeat first|refine blk_drewN ?_ _|refine blk_alloc ?_ _);exact BK156.out) hb);have n4_:=Aside0.mk (below_step (by repeat (first|(with_reducible first|exact HB.out|apply below_alloc|apply pw_below_drewN|apply below_drew1|refine below_set ?_ GE147.out|refine below_set ?_ GE148.out|refine below_set ?_ GE156.out)|exact HB.out)) hb);clear HO_157002 BK147 BK148 BK156 HB;have HO_157002:=n0_;have BK147:=n1_;have BK148:=n2_;have BK156:=n3_;have HB:=n4_;clear n0_ n1_ n2_ n3_ n4_;(try clear hb);(try clear hb2);(try clear hk);(try clear hi)))
              go_roundg k4
              case measure=>have:=HJ1.out;have:=HK2.out;have:=HK3.out;have:=HK4.out;omega
              case rel=>exact ⟨(wrap64 (x8_4 + 1)),(by first|rfl|(simp;done)|(simp [*];done)),H',⟨by have:=HJ1.out;have:=HK2.out;have:=HK3.out;have:=HK4.out;omega⟩,⟨by (with_reducible repeat (first|apply Kd.R_alloc|apply Kd.R_drewN));exact HO_157002.out⟩,⟨by (with_reducible repeat first|refine blk_drewN ?_ _|refine blk_alloc ?_ _);exact BK147.out⟩,⟨by (with_reducible repeat first|refine blk_drewN ?_ _|refine blk_alloc ?_ _);exact BK148.out⟩,⟨by (with_reducible repeat first|refine blk_drewN ?_ _|refine blk_alloc ?_ _);exact BK156.out⟩,⟨by repeat (first|(with_reducible first|exact HB.out|apply below_alloc|apply pw_below_drewN|apply below_drew1|refine below_set ?_ GE147.out|refine below_set ?_ GE148.out|refine below_set ?_ GE156.out)|exact HB.out)⟩⟩
             ·rw [if_neg c55] at H
              have c55b0 : (t160 == 0) = false:=beq_eq_false_iff_ne.mpr c55
              have c55b1 : (t160 != 0) = true:=bne_iff_ne.mpr c55
              replace H:=Option.bind_eq_some_iff.mp H
              obtain ⟨t161,A610,H⟩:=H
              replace H : ((spec_l03Clear.f k4 t151 t152 t161 x7_3 x7_3).bind fun t162=>(spec_MatInv.l2 k4 a0_0 (wrap64 (x7_3 + 1)) t151 t152 t162)) = some (r1,r2,r3,r4):=H
              have A61:=Aside0.mk A610
              clear A610
              replace H:=Option.bind_eq_some_iff.mp H
              obtain ⟨t162,A620,H⟩:=H
              replace H : (spec_MatInv.l2 k4 a0_0 (wrap64 (x7_3 + 1)) t151 t152 t162) = some (r1,r2,r3,r4):=H
              have A62:=Aside0.mk A620
              clear A620
              have H':=Aside0.mk H
              clear H
              have hnb63:=NB156_147.out
              have hnc63:=NB147_156.out
              have hnb64:=NB156_148.out
              have hnc64:=NB148_156.out
              have hcz65_0 : wr.cell? ⟨gb156,0,none⟩ = some (.int .i64 t151):=(blk_cell BK156.out 0).trans rfl
              have hcz65_1 : wr.cell? ⟨gb156,1,none⟩ = some (.int .i64 t152):=(blk_cell BK156.out 1).trans rfl
              have hcz65_2 : wr.cell? ⟨gb156,2,none⟩ = some (u157002):=(blk_cell BK156.out 2).trans rfl
              have hfz65_0:=blk_frozen BK156.out 0
              have hfz65_1:=blk_frozen BK156.out 1
              have hfz65_2:=blk_frozen BK156.out 2
              obtain ⟨Ao66,co66,eo66⟩:=Kd.R_slice HO_157002.out
              subst eo66
              go_wp2_with (first|((with_reducible refine gate_callee (f:=67) rfl ?_);refine goesL_ (some 78) rfl rfl Try.func67 (by kernel_rfl) rfl #[.agg #[.int .i64 t151,.int .i64 t152,.slice Ao66 x157002_3.length co66],.int .i64 x8_4,.int .i64 x7_3] rfl (by (try simp only [List.map_toArray,List.map_cons,List.map_nil]);first|done|rfl) ?_;(with_reducible refine (spec_l03At.calls t151 t152 _ _ x157002_3 x8_4 x7_3 t160 _ ?side1 ?side2 A54.out).mono ?_);(case side1=>repeat (first|exact (Kd.R_reads' HO_157002.out).2.2|(with_reducible refine Kd.C_alloc ?_ _)|(with_reducible refine Kd.C_drewN ?_ _)|(with_reducible refine Kd.C_drew ?_)));(case side2=>exact (Kd.R_reads' HO_157002.out).2.1);rintro e w67 ⟨rfl,hb⟩;refine ⟨_,rfl,?_⟩;have n0_:=Aside0.mk (Kd.R_below (by (with_reducible repeat (first|apply Kd.R_alloc|apply Kd.R_drewN));exact HO_157002.out) hb);have n1_:=Aside0.mk (blk_below (g:=gb147) (o:=.cells #[.int .i64 a0_0,.int .i64 a0_1,.slice A0_2 l0_2.length c0_2] 27 (0,0)) (by (with_reducible repeat first|refine blk_drewN ?_ _|refine blk_alloc ?_ _);exact BK147.out) hb);have n2_:=Aside0.mk (blk_below (g:=gb148) (o:=.cells #[.int .i64 0,.int .i64 0,.int .i64 0,.slice none 0 0] 32 (0,0)) (by (with_reducible repeat first|refine blk_drewN ?_ _|refine blk_alloc ?_ _);exact BK148.out) hb);have n3_:=Aside0.mk (blk_below (g:=gb156) (o:=.cells #[.int .i64 t151,.int .i64 t152,.slice Ao66 x157002_3.length co66] 27 (0,0)) (by (with_reducible repeat first|refine blk_drewN ?_ _|refine blk_alloc ?_ _);exact BK156.out) hb);have n4_:=Aside0.mk (below_step (by repeat (first|(with_reducible first|exact HB.out|apply below_alloc|apply pw_below_drewN|apply below_drew1|refine below_set ?_ GE147.out|refine below_set ?_ GE148.out|refine below_set ?_ GE156.out)|exact HB.out)) hb);clear HO_157002 BK147 BK148 BK156 HB;have HO_157002:=n0_;have BK147:=n1_;have BK148:=n2_;have BK156:=n3_;have HB:=n4_;clear n0_ n1_ n2_ n3_ n4_;(try clear hb);(try clear hb2);(try clear hk);(try clear hi);have hcz68_0 : w67.cell? ⟨gb156,0,none⟩ = some (.int .i64 t151):=(blk_cell BK156.out 0).trans rfl;have hcz68_1 : w67.cell? ⟨gb156,1,none⟩ = some (.int .i64 t152):=(blk_cell BK156.out 1).trans rfl;have hcz68_2 : w67.cell? ⟨gb156,2,none⟩ = some (.slice Ao66 x157002_3.length co66):=(blk_cell BK156.out 2).trans rfl;have hfz68_0:=blk_frozen BK156.out 0;have hfz68_1:=blk_frozen BK156.out 1;have hfz68_2:=blk_frozen BK156.out 2)|((with_reducible refine gate_callee (f:=68) rfl ?_);refine goesL_ (some 85) rfl rfl Try.func68 (by kernel_rfl) rfl #[.agg #[.int .i64 t151,.int .i64 t152,.slice Ao66 x157002_3.length co66],.int .i64 x7_3,.int .i64 x8_4] rfl (by (try simp only [List.map_toArray,List.map_cons,List.map_nil]);first|done|rfl) ?_;(with_reducible refine (spec_l03Swap.calls k4 t151 t152 (fun k_=>some k_ = (.slice Ao66 x157002_3.length co66 : Value).ownBlock) (.slice Ao66 x157002_3.length co66) x157002_3 x7_3 x8_4 t161 w _ ?side1 ?side2 A61.out).mono ?_);(case side1=>repeat (first|(with_reducible first|exact HB.out|apply below_alloc|apply pw_below_drewN|apply below_drew1|refine below_set ?_ GE147.out|refine below_set ?_ GE148.out|refine below_set ?_ GE156.out)|exact HB.out));(case side2=>exact Kd.R_tight rfl HO_157002.out);rintro e w69 ⟨rfl,hy0,hb,hkp⟩;refine ⟨_,rfl,?_⟩;have n0_:=Aside0.mk (Kd.R_reok rfl hy0 (fun k_ e_=>HO_157002.out.1 k_ e_));have n1_:=Aside0.mk (blk_kept (by (with_reducible repeat first|refine blk_drewN ?_ _|refine blk_alloc ?_ _);exact BK147.out) hkp (fun hs_=>(fun e_=>(Kd.R_ne HO_157002.out BK147.out (by decide)) e_) hs_));have n2_:=Aside0.mk (blk_kept (by (with_reducible repeat first|refine blk_drewN ?_ _|refine blk_alloc ?_ _);exact BK148.out) hkp (fun hs_=>(fun e_=>(Kd.R_ne HO_157002.out BK148.out (by decide)) e_) hs_));have n3_:=Aside0.mk (blk_kept (by (with_reducible repeat first|refine blk_drewN ?_ _|refine blk_alloc ?_ _);exact BK156.out) hkp (fun hs_=>(fun e_=>(Kd.R_ne HO_157002.out BK156.out (by decide)) e_) hs_));have n4_:=Aside0.mk (hb);clear HO_157002 BK147 BK148 BK156 HB;have HO_157002:=n0_;have BK147:=n1_;have BK148:=n2_;have BK156:=n3_;have HB:=n4_;clear n0_ n1_ n2_ n3_ n4_;(try clear hb);(try clear hkp);(try clear hy0);have hcz70_0 : w69.cell? ⟨gb156,0,none⟩ = some (.int .i64 t151):=(blk_cell BK156.out 0).trans rfl;have hcz70_1 : w69.cell? ⟨gb156,1,none⟩ = some (.int .i64 t152):=(blk_cell BK156.out 1).trans rfl;have hcz70_2 : w69.cell? ⟨gb156,2,none⟩ = some (.slice Ao66 x157002_3.length co66):=(blk_cell BK156.out 2).trans rfl;have hfz70_0:=blk_frozen BK156.out 0;have hfz70_1:=blk_frozen BK156.out 1;have hfz70_2:=blk_frozen BK156.out 2)|((with_reducible refine gate_callee (f:=69) rfl ?_);refine goesL_ (some 89) rfl rfl Try.func69 (by kernel_rfl) rfl #[.agg #[.int .i64 t151,.int .i64 t152,.slice Ao66 x157002_3.length co66],.int .i64 x7_3,.int .i64 x7_3] rfl (by (try simp only [List.map_toArray,List.map_cons,List.map_nil]);first|done|rfl) ?_;(with_reducible refine (spec_l03Clear.calls k4 t151 t152 (fun k_=>some k_ = (.slice Ao66 x157002_3.length co66 : Value).ownBlock) (.slice Ao66 x157002_3.length co66) t161 x7_3 x7_3 t162 w _ ?side1 ?side2 A62.out).mono ?_);(case side1=>repeat (first|(with_reducible first|exact HB.out|apply below_alloc|apply pw_below_drewN|apply below_drew1|refine below_set ?_ GE147.out|refine below_set ?_ GE148.out|refine below_set ?_ GE156.out)|exact HB.out));(case side2=>exact Kd.R_tight rfl HO_157002.out);rintro e w71 ⟨rfl,hy0,hb,hkp⟩;refine ⟨_,rfl,?_⟩;have n0_:=Aside0.mk (Kd.R_reok rfl hy0 (fun k_ e_=>HO_157002.out.1 k_ e_));have n1_:=Aside0.mk (blk_kept (by (with_reducible repeat first|refine blk_drewN ?_ _|refine blk_alloc ?_ _);exact BK147.out) hkp (fun hs_=>(fun e_=>(Kd.R_ne HO_157002.out BK147.out (by decide)) e_) hs_));have n2_:=Aside0.mk (blk_kept (by (with_reducible repeat first|refine blk_drewN ?_ _|refine blk_alloc ?_ _);exact BK148.out) hkp (fun hs_=>(fun e_=>(Kd.R_ne HO_157002.out BK148.out (by decide)) e_) hs_));have n3_:=Aside0.mk (blk_kept (by (with_reducible repeat first|refine blk_drewN ?_ _|refine blk_alloc ?_ _);exact BK156.out) hkp (fun hs_=>(fun e_=>(Kd.R_ne HO_157002.out BK156.out (by decide)) e_) hs_));have n4_:=Aside0.mk (hb);clear HO_157002 BK147 BK148 BK156 HB;have HO_157002:=n0_;have BK147:=n1_;have BK148:=n2_;have BK156:=n3_;have HB:=n4_;clear n0_ n1_ n2_ n3_ n4_;(try clear hb);(try clear hkp);(try clear hy0)))
              go_roundg k4
              case measure=>have:=HJ1.out;have:=HK2.out;have:=HK3.out;have:=HK4.out;omega
              case rel=>exact ⟨(wrap64 (x7_3 + 1)),(t162),(.slice Ao66 x157002_3.length co66),(by first|rfl|(simp;done)|(simp [*];done)),H',⟨by have:=HJ1.out;have:=HK2.out;have:=HK3.out;have:=HK4.out;omega⟩,⟨by (with_reducible repeat (first|apply Kd.R_alloc|apply Kd.R_drewN));exact HO_157002.out⟩,⟨by (with_reducible repeat first|refine blk_drewN ?_ _|refine blk_alloc ?_ _);exact BK147.out⟩,⟨by (with_reducible repeat first|refine blk_drewN ?_ _|refine blk_alloc ?_ _);exact BK148.out⟩,⟨by (with_reducible repeat first|refine blk_drewN ?_ _|refine blk_alloc ?_ _);exact BK156.out⟩,⟨by repeat (first|(with_reducible first|exact HB.out|apply below_alloc|apply pw_below_drewN|apply below_drew1|refine below_set ?_ GE147.out|refine below_set ?_ GE148.out|refine below_set ?_ GE156.out)|exact HB.out)⟩⟩
          ·rw [if_neg c53] at H
           have c53b0 : decide (x7_3 < a0_0) = false:=decide_eq_false c53
           clear c53
           replace H:=Option.bind_eq_some_iff.mp H
           obtain ⟨⟨t163,t164,t165⟩,A720,H⟩:=H
           replace H : (spec_MatInv.l4 k3 a0_0 0 t151 t152 x157002_3 t163 t164 t165) = some (r1,r2,r3,r4):=H
           have A72:=Aside0.mk A720
           clear A720
           have H':=Aside0.mk H
           clear H
           go_wp2_with (first|((with_reducible refine gate_callee (f:=66) rfl ?_);refine goesL_ (some 92) rfl rfl Try.func66 (by kernel_rfl) rfl #[.int .i64 a0_0,.int .i64 a0_0] rfl (by (try simp only [List.map_toArray,List.map_cons,List.map_nil]);first|done|rfl) ?_;(with_reducible refine (spec_l03New.calls a0_0 a0_0 t163 t164 t165 _ A72.out).mono ?_);rintro e w73 ⟨v166,rfl,ho0,hb⟩;refine ⟨_,rfl,?_⟩;have n0_:=Aside0.mk (Kd.R_elder' (by (with_reducible repeat (first|apply Kd.R_alloc|apply Kd.R_drewN));exact HO_157002.out) (Kd.R_base ho0) hb);have n1_:=Aside0.mk (Kd.R_lower (Kd.R_new' ho0 (Kd.R_lt (by (with_reducible repeat (first|apply Kd.R_alloc|apply Kd.R_drewN));exact HO_157002.out))) (below_size (by repeat (first|(with_reducible first|exact HB.out|apply below_alloc|apply pw_below_drewN|apply below_drew1|refine below_set ?_ GE147.out|refine below_set ?_ GE148.out|refine below_set ?_ GE156.out)|exact HB.out))));have n2_:=Aside0.mk (blk_below (g:=gb147) (o:=.cells #[.int .i64 a0_0,.int .i64 a0_1,.slice A0_2 l0_2.length c0_2] 27 (0,0)) (by (with_reducible repeat first|refine blk_drewN ?_ _|refine blk_alloc ?_ _);exact BK147.out) hb);have n3_:=Aside0.mk (blk_below (g:=gb148) (o:=.cells #[.int .i64 0,.int .i64 0,.int .i64 0,.slice none 0 0] 32 (0,0)) (by (with_reducible repeat first|refine blk_drewN ?_ _|refine blk_alloc ?_ _);exact BK148.out) hb);have n4_:=Aside0.mk (blk_below (g:=gb156) (o:=.cells #[.int .i64 t151,.int .i64 t152,u157002] 27 (0,0)) (by (with_reducible repeat first|refine blk_drewN ?_ _|refine blk_alloc ?_ _);exact BK156.out) hb);have n5_:=Aside0.mk (below_step (by repeat (first|(with_reducible first|exact HB.out|apply below_alloc|apply pw_below_drewN|apply below_drew1|refine below_set ?_ GE147.out|refine below_set ?_ GE148.out|refine below_set ?_ GE156.out)|exact HB.out)) hb);clear HO_157002 BK147 BK148 BK156 HB;have HO_157002:=n0_;have HO167:=n1_;have BK147:=n2_;have BK148:=n3_;have BK156:=n4_;have HB:=n5_;clear n0_ n1_ n2_ n3_ n4_ n5_;(try clear hb);(try clear hb2);(try clear hk);(try clear hi);(try clear ho0))|((with_reducible refine gate_dst (N:=9) rfl ?_);refine box_event ?hg (N:=9) ?hd (cs:=#[.int .i64 0,.int .i64 0,.slice none 0 0]) (t:=27) ?hr ?_;(case hd=>rfl);(case hg=>rfl);(case hr=>first|(go_simp;done)|(go_simp;rfl));intro gb168 hg w74 hbox hb;have n0_:=Aside0.mk (Kd.R_below (by (with_reducible repeat (first|apply Kd.R_alloc|apply Kd.R_drewN));exact HO_157002.out) hb);have n1_:=Aside0.mk (Kd.R_below (by (with_reducible repeat (first|apply Kd.R_alloc|apply Kd.R_drewN));exact HO167.out) hb);have n2_:=Aside0.mk (blk_below (g:=gb147) (o:=.cells #[.int .i64 a0_0,.int .i64 a0_1,.slice A0_2 l0_2.length c0_2] 27 (0,0)) (by (with_reducible repeat first|refine blk_drewN ?_ _|refine blk_alloc ?_ _);exact BK147.out) hb);have n3_:=Aside0.mk (blk_below (g:=gb148) (o:=.cells #[.int .i64 0,.int .i64 0,.int .i64 0,.slice none 0 0] 32 (0,0)) (by (with_reducible repeat first|refine blk_drewN ?_ _|refine blk_alloc ?_ _);exact BK148.out) hb);have n4_:=Aside0.mk (blk_below (g:=gb156) (o:=.cells #[.int .i64 t151,.int .i64 t152,u157002] 27 (0,0)) (by (with_reducible repeat first|refine blk_drewN ?_ _|refine blk_alloc ?_ _);exact BK156.out) hb);have n5_:=Aside0.mk (below_step (by repeat (first|(with_reducible first|exact HB.out|apply below_alloc|apply pw_below_drewN|apply below_drew1|refine below_set ?_ GE147.out|refine below_set ?_ GE148.out|refine below_set ?_ GE156.out)|exact HB.out)) hb);have n6_:=Aside0.mk (hbox);have n7_:=Aside0.mk ((by rw [hg];exact (below_size (by repeat (first|(with_reducible first|exact HB.out|apply below_alloc|apply pw_below_drewN|apply below_drew1|refine below_set ?_ GE147.out|refine below_set ?_ GE148.out|refine below_set ?_ GE156.out)|exact HB.out))) : w.heap.size ≤ gb168));have n8_:=Aside0.mk ((by rw [hg];exact (below_size (by repeat (first|(with_reducible first|exact HB.out|apply below_alloc|apply pw_below_drewN|apply below_drew1|refine below_set ?_ GE147.out|refine below_set ?_ GE148.out|refine below_set ?_ GE156.out)|exact HB.out))) : w.heap.size ≤ gb168));have n9_:=Aside0.mk ((by rw [hg];exact Nat.ne_of_lt (blk_lt (g:=gb147) (o:=.cells #[.int .i64 a0_0,.int .i64 a0_1,.slice A0_2 l0_2.length c0_2] 27 (0,0)) (by (with_reducible repeat first|refine blk_drewN ?_ _|refine blk_alloc ?_ _);exact BK147.out)) : gb147 ≠ gb168));have n10_:=Aside0.mk ((by rw [hg];exact Nat.ne_of_gt (blk_lt (g:=gb147) (o:=.cells #[.int .i64 a0_0,.int .i64 a0_1,.slice A0_2 l0_2.length c0_2] 27 (0,0)) (by (with_reducible repeat first|refine blk_drewN ?_ _|refine blk_alloc ?_ _);exact BK147.out)) : gb168 ≠ gb147));have n11_:=Aside0.mk ((by rw [hg];exact Nat.ne_of_lt (blk_lt (g:=gb148) (o:=.cells #[.int .i64 0,.int .i64 0,.int .i64 0,.slice none 0 0] 32 (0,0)) (by (with_reducible repeat first|refine blk_drewN ?_ _|refine blk_alloc ?_ _);exact BK148.out)) : gb148 ≠ gb168));have n12_:=Aside0.mk ((by rw [hg];exact Nat.ne_of_gt (blk_lt (g:=gb148) (o:=.cells #[.int .i64 0,.int .i64 0,.int .i64 0,.slice none 0 0] 32 (0,0)) (by (with_reducible repeat first|refine blk_drewN ?_ _|refine blk_alloc ?_ _);exact BK148.out)) : gb168 ≠ gb148));have n13_:=Aside0.mk ((by rw [hg];exact Nat.ne_of_lt (blk_lt (g:=gb156) (o:=.cells #[.int .i64 t151,.int .i64 t152,u157002] 27 (0,0)) (by (with_reducible repeat first|refine blk_drewN ?_ _|refine blk_alloc ?_ _);exact BK156.out)) : gb156 ≠ gb168));have n14_:=Aside0.mk ((by rw [hg];exact Nat.ne_of_gt (blk_lt (g:=gb156) (o:=.cells #[.int .i64 t151,.int .i64 t152,u157002] 27 (0,0)) (by (with_reducible repeat first|refine blk_drewN ?_ _|refine blk_alloc ?_ _);exact BK156.out)) : gb168 ≠ gb156));clear HO_157002 HO167 BK147 BK148 BK156 HB;have HO_157002:=n0_;have HO167:=n1_;have BK147:=n2_;have BK148:=n3_;have BK156:=n4_;have HB:=n5_;have BK168:=n6_;have GW168:=n7_;have GE168:=n8_;have NB147_168:=n9_;have NB168_147:=n10_;have NB148_168:=n11_;have NB168_148:=n12_;have NB156_168:=n13_;have NB168_156:=n14_;clear n0_ n1_ n2_ n3_ n4_ n5_ n6_ n7_ n8_ n9_ n10_ n11_ n12_ n13_ n14_ hb hbox hg;have hnb75:=NB168_147.out;have hnc75:=NB147_168.out;have hnb76:=NB168_148.out;have hnc76:=NB148_168.out;have hnb77:=NB168_156.out;have hnc77:=NB156_168.out;have hcz78_0 : w74.cell? ⟨gb168,0,none⟩ = some (.int .i64 0):=(blk_cell BK168.out 0).trans rfl;have hcz78_1 : w74.cell? ⟨gb168,1,none⟩ = some (.int .i64 0):=(blk_cell BK168.out 1).trans rfl;have hcz78_2 : w74.cell? ⟨gb168,2,none⟩ = some (.slice none 0 0):=(blk_cell BK168.out 2).trans rfl;have hfz78_0:=blk_frozen BK168.out 0;have hfz78_1:=blk_frozen BK168.out 1;have hfz78_2:=blk_frozen BK168.out 2;obtain ⟨Ao79,co79,eo79⟩:=Kd.R_slice HO167.out;subst eo79))
           go_loopg [10] k3 (fun kq v10 w'=>∃ (x10_4 : Int) (x157002_4 : List Int) (x169002_4 : List Int) (u157002 : Value) (u169002 : Value),v10 = .int .i64 x10_4 ∧ Aside0 (spec_MatInv.l4 kq a0_0 x10_4 t151 t152 x157002_4 t163 t164 x169002_4 = some (r1,r2,r3,r4)) ∧ Aside0 (kq ≤ k3) ∧ Aside0 (Kd.R (Kd.int .i64) 2 w' w.heap.size (fun k_=>some k_ ≠ (u169002 : Value).ownBlock) u157002 x157002_4) ∧ Aside0 (Kd.R (Kd.int .i64) 2 w' w.heap.size (fun k_=>some k_ ≠ (u157002 : Value).ownBlock) u169002 x169002_4) ∧ Aside0 (w'.heap[gb147]? = some (.cells #[.int .i64 a0_0,.int .i64 a0_1,(.slice A0_2 l0_2.length c0_2)] 27 (0,0))) ∧ Aside0 (w'.heap[gb148]? = some (.cells #[.int .i64 0,.int .i64 0,.int .i64 0,(.slice none 0 0)] 32 (0,0))) ∧ Aside0 (w'.heap[gb156]? = some (.cells #[.int .i64 t151,.int .i64 t152,u157002] 27 (0,0))) ∧ Aside0 (w'.heap[gb168]? = some (.cells #[.int .i64 t163,.int .i64 t164,u169002] 27 (0,0))) ∧ Aside0 (Below w.heap.size w w'))
           case atStart=>exact ⟨(0),(x157002_3),(t165),(u157002),(.slice Ao79 t165.length co79),(by first|rfl|(simp;done)|(simp [*];done)),H',⟨Nat.le_refl _⟩,⟨by (with_reducible repeat (first|apply Kd.R_alloc|apply Kd.R_drewN));exact Kd.R_mono (Kd.R_far (p:=⟨gb168,2,none⟩) (Kd.R_far (p:=⟨gb168,1,none⟩) (Kd.R_far (p:=⟨gb168,0,none⟩) (Kd.R_types HO_157002.out BK168.out (by decide)) (fun _ hk=>hk.2) (.int .i64 t163)) (fun _ hk=>hk.2) (.int .i64 t164)) (fun _ hk=>hk.2) (.slice Ao79 t165.length co79)) (fun _ hk=>hk.1.2)⟩,⟨by (with_reducible repeat (first|apply Kd.R_alloc|apply Kd.R_drewN));exact Kd.R_mono (Kd.R_far (p:=⟨gb168,2,none⟩) (Kd.R_far (p:=⟨gb168,1,none⟩) (Kd.R_far (p:=⟨gb168,0,none⟩) (Kd.R_types HO167.out BK168.out (by decide)) (fun _ hk=>hk.2) (.int .i64 t163)) (fun _ hk=>hk.2) (.int .i64 t164)) (fun _ hk=>hk.2) (.slice Ao79 t165.length co79)) (fun _ hk=>hk.1.2)⟩,⟨by (with_reducible repeat first|refine blk_drewN ?_ _|refine blk_alloc ?_ _);refine blk_far ?_ NB147_168.out _;(with_reducible repeat first|refine blk_drewN ?_ _|refine blk_alloc ?_ _);refine blk_far ?_ NB147_168.out _;(with_reducible repeat first|refine blk_drewN ?_ _|refine blk_alloc ?_ _);refine blk_far ?_ NB147_168.out _;(with_reducible repeat first|refine blk_drewN ?_ _|refine blk_alloc ?_ _);exact BK147.out⟩,⟨by (with_reducible repeat first|refine blk_drewN ?_ _|refine blk_alloc ?_ _);refine blk_far ?_ NB148_168.out _;(with_reducible repeat first|refine blk_drewN ?_ _|refine blk_alloc ?_ _);refine blk_far ?_ NB148_168.out _;(with_reducible repeat first|refine blk_drewN ?_ _|refine blk_alloc ?_ _);refine blk_far ?_ NB148_168.out _;(with_reducible repeat first|refine blk_drewN ?_ _|refine blk_alloc ?_ _);exact BK148.out⟩,⟨by (with_reducible repeat first|refine blk_drewN ?_ _|refine blk_alloc ?_ _);refine blk_far ?_ NB156_168.out _;(with_reducible repeat first|refine blk_drewN ?_ _|refine blk_alloc ?_ _);refine blk_far ?_ NB156_168.out _;(with_reducible repeat first|refine blk_drewN ?_ _|refine blk_alloc ?_ _);refine blk_far ?_ NB156_168.out _;(with_reducible repeat first|refine blk_drewN ?_ _|refine blk_alloc ?_ _);exact BK156.out⟩,⟨by (with_reducible repeat first|refine blk_drewN ?_ _|refine blk_alloc ?_ _);refine blk_put (cs:=#[.int .i64 t163,.int .i64 t164,.slice none 0 0]) ?_ 2 _ rfl;(with_reducible repeat first|refine blk_drewN ?_ _|refine blk_alloc ?_ _);refine blk_put (cs:=#[.int .i64 t163,.int .i64 0,.slice none 0 0]) ?_ 1 _ rfl;(with_reducible repeat first|refine blk_drewN ?_ _|refine blk_alloc ?_ _);refine blk_put (cs:=#[.int .i64 0,.int .i64 0,.slice none 0 0]) ?_ 0 _ rfl;(with_reducible repeat first|refine blk_drewN ?_ _|refine blk_alloc ?_ _);exact BK168.out⟩,⟨by repeat (first|(with_reducible first|exact HB.out|apply below_alloc|apply pw_below_drewN|apply below_drew1|refine below_set ?_ GE147.out|refine below_set ?_ GE148.out|refine below_set ?_ GE156.out|refine below_set ?_ GE168.out)|exact HB.out)⟩⟩
           case round=>
            clear H'
            (try clear c1);(try clear c2);(try clear p2);(try clear c3);(try clear c4);(try clear p4);(try clear q4);(try clear hx4);(try clear hf4);(try clear c5);(try clear c6);(try clear c6b0);(try clear c6b1);(try clear p6);(try clear c7);(try clear c11);(try clear c14);(try clear c15);(try clear c17);(try clear c18);(try clear c18b0);(try clear c21);(try clear c24);(try clear c26);(try clear c30);(try clear c31);(try clear c34);(try clear c34b0);(try clear c35);(try clear c35b0);(try clear c38);(try clear c38b0);(try clear c39);(try clear c39b0);(try clear p40);(try clear q40);(try clear hx40);(try clear hf40);(try clear c45);(try clear c45b0);(try clear c46);(try clear c46b0);(try clear p47);(try clear q47);(try clear hx47);(try clear hf47);(try clear c48);(try clear c49);(try clear c53);(try clear c53b0);(try clear c55);(try clear c55b0);(try clear c55b1);(try clear c56);(try clear c57);(try clear c63);(try clear c64);(try clear p64);(try clear c66);(try clear c67);(try clear c68);(try clear c69);(try clear c75);(try clear c76);(try clear c77);(try clear hcz10_0);(try clear hcz10_1);(try clear hcz10_2);(try clear hcz12_0);(try clear hcz12_1);(try clear hcz12_2);(try clear hcz16_0);(try clear hcz16_1);(try clear hcz16_2);(try clear hcz16_3);(try clear hcz22_0);(try clear hcz22_1);(try clear hcz22_2);(try clear hcz22_3);(try clear hcz27_0);(try clear hcz27_1);(try clear hcz27_2);(try clear hcz32_0);(try clear hcz32_1);(try clear hcz32_2);(try clear hcz50_0);(try clear hcz50_1);(try clear hcz50_2);(try clear hcz58_0);(try clear hcz58_1);(try clear hcz58_2);(try clear hcz65_0);(try clear hcz65_1);(try clear hcz65_2);(try clear hcz68_0);(try clear hcz68_1);(try clear hcz68_2);(try clear hcz70_0);(try clear hcz70_1);(try clear hcz70_2);(try clear hcz78_0);(try clear hcz78_1);(try clear hcz78_2);(try clear hcz8_0);(try clear hcz8_1);(try clear hcz8_2);(try clear hfz10_0);(try clear hfz10_1);(try clear hfz10_2);(try clear hfz12_0);(try clear hfz12_1);(try clear hfz12_2);(try clear hfz16_0);(try clear hfz16_1);(try clear hfz16_2);(try clear hfz16_3);(try clear hfz22_0);(try clear hfz22_1);(try clear hfz22_2);(try clear hfz22_3);(try clear hfz27_0);(try clear hfz27_1);(try clear hfz27_2);(try clear hfz32_0);(try clear hfz32_1);(try clear hfz32_2);(try clear hfz50_0);(try clear hfz50_1);(try clear hfz50_2);(try clear hfz58_0);(try clear hfz58_1);(try clear hfz58_2);(try clear hfz65_0);(try clear hfz65_1);(try clear hfz65_2);(try clear hfz68_0);(try clear hfz68_1);(try clear hfz68_2);(try clear hfz70_0);(try clear hfz70_1);(try clear hfz70_2);(try clear hfz78_0);(try clear hfz78_1);(try clear hfz78_2);(try clear hfz8_0);(try clear hfz8_1);(try clear hfz8_2);(try clear hx40_0);(try clear hx47_0);(try clear p2);(try clear p4);(try clear p40);(try clear p47);(try clear p6);(try clear q4);(try clear q40);(try clear q47)
            obtain ⟨x10_4,x157002_4,x169002_4,u157002,u169002,rfl,HA,HK4,HO_157002,HO_169002,BK147,BK148,BK156,BK168,HB⟩:=hrel
            cases gk with
            | zero=>exact absurd HA.out (by simp [spec_MatInv.l4])
            | succ k4=>
             have H:=HA.out
             clear HA
             simp only [spec_MatInv.l4] at H
             by_cases c80 : x10_4 < a0_0
             ·rw [if_pos c80] at H
              have c80b0 : decide (x10_4 < a0_0) = true:=decide_eq_true c80
              clear c80
              have H':=Aside0.mk H
              clear H
              go_wp2
              go_loopg [11] k4 (fun kq v11 w'=>∃ (x11_5 : Int) (x157002_5 : List Int) (x169002_5 : List Int) (u157002 : Value) (u169002 : Value),v11 = .int .i64 x11_5 ∧ Aside0 (spec_MatInv.l5 kq a0_0 x10_4 x11_5 t151 t152 x157002_5 t163 t164 x169002_5 = some (r1,r2,r3,r4)) ∧ Aside0 (kq ≤ k4) ∧ Aside0 (Kd.R (Kd.int .i64) 2 w' w.heap.size (fun k_=>some k_ ≠ (u169002 : Value).ownBlock) u157002 x157002_5) ∧ Aside0 (Kd.R (Kd.int .i64) 2 w' w.heap.size (fun k_=>some k_ ≠ (u157002 : Value).ownBlock) u169002 x169002_5) ∧ Aside0 (w'.heap[gb147]? = some (.cells #[.int .i64 a0_0,.int .i64 a0_1,(.slice A0_2 l0_2.length c0_2)] 27 (0,0))) ∧ Aside0 (w'.heap[gb148]? = some (.cells #[.int .i64 0,.int .i64 0,.int .i64 0,(.slice none 0 0)] 32 (0,0))) ∧ Aside0 (w'.heap[gb156]? = some (.cells #[.int .i64 t151,.int .i64 t152,u157002] 27 (0,0))) ∧ Aside0 (w'.heap[gb168]? = some (.cells #[.int .i64 t163,.int .i64 t164,u169002] 27 (0,0))) ∧ Aside0 (Below w.heap.size w w'))
              case atStart=>exact ⟨(0),(x157002_4),(x169002_4),(u157002),(u169002),(by first|rfl|(simp;done)|(simp [*];done)),H',⟨Nat.le_refl _⟩,⟨by (with_reducible repeat (first|apply Kd.R_alloc|apply Kd.R_drewN));exact HO_157002.out⟩,⟨by (with_reducible repeat (first|apply Kd.R_alloc|apply Kd.R_drewN));exact HO_169002.out⟩,⟨by (with_reducible repeat first|refine blk_drewN ?_ _|refine blk_alloc ?_ _);exact BK147.out⟩,⟨by (with_reducible repeat first|refine blk_drewN ?_ _|refine blk_alloc ?_ _);exact BK148.out⟩,⟨by (with_reducible repeat first|refine blk_drewN ?_ _|refine blk_alloc ?_ _);exact BK156.out⟩,⟨by (with_reducible repeat first|refine blk_drewN ?_ _|refine blk_alloc ?_ _);exact BK168.out⟩,⟨by repeat (first|(with_reducible first|exact HB.out|apply below_alloc|apply pw_below_drewN|apply below_drew1|refine below_set ?_ GE147.out|refine below_set ?_ GE148.out|refine below_set ?_ GE156.out|refine below_set ?_ GE168.out)|exact HB.out)⟩⟩
              case round=>
               clear H'
               (try clear c1);(try clear c2);(try clear p2);(try clear c3);(try clear c4);(try clear p4);(try clear q4);(try clear hx4);(try clear hf4);(try clear c5);(try clear c6);(try clear c6b0);(try clear c6b1);(try clear p6);(try clear c7);(try clear c8);(try clear c11);(try clear c14);(try clear c15);(try clear c17);(try clear c18);(try clear c18b0);(try clear c21);(try clear c24);(try clear c26);(try clear c30);(try clear c31);(try clear c34);(try clear c34b0);(try clear c35);(try clear c35b0);(try clear c38);(try clear c38b0);(try clear c39);(try clear c39b0);(try clear p40);(try clear q40);(try clear hx40);(try clear hf40);(try clear c45);(try clear c45b0);(try clear c46);(try clear c46b0);(try clear p47);(try clear q47);(try clear hx47);(try clear hf47);(try clear c48);(try clear c49);(try clear c53);(try clear c53b0);(try clear c55);(try clear c55b0);(try clear c55b1);(try clear c56);(try clear c57);(try clear c63);(try clear c64);(try clear p64);(try clear c66);(try clear c67);(try clear c68);(try clear c69);(try clear c75);(try clear c76);(try clear c77);(try clear c80);(try clear c80b0);(try clear hcz10_0);(try clear hcz10_1);(try clear hcz10_2);(try clear hcz12_0);(try clear hcz12_1);(try clear hcz12_2);(try clear hcz16_0);(try clear hcz16_1);(try clear hcz16_2);(try clear hcz16_3);(try clear hcz22_0);(try clear hcz22_1);(try clear hcz22_2);(try clear hcz22_3);(try clear hcz27_0);(try clear hcz27_1);(try clear hcz27_2);(try clear hcz32_0);(try clear hcz32_1);(try clear hcz32_2);(try clear hcz50_0);(try clear hcz50_1);(try clear hcz50_2);(try clear hcz58_0);(try clear hcz58_1);(try clear hcz58_2);(try clear hcz65_0);(try clear hcz65_1);(try clear hcz65_2);(try clear hcz68_0);(try clear hcz68_1);(try clear hcz68_2);(try clear hcz70_0);(try clear hcz70_1);(try clear hcz70_2);(try clear hcz78_0);(try clear hcz78_1);(try clear hcz78_2);(try clear hcz8_0);(try clear hcz8_1);(try clear hcz8_2);(try clear hfz10_0);(try clear hfz10_1);(try clear hfz10_2);(try clear hfz12_0);(try clear hfz12_1);(try clear hfz12_2);(try clear hfz16_0);(try clear hfz16_1);(try clear hfz16_2);(try clear hfz16_3);(try clear hfz22_0);(try clear hfz22_1);(try clear hfz22_2);(try clear hfz22_3);(try clear hfz27_0);(try clear hfz27_1);(try clear hfz27_2);(try clear hfz32_0);(try clear hfz32_1);(try clear hfz32_2);(try clear hfz50_0);(try clear hfz50_1);(try clear hfz50_2);(try clear hfz58_0);(try clear hfz58_1);(try clear hfz58_2);(try clear hfz65_0);(try clear hfz65_1);(try clear hfz65_2);(try clear hfz68_0);(try clear hfz68_1);(try clear hfz68_2);(try clear hfz70_0);(try clear hfz70_1);(try clear hfz70_2);(try clear hfz78_0);(try clear hfz78_1);(try clear hfz78_2);(try clear hfz8_0);(try clear hfz8_1);(try clear hfz8_2);(try clear hx40_0);(try clear hx47_0);(try clear p2);(try clear p4);(try clear p40);(try clear p47);(try clear p6);(try clear p64);(try clear q4);(try clear q40);(try clear q47)
               obtain ⟨x11_5,x157002_5,x169002_5,u157002,u169002,rfl,HA,HK5,HO_157002,HO_169002,BK147,BK148,BK156,BK168,HB⟩:=hrel
               cases gk with
               | zero=>exact absurd HA.out (by simp [spec_MatInv.l5])
               | succ k5=>
                have H:=HA.out
                clear HA
                simp only [spec_MatInv.l5] at H
                by_cases c81 : x11_5 < a0_0
                ·rw [if_pos c81] at H
                 have c81b0 : decide (x11_5 < a0_0) = true:=decide_eq_true c81
                 clear c81
                 replace H:=Option.bind_eq_some_iff.mp H
                 obtain ⟨t169,A820,H⟩:=H
                 replace H : (if 0 ≤ (wrap64 ((wrap64 (x10_4 * a0_0)) + x11_5)) then (if (wrap64 ((wrap64 (x10_4 * a0_0)) + x11_5)) < (x169002_5.length : Int) then (spec_MatInv.l5 k5 a0_0 x10_4 (wrap64 (x11_5 + 1)) t151 t152 x157002_5 t163 t164 (x169002_5.set ((wrap64 ((wrap64 (x10_4 * a0_0)) + x11_5)) : Int).toNat t169)) else (none)) else (none)) = some (r1,r2,r3,r4):=H
                 have A82:=Aside0.mk A820
                 clear A820
                 obtain ⟨ji83,hji83⟩ : ∃ j_ : Int,(wrap64 ((wrap64 (x10_4 * a0_0)) + x11_5)) = j_:=⟨_,rfl⟩
                 replace H : (if 0 ≤ (ji83) then (if (ji83) < (x169002_5.length : Int) then (spec_MatInv.l5 k5 a0_0 x10_4 (wrap64 (x11_5 + 1)) t151 t152 x157002_5 t163 t164 (x169002_5.set ((ji83) : Int).toNat t169)) else (none)) else (none)) = some (r1,r2,r3,r4):=by first|(rw [hji83] at H;exact H)|(simp only [hji83] at H ⊢;exact H)
                 (try rw [hji83] at A82)
                 have hji83w : (IntKind.i64.wrap ((wrap64 (x10_4 * a0_0)) + x11_5)) = ji83:=(i64_w _).trans hji83
                 by_cases c84 : 0 ≤ (ji83)
                 ·rw [if_pos c84] at H
                  have c84b0 : decide (0 ≤ (ji83)) = true:=decide_eq_true c84
                  clear c84
                  by_cases c85 : (ji83) < (x169002_5.length : Int)
                  ·rw [if_pos c85] at H
                   have c85b0 : decide ((ji83) < (x169002_5.length : Int)) = true:=decide_eq_true c85
                   clear c85
                   obtain ⟨y170,hy170⟩ : ∃ y_ : List Int,y_ = (x169002_5.set ((ji83) : Int).toNat t169):=⟨_,rfl⟩
                   replace H : (spec_MatInv.l5 k5 a0_0 x10_4 (wrap64 (x11_5 + 1)) t151 t152 x157002_5 t163 t164 y170) = some (r1,r2,r3,r4):=by first|(rw [hy170];with_reducible exact H)|(have H2_:=(Option.bind_some _ _).symm.trans H;rw [hy170];with_reducible exact H2_)|(have H2_:=(Option.bind_some _ _).symm.trans H;with_reducible exact H2_)|with_reducible exact H|(rw [hy170];exact H)|exact H
                   have Ny170:=Aside0.mk hy170
                   clear hy170
                   have H':=Aside0.mk H
                   clear H
                   try go_wp2
                   have n0_:=Aside0.mk (Kd.R_drew HO_157002.out)
                   have n1_:=Aside0.mk (Kd.R_drew HO_169002.out)
                   have n2_:=Aside0.mk (blk_drew BK147.out)
                   have n3_:=Aside0.mk (blk_drew BK148.out)
                   have n4_:=Aside0.mk (blk_drew BK156.out)
                   have n5_:=Aside0.mk (blk_drew BK168.out)
                   have n6_:=Aside0.mk (below_drew1 HB.out)
                   clear HO_157002 HO_169002 BK147 BK148 BK156 BK168 HB
                   have HO_157002:=n0_
                   have HO_169002:=n1_
                   have BK147:=n2_
                   have BK148:=n3_
                   have BK156:=n4_
                   have BK168:=n5_
                   have HB:=n6_
                   clear n0_ n1_ n2_ n3_ n4_ n5_ n6_
                   obtain ⟨Ao88,co88,eo88⟩:=Kd.R_slice HO_157002.out
                   (first|subst eo88|(injection eo88 with f1_ f2_ f3_;have f4_:=f1_.symm;have f5_:=f3_.symm;clear f1_ f2_ f3_;subst f4_;subst f5_))
                   refine start_ (n:=15) (S:=fun w'=>w'.cell? ⟨gb168,0,none⟩ = some (.int .i64 t163) ∧ w'.cell? ⟨gb168,1,none⟩ = some (.int .i64 t164) ∧ w'.cell? ⟨gb168,2,none⟩ = some (u169002) ∧ w'.cell? ⟨gb156,0,none⟩ = some (.int .i64 t151) ∧ w'.cell? ⟨gb156,1,none⟩ = some (.int .i64 t152) ∧ w'.cell? ⟨gb156,2,none⟩ = some (.slice Ao88 x157002_5.length co88)) (ds:=[14]) #[false,false,false,false,false,false,false,false,false,false,false,false,false,false,false] (by kernel_rfl) rfl rfl ⟨(blk_cell BK168.out 0).trans rfl,(blk_cell BK168.out 1).trans rfl,(blk_cell BK168.out 2).trans rfl,(blk_cell BK156.out 0).trans rfl,(blk_cell BK156.out 1).trans rfl,(blk_cell BK156.out 2).trans rfl⟩ (fun hHeld=>?_);refine with_tabW spec_MatInv.tab30 spec_MatInv.bits30 (fun HT_ HW_=>?_)
                   generalize wr.drew = w87 at HO_157002 HO_169002 BK147 BK148 BK156 BK168 HB hHeld ⊢
                   refine pure_ (i:=0) (N:=some 103) (v:=?_) (a':=?_) #[true,false,false,false,false,false,false,false,false,false,false,false,false,false,false] rfl rfl (any_of HT_.out (by kernel_rfl)) (fun _ _ _ h=>h) (Or.inl ⟨by rfl,?_⟩) ?_ ?_
                   rotate_left
                   ·intro w'
                    go_simp
                    with_reducible rfl
                   rotate_left
                   ·simp only [Act.put,List.setIfInBounds_toArray,List.set_cons_zero,List.set_cons_succ,i64_w,i32_w]
                    rfl
                   refine pure_ (i:=2) (N:=some 105) (v:=?_) (a':=?_) #[true,false,true,false,false,false,false,false,false,false,false,false,false,false,false] rfl rfl (any_of HT_.out (by kernel_rfl)) (fun _ _ _ h=>h) (Or.inl ⟨by rfl,?_⟩) ?_ ?_
                   rotate_left
                   ·intro w'
                    go_simp
                    with_reducible rfl
                   rotate_left
                   ·simp only [Act.put,List.setIfInBounds_toArray,List.set_cons_zero,List.set_cons_succ,i64_w,i32_w]
                    rfl
                   refine pure_ (i:=3) (N:=some 106) (v:=?_) (a':=?_) #[true,false,true,true,false,false,false,false,false,false,false,false,false,false,false] rfl rfl (any_of HT_.out (by kernel_rfl)) (fun _ _ _ h=>h) (Or.inl ⟨by rfl,?_⟩) ?_ ?_
                   rotate_left
                   ·intro w'
                    go_simp
                    with_reducible rfl
                   rotate_left
                   ·simp only [Act.put,List.setIfInBounds_toArray,List.set_cons_zero,List.set_cons_succ,i64_w,i32_w]
                    rfl
                   refine pure_ (i:=4) (N:=some 107) (v:=?_) (a':=?_) #[true,false,true,true,true,false,false,false,false,false,false,false,false,false,false] rfl rfl (any_of HT_.out (by kernel_rfl)) (fun _ _ _ h=>h) (Or.inl ⟨by rfl,?_⟩) ?_ ?_
                   rotate_left
                   ·intro w'
                    go_simp
                    with_reducible rfl
                   rotate_left
                   ·simp only [Act.put,List.setIfInBounds_toArray,List.set_cons_zero,List.set_cons_succ,i64_w,i32_w]
                    rfl
                   refine pure_ (i:=5) (N:=some 108) (v:=?_) (a':=?_) #[true,false,true,true,true,true,false,false,false,false,false,false,false,false,false] rfl rfl (any_of HT_.out (by kernel_rfl)) (fun _ _ _ h=>h) (Or.inl ⟨by rfl,?_⟩) ?_ ?_
                   rotate_left
                   ·intro w'
                    go_simp
                    with_reducible rfl
                   rotate_left
                   ·simp only [Act.put,List.setIfInBounds_toArray,List.set_cons_zero,List.set_cons_succ,i64_w,i32_w]
                    rfl
                   refine pure_ (i:=6) (N:=some 109) (v:=?_) (a':=?_) #[true,false,true,true,true,true,true,false,false,false,false,false,false,false,false] rfl rfl (any_of HT_.out (by kernel_rfl)) (fun _ _ _ h=>h) (Or.inl ⟨by rfl,?_⟩) ?_ ?_
                   rotate_left
                   ·intro w'
                    go_simp
                    with_reducible rfl
                   rotate_left
                   ·simp only [Act.put,List.setIfInBounds_toArray,List.set_cons_zero,List.set_cons_succ,i64_w,i32_w]
                    rfl
                   refine pure_ (i:=8) (N:=some 111) (v:=?_) (a':=?_) #[true,false,true,true,true,true,true,false,true,false,false,false,false,false,false] rfl rfl (any_of HT_.out (by kernel_rfl)) (fun _ _ _ h=>h) (Or.inl ⟨by rfl,?_⟩) ?_ ?_
                   rotate_left
                   ·intro w'
                    go_simp
                    with_reducible rfl
                   rotate_left
                   ·simp only [Act.put,List.setIfInBounds_toArray,List.set_cons_zero,List.set_cons_succ,i64_w,i32_w]
                    rfl
                   refine pure_ (i:=9) (N:=some 112) (v:=?_) (a':=?_) #[true,false,true,true,true,true,true,false,true,true,false,false,false,false,false] rfl rfl (any_of HT_.out (by kernel_rfl)) (fun _ _ _ h=>h) (Or.inl ⟨by rfl,?_⟩) ?_ ?_
                   rotate_left
                   ·intro w'
                    go_simp
                    with_reducible rfl
                   rotate_left
                   ·simp only [Act.put,List.setIfInBounds_toArray,List.set_cons_zero,List.set_cons_succ,i64_w,i32_w]
                    rfl
                   refine pure_ (i:=10) (N:=some 113) (v:=?_) (a':=?_) #[true,false,true,true,true,true,true,false,true,true,true,false,false,false,false] rfl rfl (any_of HT_.out (by kernel_rfl)) (fun _ _ _ h=>h) (Or.inl ⟨by rfl,?_⟩) ?_ ?_
                   rotate_left
                   ·intro w'
                    go_simp
                    with_reducible rfl
                   rotate_left
                   ·simp only [Act.put,List.setIfInBounds_toArray,List.set_cons_zero,List.set_cons_succ,i64_w,i32_w]
                    rfl
                   refine pure_ (i:=11) (N:=some 114) (v:=?_) (a':=?_) #[true,false,true,true,true,true,true,false,true,true,true,true,false,false,false] rfl rfl (any_of HT_.out (by kernel_rfl)) (fun _ _ _ h=>h) (Or.inl ⟨by rfl,?_⟩) ?_ ?_
                   rotate_left
                   ·intro w'
                    go_simp
                    with_reducible rfl
                   rotate_left
                   ·simp only [Act.put,List.setIfInBounds_toArray,List.set_cons_zero,List.set_cons_succ,i64_w,i32_w]
                    rfl
                   refine take_ (i:=1) (N:=some 104) (v:=?_) (a':=?_) #[true,true,true,true,true,true,true,false,true,true,true,true,false,false,false] rfl rfl (take_ofW HT_.out HW_.out (by kernel_rfl)) (fun _ _ _ h=>h) (Or.inl ⟨by rfl,?_⟩) hHeld ?_ ?_
                   rotate_left
                   ·rintro w' ⟨s0,s1,s2,s3,s4,s5⟩
                    go_simp
                    with_reducible rfl
                   rotate_left
                   ·simp only [Act.put,List.setIfInBounds_toArray,List.set_cons_zero,List.set_cons_succ,i64_w,i32_w]
                    rfl
                   refine take_ (i:=7) (N:=some 110) (v:=?_) (a':=?_) #[true,true,true,true,true,true,true,true,true,true,true,true,false,false,false] rfl rfl (take_ofW HT_.out HW_.out (by kernel_rfl)) (fun _ _ _ h=>h) (Or.inl ⟨by rfl,?_⟩) hHeld ?_ ?_
                   rotate_left
                   ·rintro w' ⟨s0,s1,s2,s3,s4,s5⟩
                    go_simp
                    with_reducible rfl
                   rotate_left
                   ·simp only [Act.put,List.setIfInBounds_toArray,List.set_cons_zero,List.set_cons_succ,i64_w,i32_w]
                    rfl
                   refine one_ (i:=12) (N:=some 115) #[true,true,true,true,true,true,true,true,true,true,true,true,true,false,false] rfl rfl (one_of HT_.out (by kernel_rfl)) (by decide) (fun K hK=>?_)
                   refine goes_ Try.func67 (by kernel_rfl) rfl #[.agg #[.int .i64 t151,.int .i64 t152,.slice Ao88 x157002_5.length co88],.int .i64 x10_4,.int .i64 (wrap64 (a0_0 + x11_5))] (by rfl) rfl rfl (by (try simp only [List.map_toArray,List.map_cons,List.map_nil]);first|done|rfl) ?_
                   with_reducible refine (spec_l03At.calls t151 t152 _ _ x157002_5 x10_4 (wrap64 (a0_0 + x11_5)) t169 _ ?side1 ?side2 A82.out).mono ?_
                   (case side1=>repeat (first|exact (Kd.R_reads' HO_157002.out).2.2|(with_reducible refine Kd.C_alloc ?_ _)|(with_reducible refine Kd.C_drewN ?_ _)|(with_reducible refine Kd.C_drew ?_)))
                   (case side2=>exact (Kd.R_reads' HO_157002.out).2.1)
                   rintro e w89 ⟨rfl,hb⟩
                   refine ⟨_,rfl,?_⟩
                   have n0_:=Aside0.mk (Kd.R_below (by (with_reducible repeat (first|apply Kd.R_alloc|apply Kd.R_drewN));exact HO_157002.out) hb)
                   have n1_:=Aside0.mk (Kd.R_below (by (with_reducible repeat (first|apply Kd.R_alloc|apply Kd.R_drewN));exact HO_169002.out) hb)
                   have n2_:=Aside0.mk (blk_below (g:=gb147) (o:=.cells #[.int .i64 a0_0,.int .i64 a0_1,.slice A0_2 l0_2.length c0_2] 27 (0,0)) (by (with_reducible repeat first|refine blk_drewN ?_ _|refine blk_alloc ?_ _);exact BK147.out) hb)
                   have n3_:=Aside0.mk (blk_below (g:=gb148) (o:=.cells #[.int .i64 0,.int .i64 0,.int .i64 0,.slice none 0 0] 32 (0,0)) (by (with_reducible repeat first|refine blk_drewN ?_ _|refine blk_alloc ?_ _);exact BK148.out) hb)
                   have n4_:=Aside0.mk (blk_below (g:=gb156) (o:=.cells #[.int .i64 t151,.int .i64 t152,.slice Ao88 x157002_5.length co88] 27 (0,0)) (by (with_reducible repeat first|refine blk_drewN ?_ _|refine blk_alloc ?_ _);exact BK156.out) hb)
                   have n5_:=Aside0.mk (blk_below (g:=gb168) (o:=.cells #[.int .i64 t163,.int .i64 t164,u169002] 27 (0,0)) (by (with_reducible repeat first|refine blk_drewN ?_ _|refine blk_alloc ?_ _);exact BK168.out) hb)
                   have n6_:=Aside0.mk (below_step (by repeat (first|(with_reducible first|exact HB.out|apply below_alloc|apply pw_below_drewN|apply below_drew1|refine below_set ?_ GE147.out|refine below_set ?_ GE148.out|refine below_set ?_ GE156.out|refine below_set ?_ GE168.out)|exact HB.out)) hb)
                   clear HO_157002 HO_169002 BK147 BK148 BK156 BK168 HB
                   have HO_157002:=n0_
                   have HO_169002:=n1_
                   have BK147:=n2_
                   have BK148:=n3_
                   have BK156:=n4_
                   have BK168:=n5_
                   have HB:=n6_
                   clear n0_ n1_ n2_ n3_ n4_ n5_ n6_
                   (try clear hb);(try clear hb2);(try clear hk);(try clear hi)
                   have p86 : 0 ≤ ((ji83) : Int):=of_decide_eq_true (by first|(with_reducible assumption)|assumption)
                   have q86 : ((ji83) : Int) < ((x169002_5.length : Int) : Int):=of_decide_eq_true (by first|(with_reducible assumption)|assumption)
                   obtain ⟨go86,co86,eo86,gb86,gl86,cl86,HG86⟩:=Kd.R_form HO_169002.out (by omega)
                   (first|cases eo86|(injection eo86 with ea_ en_ ec_;(first|subst ea_|(injection ea_ with ea_;subst ea_));subst ec_;clear en_))
                   have GB86:=Aside0.mk gb86
                   have GG86:=Aside0.mk HG86
                   clear gb86 gl86 HG86
                   obtain ⟨hx86_0,hf86_0⟩:=Kd.R_celln 0 HO_169002.out ((ji83) : Int) p86 q86
                   replace p86:=eq_true p86
                   replace q86:=eq_true q86
                   have HP90:=Kd.R_putn HO_169002.out ((ji83) : Int) t169
                   rw [← Ny170.out] at HP90
                   have HQ90:=Aside0.mk HP90
                   clear HP90
                   refine hK.out _ _ ⟨(blk_cell BK168.out 0).trans rfl,(blk_cell BK168.out 1).trans rfl,(blk_cell BK168.out 2).trans rfl,(blk_cell BK156.out 0).trans rfl,(blk_cell BK156.out 1).trans rfl,(blk_cell BK156.out 2).trans rfl⟩ (fun hHeld=>?_)
                   clear hK K
                   refine norm_ (a':=?_) ?_ ?_
                   rotate_left
                   ·show Act.put _ (some 115) _ = _
                    simp only [Act.put,List.setIfInBounds_toArray,List.set_cons_zero,List.set_cons_succ,i64_w,i32_w]
                    rfl
                   refine pure_ (i:=13) (N:=some 116) (v:=?_) (a':=?_) #[true,true,true,true,true,true,true,true,true,true,true,true,true,true,false] rfl rfl (any_of HT_.out (by kernel_rfl)) (fun _ _ _ h=>h) (Or.inl ⟨by rfl,?_⟩) ?_ ?_
                   rotate_left
                   ·intro w'
                    go_simp
                    with_reducible rfl
                   rotate_left
                   ·simp only [Act.put,List.setIfInBounds_toArray,List.set_cons_zero,List.set_cons_succ,i64_w,i32_w]
                    rfl
                   refine last_ (i:=14) (N:=none) #[true,true,true,true,true,true,true,true,true,true,true,true,true,true,true] rfl rfl (one_of HT_.out (by kernel_rfl)) (by decide) (fun K hK=>?_)
                   refine skip_ (w1:=?_) (by rfl) rfl ?_ ?_
                   rotate_left
                   ·go_simp
                    rfl
                   refine hK.out _ _ ?_
                   clear hK K
                   refine done_ (done_of HT_.out (by kernel_rfl)) ?_
                   try go_wp2
                   go_roundg k5
                   case measure=>have:=HJ1.out;have:=HK2.out;have:=HK3.out;have:=HK4.out;have:=HK5.out;omega
                   case rel=>exact ⟨(wrap64 (x11_5 + 1)),(x157002_5),(y170),(.slice Ao88 x157002_5.length co88),(.slice (some ⟨go86,0,none⟩) x169002_5.length co86),(by first|rfl|(simp;done)|(simp [*];done)),H',⟨by have:=HJ1.out;have:=HK2.out;have:=HK3.out;have:=HK4.out;have:=HK5.out;omega⟩,⟨by (with_reducible repeat (first|apply Kd.R_alloc|apply Kd.R_drewN));exact Kd.R_mono (Kd.R_far (p:=⟨go86,((ji83) : Int).toNat,none⟩) (Kd.R_mono HO_157002.out (fun k_ hk=>(⟨hk,fun e_=>hk (by rw [e_];rfl)⟩ : _ ∧ k_ ≠ go86))) (fun _ hk=>hk.2) (.int .i64 t169)) (fun _ hk=>hk.1)⟩,⟨by (with_reducible repeat (first|apply Kd.R_alloc|apply Kd.R_drewN));exact HQ90.out⟩,⟨by (with_reducible repeat first|refine blk_drewN ?_ _|refine blk_alloc ?_ _);refine blk_far ?_ (by have h_:=Kd.R_ne HO_169002.out BK147.out (by decide);intro e_;exact h_ (by rw [e_];rfl)) _;(with_reducible repeat first|refine blk_drewN ?_ _|refine blk_alloc ?_ _);exact BK147.out⟩,⟨by (with_reducible repeat first|refine blk_drewN ?_ _|refine blk_alloc ?_ _);refine blk_far ?_ (by have h_:=Kd.R_ne HO_169002.out BK148.out (by decide);intro e_;exact h_ (by rw [e_];rfl)) _;(with_reducible repeat first|refine blk_drewN ?_ _|refine blk_alloc ?_ _);exact BK148.out⟩,⟨by (with_reducible repeat first|refine blk_drewN ?_ _|refine blk_alloc ?_ _);refine blk_far ?_ (by have h_:=Kd.R_ne HO_169002.out BK156.out (by decide);intro e_;exact h_ (by rw [e_];rfl)) _;(with_reducible repeat first|refine blk_drewN ?_ _|refine blk_alloc ?_ _);exact BK156.out⟩,⟨by (with_reducible repeat first|refine blk_drewN ?_ _|refine blk_alloc ?_ _);refine blk_far ?_ (by have h_:=Kd.R_ne HO_169002.out BK168.out (by decide);intro e_;exact h_ (by rw [e_];rfl)) _;(with_reducible repeat first|refine blk_drewN ?_ _|refine blk_alloc ?_ _);exact BK168.out⟩,⟨by repeat (first|(with_reducible first|exact HB.out|apply below_alloc|apply pw_below_drewN|apply below_drew1|refine below_set ?_ GB86.out|refine below_set ?_ GE147.out|refine below_set ?_ GE148.out|refine below_set ?_ GE156.out|refine below_set ?_ GE168.out)|exact HB.out)⟩⟩
                  ·rw [if_neg c85] at H
                   exact absurd H (by simp)
                 ·rw [if_neg c84] at H
                  exact absurd H (by simp)
                ·rw [if_neg c81] at H
                 have c81b0 : decide (x11_5 < a0_0) = false:=decide_eq_false c81
                 clear c81
                 have H':=Aside0.mk H
                 clear H
                 go_wp2
                 go_roundg k5
                 case measure=>have:=HJ1.out;have:=HK2.out;have:=HK3.out;have:=HK4.out;have:=HK5.out;omega
                 case rel=>exact ⟨(wrap64 (x10_4 + 1)),(x157002_5),(x169002_5),(u157002),(u169002),(by first|rfl|(simp;done)|(simp [*];done)),H',⟨by have:=HJ1.out;have:=HK2.out;have:=HK3.out;have:=HK4.out;have:=HK5.out;omega⟩,⟨by (with_reducible repeat (first|apply Kd.R_alloc|apply Kd.R_drewN));exact HO_157002.out⟩,⟨by (with_reducible repeat (first|apply Kd.R_alloc|apply Kd.R_drewN));exact HO_169002.out⟩,⟨by (with_reducible repeat first|refine blk_drewN ?_ _|refine blk_alloc ?_ _);exact BK147.out⟩,⟨by (with_reducible repeat first|refine blk_drewN ?_ _|refine blk_alloc ?_ _);exact BK148.out⟩,⟨by (with_reducible repeat first|refine blk_drewN ?_ _|refine blk_alloc ?_ _);exact BK156.out⟩,⟨by (with_reducible repeat first|refine blk_drewN ?_ _|refine blk_alloc ?_ _);exact BK168.out⟩,⟨by repeat (first|(with_reducible first|exact HB.out|apply below_alloc|apply pw_below_drewN|apply below_drew1|refine below_set ?_ GE147.out|refine below_set ?_ GE148.out|refine below_set ?_ GE156.out|refine below_set ?_ GE168.out)|exact HB.out)⟩⟩
             ·rw [if_neg c80] at H
              have c80b0 : decide (x10_4 < a0_0) = false:=decide_eq_false c80
              clear c80
              simp only [Option.some.injEq,Prod.mk.injEq] at H
              obtain ⟨rfl,rfl,rfl,rfl⟩:=H
              have hnb91:=NB168_147.out
              have hnc91:=NB147_168.out
              have hnb92:=NB168_148.out
              have hnc92:=NB148_168.out
              have hnb93:=NB168_156.out
              have hnc93:=NB156_168.out
              have hcz94_0 : wr.cell? ⟨gb168,0,none⟩ = some (.int .i64 t163):=(blk_cell BK168.out 0).trans rfl
              have hcz94_1 : wr.cell? ⟨gb168,1,none⟩ = some (.int .i64 t164):=(blk_cell BK168.out 1).trans rfl
              have hcz94_2 : wr.cell? ⟨gb168,2,none⟩ = some (u169002):=(blk_cell BK168.out 2).trans rfl
              have hfz94_0:=blk_frozen BK168.out 0
              have hfz94_1:=blk_frozen BK168.out 1
              have hfz94_2:=blk_frozen BK168.out 2
              obtain ⟨Ao95,co95,eo95⟩:=Kd.R_slice HO_169002.out
              subst eo95
              have hnb96:=NB148_147.out
              have hnc96:=NB147_148.out
              have hnb97:=NB148_156.out
              have hnc97:=NB156_148.out
              have hcz98_0 : wr.cell? ⟨gb148,0,none⟩ = some (.int .i64 0):=(blk_cell BK148.out 0).trans rfl
              have hcz98_1 : wr.cell? ⟨gb148,1,none⟩ = some (.int .i64 0):=(blk_cell BK148.out 1).trans rfl
              have hcz98_2 : wr.cell? ⟨gb148,2,none⟩ = some (.int .i64 0):=(blk_cell BK148.out 2).trans rfl
              have hcz98_3 : wr.cell? ⟨gb148,3,none⟩ = some (.slice none 0 0):=(blk_cell BK148.out 3).trans rfl
              have hfz98_0:=blk_frozen BK148.out 0
              have hfz98_1:=blk_frozen BK148.out 1
              have hfz98_2:=blk_frozen BK148.out 2
              have hfz98_3:=blk_frozen BK148.out 3
              go_wp2
              refine bodyPost_ret (results_cell_row rfl _ _ gb148 32 #[.int .i64 0,.int .i64 t163,.int .i64 t164,.slice Ao95 x169002_4.length co95] (0,0) _ rfl (by (with_reducible repeat first|refine blk_drewN ?_ _|refine blk_alloc ?_ _);refine blk_put (cs:=#[.int .i64 0,.int .i64 t163,.int .i64 t164,.slice none 0 0]) ?_ 3 _ rfl;(with_reducible repeat first|refine blk_drewN ?_ _|refine blk_alloc ?_ _);refine blk_put (cs:=#[.int .i64 0,.int .i64 t163,.int .i64 0,.slice none 0 0]) ?_ 2 _ rfl;(with_reducible repeat first|refine blk_drewN ?_ _|refine blk_alloc ?_ _);refine blk_put (cs:=#[.int .i64 0,.int .i64 0,.int .i64 0,.slice none 0 0]) ?_ 1 _ rfl;(with_reducible repeat first|refine blk_drewN ?_ _|refine blk_alloc ?_ _);refine blk_put (cs:=#[.int .i64 0,.int .i64 0,.int .i64 0,.slice none 0 0]) ?_ 0 _ rfl;(with_reducible repeat first|refine blk_drewN ?_ _|refine blk_alloc ?_ _);exact BK148.out) Try.underlying32 rfl (by kernel_rfl)) rfl ?_
              exact ⟨_,by first|rfl|(simp [errW_none,errW_some] <;> rfl)|(simp [*,errW_none,errW_some] <;> rfl),by (with_reducible repeat (first|apply Kd.R_alloc|apply Kd.R_drewN));exact Kd.R_mono (Kd.R_far (p:=⟨gb148,3,none⟩) (Kd.R_far (p:=⟨gb148,2,none⟩) (Kd.R_far (p:=⟨gb148,1,none⟩) (Kd.R_far (p:=⟨gb148,0,none⟩) (Kd.R_types HO_169002.out BK148.out (by decide)) (fun _ hk=>hk.2) (.int .i64 0)) (fun _ hk=>hk.2) (.int .i64 t163)) (fun _ hk=>hk.2) (.int .i64 t164)) (fun _ hk=>hk.2) (.slice Ao95 x169002_4.length co95)) (fun _ hk=>trivial),by repeat (first|(with_reducible first|exact HB.out|apply below_alloc|apply pw_below_drewN|apply below_drew1|refine below_set ?_ GE147.out|refine below_set ?_ GE148.out|refine below_set ?_ GE156.out|refine below_set ?_ GE168.out)|exact HB.out)⟩

end Go.Proofs.Ytffhbpepppodeaa.PFnInverse
