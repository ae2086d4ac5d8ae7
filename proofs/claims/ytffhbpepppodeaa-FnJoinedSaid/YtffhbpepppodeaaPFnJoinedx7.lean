import Derived.Test.YtffhbpepppodeaaPFnJoinedx0
import Derived.Test.YtffhbpepppodeaaPFnJoinedx1
import Derived.Test.YtffhbpepppodeaaPFnJoinedx2
import Derived.Test.YtffhbpepppodeaaPFnJoinedx3
import Derived.Test.YtffhbpepppodeaaPFnJoinedx4
import Derived.Test.YtffhbpepppodeaaPFnJoinedx6
namespace Go.Proofs.Ytffhbpepppodeaa.PFnJoined
open Go.RowKit Go.Proofs.YtffhbpepppodeaaW.PrintWords Go.Proofs.YtffhbpepppodeaaW.PrintLast Go.Proofs.YtffhbpepppodeaaW.PrintMore
attribute [local go_sem] max2_int min2_int max_two min_two max_three min_three max_four min_four   -- for this text's walks alone
set_option linter.unusedVariables false
set_option linter.unusedSimpArgs false

/-! ### laws_FnJoined: function 6 -/
mutual
def laws_FnJoined.j0 : Nat → List Int → List Int → Bool → Option (Bool)
 | 0,_,_,_=>none
 | k + 1,x0,x1,x27=>if x27 = true then (some true) else ((spec_DrawSplitObject.f k x0).bind fun bt260=>((laws_lwAt.f x1 0).bind fun t266=>((laws_lwAt.f x1 1).bind fun t267=>((laws_lwAt.f x1 2).bind fun t269=>((impl_SplitObject.f k (wrap64 (1 + (Int.tmod t266 5))) (Int.tmod t267 4) 0 (wrap64 (1 + (Int.tmod t269 7))) bt260.2.2.2.2).bind fun bt270=>(if bt270.1 = 0 then ((impl_StripeCount.f k (wrap64 (1 + (Int.tmod t266 5))) (Int.tmod t267 4) 0 (wrap64 (1 + (Int.tmod t269 7))) (bt260.2.2.2.2.size : Int)).bind fun t275=>(laws_FnJoined.j1 k x1 bt260.2.2.2.2 (wrap64 (1 + (Int.tmod t269 7))) (bt260.2.2.2.2.size : Int) ((bt270.2.length : Int) != t275) (wrap64 (1 + (Int.tmod t266 5))) (Int.tmod t267 4) 0 bt270.1 bt270.2)) else (laws_FnJoined.j1 k x1 bt260.2.2.2.2 (wrap64 (1 + (Int.tmod t269 7))) (bt260.2.2.2.2.size : Int) true (wrap64 (1 + (Int.tmod t266 5))) (Int.tmod t267 4) 0 bt270.1 bt270.2)))))))
def laws_FnJoined.j1 : Nat → List Int → ByteArray → Int → Int → Bool → Int → Int → Int → Int → List (S58) → Option (Bool)
 | 0,_,_,_,_,_,_,_,_,_,_=>none
 | k + 1,x1,x7,x9,x10,x64,x269000,x269001,x269002,x275000,x275001=>if x64 = true then (some false) else (laws_FnJoined.l0 k x1 x7 x9 x10 (([] : List (S55))) 0 x269000 x269001 x269002 x275000 x275001)
def laws_FnJoined.l0 : Nat → List Int → ByteArray → Int → Int → List (S55) → Int → Int → Int → Int → Int → List (S58) → Option (Bool)
 | 0,_,_,_,_,_,_,_,_,_,_,_=>none
 | k + 1,x1,x7,x9,x10,x12,x13,x269000,x269001,x269002,x275000,x275001=>if x13 < (x275001.length : Int) then (laws_FnJoined.l1 k x1 x7 x9 x10 x12 x13 (([] : List Int)) 0 x269000 x269001 x269002 x275000 x275001) else ((impl_JoinObject.f k x269000 x269001 x269002 x9 x10 x12).bind fun bt279=>(if bt279.1 = 0 then (some (bt279.2.toList == x7.toList)) else (some false)))
def laws_FnJoined.l1 : Nat → List Int → ByteArray → Int → Int → List (S55) → Int → List Int → Int → Int → Int → Int → Int → List (S58) → Option (Bool)
 | 0,_,_,_,_,_,_,_,_,_,_,_,_,_=>none
 | k + 1,x1,x7,x9,x10,x12,x13,x15,x16,x269000,x269001,x269002,x275000,x275001=>if x16 < x269001 then ((laws_lwAt.f x1 (wrap64 ((wrap64 (3 + (wrap64 (x13 * 4)))) + x16))).bind fun t286=>(if (wrap64 (x269000 + x269001)) = 0 then (none) else (if x15.length < 17592186044416 then (laws_FnJoined.l1 k x1 x7 x9 x10 x12 x13 (x15 ++ [Int.tmod t286 (wrap64 (x269000 + x269001))]) (wrap64 (x16 + 1)) x269000 x269001 x269002 x275000 x275001) else (none)))) else (if 0 ≤ x13 then (if x13 < (x275001.length : Int) then (if (((rd_T58 x275001 x13).f0).length : Int) = (wrap64 (x269000 + x269001)) then (laws_FnJoined.l2 k x1 x7 x9 x10 x12 x13 x15 0 x269000 x269001 x269002 x275000 x275001 ([] : List (S61))) else (some false)) else (none)) else (none))
def laws_FnJoined.l2 : Nat → List Int → ByteArray → Int → Int → List (S55) → Int → List Int → Int → Int → Int → Int → Int → List (S58) → List (S61) → Option (Bool)
 | 0,_,_,_,_,_,_,_,_,_,_,_,_,_,_=>none
 | k + 1,x1,x7,x9,x10,x12,x13,x15,x17,x269000,x269001,x269002,x275000,x275001,x283000=>if 0 ≤ x13 then (if x13 < (x275001.length : Int) then (if x17 < (((rd_T58 x275001 x13).f0).length : Int) then ((laws_lwHas.f k x15 x17).bind fun t292=>(if t292 = true then (if x283000.length < 5864062014805 then (laws_FnJoined.l2 k x1 x7 x9 x10 x12 x13 x15 (wrap64 (x17 + 1)) x269000 x269001 x269002 x275000 x275001 (x283000 ++ [(⟨!t292,(⟨#[]⟩ : ByteArray)⟩ : S61)])) else (none)) else (if 0 ≤ x17 then (if x283000.length < 5864062014805 then (laws_FnJoined.l2 k x1 x7 x9 x10 x12 x13 x15 (wrap64 (x17 + 1)) x269000 x269001 x269002 x275000 x275001 (x283000 ++ [(⟨!t292,rdOf ByteArray.empty ((rd_T58 x275001 x13).f0) x17⟩ : S61)])) else (none)) else (none)))) else (if x12.length < 5864062014805 then (laws_FnJoined.l0 k x1 x7 x9 x10 (x12 ++ [(⟨x283000⟩ : S55)]) (wrap64 (x13 + 1)) x269000 x269001 x269002 x275000 x275001) else (none))) else (none)) else (none)
end
def laws_FnJoined.f (k : Nat) (l0 : List Int) (l1 : List Int) : Option (Bool):=if (l0.length : Int) > 1048576 then (laws_FnJoined.j0 k l0 l1 true) else (laws_FnJoined.j0 k l0 l1 (decide ((l1.length : Int) > 1048576)))
theorem laws_FnJoined.mono_l : ∀ k,(∀ y0 y1 y2,LeO (laws_FnJoined.j0 k y0 y1 y2) (laws_FnJoined.j0 (k + 1) y0 y1 y2)) ∧ (∀ y0 y1 y2 y3 y4 y5 y6 y7 y8 y9,LeO (laws_FnJoined.j1 k y0 y1 y2 y3 y4 y5 y6 y7 y8 y9) (laws_FnJoined.j1 (k + 1) y0 y1 y2 y3 y4 y5 y6 y7 y8 y9)) ∧ (∀ y0 y1 y2 y3 y4 y5 y6 y7 y8 y9 y10,LeO (laws_FnJoined.l0 k y0 y1 y2 y3 y4 y5 y6 y7 y8 y9 y10) (laws_FnJoined.l0 (k + 1) y0 y1 y2 y3 y4 y5 y6 y7 y8 y9 y10)) ∧ (∀ y0 y1 y2 y3 y4 y5 y6 y7 y8 y9 y10 y11 y12,LeO (laws_FnJoined.l1 k y0 y1 y2 y3 y4 y5 y6 y7 y8 y9 y10 y11 y12) (laws_FnJoined.l1 (k + 1) y0 y1 y2 y3 y4 y5 y6 y7 y8 y9 y10 y11 y12)) ∧ (∀ y0 y1 y2 y3 y4 y5 y6 y7 y8 y9 y10 y11 y12 y13,LeO (laws_FnJoined.l2 k y0 y1 y2 y3 y4 y5 y6 y7 y8 y9 y10 y11 y12 y13) (laws_FnJoined.l2 (k + 1) y0 y1 y2 y3 y4 y5 y6 y7 y8 y9 y10 y11 y12 y13))
 | 0=>⟨fun _ _ _ r h=>by simp [laws_FnJoined.j0] at h,fun _ _ _ _ _ _ _ _ _ _ r h=>by simp [laws_FnJoined.j1] at h,fun _ _ _ _ _ _ _ _ _ _ _ r h=>by simp [laws_FnJoined.l0] at h,fun _ _ _ _ _ _ _ _ _ _ _ _ _ r h=>by simp [laws_FnJoined.l1] at h,fun _ _ _ _ _ _ _ _ _ _ _ _ _ _ r h=>by simp [laws_FnJoined.l2] at h⟩
 | k + 1=>by
  obtain ⟨ih0,ih1,ih2,ih3,ih4⟩:=laws_FnJoined.mono_l k
  refine ⟨?_,?_,?_,?_,?_⟩
  ·intro y0 y1 y2
   unfold laws_FnJoined.j0
   repeat' first
   | (with_reducible exact ih0 _ _ _)
   | (with_reducible exact ih1 _ _ _ _ _ _ _ _ _ _)
   | (with_reducible exact ih2 _ _ _ _ _ _ _ _ _ _ _)
   | (with_reducible exact ih3 _ _ _ _ _ _ _ _ _ _ _ _ _)
   | (with_reducible exact ih4 _ _ _ _ _ _ _ _ _ _ _ _ _ _)
   | (with_reducible exact impl_JoinObject.mono _ _ _ _ _ _ _)
   | (with_reducible exact impl_SplitObject.mono _ _ _ _ _ _)
   | (with_reducible exact impl_StripeCount.mono _ _ _ _ _ _)
   | (with_reducible exact laws_lwHas.mono _ _ _)
   | (with_reducible exact spec_DrawSplitObject.mono _ _)
   | (with_reducible exact LeO.refl _)
   | (with_reducible exact LeO.none _)
   | (with_reducible refine LeO.ite ?_ ?_)
   | (with_reducible refine LeO.bind ?_ (fun _=>?_))
   | exact ih0 _ _ _
   | exact ih1 _ _ _ _ _ _ _ _ _ _
   | exact ih2 _ _ _ _ _ _ _ _ _ _ _
   | exact ih3 _ _ _ _ _ _ _ _ _ _ _ _ _
   | exact ih4 _ _ _ _ _ _ _ _ _ _ _ _ _ _
   | exact impl_JoinObject.mono _ _ _ _ _ _ _
   | exact impl_SplitObject.mono _ _ _ _ _ _
   | exact impl_StripeCount.mono _ _ _ _ _ _
   | exact laws_lwHas.mono _ _ _
   | exact spec_DrawSplitObject.mono _ _
   | exact LeO.none _
   | refine LeO.ite ?_ ?_
   | refine LeO.bind ?_ (fun _=>?_)
  ·intro y0 y1 y2 y3 y4 y5 y6 y7 y8 y9
   unfold laws_FnJoined.j1
   repeat' first
   | (with_reducible exact ih0 _ _ _)
   | (with_reducible exact ih1 _ _ _ _ _ _ _ _ _ _)
   | (with_reducible exact ih2 _ _ _ _ _ _ _ _ _ _ _)
   | (with_reducible exact ih3 _ _ _ _ _ _ _ _ _ _ _ _ _)
   | (with_reducible exact ih4 _ _ _ _ _ _ _ _ _ _ _ _ _ _)
   | (with_reducible exact impl_JoinObject.mono _ _ _ _ _ _ _)
   | (with_reducible exact impl_SplitObject.mono _ _ _ _ _ _)
   | (with_reducible exact impl_StripeCount.mono _ _ _ _ _ _)
   | (with_reducible exact laws_lwHas.mono _ _ _)
   | (with_reducible exact spec_DrawSplitObject.mono _ _)
   | (with_reducible exact LeO.refl _)
   | (with_reducible exact LeO.none _)
   | (with_reducible refine LeO.ite ?_ ?_)
   | (with_reducible refine LeO.bind ?_ (fun _=>?_))
   | exact ih0 _ _ _
   | exact ih1 _ _ _ _ _ _ _ _ _ _
   | exact ih2 _ _ _ _ _ _ _ _ _ _ _
   | exact ih3 _ _ _ _ _ _ _ _ _ _ _ _ _
   | exact ih4 _ _ _ _ _ _ _ _ _ _ _ _ _ _
   | exact impl_JoinObject.mono _ _ _ _ _ _ _
   | exact impl_SplitObject.mono _ _ _ _ _ _
   | exact impl_StripeCount.mono _ _ _ _ _ _
   | exact laws_lwHas.mono _ _ _
   | exact spec_DrawSplitObject.mono _ _
   | exact LeO.none _
   | refine LeO.ite ?_ ?_
   | refine LeO.bind ?_ (fun _=>?_)
  ·intro y0 y1 y2 y3 y4 y5 y6 y7 y8 y9 y10
   unfold laws_FnJoined.l0
   repeat' first
   | (with_reducible exact ih0 _ _ _)
   | (with_reducible exact ih1 _ _ _ _ _ _ _ _ _ _)
   | (with_reducible exact ih2 _ _ _ _ _ _ _ _ _ _ _)
   | (with_reducible exact ih3 _ _ _ _ _ _ _ _ _ _ _ _ _)
   | (with_reducible exact ih4 _ _ _ _ _ _ _ _ _ _ _ _ _ _)
   | (with_reducible exact impl_JoinObject.mono _ _ _ _ _ _ _)
   | (with_reducible exact impl_SplitObject.mono _ _ _ _ _ _)
   | (with_reducible exact impl_StripeCount.mono _ _ _ _ _ _)
   | (with_reducible exact laws_lwHas.mono _ _ _)
   | (with_reducible exact spec_DrawSplitObject.mono _ _)
   | (with_reducible exact LeO.refl _)
   | (with_reducible exact LeO.none _)
   | (with_reducible refine LeO.ite ?_ ?_)
   | (with_reducible refine LeO.bind ?_ (fun _=>?_))
   | exact ih0 _ _ _
   | exact ih1 _ _ _ _ _ _ _ _ _ _
   | exact ih2 _ _ _ _ _ _ _ _ _ _ _
   | exact ih3 _ _ _ _ _ _ _ _ _ _ _ _ _
   | exact ih4 _ _ _ _ _ _ _ _ _ _ _ _ _ _
   | exact impl_JoinObject.mono _ _ _ _ _ _ _
   | exact impl_SplitObject.mono _ _ _ _ _ _
   | exact impl_StripeCount.mono _ _ _ _ _ _
   | exact laws_lwHas.mono _ _ _
   | exact spec_DrawSplitObject.mono _ _
   | exact LeO.none _
   | refine LeO.ite ?_ ?_
   | refine LeO.bind ?_ (fun _=>?_)
  ·intro y0 y1 y2 y3 y4 y5 y6 y7 y8 y9 y10 y11 y12
   unfold laws_FnJoined.l1
   repeat' first
   | (with_reducible exact ih0 _ _ _)
   | (with_reducible exact ih1 _ _ _ _ _ _ _ _ _ _)
   | (with_reducible exact ih2 _ _ _ _ _ _ _ _ _ _ _)
   | (with_reducible exact ih3 _ _ _ _ _ _ _ _ _ _ _ _ _)
   | (with_reducible exact ih4 _ _ _ _ _ _ _ _ _ _ _ _ _ _)
   | (with_reducible exact impl_JoinObject.mono _ _ _ _ _ _ _)
   | (with_reducible exact impl_SplitObject.mono _ _ _ _ _ _)
   | (with_reducible exact impl_StripeCount.mono _ _ _ _ _ _)
   | (with_reducible exact laws_lwHas.mono _ _ _)
   | (with_reducible exact spec_DrawSplitObject.mono _ _)
   | (with_reducible exact LeO.refl _)
   | (with_reducible exact LeO.none _)
   | (with_reducible refine LeO.ite ?_ ?_)
   | (with_reducible refine LeO.bind ?_ (fun _=>?_))
   | exact ih0 _ _ _
   | exact ih1 _ _ _ _ _ _ _ _ _ _
   | exact ih2 _ _ _ _ _ _ _ _ _ _ _
   | exact ih3 _ _ _ _ _ _ _ _ _ _ _ _ _
   | exact ih4 _ _ _ _ _ _ _ _ _ _ _ _ _ _
   | exact impl_JoinObject.mono _ _ _ _ _ _ _
   | exact impl_SplitObject.mono _ _ _ _ _ _
   | exact impl_StripeCount.mono _ _ _ _ _ _
   | exact laws_lwHas.mono _ _ _
   | exact spec_DrawSplitObject.mono _ _
   | exact LeO.none _
   | refine LeO.ite ?_ ?_
   | refine LeO.bind ?_ (fun _=>?_)
  ·intro y0 y1 y2 y3 y4 y5 y6 y7 y8 y9 y10 y11 y12 y13
   unfold laws_FnJoined.l2
   repeat' first
   | (with_reducible exact ih0 _ _ _)
   | (with_reducible exact ih1 _ _ _ _ _ _ _ _ _ _)
   | (with_reducible exact ih2 _ _ _ _ _ _ _ _ _ _ _)
   | (with_reducible exact ih3 _ _ _ _ _ _ _ _ _ _ _ _ _)
   | (with_reducible exact ih4 _ _ _ _ _ _ _ _ _ _ _ _ _ _)
   | (with_reducible exact impl_JoinObject.mono _ _ _ _ _ _ _)
   | (with_reducible exact impl_SplitObject.mono _ _ _ _ _ _)
   | (with_reducible exact impl_StripeCount.mono _ _ _ _ _ _)
   | (with_reducible exact laws_lwHas.mono _ _ _)
   | (with_reducible exact spec_DrawSplitObject.mono _ _)
   | (with_reducible exact LeO.refl _)
   | (with_reducible exact LeO.none _)
   | (with_reducible refine LeO.ite ?_ ?_)
   | (with_reducible refine LeO.bind ?_ (fun _=>?_))
   | exact ih0 _ _ _
   | exact ih1 _ _ _ _ _ _ _ _ _ _
   | exact ih2 _ _ _ _ _ _ _ _ _ _ _
   | exact ih3 _ _ _ _ _ _ _ _ _ _ _ _ _
   | exact ih4 _ _ _ _ _ _ _ _ _ _ _ _ _ _
   | exact impl_JoinObject.mono _ _ _ _ _ _ _
   | exact impl_SplitObject.mono _ _ _ _ _ _
   | exact impl_StripeCount.mono _ _ _ _ _ _
   | exact laws_lwHas.mono _ _ _
   | exact spec_DrawSplitObject.mono _ _
   | exact LeO.none _
   | refine LeO.ite ?_ ?_
   | refine LeO.bind ?_ (fun _=>?_)
theorem laws_FnJoined.mono : ∀ a0 a1 k,LeO (laws_FnJoined.f k a0 a1) (laws_FnJoined.f (k + 1) a0 a1):=by
 intro a0 a1 k
 obtain ⟨ih0,ih1,ih2,ih3,ih4⟩:=laws_FnJoined.mono_l k
 unfold laws_FnJoined.f
 repeat' first
   | (with_reducible exact ih0 _ _ _)
   | (with_reducible exact ih1 _ _ _ _ _ _ _ _ _ _)
   | (with_reducible exact ih2 _ _ _ _ _ _ _ _ _ _ _)
   | (with_reducible exact ih3 _ _ _ _ _ _ _ _ _ _ _ _ _)
   | (with_reducible exact ih4 _ _ _ _ _ _ _ _ _ _ _ _ _ _)
   | (with_reducible exact impl_JoinObject.mono _ _ _ _ _ _ _)
   | (with_reducible exact impl_SplitObject.mono _ _ _ _ _ _)
   | (with_reducible exact impl_StripeCount.mono _ _ _ _ _ _)
   | (with_reducible exact laws_lwHas.mono _ _ _)
   | (with_reducible exact spec_DrawSplitObject.mono _ _)
   | (with_reducible exact LeO.refl _)
   | (with_reducible exact LeO.none _)
   | (with_reducible refine LeO.ite ?_ ?_)
   | (with_reducible refine LeO.bind ?_ (fun _=>?_))
   | exact ih0 _ _ _
   | exact ih1 _ _ _ _ _ _ _ _ _ _
   | exact ih2 _ _ _ _ _ _ _ _ _ _ _
   | exact ih3 _ _ _ _ _ _ _ _ _ _ _ _ _
   | exact ih4 _ _ _ _ _ _ _ _ _ _ _ _ _ _
   | exact impl_JoinObject.mono _ _ _ _ _ _ _
   | exact impl_SplitObject.mono _ _ _ _ _ _
   | exact impl_StripeCount.mono _ _ _ _ _ _
   | exact laws_lwHas.mono _ _ _
   | exact spec_DrawSplitObject.mono _ _
   | exact LeO.none _
   | refine LeO.ite ?_ ?_
   | refine LeO.bind ?_ (fun _=>?_)
def laws_FnJoined.T8 : Bool × List (List Nat × List Nat):=(true,[([],[]),([0],[0]),([1],[1]),([2],[2]),([3],[3]),([4,3],[3,4]),([5,3],[3,5]),([3],[3]),([3],[3]),([3],[3]),([7,8,9,3,3],[3,7,8,9]),([6,10,3],[3,6,10]),([3,11],[3,11])])
def laws_FnJoined.B8 : List Nat:=[0,1,3,7,15,31,63,15,15,15,911,2047,4095]
theorem laws_FnJoined.tab8 : rtab .any (opsOf Try.f6 8) = laws_FnJoined.T8:=by kernel_rfl
theorem laws_FnJoined.bits8 : waitsOk laws_FnJoined.T8.2 laws_FnJoined.B8 = true:=by kernel_rfl
def laws_FnJoined.T19 : Bool × List (List Nat × List Nat):=(true,[([],[]),([],[]),([],[]),([2],[2]),([3],[3]),([],[]),([4,5],[4,5]),([1,6],[1,6]),([],[]),([8],[8]),([],[]),([10],[10]),([9,11],[9,11]),([7,12],[7,12]),([13],[13]),([0,14,7],[0,14]),([15,15,0,1,2,3,4,5,6,7,8,9,10,11,12,13,14,15],[0,15])])
def laws_FnJoined.B19 : List Nat:=[0,0,0,4,12,0,60,126,0,256,0,1024,3840,8190,16382,32767,65535]
theorem laws_FnJoined.tab19 : rtab .any (opsOf Try.f6 19) = laws_FnJoined.T19:=by kernel_rfl
theorem laws_FnJoined.bits19 : waitsOk laws_FnJoined.T19.2 laws_FnJoined.B19 = true:=by kernel_rfl
def laws_FnJoined.T20 : Bool × List (List Nat × List Nat):=(true,[([],[]),([0],[0]),([],[]),([1,2],[1,2]),([3],[3]),([4],[4]),([5],[5]),([],[]),([7],[7]),([],[]),([9],[9]),([8,10],[8,10]),([6,11],[6,11])])
def laws_FnJoined.B20 : List Nat:=[0,1,0,7,15,31,63,0,128,0,512,1920,4095]
theorem laws_FnJoined.tab20 : rtab .any (opsOf Try.f6 20) = laws_FnJoined.T20:=by kernel_rfl
theorem laws_FnJoined.bits20 : waitsOk laws_FnJoined.T20.2 laws_FnJoined.B20 = true:=by kernel_rfl
set_option maxHeartbeats 8000000 in
set_option maxRecDepth 100000 in
theorem laws_FnJoined.calls (k : Nat) (A0 : Option Addr) (c0 : Nat) (l0 : List Int) (A1 : Option Addr) (c1 : Nat) (l1 : List Int) (r : Bool) (w : World) (hr0 : Kd.C (Kd.int .u8) w A0 l0.length l0) (hc0 : l0.length ≤ c0) (hr1 : Kd.C (Kd.int .u8) w A1 l1.length l1) (hc1 : l1.length ≤ c1) (h : laws_FnJoined.f k l0 l1 = some r) :
  Calls Try.prog 6 #[.slice A0 l0.length c0,.slice A1 l1.length c1] w fun e w'=>e = .returned (.bool r) ∧ Below w.heap.size w w':=by
 have hu43:=Try.underlying43
 have hu49:=Try.underlying49
 have hu55:=Try.underlying55
 have hu61:=Try.underlying61
 have hu63:=Try.underlying63
 have HR0:=Aside0.mk hr0
 have HC0:=Aside0.mk hc0
 clear hr0 hc0
 have HR1:=Aside0.mk hr1
 have HC1:=Aside0.mk hc1
 clear hr1 hc1
 have HB:=Aside0.mk (Below.refl w.heap.size w)
 have H : (if (l0.length : Int) > 1048576 then (laws_FnJoined.j0 k l0 l1 true) else (laws_FnJoined.j0 k l0 l1 (decide ((l1.length : Int) > 1048576)))) = some r:=h
 clear h
 have HC3:=Aside0.mk H
 clear H
 go_enter Try.func6,Try.ntmps6
 go_upto_region 1 with (fail)
 go_cut [27] (fun v27 wc=>∃ (kq : Nat) (x27_2 : Bool),v27 = .bool x27_2 ∧ Aside0 (laws_FnJoined.j0 kq l0 l1 x27_2 = some r) ∧ Aside0 (kq ≤ k) ∧ Aside0 (Below w.heap.size w wc))
 case first=>
  have H:=HC3.out
  clear HC3
  by_cases c4 : (l0.length : Int) > 1048576
  ·rw [if_pos c4] at H
   have c4b0 : decide (1048576 < (l0.length : Int)) = true:=decide_eq_true c4
   have c4b1 : decide (1048576 < l0.length) = true:=decide_eq_true (by omega)
   clear c4
   (first|rw [c4b0]|(simp only [i64_w,i32_w];rw [c4b0])|skip)
   have H':=Aside0.mk H
   clear H
   go_wp2
   go_meet
   case rel=>exact ⟨_,(true),(by first|rfl|(simp;done)|(simp [*];done)),H',⟨by first|omega|exact Nat.le_refl _⟩,⟨by repeat (first|(with_reducible first|exact HB.out|apply below_alloc|apply pw_below_drewN|apply below_drew1)|exact HB.out)⟩⟩
  ·rw [if_neg c4] at H
   have c4b0 : decide (1048576 < (l0.length : Int)) = false:=decide_eq_false c4
   have c4b1 : decide (1048576 < l0.length) = false:=decide_eq_false (by omega)
   clear c4
   (first|rw [c4b0]|(simp only [i64_w,i32_w];rw [c4b0])|skip)
   have H':=Aside0.mk H
   clear H
   go_wp2
   go_meet
   case rel=>exact ⟨_,(decide ((l1.length : Int) > 1048576)),(by first|rfl|(simp;done)|(simp [*];done)),H',⟨by first|omega|exact Nat.le_refl _⟩,⟨by repeat (first|(with_reducible first|exact HB.out|apply below_alloc|apply pw_below_drewN|apply below_drew1)|exact HB.out)⟩⟩
 case rest=>
  clear HC3
  (try clear c1);(try clear p2);(try clear c4);(try clear c4b0);(try clear c4b1)
  obtain ⟨kq,x27_2,rfl,HA,HJ2,HB⟩:=hcut
  cases kq with
  | zero=>exact absurd HA.out (by simp [laws_FnJoined.j0])
  | succ kj2=>
   have H:=HA.out
   clear HA
   simp only [laws_FnJoined.j0] at H
   by_cases c5 : x27_2 = true
   ·subst c5
    have H1 : (some true) = some r:=by rw [if_pos rfl] at H;exact H
    clear H
    have H:=H1
    clear H1
    obtain rfl:=Option.some.inj H
    go_wp2
    go_ret
    exact ⟨by first|rfl|(simp [errW_none,errW_some] <;> rfl)|(simp [*,errW_none,errW_some] <;> rfl),by repeat (first|(with_reducible first|exact HB.out|apply below_alloc|apply pw_below_drewN|apply below_drew1)|exact HB.out)⟩
   ·replace c5:=Bool.eq_false_iff.mpr c5
    subst c5
    have H1 : ((spec_DrawSplitObject.f kj2 l0).bind fun bt260=>((laws_lwAt.f l1 0).bind fun t266=>((laws_lwAt.f l1 1).bind fun t267=>((laws_lwAt.f l1 2).bind fun t269=>((impl_SplitObject.f kj2 (wrap64 (1 + (Int.tmod t266 5))) (Int.tmod t267 4) 0 (wrap64 (1 + (Int.tmod t269 7))) bt260.2.2.2.2).bind fun bt270=>(if bt270.1 = 0 then ((impl_StripeCount.f kj2 (wrap64 (1 + (Int.tmod t266 5))) (Int.tmod t267 4) 0 (wrap64 (1 + (Int.tmod t269 7))) (bt260.2.2.2.2.size : Int)).bind fun t275=>(laws_FnJoined.j1 kj2 l1 bt260.2.2.2.2 (wrap64 (1 + (Int.tmod t269 7))) (bt260.2.2.2.2.size : Int) ((bt270.2.length : Int) != t275) (wrap64 (1 + (Int.tmod t266 5))) (Int.tmod t267 4) 0 bt270.1 bt270.2)) else (laws_FnJoined.j1 kj2 l1 bt260.2.2.2.2 (wrap64 (1 + (Int.tmod t269 7))) (bt260.2.2.2.2.size : Int) true (wrap64 (1 + (Int.tmod t266 5))) (Int.tmod t267 4) 0 bt270.1 bt270.2))))))) = some r:=by rw [if_neg (show ¬ (false = true) by decide)] at H;exact H
    clear H
    have H:=H1
    clear H1
    replace H:=Option.bind_eq_some_iff.mp H
    obtain ⟨⟨t260,t261,t262,t263,t264⟩,A60,H⟩:=H
    replace H : ((laws_lwAt.f l1 0).bind fun t266=>((laws_lwAt.f l1 1).bind fun t267=>((laws_lwAt.f l1 2).bind fun t269=>((impl_SplitObject.f kj2 (wrap64 (1 + (Int.tmod t266 5))) (Int.tmod t267 4) 0 (wrap64 (1 + (Int.tmod t269 7))) t264).bind fun bt270=>(if bt270.1 = 0 then ((impl_StripeCount.f kj2 (wrap64 (1 + (Int.tmod t266 5))) (Int.tmod t267 4) 0 (wrap64 (1 + (Int.tmod t269 7))) (t264.size : Int)).bind fun t275=>(laws_FnJoined.j1 kj2 l1 t264 (wrap64 (1 + (Int.tmod t269 7))) (t264.size : Int) ((bt270.2.length : Int) != t275) (wrap64 (1 + (Int.tmod t266 5))) (Int.tmod t267 4) 0 bt270.1 bt270.2)) else (laws_FnJoined.j1 kj2 l1 t264 (wrap64 (1 + (Int.tmod t269 7))) (t264.size : Int) true (wrap64 (1 + (Int.tmod t266 5))) (Int.tmod t267 4) 0 bt270.1 bt270.2)))))) = some r:=H
    have A6:=Aside0.mk A60
    clear A60
    replace H:=Option.bind_eq_some_iff.mp H
    obtain ⟨t266,A70,H⟩:=H
    replace H : ((laws_lwAt.f l1 1).bind fun t267=>((laws_lwAt.f l1 2).bind fun t269=>((impl_SplitObject.f kj2 (wrap64 (1 + (Int.tmod t266 5))) (Int.tmod t267 4) 0 (wrap64 (1 + (Int.tmod t269 7))) t264).bind fun bt270=>(if bt270.1 = 0 then ((impl_StripeCount.f kj2 (wrap64 (1 + (Int.tmod t266 5))) (Int.tmod t267 4) 0 (wrap64 (1 + (Int.tmod t269 7))) (t264.size : Int)).bind fun t275=>(laws_FnJoined.j1 kj2 l1 t264 (wrap64 (1 + (Int.tmod t269 7))) (t264.size : Int) ((bt270.2.length : Int) != t275) (wrap64 (1 + (Int.tmod t266 5))) (Int.tmod t267 4) 0 bt270.1 bt270.2)) else (laws_FnJoined.j1 kj2 l1 t264 (wrap64 (1 + (Int.tmod t269 7))) (t264.size : Int) true (wrap64 (1 + (Int.tmod t266 5))) (Int.tmod t267 4) 0 bt270.1 bt270.2))))) = some r:=H
    have A7:=Aside0.mk A70
    clear A70
    replace H:=Option.bind_eq_some_iff.mp H
    obtain ⟨t267,A80,H⟩:=H
    replace H : ((laws_lwAt.f l1 2).bind fun t269=>((impl_SplitObject.f kj2 (wrap64 (1 + (Int.tmod t266 5))) (Int.tmod t267 4) 0 (wrap64 (1 + (Int.tmod t269 7))) t264).bind fun bt270=>(if bt270.1 = 0 then ((impl_StripeCount.f kj2 (wrap64 (1 + (Int.tmod t266 5))) (Int.tmod t267 4) 0 (wrap64 (1 + (Int.tmod t269 7))) (t264.size : Int)).bind fun t275=>(laws_FnJoined.j1 kj2 l1 t264 (wrap64 (1 + (Int.tmod t269 7))) (t264.size : Int) ((bt270.2.length : Int) != t275) (wrap64 (1 + (Int.tmod t266 5))) (Int.tmod t267 4) 0 bt270.1 bt270.2)) else (laws_FnJoined.j1 kj2 l1 t264 (wrap64 (1 + (Int.tmod t269 7))) (t264.size : Int) true (wrap64 (1 + (Int.tmod t266 5))) (Int.tmod t267 4) 0 bt270.1 bt270.2)))) = some r:=H
    have A8:=Aside0.mk A80
    clear A80
    replace H:=Option.bind_eq_some_iff.mp H
    obtain ⟨t269,A90,H⟩:=H
    replace H : ((impl_SplitObject.f kj2 (wrap64 (1 + (Int.tmod t266 5))) (Int.tmod t267 4) 0 (wrap64 (1 + (Int.tmod t269 7))) t264).bind fun bt270=>(if bt270.1 = 0 then ((impl_StripeCount.f kj2 (wrap64 (1 + (Int.tmod t266 5))) (Int.tmod t267 4) 0 (wrap64 (1 + (Int.tmod t269 7))) (t264.size : Int)).bind fun t275=>(laws_FnJoined.j1 kj2 l1 t264 (wrap64 (1 + (Int.tmod t269 7))) (t264.size : Int) ((bt270.2.length : Int) != t275) (wrap64 (1 + (Int.tmod t266 5))) (Int.tmod t267 4) 0 bt270.1 bt270.2)) else (laws_FnJoined.j1 kj2 l1 t264 (wrap64 (1 + (Int.tmod t269 7))) (t264.size : Int) true (wrap64 (1 + (Int.tmod t266 5))) (Int.tmod t267 4) 0 bt270.1 bt270.2))) = some r:=H
    have A9:=Aside0.mk A90
    clear A90
    replace H:=Option.bind_eq_some_iff.mp H
    obtain ⟨⟨t270,t271⟩,A100,H⟩:=H
    replace H : (if t270 = 0 then ((impl_StripeCount.f kj2 (wrap64 (1 + (Int.tmod t266 5))) (Int.tmod t267 4) 0 (wrap64 (1 + (Int.tmod t269 7))) (t264.size : Int)).bind fun t275=>(laws_FnJoined.j1 kj2 l1 t264 (wrap64 (1 + (Int.tmod t269 7))) (t264.size : Int) ((t271.length : Int) != t275) (wrap64 (1 + (Int.tmod t266 5))) (Int.tmod t267 4) 0 t270 t271)) else (laws_FnJoined.j1 kj2 l1 t264 (wrap64 (1 + (Int.tmod t269 7))) (t264.size : Int) true (wrap64 (1 + (Int.tmod t266 5))) (Int.tmod t267 4) 0 t270 t271)) = some r:=H
    have A10:=Aside0.mk A100
    clear A100
    have HC11:=Aside0.mk H
    clear H
    go_upto_region 8 with (first|((with_reducible refine gate_callee (f:=28) rfl ?_);refine goesL_ (some 30) rfl rfl Try.func28 (by kernel_rfl) rfl #[.slice A0 l0.length c0] rfl (by (try simp only [List.map_toArray,List.map_cons,List.map_nil]);first|done|rfl) ?_;(with_reducible refine (spec_DrawSplitObject.calls kj2 _ _ l0 t260 t261 t262 t263 t264 _ ?side1 ?side2 A6.out).mono ?_);(case side1=>repeat (first|exact (Kd.C_below HR0.out HB.out)|(with_reducible refine Kd.C_alloc ?_ _)|(with_reducible refine Kd.C_drewN ?_ _)|(with_reducible refine Kd.C_drew ?_)));(case side2=>exact HC0.out);rintro e w12 ⟨rfl,hb⟩;refine ⟨_,rfl,?_⟩;have n0_:=Aside0.mk (below_step (by repeat (first|(with_reducible first|exact HB.out|apply below_alloc|apply pw_below_drewN|apply below_drew1)|exact HB.out)) hb);clear HB;have HB:=n0_;clear n0_;(try clear hb);(try clear hb2);(try clear hk);(try clear hi))|((with_reducible refine gate_dst (N:=5) rfl ?_);(try (refine gate_guard (by rfl) ?_;dsimp only));refine box_event ?hg (N:=5) ?hd (cs:=#[.int .i64 0,.int .i64 0,.int .i64 0]) (t:=43) ?hr ?_;(case hd=>rfl);(case hg=>rfl);(case hr=>first|(go_simp;done)|(go_simp;rfl));intro gb265 hg w13 hbox hb;have n0_:=Aside0.mk (below_step (by repeat (first|(with_reducible first|exact HB.out|apply below_alloc|apply pw_below_drewN|apply below_drew1)|exact HB.out)) hb);have n1_:=Aside0.mk (hbox);have n2_:=Aside0.mk ((by rw [hg];exact (below_size (by repeat (first|(with_reducible first|exact HB.out|apply below_alloc|apply pw_below_drewN|apply below_drew1)|exact HB.out))) : w.heap.size ≤ gb265));have n3_:=Aside0.mk ((by rw [hg];exact (below_size (by repeat (first|(with_reducible first|exact HB.out|apply below_alloc|apply pw_below_drewN|apply below_drew1)|exact HB.out))) : w.heap.size ≤ gb265));clear HB;have HB:=n0_;have BK265:=n1_;have GW265:=n2_;have GE265:=n3_;clear n0_ n1_ n2_ n3_ hb hbox hg;have hcz14_0 : w13.cell? ⟨gb265,0,none⟩ = some (.int .i64 0):=(blk_cell BK265.out 0).trans rfl;have hcz14_1 : w13.cell? ⟨gb265,1,none⟩ = some (.int .i64 0):=(blk_cell BK265.out 1).trans rfl;have hcz14_2 : w13.cell? ⟨gb265,2,none⟩ = some (.int .i64 0):=(blk_cell BK265.out 2).trans rfl;have hfz14_0:=blk_frozen BK265.out 0;have hfz14_1:=blk_frozen BK265.out 1;have hfz14_2:=blk_frozen BK265.out 2)|((with_reducible refine gate_callee (f:=29) rfl ?_);refine goesL_ (some 35) rfl rfl Try.func29 (by kernel_rfl) rfl #[.slice A1 l1.length c1,.int .i64 0] rfl (by (try simp only [List.map_toArray,List.map_cons,List.map_nil]);first|done|rfl) ?_;(with_reducible refine (laws_lwAt.calls _ _ l1 0 t266 _ ?side1 ?side2 A7.out).mono ?_);(case side1=>exact Kd.C_below HR1.out (by repeat (first|(with_reducible first|exact HB.out|apply below_alloc|apply pw_below_drewN|apply below_drew1|refine below_set ?_ GE265.out)|exact HB.out)));(case side2=>exact HC1.out);rintro e w' ⟨rfl,⟨nd,rfl⟩⟩;refine ⟨_,rfl,?_⟩)|((with_reducible refine gate_callee (f:=29) rfl ?_);refine goesL_ (some 39) rfl rfl Try.func29 (by kernel_rfl) rfl #[.slice A1 l1.length c1,.int .i64 1] rfl (by (try simp only [List.map_toArray,List.map_cons,List.map_nil]);first|done|rfl) ?_;(with_reducible refine (laws_lwAt.calls _ _ l1 1 t267 _ ?side1 ?side2 A8.out).mono ?_);(case side1=>exact Kd.C_below HR1.out (by repeat (first|(with_reducible first|exact HB.out|apply below_alloc|apply pw_below_drewN|apply below_drew1|refine below_set ?_ GE265.out)|exact HB.out)));(case side2=>exact HC1.out);rintro e w' ⟨rfl,⟨nd,rfl⟩⟩;refine ⟨_,rfl,?_⟩)|((with_reducible refine gate_dst (N:=8) rfl ?_);(try (refine gate_guard (by rfl) ?_;dsimp only));refine box_event ?hg (N:=8) ?hd (cs:=#[.int .i64 0,.int .i64 0,.int .i64 0]) (t:=43) ?hr ?_;(case hd=>rfl);(case hg=>rfl);(case hr=>first|(go_simp;done)|(go_simp;rfl));intro gb268 hg w15 hbox hb;have n0_:=Aside0.mk (blk_below (g:=gb265) (o:=.cells #[.int .i64 t260,.int .i64 t261,.int .i64 t262] 43 (0,0)) (by (with_reducible repeat first|refine blk_drewN ?_ _|refine blk_alloc ?_ _);refine blk_put (cs:=#[.int .i64 t260,.int .i64 t261,.int .i64 0]) ?_ 2 _ rfl;(with_reducible repeat first|refine blk_drewN ?_ _|refine blk_alloc ?_ _);refine blk_put (cs:=#[.int .i64 t260,.int .i64 0,.int .i64 0]) ?_ 1 _ rfl;(with_reducible repeat first|refine blk_drewN ?_ _|refine blk_alloc ?_ _);refine blk_put (cs:=#[.int .i64 0,.int .i64 0,.int .i64 0]) ?_ 0 _ rfl;(with_reducible repeat first|refine blk_drewN ?_ _|refine blk_alloc ?_ _);exact BK265.out) hb);have n1_:=Aside0.mk (below_step (by repeat (first|(with_reducible first|exact HB.out|apply below_alloc|apply pw_below_drewN|apply below_drew1|refine below_set ?_ GE265.out)|exact HB.out)) hb);have n2_:=Aside0.mk (hbox);have n3_:=Aside0.mk ((by rw [hg];exact (below_size (by repeat (first|(with_reducible first|exact HB.out|apply below_alloc|apply pw_below_drewN|apply below_drew1|refine below_set ?_ GE265.out)|exact HB.out))) : w.heap.size ≤ gb268));have n4_:=Aside0.mk ((by rw [hg];exact (below_size (by repeat (first|(with_reducible first|exact HB.out|apply below_alloc|apply pw_below_drewN|apply below_drew1|refine below_set ?_ GE265.out)|exact HB.out))) : w.heap.size ≤ gb268));have n5_:=Aside0.mk ((by rw [hg];exact Nat.ne_of_lt (blk_lt (g:=gb265) (o:=.cells #[.int .i64 t260,.int .i64 t261,.int .i64 t262] 43 (0,0)) (by (with_reducible repeat first|refine blk_drewN ?_ _|refine blk_alloc ?_ _);refine blk_put (cs:=#[.int .i64 t260,.int .i64 t261,.int .i64 0]) ?_ 2 _ rfl;(with_reducible repeat first|refine blk_drewN ?_ _|refine blk_alloc ?_ _);refine blk_put (cs:=#[.int .i64 t260,.int .i64 0,.int .i64 0]) ?_ 1 _ rfl;(with_reducible repeat first|refine blk_drewN ?_ _|refine blk_alloc ?_ _);refine blk_put (cs:=#[.int .i64 0,.int .i64 0,.int .i64 0]) ?_ 0 _ rfl;(with_reducible repeat first|refine blk_drewN ?_ _|refine blk_alloc ?_ _);exact BK265.out)) : gb265 ≠ gb268));have n6_:=Aside0.mk ((by rw [hg];exact Nat.ne_of_gt (blk_lt (g:=gb265) (o:=.cells #[.int .i64 t260,.int .i64 t261,.int .i64 t262] 43 (0,0)) (by (with_reducible repeat first|refine blk_drewN ?_ _|refine blk_alloc ?_ _);refine blk_put (cs:=#[.int .i64 t260,.int .i64 t261,.int .i64 0]) ?_ 2 _ rfl;(with_reducible repeat first|refine blk_drewN ?_ _|refine blk_alloc ?_ _);refine blk_put (cs:=#[.int .i64 t260,.int .i64 0,.int .i64 0]) ?_ 1 _ rfl;(with_reducible repeat first|refine blk_drewN ?_ _|refine blk_alloc ?_ _);refine blk_put (cs:=#[.int .i64 0,.int .i64 0,.int .i64 0]) ?_ 0 _ rfl;(with_reducible repeat first|refine blk_drewN ?_ _|refine blk_alloc ?_ _);exact BK265.out)) : gb268 ≠ gb265));clear BK265 HB;have BK265:=n0_;have HB:=n1_;have BK268:=n2_;have GW268:=n3_;have GE268:=n4_;have NB265_268:=n5_;have NB268_265:=n6_;clear n0_ n1_ n2_ n3_ n4_ n5_ n6_ hb hbox hg;have hnb16:=NB268_265.out;have hnc16:=NB265_268.out;have hcz17_0 : w15.cell? ⟨gb268,0,none⟩ = some (.int .i64 0):=(blk_cell BK268.out 0).trans rfl;have hcz17_1 : w15.cell? ⟨gb268,1,none⟩ = some (.int .i64 0):=(blk_cell BK268.out 1).trans rfl;have hcz17_2 : w15.cell? ⟨gb268,2,none⟩ = some (.int .i64 0):=(blk_cell BK268.out 2).trans rfl;have hfz17_0:=blk_frozen BK268.out 0;have hfz17_1:=blk_frozen BK268.out 1;have hfz17_2:=blk_frozen BK268.out 2)|((with_reducible refine gate_callee (f:=29) rfl ?_);refine goesL_ (some 43) rfl rfl Try.func29 (by kernel_rfl) rfl #[.slice A1 l1.length c1,.int .i64 2] rfl (by (try simp only [List.map_toArray,List.map_cons,List.map_nil]);first|done|rfl) ?_;(with_reducible refine (laws_lwAt.calls _ _ l1 2 t269 _ ?side1 ?side2 A9.out).mono ?_);(case side1=>exact Kd.C_below HR1.out (by repeat (first|(with_reducible first|exact HB.out|apply below_alloc|apply pw_below_drewN|apply below_drew1|refine below_set ?_ GE265.out|refine below_set ?_ GE268.out)|exact HB.out)));(case side2=>exact HC1.out);rintro e w' ⟨rfl,⟨nd,rfl⟩⟩;refine ⟨_,rfl,?_⟩)|((with_reducible refine gate_callee (f:=30) rfl ?_);refine goesL_ (some 51) rfl rfl Try.func30 (by kernel_rfl) rfl #[.agg #[.int .i64 (wrap64 (1 + (Int.tmod t266 5))),.int .i64 (Int.tmod t267 4),.int .i64 0],.int .i64 (wrap64 (1 + (Int.tmod t269 7))),.string t264] rfl (by (try simp only [List.map_toArray,List.map_cons,List.map_nil]);first|done|rfl) ?_;(with_reducible refine (impl_SplitObject.calls kj2 (wrap64 (1 + (Int.tmod t266 5))) (Int.tmod t267 4) 0 (wrap64 (1 + (Int.tmod t269 7))) t264 t270 t271 _ A10.out).mono ?_);rintro e w18 ⟨v272,rfl,ho0,hb⟩;refine ⟨_,rfl,?_⟩;have n0_:=Aside0.mk (Kd.S_lower ho0 (below_size (by repeat (first|(with_reducible first|exact HB.out|apply below_alloc|apply pw_below_drewN|apply below_drew1|refine below_set ?_ GE265.out|refine below_set ?_ GE268.out)|exact HB.out))));have n1_:=Aside0.mk (blk_below (g:=gb265) (o:=.cells #[.int .i64 t260,.int .i64 t261,.int .i64 t262] 43 (0,0)) (by (with_reducible repeat first|refine blk_drewN ?_ _|refine blk_alloc ?_ _);refine blk_far ?_ NB265_268.out _;(with_reducible repeat first|refine blk_drewN ?_ _|refine blk_alloc ?_ _);refine blk_far ?_ NB265_268.out _;(with_reducible repeat first|refine blk_drewN ?_ _|refine blk_alloc ?_ _);refine blk_far ?_ NB265_268.out _;(with_reducible repeat first|refine blk_drewN ?_ _|refine blk_alloc ?_ _);exact BK265.out) hb);have n2_:=Aside0.mk (blk_below (g:=gb268) (o:=.cells #[.int .i64 (wrap64 (1 + (Int.tmod t266 5))),.int .i64 (Int.tmod t267 4),.int .i64 0] 43 (0,0)) (by (with_reducible repeat first|refine blk_drewN ?_ _|refine blk_alloc ?_ _);refine blk_put (cs:=#[.int .i64 (wrap64 (1 + (Int.tmod t266 5))),.int .i64 (Int.tmod t267 4),.int .i64 0]) ?_ 2 _ rfl;(with_reducible repeat first|refine blk_drewN ?_ _|refine blk_alloc ?_ _);refine blk_put (cs:=#[.int .i64 (wrap64 (1 + (Int.tmod t266 5))),.int .i64 0,.int .i64 0]) ?_ 1 _ rfl;(with_reducible repeat first|refine blk_drewN ?_ _|refine blk_alloc ?_ _);refine blk_put (cs:=#[.int .i64 0,.int .i64 0,.int .i64 0]) ?_ 0 _ rfl;(with_reducible repeat first|refine blk_drewN ?_ _|refine blk_alloc ?_ _);exact BK268.out) hb);have n3_:=Aside0.mk (below_step (by repeat (first|(with_reducible first|exact HB.out|apply below_alloc|apply pw_below_drewN|apply below_drew1|refine below_set ?_ GE265.out|refine below_set ?_ GE268.out)|exact HB.out)) hb);clear BK265 BK268 HB;have HO273:=n0_;have BK265:=n1_;have BK268:=n2_;have HB:=n3_;clear n0_ n1_ n2_ n3_;(try clear hb);(try clear hb2);(try clear hk);(try clear hi);(try clear ho0))|((with_reducible refine gate_dst (N:=11) rfl ?_);(try (refine gate_guard (by rfl) ?_;dsimp only));refine box_event ?hg (N:=11) ?hd (cs:=#[.int .i64 0,.slice none 0 0]) (t:=49) ?hr ?_;(case hd=>rfl);(case hg=>rfl);(case hr=>first|(go_simp;done)|(go_simp;rfl));intro gb274 hg w19 hbox hb;have n0_:=Aside0.mk (Kd.S_below (by (with_reducible repeat (first|apply Kd.S_alloc|apply Kd.S_drewN));exact HO273.out) hb);have n1_:=Aside0.mk (blk_below (g:=gb265) (o:=.cells #[.int .i64 t260,.int .i64 t261,.int .i64 t262] 43 (0,0)) (by (with_reducible repeat first|refine blk_drewN ?_ _|refine blk_alloc ?_ _);exact BK265.out) hb);have n2_:=Aside0.mk (blk_below (g:=gb268) (o:=.cells #[.int .i64 (wrap64 (1 + (Int.tmod t266 5))),.int .i64 (Int.tmod t267 4),.int .i64 0] 43 (0,0)) (by (with_reducible repeat first|refine blk_drewN ?_ _|refine blk_alloc ?_ _);exact BK268.out) hb);have n3_:=Aside0.mk (below_step (by repeat (first|(with_reducible first|exact HB.out|apply below_alloc|apply pw_below_drewN|apply below_drew1|refine below_set ?_ GE265.out|refine below_set ?_ GE268.out)|exact HB.out)) hb);have n4_:=Aside0.mk (hbox);have n5_:=Aside0.mk ((by rw [hg];exact (below_size (by repeat (first|(with_reducible first|exact HB.out|apply below_alloc|apply pw_below_drewN|apply below_drew1|refine below_set ?_ GE265.out|refine below_set ?_ GE268.out)|exact HB.out))) : w.heap.size ≤ gb274));have n6_:=Aside0.mk ((by rw [hg];exact (below_size (by repeat (first|(with_reducible first|exact HB.out|apply below_alloc|apply pw_below_drewN|apply below_drew1|refine below_set ?_ GE265.out|refine below_set ?_ GE268.out)|exact HB.out))) : w.heap.size ≤ gb274));have n7_:=Aside0.mk ((by rw [hg];exact Nat.ne_of_lt (blk_lt (g:=gb265) (o:=.cells #[.int .i64 t260,.int .i64 t261,.int .i64 t262] 43 (0,0)) (by (with_reducible repeat first|refine blk_drewN ?_ _|refine blk_alloc ?_ _);exact BK265.out)) : gb265 ≠ gb274));have n8_:=Aside0.mk ((by rw [hg];exact Nat.ne_of_gt (blk_lt (g:=gb265) (o:=.cells #[.int .i64 t260,.int .i64 t261,.int .i64 t262] 43 (0,0)) (by (with_reducible repeat first|refine blk_drewN ?_ _|refine blk_alloc ?_ _);exact BK265.out)) : gb274 ≠ gb265));have n9_:=Aside0.mk ((by rw [hg];exact Nat.ne_of_lt (blk_lt (g:=gb268) (o:=.cells #[.int .i64 (wrap64 (1 + (Int.tmod t266 5))),.int .i64 (Int.tmod t267 4),.int .i64 0] 43 (0,0)) (by (with_reducible repeat first|refine blk_drewN ?_ _|refine blk_alloc ?_ _);exact BK268.out)) : gb268 ≠ gb274));have n10_:=Aside0.mk ((by rw [hg];exact Nat.ne_of_gt (blk_lt (g:=gb268) (o:=.cells #[.int .i64 (wrap64 (1 + (Int.tmod t266 5))),.int .i64 (Int.tmod t267 4),.int .i64 0] 43 (0,0)) (by (with_reducible repeat first|refine blk_drewN ?_ _|refine blk_alloc ?_ _);exact BK268.out)) : gb274 ≠ gb268));clear HO273 BK265 BK268 HB;have HO273:=n0_;have BK265:=n1_;have BK268:=n2_;have HB:=n3_;have BK274:=n4_;have GW274:=n5_;have GE274:=n6_;have NB265_274:=n7_;have NB274_265:=n8_;have NB268_274:=n9_;have NB274_268:=n10_;clear n0_ n1_ n2_ n3_ n4_ n5_ n6_ n7_ n8_ n9_ n10_ hb hbox hg;have hnb20:=NB274_265.out;have hnc20:=NB265_274.out;have hnb21:=NB274_268.out;have hnc21:=NB268_274.out;have hcz22_0 : w19.cell? ⟨gb274,0,none⟩ = some (.int .i64 0):=(blk_cell BK274.out 0).trans rfl;have hcz22_1 : w19.cell? ⟨gb274,1,none⟩ = some (.slice none 0 0):=(blk_cell BK274.out 1).trans rfl;have hfz22_0:=blk_frozen BK274.out 0;have hfz22_1:=blk_frozen BK274.out 1;obtain ⟨Ao23,co23,eo23⟩:=Kd.S_slice HO273.out;subst eo23))
    (try simp only [Act.put,List.setIfInBounds_toArray,List.set_cons_zero,List.set_cons_succ])
    go_cut [64] (fun v64 wc=>∃ (kq : Nat) (x64_10 : Bool),v64 = .bool x64_10 ∧ Aside0 (laws_FnJoined.j1 kq l1 t264 (wrap64 (1 + (Int.tmod t269 7))) (t264.size : Int) x64_10 (wrap64 (1 + (Int.tmod t266 5))) (Int.tmod t267 4) 0 t270 t271 = some r) ∧ Aside0 (kq ≤ kj2) ∧ Aside0 (Kd.S k58 58 wc w.heap.size (fun _=>True) (.slice Ao23 t271.length co23) t271) ∧ Aside0 (wc.heap[gb265]? = some (.cells #[.int .i64 t260,.int .i64 t261,.int .i64 t262] 43 (0,0))) ∧ Aside0 (wc.heap[gb268]? = some (.cells #[.int .i64 (wrap64 (1 + (Int.tmod t266 5))),.int .i64 (Int.tmod t267 4),.int .i64 0] 43 (0,0))) ∧ Aside0 (wc.heap[gb274]? = some (.cells #[.int .i64 t270,(.slice Ao23 t271.length co23)] 49 (0,0))) ∧ Aside0 (Below w.heap.size w wc))
    case first=>
     have H:=HC11.out
     clear HC11
     by_cases c24 : t270 = 0
     ·rw [if_pos c24] at H
      have c24b0 : (t270 == 0) = true:=beq_iff_eq.mpr c24
      have c24b1 : (t270 != 0) = false:=bne_eq_false_iff_eq.mpr c24
      clear c24
      (first|rw [c24b0]|(simp only [i64_w,i32_w];rw [c24b0])|skip)
      replace H:=Option.bind_eq_some_iff.mp H
      obtain ⟨t275,A250,H⟩:=H
      replace H : (laws_FnJoined.j1 kj2 l1 t264 (wrap64 (1 + (Int.tmod t269 7))) (t264.size : Int) ((t271.length : Int) != t275) (wrap64 (1 + (Int.tmod t266 5))) (Int.tmod t267 4) 0 t270 t271) = some r:=H
      have A25:=Aside0.mk A250
      clear A250
      have H':=Aside0.mk H
      clear H
      try go_wp2
      have n0_ : Aside0 (Kd.S k58 58 ((w19.setCell ⟨gb274,0,none⟩ (.int .i64 t270)).setCell ⟨gb274,1,none⟩ (.slice Ao23 t271.length co23)) w.heap.size (fun _=>True) (.slice Ao23 t271.length co23) t271):=⟨by (with_reducible repeat (first|apply Kd.S_alloc|apply Kd.S_drewN));exact Kd.S_mono (Kd.S_far (p:=⟨gb274,1,none⟩) (Kd.S_far (p:=⟨gb274,0,none⟩) (Kd.S_types HO273.out BK274.out (by decide)) (fun _ hk=>hk.2) (.int .i64 t270)) (fun _ hk=>hk.2) (.slice Ao23 t271.length co23)) (fun _ hk=>trivial)⟩
      have n1_ : Aside0 (((w19.setCell ⟨gb274,0,none⟩ (.int .i64 t270)).setCell ⟨gb274,1,none⟩ (.slice Ao23 t271.length co23)).heap[gb265]? = some (.cells #[.int .i64 t260,.int .i64 t261,.int .i64 t262] 43 (0,0))):=⟨by (with_reducible repeat first|refine blk_drewN ?_ _|refine blk_alloc ?_ _);refine blk_far ?_ NB265_274.out _;(with_reducible repeat first|refine blk_drewN ?_ _|refine blk_alloc ?_ _);refine blk_far ?_ NB265_274.out _;(with_reducible repeat first|refine blk_drewN ?_ _|refine blk_alloc ?_ _);exact BK265.out⟩
      have n2_ : Aside0 (((w19.setCell ⟨gb274,0,none⟩ (.int .i64 t270)).setCell ⟨gb274,1,none⟩ (.slice Ao23 t271.length co23)).heap[gb268]? = some (.cells #[.int .i64 (wrap64 (1 + (Int.tmod t266 5))),.int .i64 (Int.tmod t267 4),.int .i64 0] 43 (0,0))):=⟨by (with_reducible repeat first|refine blk_drewN ?_ _|refine blk_alloc ?_ _);refine blk_far ?_ NB268_274.out _;(with_reducible repeat first|refine blk_drewN ?_ _|refine blk_alloc ?_ _);refine blk_far ?_ NB268_274.out _;(with_reducible repeat first|refine blk_drewN ?_ _|refine blk_alloc ?_ _);exact BK268.out⟩
      have n3_ : Aside0 (((w19.setCell ⟨gb274,0,none⟩ (.int .i64 t270)).setCell ⟨gb274,1,none⟩ (.slice Ao23 t271.length co23)).heap[gb274]? = some (.cells #[.int .i64 t270,.slice Ao23 t271.length co23] 49 (0,0))):=⟨by (with_reducible repeat first|refine blk_drewN ?_ _|refine blk_alloc ?_ _);refine blk_put (cs:=#[.int .i64 t270,.slice none 0 0]) ?_ 1 _ rfl;(with_reducible repeat first|refine blk_drewN ?_ _|refine blk_alloc ?_ _);refine blk_put (cs:=#[.int .i64 0,.slice none 0 0]) ?_ 0 _ rfl;(with_reducible repeat first|refine blk_drewN ?_ _|refine blk_alloc ?_ _);exact BK274.out⟩
      have n4_ : Aside0 (Below w.heap.size w ((w19.setCell ⟨gb274,0,none⟩ (.int .i64 t270)).setCell ⟨gb274,1,none⟩ (.slice Ao23 t271.length co23))):=⟨by repeat (first|(with_reducible first|exact HB.out|apply below_alloc|apply pw_below_drewN|apply below_drew1|refine below_set ?_ GE265.out|refine below_set ?_ GE268.out|refine below_set ?_ GE274.out)|exact HB.out)⟩
      (try clear HO273);(try clear BK265);(try clear BK268);(try clear BK274);(try clear HB)
      generalize ((w19.setCell ⟨gb274,0,none⟩ (.int .i64 t270)).setCell ⟨gb274,1,none⟩ (.slice Ao23 t271.length co23)) = w26 at n0_ n1_ n2_ n3_ n4_ ⊢
      have HO273:=n0_
      have BK265:=n1_
      have BK268:=n2_
      have BK274:=n3_
      have HB:=n4_
      clear n0_ n1_ n2_ n3_ n4_
      have n0_:=Aside0.mk (Kd.S_drew HO273.out)
      have n1_:=Aside0.mk (blk_drew BK265.out)
      have n2_:=Aside0.mk (blk_drew BK268.out)
      have n3_:=Aside0.mk (blk_drew BK274.out)
      have n4_:=Aside0.mk (below_drew1 HB.out)
      clear HO273 BK265 BK268 BK274 HB
      have HO273:=n0_
      have BK265:=n1_
      have BK268:=n2_
      have BK274:=n3_
      have HB:=n4_
      clear n0_ n1_ n2_ n3_ n4_
      refine start_ (n:=13) (S:=fun w'=>w'.cell? ⟨gb274,0,none⟩ = some (.int .i64 t270) ∧ w'.cell? ⟨gb274,1,none⟩ = some (.slice Ao23 t271.length co23) ∧ w'.cell? ⟨gb268,0,none⟩ = some (.int .i64 (wrap64 (1 + (Int.tmod t266 5)))) ∧ w'.cell? ⟨gb268,1,none⟩ = some (.int .i64 (Int.tmod t267 4)) ∧ w'.cell? ⟨gb268,2,none⟩ = some (.int .i64 0)) (ds:=[]) #[false,false,false,false,false,false,false,false,false,false,false,false,false] (by kernel_rfl) rfl rfl ⟨(blk_cell BK274.out 0).trans rfl,(blk_cell BK274.out 1).trans rfl,(blk_cell BK268.out 0).trans rfl,(blk_cell BK268.out 1).trans rfl,(blk_cell BK268.out 2).trans rfl⟩ (fun hHeld=>?_);refine with_tabW laws_FnJoined.tab8 laws_FnJoined.bits8 (fun HT_ HW_=>?_)
      generalize w26.drew = w27 at HO273 BK265 BK268 BK274 HB hHeld ⊢
      refine pure_ (i:=0) (N:=some 52) (v:=?_) (a':=?_) #[true,false,false,false,false,false,false,false,false,false,false,false,false] rfl rfl (any_of HT_.out (by kernel_rfl)) (fun _ _ _ h=>h) (Or.inl ⟨by rfl,?_⟩) ?_ ?_
      rotate_left
      ·intro w'
       go_simp
       with_reducible rfl
      rotate_left
      ·simp only [Act.put,List.setIfInBounds_toArray,List.set_cons_zero,List.set_cons_succ,i64_w,i32_w]
       rfl
      refine take_ (i:=1) (N:=some 53) (v:=?_) (a':=?_) #[true,true,false,false,false,false,false,false,false,false,false,false,false] rfl rfl (take_ofW HT_.out HW_.out (by kernel_rfl)) (fun _ _ _ h=>h) (Or.inl ⟨by rfl,?_⟩) hHeld ?_ ?_
      rotate_left
      ·rintro w' ⟨s0,s1,s2,s3,s4⟩
       go_simp
       with_reducible rfl
      rotate_left
      ·simp only [Act.put,List.setIfInBounds_toArray,List.set_cons_zero,List.set_cons_succ,i64_w,i32_w]
       rfl
      refine pure_ (i:=2) (N:=some 54) (v:=?_) (a':=?_) #[true,true,true,false,false,false,false,false,false,false,false,false,false] rfl rfl (any_of HT_.out (by kernel_rfl)) (fun _ _ _ h=>h) (Or.inl ⟨by rfl,?_⟩) ?_ ?_
      rotate_left
      ·intro w'
       go_simp
       with_reducible rfl
      rotate_left
      ·simp only [Act.put,List.setIfInBounds_toArray,List.set_cons_zero,List.set_cons_succ,i64_w,i32_w]
       rfl
      refine pure_ (i:=3) (N:=some 55) (v:=?_) (a':=?_) #[true,true,true,true,false,false,false,false,false,false,false,false,false] rfl rfl (any_of HT_.out (by kernel_rfl)) (fun _ _ _ h=>h) (Or.inl ⟨by rfl,?_⟩) ?_ ?_
      rotate_left
      ·intro w'
       go_simp
       with_reducible rfl
      rotate_left
      ·simp only [Act.put,List.setIfInBounds_toArray,List.set_cons_zero,List.set_cons_succ,i64_w,i32_w]
       rfl
      refine pure_ (i:=4) (N:=some 56) (v:=?_) (a':=?_) #[true,true,true,true,true,false,false,false,false,false,false,false,false] rfl rfl (any_of HT_.out (by kernel_rfl)) (fun _ _ _ h=>h) (Or.inl ⟨by rfl,?_⟩) ?_ ?_
      rotate_left
      ·intro w'
       go_simp
       with_reducible rfl
      rotate_left
      ·simp only [Act.put,List.setIfInBounds_toArray,List.set_cons_zero,List.set_cons_succ,i64_w,i32_w]
       rfl
      refine pure_ (i:=8) (N:=some 60) (v:=?_) (a':=?_) #[true,true,true,true,true,false,false,false,true,false,false,false,false] rfl rfl (any_of HT_.out (by kernel_rfl)) (fun _ _ _ h=>h) (Or.inl ⟨by rfl,?_⟩) ?_ ?_
      rotate_left
      ·intro w'
       go_simp
       with_reducible rfl
      rotate_left
      ·simp only [Act.put,List.setIfInBounds_toArray,List.set_cons_zero,List.set_cons_succ,i64_w,i32_w]
       rfl
      refine pure_ (i:=9) (N:=some 61) (v:=?_) (a':=?_) #[true,true,true,true,true,false,false,false,true,true,false,false,false] rfl rfl (any_of HT_.out (by kernel_rfl)) (fun _ _ _ h=>h) (Or.inl ⟨by rfl,?_⟩) ?_ ?_
      rotate_left
      ·intro w'
       go_simp
       with_reducible rfl
      rotate_left
      ·simp only [Act.put,List.setIfInBounds_toArray,List.set_cons_zero,List.set_cons_succ,i64_w,i32_w]
       rfl
      refine take_ (i:=5) (N:=some 57) (v:=?_) (a':=?_) #[true,true,true,true,true,true,false,false,true,true,false,false,false] rfl rfl (take_ofW HT_.out HW_.out (by kernel_rfl)) (fun _ _ _ h=>h) (Or.inl ⟨by rfl,?_⟩) hHeld ?_ ?_
      rotate_left
      ·rintro w' ⟨s0,s1,s2,s3,s4⟩
       go_simp
       with_reducible rfl
      rotate_left
      ·simp only [Act.put,List.setIfInBounds_toArray,List.set_cons_zero,List.set_cons_succ,i64_w,i32_w]
       rfl
      refine pure_ (i:=6) (N:=some 58) (v:=?_) (a':=?_) #[true,true,true,true,true,true,true,false,true,true,false,false,false] rfl rfl (any_of HT_.out (by kernel_rfl)) (fun _ _ _ h=>h) (Or.inl ⟨by rfl,?_⟩) ?_ ?_
      rotate_left
      ·intro w'
       go_simp
       with_reducible rfl
      rotate_left
      ·simp only [Act.put,List.setIfInBounds_toArray,List.set_cons_zero,List.set_cons_succ,i64_w,i32_w]
       rfl
      refine take_ (i:=7) (N:=some 59) (v:=?_) (a':=?_) #[true,true,true,true,true,true,true,true,true,true,false,false,false] rfl rfl (take_ofW HT_.out HW_.out (by kernel_rfl)) (fun _ _ _ h=>h) (Or.inl ⟨by rfl,?_⟩) hHeld ?_ ?_
      rotate_left
      ·rintro w' ⟨s0,s1,s2,s3,s4⟩
       go_simp
       with_reducible rfl
      rotate_left
      ·simp only [Act.put,List.setIfInBounds_toArray,List.set_cons_zero,List.set_cons_succ,i64_w,i32_w]
       rfl
      refine one_ (i:=10) (N:=some 62) #[true,true,true,true,true,true,true,true,true,true,true,false,false] rfl rfl (one_of HT_.out (by kernel_rfl)) (by decide) (fun K hK=>?_)
      refine goes_ Try.func31 (by kernel_rfl) rfl #[.agg #[.int .i64 (wrap64 (1 + (Int.tmod t266 5))),.int .i64 (Int.tmod t267 4),.int .i64 0],.int .i64 (wrap64 (1 + (Int.tmod t269 7))),.int .i64 (t264.size : Int)] (by rfl) rfl rfl (by (try simp only [List.map_toArray,List.map_cons,List.map_nil]);first|done|rfl) ?_
      with_reducible refine (impl_StripeCount.calls kj2 (wrap64 (1 + (Int.tmod t266 5))) (Int.tmod t267 4) 0 (wrap64 (1 + (Int.tmod t269 7))) (t264.size : Int) t275 _ A25.out).mono ?_
      rintro e w28 ⟨rfl,hb⟩
      refine ⟨_,rfl,?_⟩
      have n0_:=Aside0.mk (Kd.S_below (by (with_reducible repeat (first|apply Kd.S_alloc|apply Kd.S_drewN));exact HO273.out) hb)
      have n1_:=Aside0.mk (blk_below (g:=gb265) (o:=.cells #[.int .i64 t260,.int .i64 t261,.int .i64 t262] 43 (0,0)) (by (with_reducible repeat first|refine blk_drewN ?_ _|refine blk_alloc ?_ _);exact BK265.out) hb)
      have n2_:=Aside0.mk (blk_below (g:=gb268) (o:=.cells #[.int .i64 (wrap64 (1 + (Int.tmod t266 5))),.int .i64 (Int.tmod t267 4),.int .i64 0] 43 (0,0)) (by (with_reducible repeat first|refine blk_drewN ?_ _|refine blk_alloc ?_ _);exact BK268.out) hb)
      have n3_:=Aside0.mk (blk_below (g:=gb274) (o:=.cells #[.int .i64 t270,.slice Ao23 t271.length co23] 49 (0,0)) (by (with_reducible repeat first|refine blk_drewN ?_ _|refine blk_alloc ?_ _);exact BK274.out) hb)
      have n4_:=Aside0.mk (below_step (by repeat (first|(with_reducible first|exact HB.out|apply below_alloc|apply pw_below_drewN|apply below_drew1|refine below_set ?_ GE265.out|refine below_set ?_ GE268.out|refine below_set ?_ GE274.out)|exact HB.out)) hb)
      clear HO273 BK265 BK268 BK274 HB
      have HO273:=n0_
      have BK265:=n1_
      have BK268:=n2_
      have BK274:=n3_
      have HB:=n4_
      clear n0_ n1_ n2_ n3_ n4_
      (try clear hb);(try clear hb2);(try clear hk);(try clear hi)
      refine hK.out _ _ ⟨(blk_cell BK274.out 0).trans rfl,(blk_cell BK274.out 1).trans rfl,(blk_cell BK268.out 0).trans rfl,(blk_cell BK268.out 1).trans rfl,(blk_cell BK268.out 2).trans rfl⟩ (fun hHeld=>?_)
      clear hK K
      refine norm_ (a':=?_) ?_ ?_
      rotate_left
      ·show Act.put _ (some 62) _ = _
       simp only [Act.put,List.setIfInBounds_toArray,List.set_cons_zero,List.set_cons_succ,i64_w,i32_w]
       rfl
      refine pure_ (i:=11) (N:=some 63) (v:=?_) (a':=?_) #[true,true,true,true,true,true,true,true,true,true,true,true,false] rfl rfl (any_of HT_.out (by kernel_rfl)) (fun _ _ _ h=>h) (Or.inl ⟨by rfl,?_⟩) ?_ ?_
      rotate_left
      ·intro w'
       go_simp
       with_reducible rfl
      rotate_left
      ·simp only [Act.put,List.setIfInBounds_toArray,List.set_cons_zero,List.set_cons_succ,i64_w,i32_w]
       rfl
      refine pure_ (i:=12) (N:=some 64) (v:=?_) (a':=?_) #[true,true,true,true,true,true,true,true,true,true,true,true,true] rfl rfl (any_of HT_.out (by kernel_rfl)) (fun _ _ _ h=>h) (Or.inl ⟨by rfl,?_⟩) ?_ ?_
      rotate_left
      ·intro w'
       go_simp
       with_reducible rfl
      rotate_left
      ·simp only [Act.put,List.setIfInBounds_toArray,List.set_cons_zero,List.set_cons_succ,i64_w,i32_w]
       rfl
      refine done_ (done_of HT_.out (by kernel_rfl)) ?_
      try go_wp2
      go_meet
      case rel=>exact ⟨_,(((t271.length : Int) != t275)),(by first|rfl|(simp;done)|(simp [*];done)),H',⟨by have:=HJ2.out;first|omega|exact Nat.le_refl _⟩,⟨by (with_reducible repeat (first|apply Kd.S_alloc|apply Kd.S_drewN));exact HO273.out⟩,⟨by (with_reducible repeat first|refine blk_drewN ?_ _|refine blk_alloc ?_ _);exact BK265.out⟩,⟨by (with_reducible repeat first|refine blk_drewN ?_ _|refine blk_alloc ?_ _);exact BK268.out⟩,⟨by (with_reducible repeat first|refine blk_drewN ?_ _|refine blk_alloc ?_ _);exact BK274.out⟩,⟨by repeat (first|(with_reducible first|exact HB.out|apply below_alloc|apply pw_below_drewN|apply below_drew1|refine below_set ?_ GE265.out|refine below_set ?_ GE268.out|refine below_set ?_ GE274.out)|exact HB.out)⟩⟩
     ·rw [if_neg c24] at H
      have c24b0 : (t270 == 0) = false:=beq_eq_false_iff_ne.mpr c24
      have c24b1 : (t270 != 0) = true:=bne_iff_ne.mpr c24
      (first|rw [c24b0]|(simp only [i64_w,i32_w];rw [c24b0])|skip)
      have H':=Aside0.mk H
      clear H
      try go_wp2
      have n0_ : Aside0 (Kd.S k58 58 ((w19.setCell ⟨gb274,0,none⟩ (.int .i64 t270)).setCell ⟨gb274,1,none⟩ (.slice Ao23 t271.length co23)) w.heap.size (fun _=>True) (.slice Ao23 t271.length co23) t271):=⟨by (with_reducible repeat (first|apply Kd.S_alloc|apply Kd.S_drewN));exact Kd.S_mono (Kd.S_far (p:=⟨gb274,1,none⟩) (Kd.S_far (p:=⟨gb274,0,none⟩) (Kd.S_types HO273.out BK274.out (by decide)) (fun _ hk=>hk.2) (.int .i64 t270)) (fun _ hk=>hk.2) (.slice Ao23 t271.length co23)) (fun _ hk=>trivial)⟩
      have n1_ : Aside0 (((w19.setCell ⟨gb274,0,none⟩ (.int .i64 t270)).setCell ⟨gb274,1,none⟩ (.slice Ao23 t271.length co23)).heap[gb265]? = some (.cells #[.int .i64 t260,.int .i64 t261,.int .i64 t262] 43 (0,0))):=⟨by (with_reducible repeat first|refine blk_drewN ?_ _|refine blk_alloc ?_ _);refine blk_far ?_ NB265_274.out _;(with_reducible repeat first|refine blk_drewN ?_ _|refine blk_alloc ?_ _);refine blk_far ?_ NB265_274.out _;(with_reducible repeat first|refine blk_drewN ?_ _|refine blk_alloc ?_ _);exact BK265.out⟩
      have n2_ : Aside0 (((w19.setCell ⟨gb274,0,none⟩ (.int .i64 t270)).setCell ⟨gb274,1,none⟩ (.slice Ao23 t271.length co23)).heap[gb268]? = some (.cells #[.int .i64 (wrap64 (1 + (Int.tmod t266 5))),.int .i64 (Int.tmod t267 4),.int .i64 0] 43 (0,0))):=⟨by (with_reducible repeat first|refine blk_drewN ?_ _|refine blk_alloc ?_ _);refine blk_far ?_ NB268_274.out _;(with_reducible repeat first|refine blk_drewN ?_ _|refine blk_alloc ?_ _);refine blk_far ?_ NB268_274.out _;(with_reducible repeat first|refine blk_drewN ?_ _|refine blk_alloc ?_ _);exact BK268.out⟩
      have n3_ : Aside0 (((w19.setCell ⟨gb274,0,none⟩ (.int .i64 t270)).setCell ⟨gb274,1,none⟩ (.slice Ao23 t271.length co23)).heap[gb274]? = some (.cells #[.int .i64 t270,.slice Ao23 t271.length co23] 49 (0,0))):=⟨by (with_reducible repeat first|refine blk_drewN ?_ _|refine blk_alloc ?_ _);refine blk_put (cs:=#[.int .i64 t270,.slice none 0 0]) ?_ 1 _ rfl;(with_reducible repeat first|refine blk_drewN ?_ _|refine blk_alloc ?_ _);refine blk_put (cs:=#[.int .i64 0,.slice none 0 0]) ?_ 0 _ rfl;(with_reducible repeat first|refine blk_drewN ?_ _|refine blk_alloc ?_ _);exact BK274.out⟩
      have n4_ : Aside0 (Below w.heap.size w ((w19.setCell ⟨gb274,0,none⟩ (.int .i64 t270)).setCell ⟨gb274,1,none⟩ (.slice Ao23 t271.length co23))):=⟨by repeat (first|(with_reducible first|exact HB.out|apply below_alloc|apply pw_below_drewN|apply below_drew1|refine below_set ?_ GE265.out|refine below_set ?_ GE268.out|refine below_set ?_ GE274.out)|exact HB.out)⟩
      (try clear HO273);(try clear BK265);(try clear BK268);(try clear BK274);(try clear HB)
      generalize ((w19.setCell ⟨gb274,0,none⟩ (.int .i64 t270)).setCell ⟨gb274,1,none⟩ (.slice Ao23 t271.length co23)) = w29 at n0_ n1_ n2_ n3_ n4_ ⊢
      have HO273:=n0_
      have BK265:=n1_
      have BK268:=n2_
      have BK274:=n3_
      have HB:=n4_
      clear n0_ n1_ n2_ n3_ n4_
      have n0_:=Aside0.mk (Kd.S_drew HO273.out)
      have n1_:=Aside0.mk (blk_drew BK265.out)
      have n2_:=Aside0.mk (blk_drew BK268.out)
      have n3_:=Aside0.mk (blk_drew BK274.out)
      have n4_:=Aside0.mk (below_drew1 HB.out)
      clear HO273 BK265 BK268 BK274 HB
      have HO273:=n0_
      have BK265:=n1_
      have BK268:=n2_
      have BK274:=n3_
      have HB:=n4_
      clear n0_ n1_ n2_ n3_ n4_
      refine start_ (n:=13) (S:=fun w'=>w'.cell? ⟨gb274,0,none⟩ = some (.int .i64 t270) ∧ w'.cell? ⟨gb274,1,none⟩ = some (.slice Ao23 t271.length co23)) (ds:=[]) #[false,false,false,false,false,false,false,false,false,false,false,false,false] (by kernel_rfl) rfl rfl ⟨(blk_cell BK274.out 0).trans rfl,(blk_cell BK274.out 1).trans rfl⟩ (fun hHeld=>?_);refine with_tabW laws_FnJoined.tab8 laws_FnJoined.bits8 (fun HT_ HW_=>?_)
      generalize w29.drew = w30 at HO273 BK265 BK268 BK274 HB hHeld ⊢
      refine pure_ (i:=0) (N:=some 52) (v:=?_) (a':=?_) #[true,false,false,false,false,false,false,false,false,false,false,false,false] rfl rfl (any_of HT_.out (by kernel_rfl)) (fun _ _ _ h=>h) (Or.inl ⟨by rfl,?_⟩) ?_ ?_
      rotate_left
      ·intro w'
       go_simp
       with_reducible rfl
      rotate_left
      ·simp only [Act.put,List.setIfInBounds_toArray,List.set_cons_zero,List.set_cons_succ,i64_w,i32_w]
       rfl
      refine take_ (i:=1) (N:=some 53) (v:=?_) (a':=?_) #[true,true,false,false,false,false,false,false,false,false,false,false,false] rfl rfl (take_ofW HT_.out HW_.out (by kernel_rfl)) (fun _ _ _ h=>h) (Or.inl ⟨by rfl,?_⟩) hHeld ?_ ?_
      rotate_left
      ·rintro w' ⟨s0,s1⟩
       go_simp
       with_reducible rfl
      rotate_left
      ·simp only [Act.put,List.setIfInBounds_toArray,List.set_cons_zero,List.set_cons_succ,i64_w,i32_w]
       rfl
      refine pure_ (i:=2) (N:=some 54) (v:=?_) (a':=?_) #[true,true,true,false,false,false,false,false,false,false,false,false,false] rfl rfl (any_of HT_.out (by kernel_rfl)) (fun _ _ _ h=>h) (Or.inl ⟨by rfl,?_⟩) ?_ ?_
      rotate_left
      ·intro w'
       go_simp
       with_reducible rfl
      rotate_left
      ·simp only [Act.put,List.setIfInBounds_toArray,List.set_cons_zero,List.set_cons_succ,i64_w,i32_w]
       rfl
      refine pure_ (i:=3) (N:=some 55) (v:=?_) (a':=?_) #[true,true,true,true,false,false,false,false,false,false,false,false,false] rfl rfl (any_of HT_.out (by kernel_rfl)) (fun _ _ _ h=>h) (Or.inl ⟨by rfl,?_⟩) ?_ ?_
      rotate_left
      ·intro w'
       go_simp
       with_reducible rfl
      rotate_left
      ·simp only [Act.put,List.setIfInBounds_toArray,List.set_cons_zero,List.set_cons_succ,i64_w,i32_w]
       rfl
      refine pure_ (i:=4) (N:=some 56) (v:=undef) (a':=?_) #[true,true,true,true,true,false,false,false,false,false,false,false,false] rfl rfl (any_of HT_.out (by kernel_rfl)) (fun _ _ _ h=>h) (Or.inr ⟨by rfl,rfl⟩) ?_ ?_
      rotate_left
      ·simp only [Act.put,List.setIfInBounds_toArray,List.set_cons_zero,List.set_cons_succ,i64_w,i32_w]
       rfl
      refine pure_ (i:=5) (N:=some 57) (v:=undef) (a':=?_) #[true,true,true,true,true,true,false,false,false,false,false,false,false] rfl rfl (any_of HT_.out (by kernel_rfl)) (fun _ _ _ h=>h) (Or.inr ⟨by rfl,rfl⟩) ?_ ?_
      rotate_left
      ·simp only [Act.put,List.setIfInBounds_toArray,List.set_cons_zero,List.set_cons_succ,i64_w,i32_w]
       rfl
      refine pure_ (i:=6) (N:=some 58) (v:=undef) (a':=?_) #[true,true,true,true,true,true,true,false,false,false,false,false,false] rfl rfl (any_of HT_.out (by kernel_rfl)) (fun _ _ _ h=>h) (Or.inr ⟨by rfl,rfl⟩) ?_ ?_
      rotate_left
      ·simp only [Act.put,List.setIfInBounds_toArray,List.set_cons_zero,List.set_cons_succ,i64_w,i32_w]
       rfl
      refine pure_ (i:=7) (N:=some 59) (v:=undef) (a':=?_) #[true,true,true,true,true,true,true,true,false,false,false,false,false] rfl rfl (any_of HT_.out (by kernel_rfl)) (fun _ _ _ h=>h) (Or.inr ⟨by rfl,rfl⟩) ?_ ?_
      rotate_left
      ·simp only [Act.put,List.setIfInBounds_toArray,List.set_cons_zero,List.set_cons_succ,i64_w,i32_w]
       rfl
      refine pure_ (i:=8) (N:=some 60) (v:=undef) (a':=?_) #[true,true,true,true,true,true,true,true,true,false,false,false,false] rfl rfl (any_of HT_.out (by kernel_rfl)) (fun _ _ _ h=>h) (Or.inr ⟨by rfl,rfl⟩) ?_ ?_
      rotate_left
      ·simp only [Act.put,List.setIfInBounds_toArray,List.set_cons_zero,List.set_cons_succ,i64_w,i32_w]
       rfl
      refine pure_ (i:=9) (N:=some 61) (v:=undef) (a':=?_) #[true,true,true,true,true,true,true,true,true,true,false,false,false] rfl rfl (any_of HT_.out (by kernel_rfl)) (fun _ _ _ h=>h) (Or.inr ⟨by rfl,rfl⟩) ?_ ?_
      rotate_left
      ·simp only [Act.put,List.setIfInBounds_toArray,List.set_cons_zero,List.set_cons_succ,i64_w,i32_w]
       rfl
      refine pure_ (i:=10) (N:=some 62) (v:=undef) (a':=?_) #[true,true,true,true,true,true,true,true,true,true,true,false,false] rfl rfl (any_of HT_.out (by kernel_rfl)) (fun _ _ _ h=>h) (Or.inr ⟨by rfl,rfl⟩) ?_ ?_
      rotate_left
      ·simp only [Act.put,List.setIfInBounds_toArray,List.set_cons_zero,List.set_cons_succ,i64_w,i32_w]
       rfl
      refine pure_ (i:=11) (N:=some 63) (v:=undef) (a':=?_) #[true,true,true,true,true,true,true,true,true,true,true,true,false] rfl rfl (any_of HT_.out (by kernel_rfl)) (fun _ _ _ h=>h) (Or.inr ⟨by rfl,rfl⟩) ?_ ?_
      rotate_left
      ·simp only [Act.put,List.setIfInBounds_toArray,List.set_cons_zero,List.set_cons_succ,i64_w,i32_w]
       rfl
      refine pure_ (i:=12) (N:=some 64) (v:=?_) (a':=?_) #[true,true,true,true,true,true,true,true,true,true,true,true,true] rfl rfl (any_of HT_.out (by kernel_rfl)) (fun _ _ _ h=>h) (Or.inl ⟨by rfl,?_⟩) ?_ ?_
      rotate_left
      ·intro w'
       go_simp
       with_reducible rfl
      rotate_left
      ·simp only [Act.put,List.setIfInBounds_toArray,List.set_cons_zero,List.set_cons_succ,i64_w,i32_w]
       rfl
      refine done_ (done_of HT_.out (by kernel_rfl)) ?_
      try go_wp2
      go_meet
      case rel=>exact ⟨_,(true),(by first|rfl|(simp;done)|(simp [*];done)),H',⟨by have:=HJ2.out;first|omega|exact Nat.le_refl _⟩,⟨by (with_reducible repeat (first|apply Kd.S_alloc|apply Kd.S_drewN));exact HO273.out⟩,⟨by (with_reducible repeat first|refine blk_drewN ?_ _|refine blk_alloc ?_ _);exact BK265.out⟩,⟨by (with_reducible repeat first|refine blk_drewN ?_ _|refine blk_alloc ?_ _);exact BK268.out⟩,⟨by (with_reducible repeat first|refine blk_drewN ?_ _|refine blk_alloc ?_ _);exact BK274.out⟩,⟨by repeat (first|(with_reducible first|exact HB.out|apply below_alloc|apply pw_below_drewN|apply below_drew1|refine below_set ?_ GE265.out|refine below_set ?_ GE268.out|refine below_set ?_ GE274.out)|exact HB.out)⟩⟩
    case rest=>
     clear HC11
     (try clear c1);(try clear c2);(try clear p2);(try clear c3);(try clear c4);(try clear c4b0);(try clear c4b1);(try clear c5);(try clear c6);(try clear p6);(try clear c16);(try clear c20);(try clear c21);(try clear c24);(try clear c24b0);(try clear c24b1);(try clear c28);(try clear c29);(try clear c30);(try clear hcz14_0);(try clear hcz14_1);(try clear hcz14_2);(try clear hcz17_0);(try clear hcz17_1);(try clear hcz17_2);(try clear hcz22_0);(try clear hcz22_1);(try clear hfz14_0);(try clear hfz14_1);(try clear hfz14_2);(try clear hfz17_0);(try clear hfz17_1);(try clear hfz17_2);(try clear hfz22_0);(try clear hfz22_1);(try clear p2)
     obtain ⟨kq,x64_10,rfl,HA,HJ10,HO_275001,BK265,BK268,BK274,HB⟩:=hcut
     cases kq with
     | zero=>exact absurd HA.out (by simp [laws_FnJoined.j1])
     | succ kj10=>
      have H:=HA.out
      clear HA
      simp only [laws_FnJoined.j1] at H
      by_cases c31 : x64_10 = true
      ·subst c31
       have H1 : (some false) = some r:=by rw [if_pos rfl] at H;exact H
       clear H
       have H:=H1
       clear H1
       obtain rfl:=Option.some.inj H
       go_wp2
       go_ret
       exact ⟨by first|rfl|(simp [errW_none,errW_some] <;> rfl)|(simp [*,errW_none,errW_some] <;> rfl),by repeat (first|(with_reducible first|exact HB.out|apply below_alloc|apply pw_below_drewN|apply below_drew1|refine below_set ?_ GE265.out|refine below_set ?_ GE268.out|refine below_set ?_ GE274.out)|exact HB.out)⟩
      ·replace c31:=Bool.eq_false_iff.mpr c31
       subst c31
       have H1 : (laws_FnJoined.l0 kj10 l1 t264 (wrap64 (1 + (Int.tmod t269 7))) (t264.size : Int) (([] : List (S55))) 0 (wrap64 (1 + (Int.tmod t266 5))) (Int.tmod t267 4) 0 t270 t271) = some r:=by rw [if_neg (show ¬ (false = true) by decide)] at H;exact H
       clear H
       have H:=H1
       clear H1
       obtain ⟨y276,hy276⟩ : ∃ y_ : List (S55),y_ = (([] : List (S55))):=⟨_,rfl⟩
       replace H : (laws_FnJoined.l0 kj10 l1 t264 (wrap64 (1 + (Int.tmod t269 7))) (t264.size : Int) y276 0 (wrap64 (1 + (Int.tmod t266 5))) (Int.tmod t267 4) 0 t270 t271) = some r:=by first|(rw [hy276];with_reducible exact H)|(have H2_:=(Option.bind_some _ _).symm.trans H;rw [hy276];with_reducible exact H2_)|(have H2_:=(Option.bind_some _ _).symm.trans H;with_reducible exact H2_)|with_reducible exact H|(rw [hy276];exact H)|exact H
       have Ny276:=Aside0.mk hy276
       clear hy276
       have H':=Aside0.mk H
       clear H
       go_wp2_with (first|((with_reducible refine gate_dst (N:=65) rfl ?_);(try (refine gate_guard (by rfl) ?_;dsimp only));refine Kd.S_lit k55 _ 55 ?hg (N:=65) ?hd (xs:=([] : List (S55))) (inner:=[]) (ok:=fun _=>True) (okp:=fun _=>True) ?hr ?hp (fun _ hk=>hk) trivial (Below.refl _ _) (Nat.le_refl _) (by simp) ?_;(case hd=>rfl);(case hg=>rfl);(case hr=>first|(go_simp;done)|(go_simp;rfl));(case hp=>exact (Reps.none _ _));intro v277 w32 ho33 hb hg_ hnew_;clear hg_ hnew_;(first|rw [← Ny276.out] at ho33|(simp only [Int.reduceToNat] at ho33;rw [← Ny276.out] at ho33));have n0_:=Aside0.mk (Kd.S_below (by (with_reducible repeat (first|apply Kd.S_alloc|apply Kd.S_drewN));exact HO_275001.out) hb);have n1_:=Aside0.mk (Kd.S_lower ho33 (below_size (by repeat (first|(with_reducible first|exact HB.out|apply below_alloc|apply pw_below_drewN|apply below_drew1|refine below_set ?_ GE265.out|refine below_set ?_ GE268.out|refine below_set ?_ GE274.out)|exact HB.out))));have n2_:=Aside0.mk (blk_below (g:=gb265) (o:=.cells #[.int .i64 t260,.int .i64 t261,.int .i64 t262] 43 (0,0)) (by (with_reducible repeat first|refine blk_drewN ?_ _|refine blk_alloc ?_ _);exact BK265.out) hb);have n3_:=Aside0.mk (blk_below (g:=gb268) (o:=.cells #[.int .i64 (wrap64 (1 + (Int.tmod t266 5))),.int .i64 (Int.tmod t267 4),.int .i64 0] 43 (0,0)) (by (with_reducible repeat first|refine blk_drewN ?_ _|refine blk_alloc ?_ _);exact BK268.out) hb);have n4_:=Aside0.mk (blk_below (g:=gb274) (o:=.cells #[.int .i64 t270,.slice Ao23 t271.length co23] 49 (0,0)) (by (with_reducible repeat first|refine blk_drewN ?_ _|refine blk_alloc ?_ _);exact BK274.out) hb);have n5_:=Aside0.mk (below_step (by repeat (first|(with_reducible first|exact HB.out|apply below_alloc|apply pw_below_drewN|apply below_drew1|refine below_set ?_ GE265.out|refine below_set ?_ GE268.out|refine below_set ?_ GE274.out)|exact HB.out)) hb);clear HO_275001 BK265 BK268 BK274 HB;have HO_275001:=n0_;have HO278:=n1_;have BK265:=n2_;have BK268:=n3_;have BK274:=n4_;have HB:=n5_;clear n0_ n1_ n2_ n3_ n4_ n5_ hb ho33))
       go_loopg [12,13] kj10 (fun kq v12 v13 w'=>∃ (x12_3 : List (S55)) (x13_3 : Int),v13 = .int .i64 x13_3 ∧ Aside0 (laws_FnJoined.l0 kq l1 t264 (wrap64 (1 + (Int.tmod t269 7))) (t264.size : Int) x12_3 x13_3 (wrap64 (1 + (Int.tmod t266 5))) (Int.tmod t267 4) 0 t270 t271 = some r) ∧ Aside0 (kq ≤ kj10) ∧ Aside0 (Kd.S k55 55 w' w.heap.size (fun _=>True) v12 x12_3) ∧ Aside0 (Kd.S k58 58 w' w.heap.size (fun _=>True) (.slice Ao23 t271.length co23) t271) ∧ Aside0 (w'.heap[gb265]? = some (.cells #[.int .i64 t260,.int .i64 t261,.int .i64 t262] 43 (0,0))) ∧ Aside0 (w'.heap[gb268]? = some (.cells #[.int .i64 (wrap64 (1 + (Int.tmod t266 5))),.int .i64 (Int.tmod t267 4),.int .i64 0] 43 (0,0))) ∧ Aside0 (w'.heap[gb274]? = some (.cells #[.int .i64 t270,(.slice Ao23 t271.length co23)] 49 (0,0))) ∧ Aside0 (Below w.heap.size w w'))
       case atStart=>exact ⟨(y276),(0),(by first|rfl|(simp;done)|(simp [*];done)),H',⟨Nat.le_refl _⟩,⟨by (with_reducible repeat (first|apply Kd.S_alloc|apply Kd.S_drewN));exact HO278.out⟩,⟨by (with_reducible repeat (first|apply Kd.S_alloc|apply Kd.S_drewN));exact HO_275001.out⟩,⟨by (with_reducible repeat first|refine blk_drewN ?_ _|refine blk_alloc ?_ _);exact BK265.out⟩,⟨by (with_reducible repeat first|refine blk_drewN ?_ _|refine blk_alloc ?_ _);exact BK268.out⟩,⟨by (with_reducible repeat first|refine blk_drewN ?_ _|refine blk_alloc ?_ _);exact BK274.out⟩,⟨by repeat (first|(with_reducible first|exact HB.out|apply below_alloc|apply pw_below_drewN|apply below_drew1|refine below_set ?_ GE265.out|refine below_set ?_ GE268.out|refine below_set ?_ GE274.out)|exact HB.out)⟩⟩
       case round=>
        clear H'
        (try clear c1);(try clear c2);(try clear p2);(try clear c3);(try clear c4);(try clear c4b0);(try clear c4b1);(try clear c5);(try clear c6);(try clear p6);(try clear c16);(try clear c20);(try clear c21);(try clear c24);(try clear c24b0);(try clear c24b1);(try clear c28);(try clear c29);(try clear c30);(try clear c31);(try clear hcz14_0);(try clear hcz14_1);(try clear hcz14_2);(try clear hcz17_0);(try clear hcz17_1);(try clear hcz17_2);(try clear hcz22_0);(try clear hcz22_1);(try clear hfz14_0);(try clear hfz14_1);(try clear hfz14_2);(try clear hfz17_0);(try clear hfz17_1);(try clear hfz17_2);(try clear hfz22_0);(try clear hfz22_1);(try clear p2);(try clear p6)
        obtain ⟨x12_3,x13_3,rfl,HA,HK3,HO_12,HO_275001,BK265,BK268,BK274,HB⟩:=hrel
        cases gk with
        | zero=>exact absurd HA.out (by simp [laws_FnJoined.l0])
        | succ k3=>
         have H:=HA.out
         clear HA
         simp only [laws_FnJoined.l0] at H
         by_cases c34 : x13_3 < (t271.length : Int)
         ·rw [if_pos c34] at H
          have c34b0 : decide (x13_3 < (t271.length : Int)) = true:=decide_eq_true c34
          clear c34
          obtain ⟨y283,hy283⟩ : ∃ y_ : List Int,y_ = (([] : List Int)):=⟨_,rfl⟩
          replace H : (laws_FnJoined.l1 k3 l1 t264 (wrap64 (1 + (Int.tmod t269 7))) (t264.size : Int) x12_3 x13_3 y283 0 (wrap64 (1 + (Int.tmod t266 5))) (Int.tmod t267 4) 0 t270 t271) = some r:=by first|(rw [hy283];with_reducible exact H)|(have H2_:=(Option.bind_some _ _).symm.trans H;rw [hy283];with_reducible exact H2_)|(have H2_:=(Option.bind_some _ _).symm.trans H;with_reducible exact H2_)|with_reducible exact H|(rw [hy283];exact H)|exact H
          have Ny283:=Aside0.mk hy283
          clear hy283
          have H':=Aside0.mk H
          clear H
          have hnb35:=NB274_265.out
          have hnc35:=NB265_274.out
          have hnb36:=NB274_268.out
          have hnc36:=NB268_274.out
          have hcz37_0 : wr.cell? ⟨gb274,0,none⟩ = some (.int .i64 t270):=(blk_cell BK274.out 0).trans rfl
          have hcz37_1 : wr.cell? ⟨gb274,1,none⟩ = some (.slice Ao23 t271.length co23):=(blk_cell BK274.out 1).trans rfl
          have hfz37_0:=blk_frozen BK274.out 0
          have hfz37_1:=blk_frozen BK274.out 1
          go_wp2_with (first|((with_reducible refine gate_dst (N:=14) rfl ?_);(try (refine gate_guard (by rfl) ?_;dsimp only));refine box_event ?hg (N:=14) ?hd (cs:=#[.slice none 0 0]) (t:=55) ?hr ?_;(case hd=>rfl);(case hg=>rfl);(case hr=>first|(go_simp;done)|(go_simp;rfl));intro gb282 hg w38 hbox hb;have n0_:=Aside0.mk (Kd.S_below (Kd.S_elderB (by (with_reducible repeat (first|apply Kd.S_alloc|apply Kd.S_drewN));exact HO_12.out) gb282 (Nat.le_of_eq hg.symm)) hb);have n1_:=Aside0.mk (Kd.S_below (by (with_reducible repeat (first|apply Kd.S_alloc|apply Kd.S_drewN));exact HO_275001.out) hb);have n2_:=Aside0.mk (blk_below (g:=gb265) (o:=.cells #[.int .i64 t260,.int .i64 t261,.int .i64 t262] 43 (0,0)) (by (with_reducible repeat first|refine blk_drewN ?_ _|refine blk_alloc ?_ _);exact BK265.out) hb);have n3_:=Aside0.mk (blk_below (g:=gb268) (o:=.cells #[.int .i64 (wrap64 (1 + (Int.tmod t266 5))),.int .i64 (Int.tmod t267 4),.int .i64 0] 43 (0,0)) (by (with_reducible repeat first|refine blk_drewN ?_ _|refine blk_alloc ?_ _);exact BK268.out) hb);have n4_:=Aside0.mk (blk_below (g:=gb274) (o:=.cells #[.int .i64 t270,.slice Ao23 t271.length co23] 49 (0,0)) (by (with_reducible repeat first|refine blk_drewN ?_ _|refine blk_alloc ?_ _);exact BK274.out) hb);have n5_:=Aside0.mk (below_step (by repeat (first|(with_reducible first|exact HB.out|apply below_alloc|apply pw_below_drewN|apply below_drew1|refine below_set ?_ GE265.out|refine below_set ?_ GE268.out|refine below_set ?_ GE274.out)|exact HB.out)) hb);have n6_:=Aside0.mk (hbox);have n7_:=Aside0.mk ((by rw [hg];exact (below_size (by repeat (first|(with_reducible first|exact HB.out|apply below_alloc|apply pw_below_drewN|apply below_drew1|refine below_set ?_ GE265.out|refine below_set ?_ GE268.out|refine below_set ?_ GE274.out)|exact HB.out))) : w.heap.size ≤ gb282));have n8_:=Aside0.mk ((by rw [hg];exact (below_size (by repeat (first|(with_reducible first|exact HB.out|apply below_alloc|apply pw_below_drewN|apply below_drew1|refine below_set ?_ GE265.out|refine below_set ?_ GE268.out|refine below_set ?_ GE274.out)|exact HB.out))) : w.heap.size ≤ gb282));have n9_:=Aside0.mk ((by rw [hg];exact Nat.ne_of_lt (blk_lt (g:=gb265) (o:=.cells #[.int .i64 t260,.int .i64 t261,.int .i64 t262] 43 (0,0)) (by (with_reducible repeat first|refine blk_drewN ?_ _|refine blk_alloc ?_ _);exact BK265.out)) : gb265 ≠ gb282));have n10_:=Aside0.mk ((by rw [hg];exact Nat.ne_of_gt (blk_lt (g:=gb265) (o:=.cells #[.int .i64 t260,.int .i64 t261,.int .i64 t262] 43 (0,0)) (by (with_reducible repeat first|refine blk_drewN ?_ _|refine blk_alloc ?_ _);exact BK265.out)) : gb282 ≠ gb265));have n11_:=Aside0.mk ((by rw [hg];exact Nat.ne_of_lt (blk_lt (g:=gb268) (o:=.cells #[.int .i64 (wrap64 (1 + (Int.tmod t266 5))),.int .i64 (Int.tmod t267 4),.int .i64 0] 43 (0,0)) (by (with_reducible repeat first|refine blk_drewN ?_ _|refine blk_alloc ?_ _);exact BK268.out)) : gb268 ≠ gb282));have n12_:=Aside0.mk ((by rw [hg];exact Nat.ne_of_gt (blk_lt (g:=gb268) (o:=.cells #[.int .i64 (wrap64 (1 + (Int.tmod t266 5))),.int .i64 (Int.tmod t267 4),.int .i64 0] 43 (0,0)) (by (with_reducible repeat first|refine blk_drewN ?_ _|refine blk_alloc ?_ _);exact BK268.out)) : gb282 ≠ gb268));have n13_:=Aside0.mk ((by rw [hg];exact Nat.ne_of_lt (blk_lt (g:=gb274) (o:=.cells #[.int .i64 t270,.slice Ao23 t271.length co23] 49 (0,0)) (by (with_reducible repeat first|refine blk_drewN ?_ _|refine blk_alloc ?_ _);exact BK274.out)) : gb274 ≠ gb282));have n14_:=Aside0.mk ((by rw [hg];exact Nat.ne_of_gt (blk_lt (g:=gb274) (o:=.cells #[.int .i64 t270,.slice Ao23 t271.length co23] 49 (0,0)) (by (with_reducible repeat first|refine blk_drewN ?_ _|refine blk_alloc ?_ _);exact BK274.out)) : gb282 ≠ gb274));clear HO_12 HO_275001 BK265 BK268 BK274 HB;have HO_12:=n0_;have HO_275001:=n1_;have BK265:=n2_;have BK268:=n3_;have BK274:=n4_;have HB:=n5_;have BK282:=n6_;have GW282:=n7_;have GE282:=n8_;have NB265_282:=n9_;have NB282_265:=n10_;have NB268_282:=n11_;have NB282_268:=n12_;have NB274_282:=n13_;have NB282_274:=n14_;clear n0_ n1_ n2_ n3_ n4_ n5_ n6_ n7_ n8_ n9_ n10_ n11_ n12_ n13_ n14_ hb hbox hg;have hnb39:=NB282_265.out;have hnc39:=NB265_282.out;have hnb40:=NB282_268.out;have hnc40:=NB268_282.out;have hnb41:=NB282_274.out;have hnc41:=NB274_282.out;have hcz42_0 : w38.cell? ⟨gb282,0,none⟩ = some (.slice none 0 0):=(blk_cell BK282.out 0).trans rfl;have hfz42_0:=blk_frozen BK282.out 0)|((with_reducible refine gate_dst (N:=74) rfl ?_);(try (refine gate_guard (by rfl) ?_;dsimp only));refine Kd.R_lit (Kd.int .i64) _ 2 ?hg (N:=74) ?hd (xs:=([] : List Int)) (inner:=[]) (ok:=fun _=>True) (okp:=fun _=>True) ?hr ?hp (fun _ hk=>hk) trivial (Below.refl _ _) (Nat.le_refl _) (by simp) ?_;(case hd=>rfl);(case hg=>rfl);(case hr=>first|(go_simp;done)|(go_simp;rfl));(case hp=>exact (Reps.none _ _));intro v284 w43 ho44 hb hg_ hnew_;clear hg_ hnew_;(first|rw [← Ny283.out] at ho44|(simp only [Int.reduceToNat] at ho44;rw [← Ny283.out] at ho44));have n0_:=Aside0.mk (Kd.S_below (by (with_reducible repeat (first|apply Kd.S_alloc|apply Kd.S_drewN));exact (Kd.S_mono (Kd.S_far (p:=⟨gb282,0,none⟩) (Kd.S_mono HO_12.out (fun k_ hk=>(⟨hk,hk.2⟩ : _ ∧ k_ ≠ gb282))) (fun _ hk=>hk.2) (.slice none 0 0)) (fun _ h_=>h_.1))) hb);have n1_:=Aside0.mk (Kd.S_below (by (with_reducible repeat (first|apply Kd.S_alloc|apply Kd.S_drewN));exact (Kd.S_mono (Kd.S_far (p:=⟨gb282,0,none⟩) (Kd.S_types HO_275001.out BK282.out (by decide)) (fun _ hk=>hk.2) (.slice none 0 0)) (fun _ h_=>h_.1))) hb);have n2_:=Aside0.mk (Kd.R_lower ho44 (below_size (by repeat (first|(with_reducible first|exact HB.out|apply below_alloc|apply pw_below_drewN|apply below_drew1|refine below_set ?_ GE265.out|refine below_set ?_ GE268.out|refine below_set ?_ GE274.out|refine below_set ?_ GE282.out)|exact HB.out))));have n3_:=Aside0.mk (blk_below (g:=gb265) (o:=.cells #[.int .i64 t260,.int .i64 t261,.int .i64 t262] 43 (0,0)) (by (with_reducible repeat first|refine blk_drewN ?_ _|refine blk_alloc ?_ _);refine blk_far ?_ NB265_282.out _;(with_reducible repeat first|refine blk_drewN ?_ _|refine blk_alloc ?_ _);exact BK265.out) hb);have n4_:=Aside0.mk (blk_below (g:=gb268) (o:=.cells #[.int .i64 (wrap64 (1 + (Int.tmod t266 5))),.int .i64 (Int.tmod t267 4),.int .i64 0] 43 (0,0)) (by (with_reducible repeat first|refine blk_drewN ?_ _|refine blk_alloc ?_ _);refine blk_far ?_ NB268_282.out _;(with_reducible repeat first|refine blk_drewN ?_ _|refine blk_alloc ?_ _);exact BK268.out) hb);have n5_:=Aside0.mk (blk_below (g:=gb274) (o:=.cells #[.int .i64 t270,.slice Ao23 t271.length co23] 49 (0,0)) (by (with_reducible repeat first|refine blk_drewN ?_ _|refine blk_alloc ?_ _);refine blk_far ?_ NB274_282.out _;(with_reducible repeat first|refine blk_drewN ?_ _|refine blk_alloc ?_ _);exact BK274.out) hb);have n6_:=Aside0.mk (blk_below (g:=gb282) (o:=.cells #[.slice none 0 0] 55 (0,0)) (by (with_reducible repeat first|refine blk_drewN ?_ _|refine blk_alloc ?_ _);refine blk_put (cs:=#[.slice none 0 0]) ?_ 0 _ rfl;(with_reducible repeat first|refine blk_drewN ?_ _|refine blk_alloc ?_ _);exact BK282.out) hb);have n7_:=Aside0.mk (below_step (by repeat (first|(with_reducible first|exact HB.out|apply below_alloc|apply pw_below_drewN|apply below_drew1|refine below_set ?_ GE265.out|refine below_set ?_ GE268.out|refine below_set ?_ GE274.out|refine below_set ?_ GE282.out)|exact HB.out)) hb);clear HO_12 HO_275001 BK265 BK268 BK274 BK282 HB;have HO_12:=n0_;have HO_275001:=n1_;have HO285:=n2_;have BK265:=n3_;have BK268:=n4_;have BK274:=n5_;have BK282:=n6_;have HB:=n7_;clear n0_ n1_ n2_ n3_ n4_ n5_ n6_ n7_ hb ho44))
          go_loopg [15,16] k3 (fun kq v15 v16 w'=>∃ (x15_4 : List Int) (x16_4 : Int),v16 = .int .i64 x16_4 ∧ Aside0 (laws_FnJoined.l1 kq l1 t264 (wrap64 (1 + (Int.tmod t269 7))) (t264.size : Int) x12_3 x13_3 x15_4 x16_4 (wrap64 (1 + (Int.tmod t266 5))) (Int.tmod t267 4) 0 t270 t271 = some r) ∧ Aside0 (kq ≤ k3) ∧ Aside0 (Kd.S k55 55 w' w.heap.size (fun k_=>k_ ≠ gb282) u12 x12_3) ∧ Aside0 (Kd.R (Kd.int .i64) 2 w' w.heap.size (fun _=>True) v15 x15_4) ∧ Aside0 (Kd.S k58 58 w' w.heap.size (fun _=>True) (.slice Ao23 t271.length co23) t271) ∧ Aside0 (w'.heap[gb265]? = some (.cells #[.int .i64 t260,.int .i64 t261,.int .i64 t262] 43 (0,0))) ∧ Aside0 (w'.heap[gb268]? = some (.cells #[.int .i64 (wrap64 (1 + (Int.tmod t266 5))),.int .i64 (Int.tmod t267 4),.int .i64 0] 43 (0,0))) ∧ Aside0 (w'.heap[gb274]? = some (.cells #[.int .i64 t270,(.slice Ao23 t271.length co23)] 49 (0,0))) ∧ Aside0 (w'.heap[gb282]? = some (.cells #[(.slice none 0 0)] 55 (0,0))) ∧ Aside0 (Below w.heap.size w w'))
          case atStart=>exact ⟨(y283),(0),(by first|rfl|(simp;done)|(simp [*];done)),H',⟨Nat.le_refl _⟩,⟨by (with_reducible repeat (first|apply Kd.S_alloc|apply Kd.S_drewN));exact Kd.S_mono HO_12.out (fun _ hk=>hk.2)⟩,⟨by (with_reducible repeat (first|apply Kd.R_alloc|apply Kd.R_drewN));exact HO285.out⟩,⟨by (with_reducible repeat (first|apply Kd.S_alloc|apply Kd.S_drewN));exact HO_275001.out⟩,⟨by (with_reducible repeat first|refine blk_drewN ?_ _|refine blk_alloc ?_ _);exact BK265.out⟩,⟨by (with_reducible repeat first|refine blk_drewN ?_ _|refine blk_alloc ?_ _);exact BK268.out⟩,⟨by (with_reducible repeat first|refine blk_drewN ?_ _|refine blk_alloc ?_ _);exact BK274.out⟩,⟨by (with_reducible repeat first|refine blk_drewN ?_ _|refine blk_alloc ?_ _);exact BK282.out⟩,⟨by repeat (first|(with_reducible first|exact HB.out|apply below_alloc|apply pw_below_drewN|apply below_drew1|refine below_set ?_ GE265.out|refine below_set ?_ GE268.out|refine below_set ?_ GE274.out|refine below_set ?_ GE282.out)|exact HB.out)⟩⟩
          case round=>
           clear H'
           (try clear c1);(try clear c2);(try clear p2);(try clear c3);(try clear c4);(try clear c4b0);(try clear c4b1);(try clear c5);(try clear c6);(try clear p6);(try clear c16);(try clear c20);(try clear c21);(try clear c24);(try clear c24b0);(try clear c24b1);(try clear c28);(try clear c29);(try clear c30);(try clear c31);(try clear c34);(try clear c34b0);(try clear c35);(try clear c36);(try clear c39);(try clear c40);(try clear c41);(try clear hcz14_0);(try clear hcz14_1);(try clear hcz14_2);(try clear hcz17_0);(try clear hcz17_1);(try clear hcz17_2);(try clear hcz22_0);(try clear hcz22_1);(try clear hcz37_0);(try clear hcz37_1);(try clear hcz42_0);(try clear hfz14_0);(try clear hfz14_1);(try clear hfz14_2);(try clear hfz17_0);(try clear hfz17_1);(try clear hfz17_2);(try clear hfz22_0);(try clear hfz22_1);(try clear hfz37_0);(try clear hfz37_1);(try clear hfz42_0);(try clear p2);(try clear p6)
           obtain ⟨x15_4,x16_4,rfl,HA,HK4,HO_12,HO_15,HO_275001,BK265,BK268,BK274,BK282,HB⟩:=hrel
           cases gk with
           | zero=>exact absurd HA.out (by simp [laws_FnJoined.l1])
           | succ k4=>
            have H:=HA.out
            clear HA
            simp only [laws_FnJoined.l1] at H
            by_cases c45 : x16_4 < (Int.tmod t267 4)
            ·rw [if_pos c45] at H
             have c45b0 : decide (x16_4 < (Int.tmod t267 4)) = true:=decide_eq_true c45
             clear c45
             replace H:=Option.bind_eq_some_iff.mp H
             obtain ⟨t286,A460,H⟩:=H
             replace H : (if (wrap64 ((wrap64 (1 + (Int.tmod t266 5))) + (Int.tmod t267 4))) = 0 then (none) else (if x15_4.length < 17592186044416 then (laws_FnJoined.l1 k4 l1 t264 (wrap64 (1 + (Int.tmod t269 7))) (t264.size : Int) x12_3 x13_3 (x15_4 ++ [Int.tmod t286 (wrap64 ((wrap64 (1 + (Int.tmod t266 5))) + (Int.tmod t267 4)))]) (wrap64 (x16_4 + 1)) (wrap64 (1 + (Int.tmod t266 5))) (Int.tmod t267 4) 0 t270 t271) else (none))) = some r:=H
             have A46:=Aside0.mk A460
             clear A460
             by_cases c47 : (wrap64 ((wrap64 (1 + (Int.tmod t266 5))) + (Int.tmod t267 4))) = 0
             ·rw [if_pos c47] at H
              exact absurd H (by simp)
             ·rw [if_neg c47] at H
              have c47b0 : ((wrap64 ((wrap64 (1 + (Int.tmod t266 5))) + (Int.tmod t267 4))) == 0) = false:=beq_eq_false_iff_ne.mpr c47
              have c47b1 : ((wrap64 ((wrap64 (1 + (Int.tmod t266 5))) + (Int.tmod t267 4))) != 0) = true:=bne_iff_ne.mpr c47
              by_cases c48 : x15_4.length < 17592186044416
              ·rw [if_pos c48] at H
               have LMc48:=Aside0.mk c48
               clear c48
               obtain ⟨y287,hy287⟩ : ∃ y_ : List Int,y_ = (x15_4 ++ [Int.tmod t286 (wrap64 ((wrap64 (1 + (Int.tmod t266 5))) + (Int.tmod t267 4)))]):=⟨_,rfl⟩
               replace H : (laws_FnJoined.l1 k4 l1 t264 (wrap64 (1 + (Int.tmod t269 7))) (t264.size : Int) x12_3 x13_3 y287 (wrap64 (x16_4 + 1)) (wrap64 (1 + (Int.tmod t266 5))) (Int.tmod t267 4) 0 t270 t271) = some r:=by first|(rw [hy287];with_reducible exact H)|(have H2_:=(Option.bind_some _ _).symm.trans H;rw [hy287];with_reducible exact H2_)|(have H2_:=(Option.bind_some _ _).symm.trans H;with_reducible exact H2_)|with_reducible exact H|(rw [hy287];exact H)|exact H
               have Ny287:=Aside0.mk hy287
               clear hy287
               have H':=Aside0.mk H
               clear H
               have hnb49:=NB268_265.out
               have hnc49:=NB265_268.out
               have hnb50:=NB268_274.out
               have hnc50:=NB274_268.out
               have hnb51:=NB268_282.out
               have hnc51:=NB282_268.out
               have hcz52_0 : wr.cell? ⟨gb268,0,none⟩ = some (.int .i64 (wrap64 (1 + (Int.tmod t266 5)))):=(blk_cell BK268.out 0).trans rfl
               have hcz52_1 : wr.cell? ⟨gb268,1,none⟩ = some (.int .i64 (Int.tmod t267 4)):=(blk_cell BK268.out 1).trans rfl
               have hcz52_2 : wr.cell? ⟨gb268,2,none⟩ = some (.int .i64 0):=(blk_cell BK268.out 2).trans rfl
               have hfz52_0:=blk_frozen BK268.out 0
               have hfz52_1:=blk_frozen BK268.out 1
               have hfz52_2:=blk_frozen BK268.out 2
               try go_wp2
               have n0_:=Aside0.mk (Kd.S_drew HO_12.out)
               have n1_:=Aside0.mk (Kd.R_drew HO_15.out)
               have n2_:=Aside0.mk (Kd.S_drew HO_275001.out)
               have n3_:=Aside0.mk (blk_drew BK265.out)
               have n4_:=Aside0.mk (blk_drew BK268.out)
               have n5_:=Aside0.mk (blk_drew BK274.out)
               have n6_:=Aside0.mk (blk_drew BK282.out)
               have n7_:=Aside0.mk (below_drew1 HB.out)
               clear HO_12 HO_15 HO_275001 BK265 BK268 BK274 BK282 HB
               have HO_12:=n0_
               have HO_15:=n1_
               have HO_275001:=n2_
               have BK265:=n3_
               have BK268:=n4_
               have BK274:=n5_
               have BK282:=n6_
               have HB:=n7_
               clear n0_ n1_ n2_ n3_ n4_ n5_ n6_ n7_
               refine start_ (n:=17) (S:=fun w'=>w'.cell? ⟨gb268,0,none⟩ = some (.int .i64 (wrap64 (1 + (Int.tmod t266 5)))) ∧ w'.cell? ⟨gb268,1,none⟩ = some (.int .i64 (Int.tmod t267 4)) ∧ w'.cell? ⟨gb268,2,none⟩ = some (.int .i64 0)) (ds:=[]) #[false,false,false,false,false,false,false,false,false,false,false,false,false,false,false,false,false] (by kernel_rfl) rfl rfl ⟨(blk_cell BK268.out 0).trans rfl,(blk_cell BK268.out 1).trans rfl,(blk_cell BK268.out 2).trans rfl⟩ (fun hHeld=>?_);refine with_tabW laws_FnJoined.tab19 laws_FnJoined.bits19 (fun HT_ HW_=>?_)
               generalize wr.drew = w53 at HO_12 HO_15 HO_275001 BK265 BK268 BK274 BK282 HB hHeld ⊢
               refine pure_ (i:=0) (N:=some 81) (v:=?_) (a':=?_) #[true,false,false,false,false,false,false,false,false,false,false,false,false,false,false,false,false] rfl rfl (any_of HT_.out (by kernel_rfl)) (fun _ _ _ h=>h) (Or.inl ⟨by rfl,?_⟩) ?_ ?_
               rotate_left
               ·intro w'
                go_simp
                with_reducible rfl
               rotate_left
               ·simp only [Act.put,List.setIfInBounds_toArray,List.set_cons_zero,List.set_cons_succ,i64_w,i32_w]
                rfl
               refine pure_ (i:=1) (N:=some 82) (v:=?_) (a':=?_) #[true,true,false,false,false,false,false,false,false,false,false,false,false,false,false,false,false] rfl rfl (any_of HT_.out (by kernel_rfl)) (fun _ _ _ h=>h) (Or.inl ⟨by rfl,?_⟩) ?_ ?_
               rotate_left
               ·intro w'
                go_simp
                with_reducible rfl
               rotate_left
               ·simp only [Act.put,List.setIfInBounds_toArray,List.set_cons_zero,List.set_cons_succ,i64_w,i32_w]
                rfl
               refine pure_ (i:=2) (N:=some 83) (v:=?_) (a':=?_) #[true,true,true,false,false,false,false,false,false,false,false,false,false,false,false,false,false] rfl rfl (any_of HT_.out (by kernel_rfl)) (fun _ _ _ h=>h) (Or.inl ⟨by rfl,?_⟩) ?_ ?_
               rotate_left
               ·intro w'
                go_simp
                with_reducible rfl
               rotate_left
               ·simp only [Act.put,List.setIfInBounds_toArray,List.set_cons_zero,List.set_cons_succ,i64_w,i32_w]
                rfl
               refine pure_ (i:=3) (N:=some 84) (v:=?_) (a':=?_) #[true,true,true,true,false,false,false,false,false,false,false,false,false,false,false,false,false] rfl rfl (any_of HT_.out (by kernel_rfl)) (fun _ _ _ h=>h) (Or.inl ⟨by rfl,?_⟩) ?_ ?_
               rotate_left
               ·intro w'
                go_simp
                with_reducible rfl
               rotate_left
               ·simp only [Act.put,List.setIfInBounds_toArray,List.set_cons_zero,List.set_cons_succ,i64_w,i32_w]
                rfl
               refine pure_ (i:=4) (N:=some 85) (v:=?_) (a':=?_) #[true,true,true,true,true,false,false,false,false,false,false,false,false,false,false,false,false] rfl rfl (any_of HT_.out (by kernel_rfl)) (fun _ _ _ h=>h) (Or.inl ⟨by rfl,?_⟩) ?_ ?_
               rotate_left
               ·intro w'
                go_simp
                with_reducible rfl
               rotate_left
               ·simp only [Act.put,List.setIfInBounds_toArray,List.set_cons_zero,List.set_cons_succ,i64_w,i32_w]
                rfl
               refine pure_ (i:=5) (N:=some 86) (v:=?_) (a':=?_) #[true,true,true,true,true,true,false,false,false,false,false,false,false,false,false,false,false] rfl rfl (any_of HT_.out (by kernel_rfl)) (fun _ _ _ h=>h) (Or.inl ⟨by rfl,?_⟩) ?_ ?_
               rotate_left
               ·intro w'
                go_simp
                with_reducible rfl
               rotate_left
               ·simp only [Act.put,List.setIfInBounds_toArray,List.set_cons_zero,List.set_cons_succ,i64_w,i32_w]
                rfl
               refine pure_ (i:=6) (N:=some 87) (v:=?_) (a':=?_) #[true,true,true,true,true,true,true,false,false,false,false,false,false,false,false,false,false] rfl rfl (any_of HT_.out (by kernel_rfl)) (fun _ _ _ h=>h) (Or.inl ⟨by rfl,?_⟩) ?_ ?_
               rotate_left
               ·intro w'
                go_simp
                with_reducible rfl
               rotate_left
               ·simp only [Act.put,List.setIfInBounds_toArray,List.set_cons_zero,List.set_cons_succ,i64_w,i32_w]
                rfl
               refine pure_ (i:=8) (N:=some 89) (v:=?_) (a':=?_) #[true,true,true,true,true,true,true,false,true,false,false,false,false,false,false,false,false] rfl rfl (any_of HT_.out (by kernel_rfl)) (fun _ _ _ h=>h) (Or.inl ⟨by rfl,?_⟩) ?_ ?_
               rotate_left
               ·intro w'
                go_simp
                with_reducible rfl
               rotate_left
               ·simp only [Act.put,List.setIfInBounds_toArray,List.set_cons_zero,List.set_cons_succ,i64_w,i32_w]
                rfl
               refine pure_ (i:=10) (N:=some 91) (v:=?_) (a':=?_) #[true,true,true,true,true,true,true,false,true,false,true,false,false,false,false,false,false] rfl rfl (any_of HT_.out (by kernel_rfl)) (fun _ _ _ h=>h) (Or.inl ⟨by rfl,?_⟩) ?_ ?_
               rotate_left
               ·intro w'
                go_simp
                with_reducible rfl
               rotate_left
               ·simp only [Act.put,List.setIfInBounds_toArray,List.set_cons_zero,List.set_cons_succ,i64_w,i32_w]
                rfl
               refine take_ (i:=9) (N:=some 90) (v:=?_) (a':=?_) #[true,true,true,true,true,true,true,false,true,true,true,false,false,false,false,false,false] rfl rfl (take_ofW HT_.out HW_.out (by kernel_rfl)) (fun _ _ _ h=>h) (Or.inl ⟨by rfl,?_⟩) hHeld ?_ ?_
               rotate_left
               ·rintro w' ⟨s0,s1,s2⟩
                go_simp
                with_reducible rfl
               rotate_left
               ·simp only [Act.put,List.setIfInBounds_toArray,List.set_cons_zero,List.set_cons_succ,i64_w,i32_w]
                rfl
               refine take_ (i:=11) (N:=some 92) (v:=?_) (a':=?_) #[true,true,true,true,true,true,true,false,true,true,true,true,false,false,false,false,false] rfl rfl (take_ofW HT_.out HW_.out (by kernel_rfl)) (fun _ _ _ h=>h) (Or.inl ⟨by rfl,?_⟩) hHeld ?_ ?_
               rotate_left
               ·rintro w' ⟨s0,s1,s2⟩
                go_simp
                with_reducible rfl
               rotate_left
               ·simp only [Act.put,List.setIfInBounds_toArray,List.set_cons_zero,List.set_cons_succ,i64_w,i32_w]
                rfl
               refine pure_ (i:=12) (N:=some 93) (v:=?_) (a':=?_) #[true,true,true,true,true,true,true,false,true,true,true,true,true,false,false,false,false] rfl rfl (any_of HT_.out (by kernel_rfl)) (fun _ _ _ h=>h) (Or.inl ⟨by rfl,?_⟩) ?_ ?_
               rotate_left
               ·intro w'
                go_simp
                with_reducible rfl
               rotate_left
               ·simp only [Act.put,List.setIfInBounds_toArray,List.set_cons_zero,List.set_cons_succ,i64_w,i32_w]
                rfl
               refine one_ (i:=7) (N:=some 88) #[true,true,true,true,true,true,true,true,true,true,true,true,true,false,false,false,false] rfl rfl (one_of HT_.out (by kernel_rfl)) (by decide) (fun K hK=>?_)
               refine goes_ Try.func29 (by kernel_rfl) rfl #[.slice A1 l1.length c1,.int .i64 (wrap64 ((wrap64 (3 + (wrap64 (x13_3 * 4)))) + x16_4))] (by rfl) rfl rfl (by (try simp only [List.map_toArray,List.map_cons,List.map_nil]);first|done|rfl) ?_
               with_reducible refine (laws_lwAt.calls _ _ l1 (wrap64 ((wrap64 (3 + (wrap64 (x13_3 * 4)))) + x16_4)) t286 _ ?side1 ?side2 A46.out).mono ?_
               (case side1=>repeat (first|exact (Kd.C_below HR1.out HB.out)|(with_reducible refine Kd.C_alloc ?_ _)|(with_reducible refine Kd.C_drewN ?_ _)|(with_reducible refine Kd.C_drew ?_)))
               (case side2=>exact HC1.out)
               rintro e w' ⟨rfl,⟨nd,rfl⟩⟩
               refine ⟨_,rfl,?_⟩
               refine hK.out _ _ ⟨(blk_cell BK268.out 0).trans rfl,(blk_cell BK268.out 1).trans rfl,(blk_cell BK268.out 2).trans rfl⟩ (fun hHeld=>?_)
               clear hK K
               refine norm_ (a':=?_) ?_ ?_
               rotate_left
               ·show Act.put _ (some 88) _ = _
                simp only [Act.put,List.setIfInBounds_toArray,List.set_cons_zero,List.set_cons_succ,i64_w,i32_w]
                rfl
               refine pure_ (i:=13) (N:=some 94) (v:=?_) (a':=?_) #[true,true,true,true,true,true,true,true,true,true,true,true,true,true,false,false,false] rfl rfl (any_of HT_.out (by kernel_rfl)) (fun _ _ _ h=>h) (Or.inl ⟨by rfl,?_⟩) ?_ ?_
               rotate_left
               ·intro w'
                go_simp
                with_reducible rfl
               rotate_left
               ·simp only [Act.put,List.setIfInBounds_toArray,List.set_cons_zero,List.set_cons_succ,i64_w,i32_w]
                rfl
               refine one_ (i:=14) (N:=some 95) #[true,true,true,true,true,true,true,true,true,true,true,true,true,true,true,false,false] rfl rfl (one_of HT_.out (by kernel_rfl)) (by decide) (fun K hK=>?_)
               refine value_ (w1:=?_) (v:=?_) (by rfl) rfl ?_ ?_
               rotate_left 2
               ·go_simp
                constructor
                ·rfl
                ·rfl
               refine hK.out _ _ ⟨(blk_cell (blk_alloc BK268.out _) 0).trans rfl,(blk_cell (blk_alloc BK268.out _) 1).trans rfl,(blk_cell (blk_alloc BK268.out _) 2).trans rfl⟩ (fun hHeld=>?_)
               clear hK K
               refine norm_ (a':=?_) ?_ ?_
               rotate_left
               ·show Act.put _ (some 95) _ = _
                simp only [Act.put,List.setIfInBounds_toArray,List.set_cons_zero,List.set_cons_succ,i64_w,i32_w]
                rfl
               refine one_ (i:=15) (N:=some 96) #[true,true,true,true,true,true,true,true,true,true,true,true,true,true,true,true,false] rfl rfl (one_of HT_.out (by kernel_rfl)) (by decide) (fun K hK=>?_)
               refine Kd.R_append_step (Kd.int .i64) (w0:=w) w.heap.size (by rfl) (.tmp 81) (.tmp 95) 22 2 (.int .i64 0) 8 rfl Try.underlying22 info2 rfl (by decide) (by omega) u15 x15_4 (Int.tmod t286 (wrap64 ((wrap64 (1 + (Int.tmod t266 5))) + (Int.tmod t267 4)))) [.int .i64 (Int.tmod t286 (wrap64 ((wrap64 (1 + (Int.tmod t266 5))) + (Int.tmod t267 4))))] (fun _=>True) (fun _=>False) rfl rfl ?aP (fun _ hk=>hk.elim) ?aF ?aO ?aB ?aS ?aL ?_
               (case aP=>exact rfl)
               (case aB=>exact (by repeat (first|(with_reducible first|exact HB.out|apply below_alloc|apply pw_below_drewN|apply below_drew1|refine below_set ?_ GE265.out|refine below_set ?_ GE268.out|refine below_set ?_ GE274.out|refine below_set ?_ GE282.out)|exact HB.out)))
               (case aF=>exact (fun _ _=>trivial))
               (case aO=>exact (by (with_reducible repeat (first|apply Kd.R_alloc|apply Kd.R_drewN));exact HO_15.out))
               (case aS=>exact (below_size (by repeat (first|(with_reducible first|exact HB.out|apply below_alloc|apply pw_below_drewN|apply below_drew1|refine below_set ?_ GE265.out|refine below_set ?_ GE268.out|refine below_set ?_ GE274.out|refine below_set ?_ GE282.out)|exact HB.out))))
               (case aL=>have:=LMc48.out;omega)
               intro v288 w54 ho hb hg hat
               rw [← Ny287.out] at ho
               have n0_:=Aside0.mk (Kd.S_over' (by (with_reducible repeat (first|apply Kd.S_alloc|apply Kd.S_drewN));exact HO_12.out) (Kd.R_typed (by (with_reducible repeat (first|apply Kd.R_alloc|apply Kd.R_drewN));exact HO_15.out)) (by decide) hg)
               have n1_:=Aside0.mk (Kd.S_over' (by (with_reducible repeat (first|apply Kd.S_alloc|apply Kd.S_drewN));exact HO_275001.out) (Kd.R_typed (by (with_reducible repeat (first|apply Kd.R_alloc|apply Kd.R_drewN));exact HO_15.out)) (by decide) hg)
               have n2_:=Aside0.mk (blk_grown (g:=gb265) (o:=.cells #[.int .i64 t260,.int .i64 t261,.int .i64 t262] 43 (0,0)) (by (with_reducible repeat first|refine blk_drewN ?_ _|refine blk_alloc ?_ _);exact BK265.out) hg (Kd.R_ne HO_15.out BK265.out (by decide)))
               have n3_:=Aside0.mk (blk_grown (g:=gb268) (o:=.cells #[.int .i64 (wrap64 (1 + (Int.tmod t266 5))),.int .i64 (Int.tmod t267 4),.int .i64 0] 43 (0,0)) (by (with_reducible repeat first|refine blk_drewN ?_ _|refine blk_alloc ?_ _);exact BK268.out) hg (Kd.R_ne HO_15.out BK268.out (by decide)))
               have n4_:=Aside0.mk (blk_grown (g:=gb274) (o:=.cells #[.int .i64 t270,.slice Ao23 t271.length co23] 49 (0,0)) (by (with_reducible repeat first|refine blk_drewN ?_ _|refine blk_alloc ?_ _);exact BK274.out) hg (Kd.R_ne HO_15.out BK274.out (by decide)))
               have n5_:=Aside0.mk (blk_grown (g:=gb282) (o:=.cells #[.slice none 0 0] 55 (0,0)) (by (with_reducible repeat first|refine blk_drewN ?_ _|refine blk_alloc ?_ _);exact BK282.out) hg (Kd.R_ne HO_15.out BK282.out (by decide)))
               have n6_:=Aside0.mk (hb)
               have n7_:=Aside0.mk (ho)
               clear HO_12 HO_275001 BK265 BK268 BK274 BK282 HB HO_15
               have HO_12:=n0_
               have HO_275001:=n1_
               have BK265:=n2_
               have BK268:=n3_
               have BK274:=n4_
               have BK282:=n5_
               have HB:=n6_
               have HO289:=n7_
               clear n0_ n1_ n2_ n3_ n4_ n5_ n6_ n7_ ho hb hg hat
               refine hK.out _ _ ⟨(blk_cell BK268.out 0).trans rfl,(blk_cell BK268.out 1).trans rfl,(blk_cell BK268.out 2).trans rfl⟩ (fun hHeld=>?_)
               clear hK K
               refine norm_ (a':=?_) ?_ ?_
               rotate_left
               ·show Act.put _ (some 96) _ = _
                simp only [Act.put,List.setIfInBounds_toArray,List.set_cons_zero,List.set_cons_succ,i64_w,i32_w]
                rfl
               refine pure_ (i:=16) (N:=some 15) (v:=?_) (a':=?_) #[true,true,true,true,true,true,true,true,true,true,true,true,true,true,true,true,true] rfl rfl (any_of HT_.out (by kernel_rfl)) (fun _ _ _ h=>h) (Or.inl ⟨by rfl,?_⟩) ?_ ?_
               rotate_left
               ·intro w'
                go_simp
                with_reducible rfl
               rotate_left
               ·simp only [Act.put,List.setIfInBounds_toArray,List.set_cons_zero,List.set_cons_succ,i64_w,i32_w]
                rfl
               refine done_ (done_of HT_.out (by kernel_rfl)) ?_
               try go_wp2
               go_roundg k4
               case measure=>have:=HJ2.out;have:=HJ10.out;have:=HK3.out;have:=HK4.out;omega
               case rel=>exact ⟨(y287),(wrap64 (x16_4 + 1)),(by first|rfl|(simp;done)|(simp [*];done)),H',⟨by have:=HJ2.out;have:=HJ10.out;have:=HK3.out;have:=HK4.out;omega⟩,⟨by (with_reducible repeat (first|apply Kd.S_alloc|apply Kd.S_drewN));exact HO_12.out⟩,⟨by (with_reducible repeat (first|apply Kd.R_alloc|apply Kd.R_drewN));exact HO289.out⟩,⟨by (with_reducible repeat (first|apply Kd.S_alloc|apply Kd.S_drewN));exact HO_275001.out⟩,⟨by (with_reducible repeat first|refine blk_drewN ?_ _|refine blk_alloc ?_ _);exact BK265.out⟩,⟨by (with_reducible repeat first|refine blk_drewN ?_ _|refine blk_alloc ?_ _);exact BK268.out⟩,⟨by (with_reducible repeat first|refine blk_drewN ?_ _|refine blk_alloc ?_ _);exact BK274.out⟩,⟨by (with_reducible repeat first|refine blk_drewN ?_ _|refine blk_alloc ?_ _);exact BK282.out⟩,⟨by repeat (first|(with_reducible first|exact HB.out|apply below_alloc|apply pw_below_drewN|apply below_drew1|refine below_set ?_ GE265.out|refine below_set ?_ GE268.out|refine below_set ?_ GE274.out|refine below_set ?_ GE282.out)|exact HB.out)⟩⟩
              ·rw [if_neg c48] at H
               exact absurd H (by simp)
            ·rw [if_neg c45] at H
             have c45b0 : decide (x16_4 < (Int.tmod t267 4)) = false:=decide_eq_false c45
             clear c45
             by_cases c55 : 0 ≤ x13_3
             ·rw [if_pos c55] at H
              have c55b0 : decide (0 ≤ x13_3) = true:=decide_eq_true c55
              clear c55
              by_cases c56 : x13_3 < (t271.length : Int)
              ·rw [if_pos c56] at H
               have c56b0 : decide (x13_3 < (t271.length : Int)) = true:=decide_eq_true c56
               clear c56
               by_cases c57 : (((rd_T58 t271 x13_3).f0).length : Int) = (wrap64 ((wrap64 (1 + (Int.tmod t266 5))) + (Int.tmod t267 4)))
               ·rw [if_pos c57] at H
                have c57b0 : ((((rd_T58 t271 x13_3).f0).length : Int) == (wrap64 ((wrap64 (1 + (Int.tmod t266 5))) + (Int.tmod t267 4)))) = true:=beq_iff_eq.mpr c57
                have c57b1 : ((((rd_T58 t271 x13_3).f0).length : Int) != (wrap64 ((wrap64 (1 + (Int.tmod t266 5))) + (Int.tmod t267 4)))) = false:=bne_eq_false_iff_eq.mpr c57
                clear c57
                have H':=Aside0.mk H
                clear H
                have hnb58:=NB268_265.out
                have hnc58:=NB265_268.out
                have hnb59:=NB268_274.out
                have hnc59:=NB274_268.out
                have hnb60:=NB268_282.out
                have hnc60:=NB282_268.out
                have hcz61_0 : wr.cell? ⟨gb268,0,none⟩ = some (.int .i64 (wrap64 (1 + (Int.tmod t266 5)))):=(blk_cell BK268.out 0).trans rfl
                have hcz61_1 : wr.cell? ⟨gb268,1,none⟩ = some (.int .i64 (Int.tmod t267 4)):=(blk_cell BK268.out 1).trans rfl
                have hcz61_2 : wr.cell? ⟨gb268,2,none⟩ = some (.int .i64 0):=(blk_cell BK268.out 2).trans rfl
                have hfz61_0:=blk_frozen BK268.out 0
                have hfz61_1:=blk_frozen BK268.out 1
                have hfz61_2:=blk_frozen BK268.out 2
                try go_wp2
                have n0_:=Aside0.mk (Kd.S_drew HO_12.out)
                have n1_:=Aside0.mk (Kd.R_drew HO_15.out)
                have n2_:=Aside0.mk (Kd.S_drew HO_275001.out)
                have n3_:=Aside0.mk (blk_drew BK265.out)
                have n4_:=Aside0.mk (blk_drew BK268.out)
                have n5_:=Aside0.mk (blk_drew BK274.out)
                have n6_:=Aside0.mk (blk_drew BK282.out)
                have n7_:=Aside0.mk (below_drew1 HB.out)
                clear HO_12 HO_15 HO_275001 BK265 BK268 BK274 BK282 HB
                have HO_12:=n0_
                have HO_15:=n1_
                have HO_275001:=n2_
                have BK265:=n3_
                have BK268:=n4_
                have BK274:=n5_
                have BK282:=n6_
                have HB:=n7_
                clear n0_ n1_ n2_ n3_ n4_ n5_ n6_ n7_
                have p290 : 0 ≤ (x13_3 : Int):=of_decide_eq_true (by first|(with_reducible assumption)|assumption)
                have q290 : x13_3 < (t271.length : Int):=of_decide_eq_true (by first|(with_reducible assumption)|assumption)
                obtain ⟨ad290,A290_0,c290_0,e290,hx290_0,hl290_0,hi290_0⟩:=at_T58 (Kd.S_reads' HO_275001.out).2.2 x13_3 p290 q290
                cases e290
                obtain ⟨ce290,hce290,hMe290,hcc290⟩:=Kd.S_get HO_275001.out z58 x13_3 p290 (by first|exact q290|exact of_decide_eq_true (by first|(with_reducible assumption)|assumption)|(have e_:=(Kd.S_reads' HO_275001.out).1;omega))
                obtain ⟨ve290_0,rfl,ge290_0⟩:=k58_openM hMe290
                have hv290_0:=hcc290 0 _ rfl
                rw [Nat.add_zero,show (k58).sz = 1 from rfl,Nat.mul_one] at hv290_0
                replace hv290_0:=Option.some.inj (hv290_0.symm.trans hx290_0)
                rw [hv290_0] at ge290_0
                have HL290_0:=Aside0.mk (show Kd.R Kd.string 9 _ _ _ _ ((rd_T58 t271 x13_3).f0) from ge290_0)
                clear hv290_0 ge290_0 hcc290 hce290
                have HR290_0:=Aside0.mk hi290_0
                have HC290_0:=Aside0.mk hl290_0
                clear hi290_0 hl290_0
                replace p290:=eq_true p290
                replace q290:=eq_true q290
                refine start_ (n:=13) (S:=fun w'=>w'.cell? ⟨gb274,0,none⟩ = some (.int .i64 t270) ∧ w'.cell? ⟨gb274,1,none⟩ = some (.slice (some ad290) t271.length co23) ∧ w'.cell? ⟨gb268,0,none⟩ = some (.int .i64 (wrap64 (1 + (Int.tmod t266 5)))) ∧ w'.cell? ⟨gb268,1,none⟩ = some (.int .i64 (Int.tmod t267 4)) ∧ w'.cell? ⟨gb268,2,none⟩ = some (.int .i64 0) ∧ w'.cell? (ad290.add (x13_3).toNat) = some (.slice A290_0 ((rd_T58 t271 x13_3).f0).length c290_0)) (ds:=[]) #[false,false,false,false,false,false,false,false,false,false,false,false,false] (by kernel_rfl) rfl rfl ⟨(blk_cell BK274.out 0).trans rfl,(blk_cell BK274.out 1).trans rfl,(blk_cell BK268.out 0).trans rfl,(blk_cell BK268.out 1).trans rfl,(blk_cell BK268.out 2).trans rfl,hx290_0⟩ (fun hHeld=>?_);refine with_tabW laws_FnJoined.tab20 laws_FnJoined.bits20 (fun HT_ HW_=>?_)
                generalize wr.drew = w62 at HO_12 HO_15 HO_275001 BK265 BK268 BK274 BK282 HB HL290_0 HR290_0 hx290_0 hHeld ⊢
                refine pure_ (i:=0) (N:=some 97) (v:=?_) (a':=?_) #[true,false,false,false,false,false,false,false,false,false,false,false,false] rfl rfl (any_of HT_.out (by kernel_rfl)) (fun _ _ _ h=>h) (Or.inl ⟨by rfl,?_⟩) ?_ ?_
                rotate_left
                ·intro w'
                 go_simp
                 with_reducible rfl
                rotate_left
                ·simp only [Act.put,List.setIfInBounds_toArray,List.set_cons_zero,List.set_cons_succ,i64_w,i32_w]
                 rfl
                refine pure_ (i:=2) (N:=some 99) (v:=?_) (a':=?_) #[true,false,true,false,false,false,false,false,false,false,false,false,false] rfl rfl (any_of HT_.out (by kernel_rfl)) (fun _ _ _ h=>h) (Or.inl ⟨by rfl,?_⟩) ?_ ?_
                rotate_left
                ·intro w'
                 go_simp
                 with_reducible rfl
                rotate_left
                ·simp only [Act.put,List.setIfInBounds_toArray,List.set_cons_zero,List.set_cons_succ,i64_w,i32_w]
                 rfl
                refine pure_ (i:=7) (N:=some 104) (v:=?_) (a':=?_) #[true,false,true,false,false,false,false,true,false,false,false,false,false] rfl rfl (any_of HT_.out (by kernel_rfl)) (fun _ _ _ h=>h) (Or.inl ⟨by rfl,?_⟩) ?_ ?_
                rotate_left
                ·intro w'
                 go_simp
                 with_reducible rfl
                rotate_left
                ·simp only [Act.put,List.setIfInBounds_toArray,List.set_cons_zero,List.set_cons_succ,i64_w,i32_w]
                 rfl
                refine pure_ (i:=9) (N:=some 106) (v:=?_) (a':=?_) #[true,false,true,false,false,false,false,true,false,true,false,false,false] rfl rfl (any_of HT_.out (by kernel_rfl)) (fun _ _ _ h=>h) (Or.inl ⟨by rfl,?_⟩) ?_ ?_
                rotate_left
                ·intro w'
                 go_simp
                 with_reducible rfl
                rotate_left
                ·simp only [Act.put,List.setIfInBounds_toArray,List.set_cons_zero,List.set_cons_succ,i64_w,i32_w]
                 rfl
                refine take_ (i:=1) (N:=some 98) (v:=?_) (a':=?_) #[true,true,true,false,false,false,false,true,false,true,false,false,false] rfl rfl (take_ofW HT_.out HW_.out (by kernel_rfl)) (fun _ _ _ h=>h) (Or.inl ⟨by rfl,?_⟩) hHeld ?_ ?_
                rotate_left
                ·rintro w' ⟨s0,s1,s2,s3,s4,s5⟩
                 go_simp
                 with_reducible rfl
                rotate_left
                ·simp only [Act.put,List.setIfInBounds_toArray,List.set_cons_zero,List.set_cons_succ,i64_w,i32_w]
                 rfl
                refine pure_ (i:=3) (N:=some 100) (v:=?_) (a':=?_) #[true,true,true,true,false,false,false,true,false,true,false,false,false] rfl rfl (any_of HT_.out (by kernel_rfl)) (fun _ _ _ h=>h) (Or.inl ⟨by rfl,?_⟩) ?_ ?_
                rotate_left
                ·intro w'
                 go_simp
                 with_reducible rfl
                rotate_left
                ·simp only [Act.put,List.setIfInBounds_toArray,List.set_cons_zero,List.set_cons_succ,i64_w,i32_w]
                 rfl
                refine pure_ (i:=4) (N:=some 101) (v:=?_) (a':=?_) #[true,true,true,true,true,false,false,true,false,true,false,false,false] rfl rfl (any_of HT_.out (by kernel_rfl)) (fun _ _ _ h=>h) (Or.inl ⟨by rfl,?_⟩) ?_ ?_
                rotate_left
                ·intro w'
                 go_simp
                 with_reducible rfl
                rotate_left
                ·simp only [Act.put,List.setIfInBounds_toArray,List.set_cons_zero,List.set_cons_succ,i64_w,i32_w]
                 rfl
                refine take_ (i:=5) (N:=some 102) (v:=?_) (a':=?_) #[true,true,true,true,true,true,false,true,false,true,false,false,false] rfl rfl (take_ofW HT_.out HW_.out (by kernel_rfl)) (fun _ _ _ h=>h) (Or.inl ⟨by rfl,?_⟩) hHeld ?_ ?_
                rotate_left
                ·rintro w' ⟨s0,s1,s2,s3,s4,s5⟩
                 go_simp
                 with_reducible rfl
                rotate_left
                ·simp only [Act.put,List.setIfInBounds_toArray,List.set_cons_zero,List.set_cons_succ,i64_w,i32_w]
                 rfl
                refine pure_ (i:=6) (N:=some 103) (v:=?_) (a':=?_) #[true,true,true,true,true,true,true,true,false,true,false,false,false] rfl rfl (any_of HT_.out (by kernel_rfl)) (fun _ _ _ h=>h) (Or.inl ⟨by rfl,?_⟩) ?_ ?_
                rotate_left
                ·intro w'
                 go_simp
                 with_reducible rfl
                rotate_left
                ·simp only [Act.put,List.setIfInBounds_toArray,List.set_cons_zero,List.set_cons_succ,i64_w,i32_w]
                 rfl
                refine take_ (i:=8) (N:=some 105) (v:=?_) (a':=?_) #[true,true,true,true,true,true,true,true,true,true,false,false,false] rfl rfl (take_ofW HT_.out HW_.out (by kernel_rfl)) (fun _ _ _ h=>h) (Or.inl ⟨by rfl,?_⟩) hHeld ?_ ?_
                rotate_left
                ·rintro w' ⟨s0,s1,s2,s3,s4,s5⟩
                 go_simp
                 with_reducible rfl
                rotate_left
                ·simp only [Act.put,List.setIfInBounds_toArray,List.set_cons_zero,List.set_cons_succ,i64_w,i32_w]
                 rfl
                refine take_ (i:=10) (N:=some 107) (v:=?_) (a':=?_) #[true,true,true,true,true,true,true,true,true,true,true,false,false] rfl rfl (take_ofW HT_.out HW_.out (by kernel_rfl)) (fun _ _ _ h=>h) (Or.inl ⟨by rfl,?_⟩) hHeld ?_ ?_
                rotate_left
                ·rintro w' ⟨s0,s1,s2,s3,s4,s5⟩
                 go_simp
                 with_reducible rfl
                rotate_left
                ·simp only [Act.put,List.setIfInBounds_toArray,List.set_cons_zero,List.set_cons_succ,i64_w,i32_w]
                 rfl
                refine pure_ (i:=11) (N:=some 108) (v:=?_) (a':=?_) #[true,true,true,true,true,true,true,true,true,true,true,true,false] rfl rfl (any_of HT_.out (by kernel_rfl)) (fun _ _ _ h=>h) (Or.inl ⟨by rfl,?_⟩) ?_ ?_
                rotate_left
                ·intro w'
                 go_simp
                 with_reducible rfl
                rotate_left
                ·simp only [Act.put,List.setIfInBounds_toArray,List.set_cons_zero,List.set_cons_succ,i64_w,i32_w]
                 rfl
                refine pure_ (i:=12) (N:=some 109) (v:=?_) (a':=?_) #[true,true,true,true,true,true,true,true,true,true,true,true,true] rfl rfl (any_of HT_.out (by kernel_rfl)) (fun _ _ _ h=>h) (Or.inl ⟨by rfl,?_⟩) ?_ ?_
                rotate_left
                ·intro w'
                 go_simp
                 with_reducible rfl
                rotate_left
                ·simp only [Act.put,List.setIfInBounds_toArray,List.set_cons_zero,List.set_cons_succ,i64_w,i32_w]
                 rfl
                refine done_ (done_of HT_.out (by kernel_rfl)) ?_
                try go_wp2
                go_loopg [17] k4 (fun kq v17 w'=>∃ (x17_5 : Int) (x283000_5 : List (S61)) (u283000 : Value),v17 = .int .i64 x17_5 ∧ Aside0 (laws_FnJoined.l2 kq l1 t264 (wrap64 (1 + (Int.tmod t269 7))) (t264.size : Int) x12_3 x13_3 x15_4 x17_5 (wrap64 (1 + (Int.tmod t266 5))) (Int.tmod t267 4) 0 t270 t271 x283000_5 = some r) ∧ Aside0 (kq ≤ k4) ∧ Aside0 (Kd.S k55 55 w' w.heap.size (fun k_=>some k_ ≠ (u283000 : Value).ownBlock ∧ k_ ≠ gb282) u12 x12_3) ∧ Aside0 (Kd.R (Kd.int .i64) 2 w' w.heap.size (fun _=>True) u15 x15_4) ∧ Aside0 (Kd.S k58 58 w' w.heap.size (fun _=>True) (.slice (some ad290) t271.length co23) t271) ∧ Aside0 (Kd.R k61 61 w' w.heap.size (fun _=>True) u283000 x283000_5) ∧ Aside0 (w'.heap[gb265]? = some (.cells #[.int .i64 t260,.int .i64 t261,.int .i64 t262] 43 (0,0))) ∧ Aside0 (w'.heap[gb268]? = some (.cells #[.int .i64 (wrap64 (1 + (Int.tmod t266 5))),.int .i64 (Int.tmod t267 4),.int .i64 0] 43 (0,0))) ∧ Aside0 (w'.heap[gb274]? = some (.cells #[.int .i64 t270,(.slice (some ad290) t271.length co23)] 49 (0,0))) ∧ Aside0 (w'.heap[gb282]? = some (.cells #[u283000] 55 (0,0))) ∧ Aside0 (Below w.heap.size w w'))
                case atStart=>exact ⟨(0),(([] : List (S61))),(.slice none 0 0),(by first|rfl|(simp;done)|(simp [*];done)),H',⟨Nat.le_refl _⟩,⟨by (with_reducible repeat (first|apply Kd.S_alloc|apply Kd.S_drewN));exact Kd.S_mono HO_12.out (fun _ hk=>⟨(by simp [Value.ownBlock]),hk⟩)⟩,⟨by (with_reducible repeat (first|apply Kd.R_alloc|apply Kd.R_drewN));exact HO_15.out⟩,⟨by (with_reducible repeat (first|apply Kd.S_alloc|apply Kd.S_drewN));exact HO_275001.out⟩,⟨by first|exact Kd.R_nil _ _ _ _ _|exact Kd.N_nil _ _ _ _ _|exact Kd.V_nil _ _ _ _ _|exact Kd.Q_nil _ _ _ _ _|exact Kd.S_nil _ _ _ _ _⟩,⟨by (with_reducible repeat first|refine blk_drewN ?_ _|refine blk_alloc ?_ _);exact BK265.out⟩,⟨by (with_reducible repeat first|refine blk_drewN ?_ _|refine blk_alloc ?_ _);exact BK268.out⟩,⟨by (with_reducible repeat first|refine blk_drewN ?_ _|refine blk_alloc ?_ _);exact BK274.out⟩,⟨by (with_reducible repeat first|refine blk_drewN ?_ _|refine blk_alloc ?_ _);exact BK282.out⟩,⟨by repeat (first|(with_reducible first|exact HB.out|apply below_alloc|apply pw_below_drewN|apply below_drew1|refine below_set ?_ GE265.out|refine below_set ?_ GE268.out|refine below_set ?_ GE274.out|refine below_set ?_ GE282.out)|exact HB.out)⟩⟩
                case round=>
                 clear H'
                 (try clear c1);(try clear c2);(try clear p2);(try clear q2);(try clear hx2);(try clear c3);(try clear c4);(try clear c4b0);(try clear c4b1);(try clear c5);(try clear c6);(try clear p6);(try clear c16);(try clear c20);(try clear c21);(try clear c24);(try clear c24b0);(try clear c24b1);(try clear c28);(try clear c29);(try clear p29);(try clear q29);(try clear hx29);(try clear c30);(try clear c31);(try clear c34);(try clear c34b0);(try clear c35);(try clear c36);(try clear c39);(try clear c40);(try clear c41);(try clear c45);(try clear c45b0);(try clear c47);(try clear c47b0);(try clear c47b1);(try clear c48);(try clear c49);(try clear c50);(try clear c51);(try clear c55);(try clear c55b0);(try clear c56);(try clear c56b0);(try clear c57);(try clear c57b0);(try clear c57b1);(try clear c58);(try clear c59);(try clear c60);(try clear hcz14_0);(try clear hcz14_1);(try clear hcz14_2);(try clear hcz17_0);(try clear hcz17_1);(try clear hcz17_2);(try clear hcz22_0);(try clear hcz22_1);(try clear hcz37_0);(try clear hcz37_1);(try clear hcz42_0);(try clear hcz52_0);(try clear hcz52_1);(try clear hcz52_2);(try clear hcz61_0);(try clear hcz61_1);(try clear hcz61_2);(try clear hfz14_0);(try clear hfz14_1);(try clear hfz14_2);(try clear hfz17_0);(try clear hfz17_1);(try clear hfz17_2);(try clear hfz22_0);(try clear hfz22_1);(try clear hfz37_0);(try clear hfz37_1);(try clear hfz42_0);(try clear hfz52_0);(try clear hfz52_1);(try clear hfz52_2);(try clear hfz61_0);(try clear hfz61_1);(try clear hfz61_2);(try clear hx290_0);(try clear p2);(try clear p290);(try clear p6);(try clear q290)
                 obtain ⟨x17_5,x283000_5,u283000,rfl,HA,HK5,HO_12,HO_15,HO_275001,HO_283000,BK265,BK268,BK274,BK282,HB⟩:=hrel
                 cases gk with
                 | zero=>exact absurd HA.out (by simp [laws_FnJoined.l2])
                 | succ k5=>
                  have H:=HA.out
                  clear HA
                  simp only [laws_FnJoined.l2] at H
                  by_cases c63 : 0 ≤ x13_3
                  ·rw [if_pos c63] at H
                   have c63b0 : decide (0 ≤ x13_3) = true:=decide_eq_true c63
                   clear c63
                   by_cases c64 : x13_3 < (t271.length : Int)
                   ·rw [if_pos c64] at H
                    have c64b0 : decide (x13_3 < (t271.length : Int)) = true:=decide_eq_true c64
                    clear c64
                    by_cases c65 : x17_5 < (((rd_T58 t271 x13_3).f0).length : Int)
                    ·rw [if_pos c65] at H
                     have c65b0 : decide (x17_5 < (((rd_T58 t271 x13_3).f0).length : Int)) = true:=decide_eq_true c65
                     clear c65
                     replace H:=Option.bind_eq_some_iff.mp H
                     obtain ⟨t292,A660,H⟩:=H
                     replace H : (if t292 = true then (if x283000_5.length < 5864062014805 then (laws_FnJoined.l2 k5 l1 t264 (wrap64 (1 + (Int.tmod t269 7))) (t264.size : Int) x12_3 x13_3 x15_4 (wrap64 (x17_5 + 1)) (wrap64 (1 + (Int.tmod t266 5))) (Int.tmod t267 4) 0 t270 t271 (x283000_5 ++ [(⟨!t292,(⟨#[]⟩ : ByteArray)⟩ : S61)])) else (none)) else (if 0 ≤ x17_5 then (if x283000_5.length < 5864062014805 then (laws_FnJoined.l2 k5 l1 t264 (wrap64 (1 + (Int.tmod t269 7))) (t264.size : Int) x12_3 x13_3 x15_4 (wrap64 (x17_5 + 1)) (wrap64 (1 + (Int.tmod t266 5))) (Int.tmod t267 4) 0 t270 t271 (x283000_5 ++ [(⟨!t292,rdOf ByteArray.empty ((rd_T58 t271 x13_3).f0) x17_5⟩ : S61)])) else (none)) else (none))) = some r:=H
                     have A66:=Aside0.mk A660
                     clear A660
                     by_cases c67 : t292 = true
                     ·subst c67
                      have H1 : (if x283000_5.length < 5864062014805 then (laws_FnJoined.l2 k5 l1 t264 (wrap64 (1 + (Int.tmod t269 7))) (t264.size : Int) x12_3 x13_3 x15_4 (wrap64 (x17_5 + 1)) (wrap64 (1 + (Int.tmod t266 5))) (Int.tmod t267 4) 0 t270 t271 (x283000_5 ++ [(⟨!true,(⟨#[]⟩ : ByteArray)⟩ : S61)])) else (none)) = some r:=by rw [if_pos rfl] at H;exact H
                      clear H
                      have H:=H1
                      clear H1
                      by_cases c68 : x283000_5.length < 5864062014805
                      ·rw [if_pos c68] at H
                       have LMc68:=Aside0.mk c68
                       clear c68
                       obtain ⟨y294,hy294⟩ : ∃ y_ : List (S61),y_ = (x283000_5 ++ [(⟨!true,(⟨#[]⟩ : ByteArray)⟩ : S61)]):=⟨_,rfl⟩
                       replace H : (laws_FnJoined.l2 k5 l1 t264 (wrap64 (1 + (Int.tmod t269 7))) (t264.size : Int) x12_3 x13_3 x15_4 (wrap64 (x17_5 + 1)) (wrap64 (1 + (Int.tmod t266 5))) (Int.tmod t267 4) 0 t270 t271 y294) = some r:=by first|(rw [hy294];with_reducible exact H)|(have H2_:=(Option.bind_some _ _).symm.trans H;rw [hy294];with_reducible exact H2_)|(have H2_:=(Option.bind_some _ _).symm.trans H;with_reducible exact H2_)|with_reducible exact H|(rw [hy294];exact H)|exact H
                       have Ny294:=Aside0.mk hy294
                       clear hy294
                       have H':=Aside0.mk H
                       clear H
                       have hnb69:=NB274_265.out
                       have hnc69:=NB265_274.out
                       have hnb70:=NB274_268.out
                       have hnc70:=NB268_274.out
                       have hnb71:=NB274_282.out
                       have hnc71:=NB282_274.out
                       have hcz72_0 : wr.cell? ⟨gb274,0,none⟩ = some (.int .i64 t270):=(blk_cell BK274.out 0).trans rfl
                       have hcz72_1 : wr.cell? ⟨gb274,1,none⟩ = some (.slice (some ad290) t271.length co23):=(blk_cell BK274.out 1).trans rfl
                       have hfz72_0:=blk_frozen BK274.out 0
                       have hfz72_1:=blk_frozen BK274.out 1
                       have p291 : 0 ≤ (x13_3 : Int):=of_decide_eq_true (by first|(with_reducible assumption)|assumption)
                       have q291 : x13_3 < (t271.length : Int):=of_decide_eq_true (by first|(with_reducible assumption)|assumption)
                       obtain ⟨ad291,A291_0,c291_0,e291,hx291_0,hl291_0,hi291_0⟩:=at_T58 (Kd.S_reads' HO_275001.out).2.2 x13_3 p291 q291
                       obtain rfl : ad290 = ad291:=(by injection e291)
                       obtain ⟨ce291,hce291,hMe291,hcc291⟩:=Kd.S_get HO_275001.out z58 x13_3 p291 (by first|exact q291|exact of_decide_eq_true (by first|(with_reducible assumption)|assumption)|(have e_:=(Kd.S_reads' HO_275001.out).1;omega))
                       obtain ⟨ve291_0,rfl,ge291_0⟩:=k58_openM hMe291
                       have hv291_0:=hcc291 0 _ rfl
                       rw [Nat.add_zero,show (k58).sz = 1 from rfl,Nat.mul_one] at hv291_0
                       replace hv291_0:=Option.some.inj (hv291_0.symm.trans hx291_0)
                       rw [hv291_0] at ge291_0
                       have HL291_0:=Aside0.mk (show Kd.R Kd.string 9 _ _ _ _ ((rd_T58 t271 x13_3).f0) from ge291_0)
                       clear hv291_0 ge291_0 hcc291 hce291
                       have HR291_0:=Aside0.mk hi291_0
                       have HC291_0:=Aside0.mk hl291_0
                       clear hi291_0 hl291_0
                       replace p291:=eq_true p291
                       replace q291:=eq_true q291
                       obtain ⟨Ao73,co73,eo73⟩:=Kd.R_slice HO_15.out
                       subst eo73
                       go_wp2_with (first|((with_reducible refine gate_callee (f:=32) rfl ?_);refine goesL_ (some 123) rfl rfl Try.func32 (by kernel_rfl) rfl #[.slice Ao73 x15_4.length co73,.int .i64 x17_5] rfl (by (try simp only [List.map_toArray,List.map_cons,List.map_nil]);first|done|rfl) ?_;(with_reducible refine (laws_lwHas.calls k5 _ _ x15_4 x17_5 true _ ?side1 ?side2 A66.out).mono ?_);(case side1=>repeat (first|exact (Kd.R_reads' HO_15.out).2.2|(with_reducible refine Kd.C_alloc ?_ _)|(with_reducible refine Kd.C_drewN ?_ _)|(with_reducible refine Kd.C_drew ?_)));(case side2=>exact (Kd.R_reads' HO_15.out).2.1);rintro e w' ⟨rfl,⟨nd,rfl⟩⟩;refine ⟨_,rfl,?_⟩;(try (rw [drewN_self wr];generalize hq_ : World.drewN wr _ = wr;have n0_ : Aside0 (Kd.R Kd.string 9 wr w.heap.size (fun k_=>some k_ ≠ (.slice (some ad290) t271.length co23 : Value).ownBlock) (.slice A291_0 ((rd_T58 t271 x13_3).f0).length c291_0) ((rd_T58 t271 x13_3).f0)):=⟨by rw [← hq_];exact (by (with_reducible repeat (first|apply Kd.R_alloc|apply Kd.R_drewN));exact Kd.R_mono HL291_0.out (fun _ hk=>hk.2))⟩;have n1_ : Aside0 (Kd.S k55 55 wr w.heap.size (fun k_=>some k_ ≠ (u283000 : Value).ownBlock ∧ k_ ≠ gb282) u12 x12_3):=⟨by rw [← hq_];exact (by (with_reducible repeat (first|apply Kd.S_alloc|apply Kd.S_drewN));exact HO_12.out)⟩;have n2_ : Aside0 (Kd.R (Kd.int .i64) 2 wr w.heap.size (fun _=>True) (.slice Ao73 x15_4.length co73) x15_4):=⟨by rw [← hq_];exact (by (with_reducible repeat (first|apply Kd.R_alloc|apply Kd.R_drewN));exact HO_15.out)⟩;have n3_ : Aside0 (Kd.S k58 58 wr w.heap.size (fun _=>True) (.slice (some ad290) t271.length co23) t271):=⟨by rw [← hq_];exact (by (with_reducible repeat (first|apply Kd.S_alloc|apply Kd.S_drewN));exact HO_275001.out)⟩;have n4_ : Aside0 (Kd.R k61 61 wr w.heap.size (fun _=>True) u283000 x283000_5):=⟨by rw [← hq_];exact (by (with_reducible repeat (first|apply Kd.R_alloc|apply Kd.R_drewN));exact HO_283000.out)⟩;have n5_ : Aside0 (wr.heap[gb265]? = some (.cells #[.int .i64 t260,.int .i64 t261,.int .i64 t262] 43 (0,0))):=⟨by rw [← hq_];exact (by (with_reducible repeat first|refine blk_drewN ?_ _|refine blk_alloc ?_ _);exact BK265.out)⟩;have n6_ : Aside0 (wr.heap[gb268]? = some (.cells #[.int .i64 (wrap64 (1 + (Int.tmod t266 5))),.int .i64 (Int.tmod t267 4),.int .i64 0] 43 (0,0))):=⟨by rw [← hq_];exact (by (with_reducible repeat first|refine blk_drewN ?_ _|refine blk_alloc ?_ _);exact BK268.out)⟩;have n7_ : Aside0 (wr.heap[gb274]? = some (.cells #[.int .i64 t270,.slice (some ad290) t271.length co23] 49 (0,0))):=⟨by rw [← hq_];exact (by (with_reducible repeat first|refine blk_drewN ?_ _|refine blk_alloc ?_ _);exact BK274.out)⟩;have n8_ : Aside0 (wr.heap[gb282]? = some (.cells #[u283000] 55 (0,0))):=⟨by rw [← hq_];exact (by (with_reducible repeat first|refine blk_drewN ?_ _|refine blk_alloc ?_ _);exact BK282.out)⟩;have n9_ : Aside0 (Below w.heap.size w wr):=⟨by rw [← hq_];exact (by repeat (first|(with_reducible first|exact HB.out|apply below_alloc|apply pw_below_drewN|apply below_drew1|refine below_set ?_ GE265.out|refine below_set ?_ GE268.out|refine below_set ?_ GE274.out|refine below_set ?_ GE282.out)|exact HB.out))⟩;have n10_ : Aside0 (Kd.C Kd.string wr A291_0 ((rd_T58 t271 x13_3).f0).length ((rd_T58 t271 x13_3).f0)):=⟨by rw [← hq_];exact (by repeat (first|(with_reducible exact HR291_0.out)|(with_reducible refine Kd.C_alloc ?_ _)|(with_reducible refine Kd.C_drewN ?_ _)|(with_reducible refine Kd.C_drew ?_)|exact HR291_0.out))⟩;clear HL291_0 HO_12 HO_15 HO_275001 HO_283000 BK265 BK268 BK274 BK282 HB HR291_0 hq_;have HL291_0:=n0_;have HO_12:=n1_;have HO_15:=n2_;have HO_275001:=n3_;have HO_283000:=n4_;have BK265:=n5_;have BK268:=n6_;have BK274:=n7_;have BK282:=n8_;have HB:=n9_;have HR291_0:=n10_;clear n0_ n1_ n2_ n3_ n4_ n5_ n6_ n7_ n8_ n9_ n10_)))|((with_reducible refine gate_dst (N:=18) rfl ?_);(try (refine gate_guard (by rfl) ?_;dsimp only));refine box_event ?hg (N:=18) ?hd (cs:=#[.bool false,.string (⟨#[]⟩ : ByteArray)]) (t:=61) ?hr ?_;(case hd=>rfl);(case hg=>rfl);(case hr=>first|(go_simp;done)|(go_simp;rfl));intro gb293 hg w74 hbox hb;have n0_:=Aside0.mk (Kd.S_below (Kd.S_elderB (by (with_reducible repeat (first|apply Kd.S_alloc|apply Kd.S_drewN));exact HO_12.out) gb293 (Nat.le_of_eq hg.symm)) hb);have n1_:=Aside0.mk (Kd.R_below (by (with_reducible repeat (first|apply Kd.R_alloc|apply Kd.R_drewN));exact HO_15.out) hb);have n2_:=Aside0.mk (Kd.S_below (by (with_reducible repeat (first|apply Kd.S_alloc|apply Kd.S_drewN));exact HO_275001.out) hb);have n3_:=Aside0.mk (Kd.R_below (Kd.R_elderB (by (with_reducible repeat (first|apply Kd.R_alloc|apply Kd.R_drewN));exact HO_283000.out) gb293 (Nat.le_of_eq hg.symm)) hb);have n4_:=Aside0.mk (Kd.R_below (by (with_reducible repeat (first|apply Kd.R_alloc|apply Kd.R_drewN));exact HL291_0.out) hb);have n5_:=Aside0.mk (blk_below (g:=gb265) (o:=.cells #[.int .i64 t260,.int .i64 t261,.int .i64 t262] 43 (0,0)) (by (with_reducible repeat first|refine blk_drewN ?_ _|refine blk_alloc ?_ _);exact BK265.out) hb);have n6_:=Aside0.mk (blk_below (g:=gb268) (o:=.cells #[.int .i64 (wrap64 (1 + (Int.tmod t266 5))),.int .i64 (Int.tmod t267 4),.int .i64 0] 43 (0,0)) (by (with_reducible repeat first|refine blk_drewN ?_ _|refine blk_alloc ?_ _);exact BK268.out) hb);have n7_:=Aside0.mk (blk_below (g:=gb274) (o:=.cells #[.int .i64 t270,.slice (some ad290) t271.length co23] 49 (0,0)) (by (with_reducible repeat first|refine blk_drewN ?_ _|refine blk_alloc ?_ _);exact BK274.out) hb);have n8_:=Aside0.mk (blk_below (g:=gb282) (o:=.cells #[u283000] 55 (0,0)) (by (with_reducible repeat first|refine blk_drewN ?_ _|refine blk_alloc ?_ _);exact BK282.out) hb);have n9_:=Aside0.mk (Kd.C_below (by repeat (first|(with_reducible exact HR291_0.out)|(with_reducible refine Kd.C_alloc ?_ _)|(with_reducible refine Kd.C_drewN ?_ _)|(with_reducible refine Kd.C_drew ?_)|exact HR291_0.out)) hb);have n10_:=Aside0.mk (below_step (by repeat (first|(with_reducible first|exact HB.out|apply below_alloc|apply pw_below_drewN|apply below_drew1|refine below_set ?_ GE265.out|refine below_set ?_ GE268.out|refine below_set ?_ GE274.out|refine below_set ?_ GE282.out)|exact HB.out)) hb);have n11_:=Aside0.mk (hbox);have n12_:=Aside0.mk ((by rw [hg];exact (below_size (by repeat (first|(with_reducible first|exact HB.out|apply below_alloc|apply pw_below_drewN|apply below_drew1|refine below_set ?_ GE265.out|refine below_set ?_ GE268.out|refine below_set ?_ GE274.out|refine below_set ?_ GE282.out)|exact HB.out))) : w.heap.size ≤ gb293));have n13_:=Aside0.mk ((by rw [hg];exact (below_size (by repeat (first|(with_reducible first|exact HB.out|apply below_alloc|apply pw_below_drewN|apply below_drew1|refine below_set ?_ GE265.out|refine below_set ?_ GE268.out|refine below_set ?_ GE274.out|refine below_set ?_ GE282.out)|exact HB.out))) : w.heap.size ≤ gb293));have n14_:=Aside0.mk ((by rw [hg];exact Nat.ne_of_lt (blk_lt (g:=gb265) (o:=.cells #[.int .i64 t260,.int .i64 t261,.int .i64 t262] 43 (0,0)) (by (with_reducible repeat first|refine blk_drewN ?_ _|refine blk_alloc ?_ _);exact BK265.out)) : gb265 ≠ gb293));have n15_:=Aside0.mk ((by rw [hg];exact Nat.ne_of_gt (blk_lt (g:=gb265) (o:=.cells #[.int .i64 t260,.int .i64 t261,.int .i64 t262] 43 (0,0)) (by (with_reducible repeat first|refine blk_drewN ?_ _|refine blk_alloc ?_ _);exact BK265.out)) : gb293 ≠ gb265));have n16_:=Aside0.mk ((by rw [hg];exact Nat.ne_of_lt (blk_lt (g:=gb268) (o:=.cells #[.int .i64 (wrap64 (1 + (Int.tmod t266 5))),.int .i64 (Int.tmod t267 4),.int .i64 0] 43 (0,0)) (by (with_reducible repeat first|refine blk_drewN ?_ _|refine blk_alloc ?_ _);exact BK268.out)) : gb268 ≠ gb293));have n17_:=Aside0.mk ((by rw [hg];exact Nat.ne_of_gt (blk_lt (g:=gb268) (o:=.cells #[.int .i64 (wrap64 (1 + (Int.tmod t266 5))),.int .i64 (Int.tmod t267 4),.int .i64 0] 43 (0,0)) (by (with_reducible repeat first|refine blk_drewN ?_ _|refine blk_alloc ?_ _);exact BK268.out)) : gb293 ≠ gb268));have n18_:=Aside0.mk ((by rw [hg];exact Nat.ne_of_lt (blk_lt (g:=gb274) (o:=.cells #[.int .i64 t270,.slice (some ad290) t271.length co23] 49 (0,0)) (by (with_reducible repeat first|refine blk_drewN ?_ _|refine blk_alloc ?_ _);exact BK274.out)) : gb274 ≠ gb293));have n19_:=Aside0.mk ((by rw [hg];exact Nat.ne_of_gt (blk_lt (g:=gb274) (o:=.cells #[.int .i64 t270,.slice (some ad290) t271.length co23] 49 (0,0)) (by (with_reducible repeat first|refine blk_drewN ?_ _|refine blk_alloc ?_ _);exact BK274.out)) : gb293 ≠ gb274));have n20_:=Aside0.mk ((by rw [hg];exact Nat.ne_of_lt (blk_lt (g:=gb282) (o:=.cells #[u283000] 55 (0,0)) (by (with_reducible repeat first|refine blk_drewN ?_ _|refine blk_alloc ?_ _);exact BK282.out)) : gb282 ≠ gb293));have n21_:=Aside0.mk ((by rw [hg];exact Nat.ne_of_gt (blk_lt (g:=gb282) (o:=.cells #[u283000] 55 (0,0)) (by (with_reducible repeat first|refine blk_drewN ?_ _|refine blk_alloc ?_ _);exact BK282.out)) : gb293 ≠ gb282));clear HO_12 HO_15 HO_275001 HO_283000 HL291_0 BK265 BK268 BK274 BK282 HR291_0 HB;have HO_12:=n0_;have HO_15:=n1_;have HO_275001:=n2_;have HO_283000:=n3_;have HL291_0:=n4_;have BK265:=n5_;have BK268:=n6_;have BK274:=n7_;have BK282:=n8_;have HR291_0:=n9_;have HB:=n10_;have BK293:=n11_;have GW293:=n12_;have GE293:=n13_;have NB265_293:=n14_;have NB293_265:=n15_;have NB268_293:=n16_;have NB293_268:=n17_;have NB274_293:=n18_;have NB293_274:=n19_;have NB282_293:=n20_;have NB293_282:=n21_;clear n0_ n1_ n2_ n3_ n4_ n5_ n6_ n7_ n8_ n9_ n10_ n11_ n12_ n13_ n14_ n15_ n16_ n17_ n18_ n19_ n20_ n21_ hb hbox hg;have hnb75:=NB293_265.out;have hnc75:=NB265_293.out;have hnb76:=NB293_268.out;have hnc76:=NB268_293.out;have hnb77:=NB293_274.out;have hnc77:=NB274_293.out;have hnb78:=NB293_282.out;have hnc78:=NB282_293.out;have hcz79_0 : w74.cell? ⟨gb293,0,none⟩ = some (.bool false):=(blk_cell BK293.out 0).trans rfl;have hcz79_1 : w74.cell? ⟨gb293,1,none⟩ = some (.string (⟨#[]⟩ : ByteArray)):=(blk_cell BK293.out 1).trans rfl;have hfz79_0:=blk_frozen BK293.out 0;have hfz79_1:=blk_frozen BK293.out 1;have hnb80:=NB282_265.out;have hnc80:=NB265_282.out;have hnb81:=NB282_268.out;have hnc81:=NB268_282.out;have hcz82_0 : w74.cell? ⟨gb282,0,none⟩ = some (u283000):=(blk_cell BK282.out 0).trans rfl;have hfz82_0:=blk_frozen BK282.out 0)|((with_reducible refine gate_builtin (b:=.append) (xs:=#[.tmp 139,.tmp 141]) rfl ?_);(try (refine gate_guard (by rfl) ?_;dsimp only));at_builtin;refine Kd.R_append k61 (w0:=w) w.heap.size rfl (.tmp 139) (.tmp 141) 53 61 (.agg #[(.bool false),(.string ⟨#[]⟩)]) 24 rfl Try.underlying53 info61 rfl (by decide) (by omega) u283000 x283000_5 (⟨!true,(⟨#[]⟩ : ByteArray)⟩ : S61) [.bool (!true),.string (⟨#[]⟩ : ByteArray)] (fun k_=>k_ ≠ gb293) (fun _=>False) rfl (by first|(go_simp;done)|(go_simp;rfl)) ?aP (fun _ hk=>hk.elim) ?aF ?aO ?aB ?aS ?aL ?_;(case aP=>exact k61_mkM _ _ _ (⟨!true,(⟨#[]⟩ : ByteArray)⟩ : S61));(case aB=>exact (by repeat (first|(with_reducible first|exact HB.out|apply below_alloc|apply pw_below_drewN|apply below_drew1|refine below_set ?_ GE265.out|refine below_set ?_ GE268.out|refine below_set ?_ GE274.out|refine below_set ?_ GE282.out|refine below_set ?_ GE293.out)|exact HB.out)));(case aF=>exact (fun k_ hk=>Kd.freshB (g:=gb293) (o:=.cells #[.bool (!true),.string (⟨#[]⟩ : ByteArray)] 61 (0,0)) (by (with_reducible repeat first|refine blk_drewN ?_ _|refine blk_alloc ?_ _);refine blk_put (cs:=#[.bool (!true),.string (⟨#[]⟩ : ByteArray)]) ?_ 1 _ rfl;(with_reducible repeat first|refine blk_drewN ?_ _|refine blk_alloc ?_ _);refine blk_put (cs:=#[.bool false,.string (⟨#[]⟩ : ByteArray)]) ?_ 0 _ rfl;(with_reducible repeat first|refine blk_drewN ?_ _|refine blk_alloc ?_ _);exact BK293.out) k_ hk));(case aO=>exact (by (with_reducible repeat (first|apply Kd.R_alloc|apply Kd.R_drewN));exact Kd.R_mono (Kd.R_far (p:=⟨gb293,1,none⟩) (Kd.R_far (p:=⟨gb293,0,none⟩) (Kd.R_mono HO_283000.out (fun k_ hk=>(⟨hk,hk.2⟩ : _ ∧ k_ ≠ gb293))) (fun _ hk=>hk.2) (.bool (!true))) (fun _ hk=>hk.2) (.string (⟨#[]⟩ : ByteArray))) (fun _ hk=>by first|exact hk.1.2|exact hk.1)));(case aS=>exact (below_size (by repeat (first|(with_reducible first|exact HB.out|apply below_alloc|apply pw_below_drewN|apply below_drew1|refine below_set ?_ GE265.out|refine below_set ?_ GE268.out|refine below_set ?_ GE274.out|refine below_set ?_ GE282.out|refine below_set ?_ GE293.out)|exact HB.out))));(case aL=>have:=LMc68.out;omega);intro v295 w83 ho hb hg hat;rw [← Ny294.out] at ho;have n0_:=Aside0.mk (Kd.S_after (ok:=(fun k_=>k_ ≠ gb282 ∧ k_ ≠ gb293)) (by (with_reducible repeat (first|apply Kd.S_alloc|apply Kd.S_drewN));exact Kd.S_mono (Kd.S_far (p:=⟨gb293,1,none⟩) (Kd.S_far (p:=⟨gb293,0,none⟩) (Kd.S_mono HO_12.out (fun k_ hk=>(⟨hk,hk.2⟩ : _ ∧ k_ ≠ gb293))) (fun _ hk=>hk.2) (.bool (!true))) (fun _ hk=>hk.2) (.string (⟨#[]⟩ : ByteArray))) (fun _ hk=>⟨⟨hk.1.1.2,hk.1.2⟩,hk.1.1.1⟩)) hg hat);have n1_:=Aside0.mk (Kd.R_over' (by (with_reducible repeat (first|apply Kd.R_alloc|apply Kd.R_drewN));exact (Kd.R_mono (Kd.R_far (p:=⟨gb293,1,none⟩) (Kd.R_far (p:=⟨gb293,0,none⟩) (Kd.R_types HO_15.out BK293.out (by decide)) (fun _ hk=>hk.2) (.bool (!true))) (fun _ hk=>hk.2) (.string (⟨#[]⟩ : ByteArray))) (fun _ h_=>h_.1))) (Kd.R_typed (by (with_reducible repeat (first|apply Kd.R_alloc|apply Kd.R_drewN));exact (Kd.R_mono (Kd.R_far (p:=⟨gb293,1,none⟩) (Kd.R_far (p:=⟨gb293,0,none⟩) (Kd.R_mono HO_283000.out (fun k_ hk=>(⟨hk,hk.2⟩ : _ ∧ k_ ≠ gb293))) (fun _ hk=>hk.2) (.bool (!true))) (fun _ hk=>hk.2) (.string (⟨#[]⟩ : ByteArray))) (fun _ h_=>h_.1)))) (by decide) hg);have n2_:=Aside0.mk (Kd.S_over' (by (with_reducible repeat (first|apply Kd.S_alloc|apply Kd.S_drewN));exact (Kd.S_mono (Kd.S_far (p:=⟨gb293,1,none⟩) (Kd.S_far (p:=⟨gb293,0,none⟩) (Kd.S_types HO_275001.out BK293.out (by decide)) (fun _ hk=>hk.2) (.bool (!true))) (fun _ hk=>hk.2) (.string (⟨#[]⟩ : ByteArray))) (fun _ h_=>h_.1))) (Kd.R_typed (by (with_reducible repeat (first|apply Kd.R_alloc|apply Kd.R_drewN));exact (Kd.R_mono (Kd.R_far (p:=⟨gb293,1,none⟩) (Kd.R_far (p:=⟨gb293,0,none⟩) (Kd.R_mono HO_283000.out (fun k_ hk=>(⟨hk,hk.2⟩ : _ ∧ k_ ≠ gb293))) (fun _ hk=>hk.2) (.bool (!true))) (fun _ hk=>hk.2) (.string (⟨#[]⟩ : ByteArray))) (fun _ h_=>h_.1)))) (by decide) hg);have n3_:=Aside0.mk (blk_grown (g:=gb265) (o:=.cells #[.int .i64 t260,.int .i64 t261,.int .i64 t262] 43 (0,0)) (by (with_reducible repeat first|refine blk_drewN ?_ _|refine blk_alloc ?_ _);refine blk_far ?_ NB265_293.out _;(with_reducible repeat first|refine blk_drewN ?_ _|refine blk_alloc ?_ _);refine blk_far ?_ NB265_293.out _;(with_reducible repeat first|refine blk_drewN ?_ _|refine blk_alloc ?_ _);exact BK265.out) hg (Kd.R_ne HO_283000.out BK265.out (by decide)));have n4_:=Aside0.mk (blk_grown (g:=gb268) (o:=.cells #[.int .i64 (wrap64 (1 + (Int.tmod t266 5))),.int .i64 (Int.tmod t267 4),.int .i64 0] 43 (0,0)) (by (with_reducible repeat first|refine blk_drewN ?_ _|refine blk_alloc ?_ _);refine blk_far ?_ NB268_293.out _;(with_reducible repeat first|refine blk_drewN ?_ _|refine blk_alloc ?_ _);refine blk_far ?_ NB268_293.out _;(with_reducible repeat first|refine blk_drewN ?_ _|refine blk_alloc ?_ _);exact BK268.out) hg (Kd.R_ne HO_283000.out BK268.out (by decide)));have n5_:=Aside0.mk (blk_grown (g:=gb274) (o:=.cells #[.int .i64 t270,.slice (some ad290) t271.length co23] 49 (0,0)) (by (with_reducible repeat first|refine blk_drewN ?_ _|refine blk_alloc ?_ _);refine blk_far ?_ NB274_293.out _;(with_reducible repeat first|refine blk_drewN ?_ _|refine blk_alloc ?_ _);refine blk_far ?_ NB274_293.out _;(with_reducible repeat first|refine blk_drewN ?_ _|refine blk_alloc ?_ _);exact BK274.out) hg (Kd.R_ne HO_283000.out BK274.out (by decide)));have n6_:=Aside0.mk (blk_grown (g:=gb282) (o:=.cells #[u283000] 55 (0,0)) (by (with_reducible repeat first|refine blk_drewN ?_ _|refine blk_alloc ?_ _);refine blk_far ?_ NB282_293.out _;(with_reducible repeat first|refine blk_drewN ?_ _|refine blk_alloc ?_ _);refine blk_far ?_ NB282_293.out _;(with_reducible repeat first|refine blk_drewN ?_ _|refine blk_alloc ?_ _);exact BK282.out) hg (Kd.R_ne HO_283000.out BK282.out (by decide)));have n7_:=Aside0.mk (Kd.R_over' (by (with_reducible repeat (first|apply Kd.R_alloc|apply Kd.R_drewN));exact (Kd.R_mono (Kd.R_far (p:=⟨gb293,1,none⟩) (Kd.R_far (p:=⟨gb293,0,none⟩) (Kd.R_types HL291_0.out BK293.out (by decide)) (fun _ hk=>hk.2) (.bool (!true))) (fun _ hk=>hk.2) (.string (⟨#[]⟩ : ByteArray))) (fun _ h_=>h_.1))) (Kd.R_typed (by (with_reducible repeat (first|apply Kd.R_alloc|apply Kd.R_drewN));exact (Kd.R_mono (Kd.R_far (p:=⟨gb293,1,none⟩) (Kd.R_far (p:=⟨gb293,0,none⟩) (Kd.R_mono HO_283000.out (fun k_ hk=>(⟨hk,hk.2⟩ : _ ∧ k_ ≠ gb293))) (fun _ hk=>hk.2) (.bool (!true))) (fun _ hk=>hk.2) (.string (⟨#[]⟩ : ByteArray))) (fun _ h_=>h_.1)))) (by decide) hg);have n8_:=Aside0.mk (blk_grown (g:=gb293) (o:=.cells #[.bool (!true),.string (⟨#[]⟩ : ByteArray)] 61 (0,0)) (by (with_reducible repeat first|refine blk_drewN ?_ _|refine blk_alloc ?_ _);refine blk_put (cs:=#[.bool (!true),.string (⟨#[]⟩ : ByteArray)]) ?_ 1 _ rfl;(with_reducible repeat first|refine blk_drewN ?_ _|refine blk_alloc ?_ _);refine blk_put (cs:=#[.bool false,.string (⟨#[]⟩ : ByteArray)]) ?_ 0 _ rfl;(with_reducible repeat first|refine blk_drewN ?_ _|refine blk_alloc ?_ _);exact BK293.out) hg (Kd.R_away HO_283000.out (fun _ hk=>hk.2)));have n9_:=Aside0.mk (hb);have n10_:=Aside0.mk (ho);clear HO_12 HO_15 HO_275001 BK265 BK268 BK274 BK282 HL291_0 BK293 HB HO_283000;have HO_12:=n0_;have HO_15:=n1_;have HO_275001:=n2_;have BK265:=n3_;have BK268:=n4_;have BK274:=n5_;have BK282:=n6_;have HL291_0:=n7_;have BK293:=n8_;have HB:=n9_;have HO296:=n10_;clear n0_ n1_ n2_ n3_ n4_ n5_ n6_ n7_ n8_ n9_ n10_ ho hb hg hat;obtain ⟨Ao84,co84,eo84⟩:=Kd.R_slice HO296.out;subst eo84;have hcz85_0 : w83.cell? ⟨gb282,0,none⟩ = some (u283000):=(blk_cell BK282.out 0).trans rfl;have hfz85_0:=blk_frozen BK282.out 0))
                       go_roundg k5
                       case measure=>have:=HJ2.out;have:=HJ10.out;have:=HK3.out;have:=HK4.out;have:=HK5.out;omega
                       case rel=>exact ⟨(wrap64 (x17_5 + 1)),(y294),(.slice Ao84 y294.length co84),(by first|rfl|(simp;done)|(simp [*];done)),H',⟨by have:=HJ2.out;have:=HJ10.out;have:=HK3.out;have:=HK4.out;have:=HK5.out;omega⟩,⟨by (with_reducible repeat (first|apply Kd.S_alloc|apply Kd.S_drewN));exact Kd.S_mono (Kd.S_far (p:=⟨gb282,0,none⟩) (Kd.S_mono HO_12.out (fun k_ hk=>(⟨hk,hk.1.1⟩ : _ ∧ k_ ≠ gb282))) (fun _ hk=>hk.2) (.slice Ao84 y294.length co84)) (fun _ hk=>⟨hk.1.2,hk.1.1.1⟩)⟩,⟨by (with_reducible repeat (first|apply Kd.R_alloc|apply Kd.R_drewN));exact Kd.R_mono (Kd.R_far (p:=⟨gb282,0,none⟩) (Kd.R_types HO_15.out BK282.out (by decide)) (fun _ hk=>hk.2) (.slice Ao84 y294.length co84)) (fun _ hk=>trivial)⟩,⟨by (with_reducible repeat (first|apply Kd.S_alloc|apply Kd.S_drewN));exact Kd.S_mono (Kd.S_far (p:=⟨gb282,0,none⟩) (Kd.S_types HO_275001.out BK282.out (by decide)) (fun _ hk=>hk.2) (.slice Ao84 y294.length co84)) (fun _ hk=>trivial)⟩,⟨by (with_reducible repeat (first|apply Kd.R_alloc|apply Kd.R_drewN));exact Kd.R_mono (Kd.R_far (p:=⟨gb282,0,none⟩) (Kd.R_types HO296.out BK282.out (by decide)) (fun _ hk=>hk.2) (.slice Ao84 y294.length co84)) (fun _ hk=>trivial)⟩,⟨by (with_reducible repeat first|refine blk_drewN ?_ _|refine blk_alloc ?_ _);refine blk_far ?_ NB265_282.out _;(with_reducible repeat first|refine blk_drewN ?_ _|refine blk_alloc ?_ _);exact BK265.out⟩,⟨by (with_reducible repeat first|refine blk_drewN ?_ _|refine blk_alloc ?_ _);refine blk_far ?_ NB268_282.out _;(with_reducible repeat first|refine blk_drewN ?_ _|refine blk_alloc ?_ _);exact BK268.out⟩,⟨by (with_reducible repeat first|refine blk_drewN ?_ _|refine blk_alloc ?_ _);refine blk_far ?_ NB274_282.out _;(with_reducible repeat first|refine blk_drewN ?_ _|refine blk_alloc ?_ _);exact BK274.out⟩,⟨by (with_reducible repeat first|refine blk_drewN ?_ _|refine blk_alloc ?_ _);refine blk_put (cs:=#[u283000]) ?_ 0 _ rfl;(with_reducible repeat first|refine blk_drewN ?_ _|refine blk_alloc ?_ _);exact BK282.out⟩,⟨by repeat (first|(with_reducible first|exact HB.out|apply below_alloc|apply pw_below_drewN|apply below_drew1|refine below_set ?_ GE265.out|refine below_set ?_ GE268.out|refine below_set ?_ GE274.out|refine below_set ?_ GE282.out|refine below_set ?_ GE293.out)|exact HB.out)⟩⟩
                      ·rw [if_neg c68] at H
                       exact absurd H (by simp)
                     ·replace c67:=Bool.eq_false_iff.mpr c67
                      subst c67
                      have H1 : (if 0 ≤ x17_5 then (if x283000_5.length < 5864062014805 then (laws_FnJoined.l2 k5 l1 t264 (wrap64 (1 + (Int.tmod t269 7))) (t264.size : Int) x12_3 x13_3 x15_4 (wrap64 (x17_5 + 1)) (wrap64 (1 + (Int.tmod t266 5))) (Int.tmod t267 4) 0 t270 t271 (x283000_5 ++ [(⟨!false,rdOf ByteArray.empty ((rd_T58 t271 x13_3).f0) x17_5⟩ : S61)])) else (none)) else (none)) = some r:=by rw [if_neg (show ¬ (false = true) by decide)] at H;exact H
                      clear H
                      have H:=H1
                      clear H1
                      by_cases c86 : 0 ≤ x17_5
                      ·rw [if_pos c86] at H
                       have c86b0 : decide (0 ≤ x17_5) = true:=decide_eq_true c86
                       clear c86
                       by_cases c87 : x283000_5.length < 5864062014805
                       ·rw [if_pos c87] at H
                        have LMc87:=Aside0.mk c87
                        clear c87
                        obtain ⟨y299,hy299⟩ : ∃ y_ : List (S61),y_ = (x283000_5 ++ [(⟨!false,rdOf ByteArray.empty ((rd_T58 t271 x13_3).f0) x17_5⟩ : S61)]):=⟨_,rfl⟩
                        replace H : (laws_FnJoined.l2 k5 l1 t264 (wrap64 (1 + (Int.tmod t269 7))) (t264.size : Int) x12_3 x13_3 x15_4 (wrap64 (x17_5 + 1)) (wrap64 (1 + (Int.tmod t266 5))) (Int.tmod t267 4) 0 t270 t271 y299) = some r:=by first|(rw [hy299];with_reducible exact H)|(have H2_:=(Option.bind_some _ _).symm.trans H;rw [hy299];with_reducible exact H2_)|(have H2_:=(Option.bind_some _ _).symm.trans H;with_reducible exact H2_)|with_reducible exact H|(rw [hy299];exact H)|exact H
                        have Ny299:=Aside0.mk hy299
                        clear hy299
                        have H':=Aside0.mk H
                        clear H
                        have hnb88:=NB274_265.out
                        have hnc88:=NB265_274.out
                        have hnb89:=NB274_268.out
                        have hnc89:=NB268_274.out
                        have hnb90:=NB274_282.out
                        have hnc90:=NB282_274.out
                        have hcz91_0 : wr.cell? ⟨gb274,0,none⟩ = some (.int .i64 t270):=(blk_cell BK274.out 0).trans rfl
                        have hcz91_1 : wr.cell? ⟨gb274,1,none⟩ = some (.slice (some ad290) t271.length co23):=(blk_cell BK274.out 1).trans rfl
                        have hfz91_0:=blk_frozen BK274.out 0
                        have hfz91_1:=blk_frozen BK274.out 1
                        have p291 : 0 ≤ (x13_3 : Int):=of_decide_eq_true (by first|(with_reducible assumption)|assumption)
                        have q291 : x13_3 < (t271.length : Int):=of_decide_eq_true (by first|(with_reducible assumption)|assumption)
                        obtain ⟨ad291,A291_0,c291_0,e291,hx291_0,hl291_0,hi291_0⟩:=at_T58 (Kd.S_reads' HO_275001.out).2.2 x13_3 p291 q291
                        obtain rfl : ad290 = ad291:=(by injection e291)
                        obtain ⟨ce291,hce291,hMe291,hcc291⟩:=Kd.S_get HO_275001.out z58 x13_3 p291 (by first|exact q291|exact of_decide_eq_true (by first|(with_reducible assumption)|assumption)|(have e_:=(Kd.S_reads' HO_275001.out).1;omega))
                        obtain ⟨ve291_0,rfl,ge291_0⟩:=k58_openM hMe291
                        have hv291_0:=hcc291 0 _ rfl
                        rw [Nat.add_zero,show (k58).sz = 1 from rfl,Nat.mul_one] at hv291_0
                        replace hv291_0:=Option.some.inj (hv291_0.symm.trans hx291_0)
                        rw [hv291_0] at ge291_0
                        have HL291_0:=Aside0.mk (show Kd.R Kd.string 9 _ _ _ _ ((rd_T58 t271 x13_3).f0) from ge291_0)
                        clear hv291_0 ge291_0 hcc291 hce291
                        have HR291_0:=Aside0.mk hi291_0
                        have HC291_0:=Aside0.mk hl291_0
                        clear hi291_0 hl291_0
                        replace p291:=eq_true p291
                        replace q291:=eq_true q291
                        obtain ⟨Ao92,co92,eo92⟩:=Kd.R_slice HO_15.out
                        subst eo92
                        go_wp2_with (first|((with_reducible refine gate_callee (f:=32) rfl ?_);refine goesL_ (some 123) rfl rfl Try.func32 (by kernel_rfl) rfl #[.slice Ao92 x15_4.length co92,.int .i64 x17_5] rfl (by (try simp only [List.map_toArray,List.map_cons,List.map_nil]);first|done|rfl) ?_;(with_reducible refine (laws_lwHas.calls k5 _ _ x15_4 x17_5 false _ ?side1 ?side2 A66.out).mono ?_);(case side1=>repeat (first|exact (Kd.R_reads' HO_15.out).2.2|(with_reducible refine Kd.C_alloc ?_ _)|(with_reducible refine Kd.C_drewN ?_ _)|(with_reducible refine Kd.C_drew ?_)));(case side2=>exact (Kd.R_reads' HO_15.out).2.1);rintro e w' ⟨rfl,⟨nd,rfl⟩⟩;refine ⟨_,rfl,?_⟩;(try (rw [drewN_self wr];generalize hq_ : World.drewN wr _ = wr;have n0_ : Aside0 (Kd.R Kd.string 9 wr w.heap.size (fun k_=>some k_ ≠ (.slice (some ad290) t271.length co23 : Value).ownBlock) (.slice A291_0 ((rd_T58 t271 x13_3).f0).length c291_0) ((rd_T58 t271 x13_3).f0)):=⟨by rw [← hq_];exact (by (with_reducible repeat (first|apply Kd.R_alloc|apply Kd.R_drewN));exact Kd.R_mono HL291_0.out (fun _ hk=>hk.2))⟩;have n1_ : Aside0 (Kd.S k55 55 wr w.heap.size (fun k_=>some k_ ≠ (u283000 : Value).ownBlock ∧ k_ ≠ gb282) u12 x12_3):=⟨by rw [← hq_];exact (by (with_reducible repeat (first|apply Kd.S_alloc|apply Kd.S_drewN));exact HO_12.out)⟩;have n2_ : Aside0 (Kd.R (Kd.int .i64) 2 wr w.heap.size (fun _=>True) (.slice Ao92 x15_4.length co92) x15_4):=⟨by rw [← hq_];exact (by (with_reducible repeat (first|apply Kd.R_alloc|apply Kd.R_drewN));exact HO_15.out)⟩;have n3_ : Aside0 (Kd.S k58 58 wr w.heap.size (fun _=>True) (.slice (some ad290) t271.length co23) t271):=⟨by rw [← hq_];exact (by (with_reducible repeat (first|apply Kd.S_alloc|apply Kd.S_drewN));exact HO_275001.out)⟩;have n4_ : Aside0 (Kd.R k61 61 wr w.heap.size (fun _=>True) u283000 x283000_5):=⟨by rw [← hq_];exact (by (with_reducible repeat (first|apply Kd.R_alloc|apply Kd.R_drewN));exact HO_283000.out)⟩;have n5_ : Aside0 (wr.heap[gb265]? = some (.cells #[.int .i64 t260,.int .i64 t261,.int .i64 t262] 43 (0,0))):=⟨by rw [← hq_];exact (by (with_reducible repeat first|refine blk_drewN ?_ _|refine blk_alloc ?_ _);exact BK265.out)⟩;have n6_ : Aside0 (wr.heap[gb268]? = some (.cells #[.int .i64 (wrap64 (1 + (Int.tmod t266 5))),.int .i64 (Int.tmod t267 4),.int .i64 0] 43 (0,0))):=⟨by rw [← hq_];exact (by (with_reducible repeat first|refine blk_drewN ?_ _|refine blk_alloc ?_ _);exact BK268.out)⟩;have n7_ : Aside0 (wr.heap[gb274]? = some (.cells #[.int .i64 t270,.slice (some ad290) t271.length co23] 49 (0,0))):=⟨by rw [← hq_];exact (by (with_reducible repeat first|refine blk_drewN ?_ _|refine blk_alloc ?_ _);exact BK274.out)⟩;have n8_ : Aside0 (wr.heap[gb282]? = some (.cells #[u283000] 55 (0,0))):=⟨by rw [← hq_];exact (by (with_reducible repeat first|refine blk_drewN ?_ _|refine blk_alloc ?_ _);exact BK282.out)⟩;have n9_ : Aside0 (Below w.heap.size w wr):=⟨by rw [← hq_];exact (by repeat (first|(with_reducible first|exact HB.out|apply below_alloc|apply pw_below_drewN|apply below_drew1|refine below_set ?_ GE265.out|refine below_set ?_ GE268.out|refine below_set ?_ GE274.out|refine below_set ?_ GE282.out)|exact HB.out))⟩;have n10_ : Aside0 (Kd.C Kd.string wr A291_0 ((rd_T58 t271 x13_3).f0).length ((rd_T58 t271 x13_3).f0)):=⟨by rw [← hq_];exact (by repeat (first|(with_reducible exact HR291_0.out)|(with_reducible refine Kd.C_alloc ?_ _)|(with_reducible refine Kd.C_drewN ?_ _)|(with_reducible refine Kd.C_drew ?_)|exact HR291_0.out))⟩;clear HL291_0 HO_12 HO_15 HO_275001 HO_283000 BK265 BK268 BK274 BK282 HB HR291_0 hq_;have HL291_0:=n0_;have HO_12:=n1_;have HO_15:=n2_;have HO_275001:=n3_;have HO_283000:=n4_;have BK265:=n5_;have BK268:=n6_;have BK274:=n7_;have BK282:=n8_;have HB:=n9_;have HR291_0:=n10_;clear n0_ n1_ n2_ n3_ n4_ n5_ n6_ n7_ n8_ n9_ n10_)))|((with_reducible refine gate_dst (N:=18) rfl ?_);(try (refine gate_guard (by rfl) ?_;dsimp only));refine box_event ?hg (N:=18) ?hd (cs:=#[.bool false,.string (⟨#[]⟩ : ByteArray)]) (t:=61) ?hr ?_;(case hd=>rfl);(case hg=>rfl);(case hr=>first|(go_simp;done)|(go_simp;rfl));intro gb293 hg w93 hbox hb;have n0_:=Aside0.mk (Kd.S_below (Kd.S_elderB (by (with_reducible repeat (first|apply Kd.S_alloc|apply Kd.S_drewN));exact HO_12.out) gb293 (Nat.le_of_eq hg.symm)) hb);have n1_:=Aside0.mk (Kd.R_below (by (with_reducible repeat (first|apply Kd.R_alloc|apply Kd.R_drewN));exact HO_15.out) hb);have n2_:=Aside0.mk (Kd.S_below (by (with_reducible repeat (first|apply Kd.S_alloc|apply Kd.S_drewN));exact HO_275001.out) hb);have n3_:=Aside0.mk (Kd.R_below (Kd.R_elderB (by (with_reducible repeat (first|apply Kd.R_alloc|apply Kd.R_drewN));exact HO_283000.out) gb293 (Nat.le_of_eq hg.symm)) hb);have n4_:=Aside0.mk (Kd.R_below (by (with_reducible repeat (first|apply Kd.R_alloc|apply Kd.R_drewN));exact HL291_0.out) hb);have n5_:=Aside0.mk (blk_below (g:=gb265) (o:=.cells #[.int .i64 t260,.int .i64 t261,.int .i64 t262] 43 (0,0)) (by (with_reducible repeat first|refine blk_drewN ?_ _|refine blk_alloc ?_ _);exact BK265.out) hb);have n6_:=Aside0.mk (blk_below (g:=gb268) (o:=.cells #[.int .i64 (wrap64 (1 + (Int.tmod t266 5))),.int .i64 (Int.tmod t267 4),.int .i64 0] 43 (0,0)) (by (with_reducible repeat first|refine blk_drewN ?_ _|refine blk_alloc ?_ _);exact BK268.out) hb);have n7_:=Aside0.mk (blk_below (g:=gb274) (o:=.cells #[.int .i64 t270,.slice (some ad290) t271.length co23] 49 (0,0)) (by (with_reducible repeat first|refine blk_drewN ?_ _|refine blk_alloc ?_ _);exact BK274.out) hb);have n8_:=Aside0.mk (blk_below (g:=gb282) (o:=.cells #[u283000] 55 (0,0)) (by (with_reducible repeat first|refine blk_drewN ?_ _|refine blk_alloc ?_ _);exact BK282.out) hb);have n9_:=Aside0.mk (Kd.C_below (by repeat (first|(with_reducible exact HR291_0.out)|(with_reducible refine Kd.C_alloc ?_ _)|(with_reducible refine Kd.C_drewN ?_ _)|(with_reducible refine Kd.C_drew ?_)|exact HR291_0.out)) hb);have n10_:=Aside0.mk (below_step (by repeat (first|(with_reducible first|exact HB.out|apply below_alloc|apply pw_below_drewN|apply below_drew1|refine below_set ?_ GE265.out|refine below_set ?_ GE268.out|refine below_set ?_ GE274.out|refine below_set ?_ GE282.out)|exact HB.out)) hb);have n11_:=Aside0.mk (hbox);have n12_:=Aside0.mk ((by rw [hg];exact (below_size (by repeat (first|(with_reducible first|exact HB.out|apply below_alloc|apply pw_below_drewN|apply below_drew1|refine below_set ?_ GE265.out|refine below_set ?_ GE268.out|refine below_set ?_ GE274.out|refine below_set ?_ GE282.out)|exact HB.out))) : w.heap.size ≤ gb293));have n13_:=Aside0.mk ((by rw [hg];exact (below_size (by repeat (first|(with_reducible first|exact HB.out|apply below_alloc|apply pw_below_drewN|apply below_drew1|refine below_set ?_ GE265.out|refine below_set ?_ GE268.out|refine below_set ?_ GE274.out|refine below_set ?_ GE282.out)|exact HB.out))) : w.heap.size ≤ gb293));have n14_:=Aside0.mk ((by rw [hg];exact Nat.ne_of_lt (blk_lt (g:=gb265) (o:=.cells #[.int .i64 t260,.int .i64 t261,.int .i64 t262] 43 (0,0)) (by (with_reducible repeat first|refine blk_drewN ?_ _|refine blk_alloc ?_ _);exact BK265.out)) : gb265 ≠ gb293));have n15_:=Aside0.mk ((by rw [hg];exact Nat.ne_of_gt (blk_lt (g:=gb265) (o:=.cells #[.int .i64 t260,.int .i64 t261,.int .i64 t262] 43 (0,0)) (by (with_reducible repeat first|refine blk_drewN ?_ _|refine blk_alloc ?_ _);exact BK265.out)) : gb293 ≠ gb265));have n16_:=Aside0.mk ((by rw [hg];exact Nat.ne_of_lt (blk_lt (g:=gb268) (o:=.cells #[.int .i64 (wrap64 (1 + (Int.tmod t266 5))),.int .i64 (Int.tmod t267 4),.int .i64 0] 43 (0,0)) (by (with_reducible repeat first|refine blk_drewN ?_ _|refine blk_alloc ?_ _);exact BK268.out)) : gb268 ≠ gb293));have n17_:=Aside0.mk ((by rw [hg];exact Nat.ne_of_gt (blk_lt (g:=gb268) (o:=.cells #[.int .i64 (wrap64 (1 + (Int.tmod t266 5))),.int .i64 (Int.tmod t267 4),.int .i64 0] 43 (0,0)) (by (with_reducible repeat first|refine blk_drewN ?_ _|refine blk_alloc ?_ _);exact BK268.out)) : gb293 ≠ gb268));have n18_:=Aside0.mk ((by rw [hg];exact Nat.ne_of_lt (blk_lt (g:=gb274) (o:=.cells #[.int .i64 t270,.slice (some ad290) t271.length co23] 49 (0,0)) (by (with_reducible repeat first|refine blk_drewN ?_ _|refine blk_alloc ?_ _);exact BK274.out)) : gb274 ≠ gb293));have n19_:=Aside0.mk ((by rw [hg];exact Nat.ne_of_gt (blk_lt (g:=gb274) (o:=.cells #[.int .i64 t270,.slice (some ad290) t271.length co23] 49 (0,0)) (by (with_reducible repeat first|refine blk_drewN ?_ _|refine blk_alloc ?_ _);exact BK274.out)) : gb293 ≠ gb274));have n20_:=Aside0.mk ((by rw [hg];exact Nat.ne_of_lt (blk_lt (g:=gb282) (o:=.cells #[u283000] 55 (0,0)) (by (with_reducible repeat first|refine blk_drewN ?_ _|refine blk_alloc ?_ _);exact BK282.out)) : gb282 ≠ gb293));have n21_:=Aside0.mk ((by rw [hg];exact Nat.ne_of_gt (blk_lt (g:=gb282) (o:=.cells #[u283000] 55 (0,0)) (by (with_reducible repeat first|refine blk_drewN ?_ _|refine blk_alloc ?_ _);exact BK282.out)) : gb293 ≠ gb282));clear HO_12 HO_15 HO_275001 HO_283000 HL291_0 BK265 BK268 BK274 BK282 HR291_0 HB;have HO_12:=n0_;have HO_15:=n1_;have HO_275001:=n2_;have HO_283000:=n3_;have HL291_0:=n4_;have BK265:=n5_;have BK268:=n6_;have BK274:=n7_;have BK282:=n8_;have HR291_0:=n9_;have HB:=n10_;have BK293:=n11_;have GW293:=n12_;have GE293:=n13_;have NB265_293:=n14_;have NB293_265:=n15_;have NB268_293:=n16_;have NB293_268:=n17_;have NB274_293:=n18_;have NB293_274:=n19_;have NB282_293:=n20_;have NB293_282:=n21_;clear n0_ n1_ n2_ n3_ n4_ n5_ n6_ n7_ n8_ n9_ n10_ n11_ n12_ n13_ n14_ n15_ n16_ n17_ n18_ n19_ n20_ n21_ hb hbox hg;have hnb94:=NB293_265.out;have hnc94:=NB265_293.out;have hnb95:=NB293_268.out;have hnc95:=NB268_293.out;have hnb96:=NB293_274.out;have hnc96:=NB274_293.out;have hnb97:=NB293_282.out;have hnc97:=NB282_293.out;have hcz98_0 : w93.cell? ⟨gb293,0,none⟩ = some (.bool false):=(blk_cell BK293.out 0).trans rfl;have hcz98_1 : w93.cell? ⟨gb293,1,none⟩ = some (.string (⟨#[]⟩ : ByteArray)):=(blk_cell BK293.out 1).trans rfl;have hfz98_0:=blk_frozen BK293.out 0;have hfz98_1:=blk_frozen BK293.out 1)|((with_reducible refine gate_store (t:=61) (p:=18) rfl ?_);refine store_event (t:=61) (p:=18) (v:=?vo_w99) (w1:=((w93.setCell ⟨gb293,0,none⟩ (.bool (!false))).setCell ⟨gb293,1,none⟩ (.string (⟨#[]⟩ : ByteArray)))) ?hg ?ho ?hn ?hr ?_;(case ho=>rfl);(case hg=>rfl);(case hn=>rfl);(case hr=>first|(go_simp;done)|(go_simp;rfl));intro w99 hw;have n0_ : Aside0 (Kd.S k55 55 w99 w.heap.size (fun k_=>some k_ ≠ (u283000 : Value).ownBlock ∧ k_ ≠ gb282 ∧ k_ ≠ gb293) u12 x12_3):=⟨(by rw [hw];exact (by (with_reducible repeat (first|apply Kd.S_alloc|apply Kd.S_drewN));exact Kd.S_mono (Kd.S_far (p:=⟨gb293,1,none⟩) (Kd.S_far (p:=⟨gb293,0,none⟩) (Kd.S_mono HO_12.out (fun k_ hk=>(⟨hk,hk.2⟩ : _ ∧ k_ ≠ gb293))) (fun _ hk=>hk.2) (.bool (!false))) (fun _ hk=>hk.2) (.string (⟨#[]⟩ : ByteArray))) (fun _ hk=>⟨hk.1.1.1,⟨hk.1.1.2,hk.1.2⟩⟩)))⟩;have n1_ : Aside0 (Kd.R (Kd.int .i64) 2 w99 w.heap.size (fun _=>True) (.slice Ao92 x15_4.length co92) x15_4):=⟨(by rw [hw];exact (by (with_reducible repeat (first|apply Kd.R_alloc|apply Kd.R_drewN));exact Kd.R_mono (Kd.R_far (p:=⟨gb293,1,none⟩) (Kd.R_far (p:=⟨gb293,0,none⟩) (Kd.R_types HO_15.out BK293.out (by decide)) (fun _ hk=>hk.2) (.bool (!false))) (fun _ hk=>hk.2) (.string (⟨#[]⟩ : ByteArray))) (fun _ hk=>trivial)))⟩;have n2_ : Aside0 (Kd.S k58 58 w99 w.heap.size (fun _=>True) (.slice (some ad290) t271.length co23) t271):=⟨(by rw [hw];exact (by (with_reducible repeat (first|apply Kd.S_alloc|apply Kd.S_drewN));exact Kd.S_mono (Kd.S_far (p:=⟨gb293,1,none⟩) (Kd.S_far (p:=⟨gb293,0,none⟩) (Kd.S_types HO_275001.out BK293.out (by decide)) (fun _ hk=>hk.2) (.bool (!false))) (fun _ hk=>hk.2) (.string (⟨#[]⟩ : ByteArray))) (fun _ hk=>trivial)))⟩;have n3_ : Aside0 (Kd.R k61 61 w99 w.heap.size (fun k_=>k_ ≠ gb293) u283000 x283000_5):=⟨(by rw [hw];exact (by (with_reducible repeat (first|apply Kd.R_alloc|apply Kd.R_drewN));exact Kd.R_mono (Kd.R_far (p:=⟨gb293,1,none⟩) (Kd.R_far (p:=⟨gb293,0,none⟩) (Kd.R_mono HO_283000.out (fun k_ hk=>(⟨hk,hk.2⟩ : _ ∧ k_ ≠ gb293))) (fun _ hk=>hk.2) (.bool (!false))) (fun _ hk=>hk.2) (.string (⟨#[]⟩ : ByteArray))) (fun _ hk=>by first|exact hk.1.2|exact hk.1)))⟩;have n4_ : Aside0 (Kd.R Kd.string 9 w99 w.heap.size (fun k_=>some k_ ≠ (.slice (some ad290) t271.length co23 : Value).ownBlock) (.slice A291_0 ((rd_T58 t271 x13_3).f0).length c291_0) ((rd_T58 t271 x13_3).f0)):=⟨(by rw [hw];exact (by (with_reducible repeat (first|apply Kd.R_alloc|apply Kd.R_drewN));exact Kd.R_mono (Kd.R_far (p:=⟨gb293,1,none⟩) (Kd.R_far (p:=⟨gb293,0,none⟩) (Kd.R_types HL291_0.out BK293.out (by decide)) (fun _ hk=>hk.2) (.bool (!false))) (fun _ hk=>hk.2) (.string (⟨#[]⟩ : ByteArray))) (fun _ hk=>by first|exact hk.1.2|exact hk.1)))⟩;have n5_ : Aside0 (w99.heap[gb265]? = some (.cells #[.int .i64 t260,.int .i64 t261,.int .i64 t262] 43 (0,0))):=⟨(by rw [hw];exact (by (with_reducible repeat first|refine blk_drewN ?_ _|refine blk_alloc ?_ _);refine blk_far ?_ NB265_293.out _;(with_reducible repeat first|refine blk_drewN ?_ _|refine blk_alloc ?_ _);refine blk_far ?_ NB265_293.out _;(with_reducible repeat first|refine blk_drewN ?_ _|refine blk_alloc ?_ _);exact BK265.out))⟩;have n6_ : Aside0 (w99.heap[gb268]? = some (.cells #[.int .i64 (wrap64 (1 + (Int.tmod t266 5))),.int .i64 (Int.tmod t267 4),.int .i64 0] 43 (0,0))):=⟨(by rw [hw];exact (by (with_reducible repeat first|refine blk_drewN ?_ _|refine blk_alloc ?_ _);refine blk_far ?_ NB268_293.out _;(with_reducible repeat first|refine blk_drewN ?_ _|refine blk_alloc ?_ _);refine blk_far ?_ NB268_293.out _;(with_reducible repeat first|refine blk_drewN ?_ _|refine blk_alloc ?_ _);exact BK268.out))⟩;have n7_ : Aside0 (w99.heap[gb274]? = some (.cells #[.int .i64 t270,.slice (some ad290) t271.length co23] 49 (0,0))):=⟨(by rw [hw];exact (by (with_reducible repeat first|refine blk_drewN ?_ _|refine blk_alloc ?_ _);refine blk_far ?_ NB274_293.out _;(with_reducible repeat first|refine blk_drewN ?_ _|refine blk_alloc ?_ _);refine blk_far ?_ NB274_293.out _;(with_reducible repeat first|refine blk_drewN ?_ _|refine blk_alloc ?_ _);exact BK274.out))⟩;have n8_ : Aside0 (w99.heap[gb282]? = some (.cells #[u283000] 55 (0,0))):=⟨(by rw [hw];exact (by (with_reducible repeat first|refine blk_drewN ?_ _|refine blk_alloc ?_ _);refine blk_far ?_ NB282_293.out _;(with_reducible repeat first|refine blk_drewN ?_ _|refine blk_alloc ?_ _);refine blk_far ?_ NB282_293.out _;(with_reducible repeat first|refine blk_drewN ?_ _|refine blk_alloc ?_ _);exact BK282.out))⟩;have n9_ : Aside0 (w99.heap[gb293]? = some (.cells #[.bool (!false),.string (⟨#[]⟩ : ByteArray)] 61 (0,0))):=⟨(by rw [hw];exact (by (with_reducible repeat first|refine blk_drewN ?_ _|refine blk_alloc ?_ _);refine blk_put (cs:=#[.bool (!false),.string (⟨#[]⟩ : ByteArray)]) ?_ 1 _ rfl;(with_reducible repeat first|refine blk_drewN ?_ _|refine blk_alloc ?_ _);refine blk_put (cs:=#[.bool false,.string (⟨#[]⟩ : ByteArray)]) ?_ 0 _ rfl;(with_reducible repeat first|refine blk_drewN ?_ _|refine blk_alloc ?_ _);exact BK293.out))⟩;have n10_ : Aside0 (Below w.heap.size w w99):=⟨(by rw [hw];exact (by repeat (first|(with_reducible first|exact HB.out|apply below_alloc|apply pw_below_drewN|apply below_drew1|refine below_set ?_ GE265.out|refine below_set ?_ GE268.out|refine below_set ?_ GE274.out|refine below_set ?_ GE282.out|refine below_set ?_ GE293.out)|exact HB.out)))⟩;clear hw HO_12 HO_15 HO_275001 HO_283000 HL291_0 BK265 BK268 BK274 BK282 BK293 HB;have HO_12:=n0_;have HO_15:=n1_;have HO_275001:=n2_;have HO_283000:=n3_;have HL291_0:=n4_;have BK265:=n5_;have BK268:=n6_;have BK274:=n7_;have BK282:=n8_;have BK293:=n9_;have HB:=n10_;clear n0_ n1_ n2_ n3_ n4_ n5_ n6_ n7_ n8_ n9_ n10_;have hcz100_0 : w99.cell? ⟨gb293,0,none⟩ = some (.bool (!false)):=(blk_cell BK293.out 0).trans rfl;have hcz100_1 : w99.cell? ⟨gb293,1,none⟩ = some (.string (⟨#[]⟩ : ByteArray)):=(blk_cell BK293.out 1).trans rfl;have hfz100_0:=blk_frozen BK293.out 0;have hfz100_1:=blk_frozen BK293.out 1;have hcz101_0 : w99.cell? ⟨gb274,0,none⟩ = some (.int .i64 t270):=(blk_cell BK274.out 0).trans rfl;have hcz101_1 : w99.cell? ⟨gb274,1,none⟩ = some (.slice (some ad290) t271.length co23):=(blk_cell BK274.out 1).trans rfl;have hfz101_0:=blk_frozen BK274.out 0;have hfz101_1:=blk_frozen BK274.out 1;have p297 : 0 ≤ (x13_3 : Int):=of_decide_eq_true (by first|(with_reducible assumption)|assumption);have q297 : x13_3 < (t271.length : Int):=of_decide_eq_true (by first|(with_reducible assumption)|assumption);obtain ⟨ad297,A297_0,c297_0,e297,hx297_0,hl297_0,hi297_0⟩:=at_T58 (Kd.S_reads' HO_275001.out).2.2 x13_3 p297 q297;obtain rfl : ad290 = ad297:=(by injection e297);obtain ⟨ce297,hce297,hMe297,hcc297⟩:=Kd.S_get HO_275001.out z58 x13_3 p297 (by first|exact q297|exact of_decide_eq_true (by first|(with_reducible assumption)|assumption)|(have e_:=(Kd.S_reads' HO_275001.out).1;omega));obtain ⟨ve297_0,rfl,ge297_0⟩:=k58_openM hMe297;have hv297_0:=hcc297 0 _ rfl;rw [Nat.add_zero,show (k58).sz = 1 from rfl,Nat.mul_one] at hv297_0;replace hv297_0:=Option.some.inj (hv297_0.symm.trans hx297_0);rw [hv297_0] at ge297_0;have HL297_0:=Aside0.mk (show Kd.R Kd.string 9 _ _ _ _ ((rd_T58 t271 x13_3).f0) from ge297_0);clear hv297_0 ge297_0 hcc297 hce297;have HR297_0:=Aside0.mk hi297_0;have HC297_0:=Aside0.mk hl297_0;clear hi297_0 hl297_0;replace p297:=eq_true p297;replace q297:=eq_true q297;have p298 : 0 ≤ (x17_5 : Int):=of_decide_eq_true (by first|(with_reducible assumption)|assumption);have q298 : x17_5 < (((rd_T58 t271 x13_3).f0).length : Int):=of_decide_eq_true (by first|(with_reducible assumption)|assumption);obtain ⟨ad298,e298,hx298_0⟩:=Kd.at_string (by repeat (first|(with_reducible exact HR297_0.out)|(with_reducible refine Kd.C_alloc ?_ _)|(with_reducible refine Kd.C_drewN ?_ _)|(with_reducible refine Kd.C_drew ?_)|exact HR297_0.out)) x17_5 p298 q298;cases e298;replace p298:=eq_true p298;replace q298:=eq_true q298;have hnb102:=NB282_265.out;have hnc102:=NB265_282.out;have hnb103:=NB282_268.out;have hnc103:=NB268_282.out;have hcz104_0 : w99.cell? ⟨gb282,0,none⟩ = some (u283000):=(blk_cell BK282.out 0).trans rfl;have hfz104_0:=blk_frozen BK282.out 0)|((with_reducible refine gate_builtin (b:=.append) (xs:=#[.tmp 139,.tmp 141]) rfl ?_);(try (refine gate_guard (by rfl) ?_;dsimp only));at_builtin;refine Kd.R_append k61 (w0:=w) w.heap.size rfl (.tmp 139) (.tmp 141) 53 61 (.agg #[(.bool false),(.string ⟨#[]⟩)]) 24 rfl Try.underlying53 info61 rfl (by decide) (by omega) u283000 x283000_5 (⟨!false,rdOf ByteArray.empty ((rd_T58 t271 x13_3).f0) x17_5⟩ : S61) [.bool (!false),.string (rdOf ByteArray.empty ((rd_T58 t271 x13_3).f0) x17_5)] (fun k_=>k_ ≠ gb293) (fun _=>False) rfl (by first|(go_simp;done)|(go_simp;rfl)) ?aP (fun _ hk=>hk.elim) ?aF ?aO ?aB ?aS ?aL ?_;(case aP=>exact k61_mkM _ _ _ (⟨!false,rdOf ByteArray.empty ((rd_T58 t271 x13_3).f0) x17_5⟩ : S61));(case aB=>exact (by repeat (first|(with_reducible first|exact HB.out|apply below_alloc|apply pw_below_drewN|apply below_drew1|refine below_set ?_ GE265.out|refine below_set ?_ GE268.out|refine below_set ?_ GE274.out|refine below_set ?_ GE282.out|refine below_set ?_ GE293.out)|exact HB.out)));(case aF=>exact (fun k_ hk=>Kd.freshB (g:=gb293) (o:=.cells #[.bool (!false),.string (rdOf ByteArray.empty ((rd_T58 t271 x13_3).f0) x17_5)] 61 (0,0)) (by (with_reducible repeat first|refine blk_drewN ?_ _|refine blk_alloc ?_ _);refine blk_put (cs:=#[.bool (!false),.string (⟨#[]⟩ : ByteArray)]) ?_ 1 _ rfl;(with_reducible repeat first|refine blk_drewN ?_ _|refine blk_alloc ?_ _);exact BK293.out) k_ hk));(case aO=>exact (by (with_reducible repeat (first|apply Kd.R_alloc|apply Kd.R_drewN));exact Kd.R_mono (Kd.R_far (p:=⟨gb293,1,none⟩) (Kd.R_mono HO_283000.out (fun k_ hk=>(⟨hk,hk⟩ : _ ∧ k_ ≠ gb293))) (fun _ hk=>hk.2) (.string (rdOf ByteArray.empty ((rd_T58 t271 x13_3).f0) x17_5))) (fun _ hk=>hk.1)));(case aS=>exact (below_size (by repeat (first|(with_reducible first|exact HB.out|apply below_alloc|apply pw_below_drewN|apply below_drew1|refine below_set ?_ GE265.out|refine below_set ?_ GE268.out|refine below_set ?_ GE274.out|refine below_set ?_ GE282.out|refine below_set ?_ GE293.out)|exact HB.out))));(case aL=>have:=LMc87.out;omega);intro v300 w105 ho hb hg hat;rw [← Ny299.out] at ho;have n0_:=Aside0.mk (Kd.S_after (ok:=(fun k_=>k_ ≠ gb282 ∧ k_ ≠ gb293)) (by (with_reducible repeat (first|apply Kd.S_alloc|apply Kd.S_drewN));exact Kd.S_mono (Kd.S_far (p:=⟨gb293,1,none⟩) (Kd.S_mono HO_12.out (fun k_ hk=>(⟨hk,hk.2.2⟩ : _ ∧ k_ ≠ gb293))) (fun _ hk=>hk.2) (.string (rdOf ByteArray.empty ((rd_T58 t271 x13_3).f0) x17_5))) (fun _ hk=>⟨⟨hk.1.2.1,hk.1.2.2⟩,hk.1.1⟩)) hg hat);have n1_:=Aside0.mk (Kd.R_over' (by (with_reducible repeat (first|apply Kd.R_alloc|apply Kd.R_drewN));exact (Kd.R_mono (Kd.R_far (p:=⟨gb293,1,none⟩) (Kd.R_types HO_15.out BK293.out (by decide)) (fun _ hk=>hk.2) (.string (rdOf ByteArray.empty ((rd_T58 t271 x13_3).f0) x17_5))) (fun _ h_=>h_.1))) (Kd.R_typed (by (with_reducible repeat (first|apply Kd.R_alloc|apply Kd.R_drewN));exact (Kd.R_mono (Kd.R_far (p:=⟨gb293,1,none⟩) (Kd.R_mono HO_283000.out (fun k_ hk=>(⟨hk,hk⟩ : _ ∧ k_ ≠ gb293))) (fun _ hk=>hk.2) (.string (rdOf ByteArray.empty ((rd_T58 t271 x13_3).f0) x17_5))) (fun _ h_=>h_.1)))) (by decide) hg);have n2_:=Aside0.mk (Kd.S_over' (by (with_reducible repeat (first|apply Kd.S_alloc|apply Kd.S_drewN));exact (Kd.S_mono (Kd.S_far (p:=⟨gb293,1,none⟩) (Kd.S_types HO_275001.out BK293.out (by decide)) (fun _ hk=>hk.2) (.string (rdOf ByteArray.empty ((rd_T58 t271 x13_3).f0) x17_5))) (fun _ h_=>h_.1))) (Kd.R_typed (by (with_reducible repeat (first|apply Kd.R_alloc|apply Kd.R_drewN));exact (Kd.R_mono (Kd.R_far (p:=⟨gb293,1,none⟩) (Kd.R_mono HO_283000.out (fun k_ hk=>(⟨hk,hk⟩ : _ ∧ k_ ≠ gb293))) (fun _ hk=>hk.2) (.string (rdOf ByteArray.empty ((rd_T58 t271 x13_3).f0) x17_5))) (fun _ h_=>h_.1)))) (by decide) hg);have n3_:=Aside0.mk (blk_grown (g:=gb265) (o:=.cells #[.int .i64 t260,.int .i64 t261,.int .i64 t262] 43 (0,0)) (by (with_reducible repeat first|refine blk_drewN ?_ _|refine blk_alloc ?_ _);refine blk_far ?_ NB265_293.out _;(with_reducible repeat first|refine blk_drewN ?_ _|refine blk_alloc ?_ _);exact BK265.out) hg (Kd.R_ne HO_283000.out BK265.out (by decide)));have n4_:=Aside0.mk (blk_grown (g:=gb268) (o:=.cells #[.int .i64 (wrap64 (1 + (Int.tmod t266 5))),.int .i64 (Int.tmod t267 4),.int .i64 0] 43 (0,0)) (by (with_reducible repeat first|refine blk_drewN ?_ _|refine blk_alloc ?_ _);refine blk_far ?_ NB268_293.out _;(with_reducible repeat first|refine blk_drewN ?_ _|refine blk_alloc ?_ _);exact BK268.out) hg (Kd.R_ne HO_283000.out BK268.out (by decide)));have n5_:=Aside0.mk (blk_grown (g:=gb274) (o:=.cells #[.int .i64 t270,.slice (some ad290) t271.length co23] 49 (0,0)) (by (with_reducible repeat first|refine blk_drewN ?_ _|refine blk_alloc ?_ _);refine blk_far ?_ NB274_293.out _;(with_reducible repeat first|refine blk_drewN ?_ _|refine blk_alloc ?_ _);exact BK274.out) hg (Kd.R_ne HO_283000.out BK274.out (by decide)));have n6_:=Aside0.mk (blk_grown (g:=gb282) (o:=.cells #[u283000] 55 (0,0)) (by (with_reducible repeat first|refine blk_drewN ?_ _|refine blk_alloc ?_ _);refine blk_far ?_ NB282_293.out _;(with_reducible repeat first|refine blk_drewN ?_ _|refine blk_alloc ?_ _);exact BK282.out) hg (Kd.R_ne HO_283000.out BK282.out (by decide)));have n7_:=Aside0.mk (Kd.R_over' (by (with_reducible repeat (first|apply Kd.R_alloc|apply Kd.R_drewN));exact (Kd.R_mono (Kd.R_far (p:=⟨gb293,1,none⟩) (Kd.R_types HL291_0.out BK293.out (by decide)) (fun _ hk=>hk.2) (.string (rdOf ByteArray.empty ((rd_T58 t271 x13_3).f0) x17_5))) (fun _ h_=>h_.1))) (Kd.R_typed (by (with_reducible repeat (first|apply Kd.R_alloc|apply Kd.R_drewN));exact (Kd.R_mono (Kd.R_far (p:=⟨gb293,1,none⟩) (Kd.R_mono HO_283000.out (fun k_ hk=>(⟨hk,hk⟩ : _ ∧ k_ ≠ gb293))) (fun _ hk=>hk.2) (.string (rdOf ByteArray.empty ((rd_T58 t271 x13_3).f0) x17_5))) (fun _ h_=>h_.1)))) (by decide) hg);have n8_:=Aside0.mk (blk_grown (g:=gb293) (o:=.cells #[.bool (!false),.string (rdOf ByteArray.empty ((rd_T58 t271 x13_3).f0) x17_5)] 61 (0,0)) (by (with_reducible repeat first|refine blk_drewN ?_ _|refine blk_alloc ?_ _);refine blk_put (cs:=#[.bool (!false),.string (⟨#[]⟩ : ByteArray)]) ?_ 1 _ rfl;(with_reducible repeat first|refine blk_drewN ?_ _|refine blk_alloc ?_ _);exact BK293.out) hg (Kd.R_away HO_283000.out (fun _ hk=>hk)));have n9_:=Aside0.mk (Kd.R_over' (by (with_reducible repeat (first|apply Kd.R_alloc|apply Kd.R_drewN));exact (Kd.R_mono (Kd.R_far (p:=⟨gb293,1,none⟩) (Kd.R_types HL297_0.out BK293.out (by decide)) (fun _ hk=>hk.2) (.string (rdOf ByteArray.empty ((rd_T58 t271 x13_3).f0) x17_5))) (fun _ h_=>h_.1))) (Kd.R_typed (by (with_reducible repeat (first|apply Kd.R_alloc|apply Kd.R_drewN));exact (Kd.R_mono (Kd.R_far (p:=⟨gb293,1,none⟩) (Kd.R_mono HO_283000.out (fun k_ hk=>(⟨hk,hk⟩ : _ ∧ k_ ≠ gb293))) (fun _ hk=>hk.2) (.string (rdOf ByteArray.empty ((rd_T58 t271 x13_3).f0) x17_5))) (fun _ h_=>h_.1)))) (by decide) hg);have n10_:=Aside0.mk (hb);have n11_:=Aside0.mk (ho);clear HO_12 HO_15 HO_275001 BK265 BK268 BK274 BK282 HL291_0 BK293 HL297_0 HB HO_283000;have HO_12:=n0_;have HO_15:=n1_;have HO_275001:=n2_;have BK265:=n3_;have BK268:=n4_;have BK274:=n5_;have BK282:=n6_;have HL291_0:=n7_;have BK293:=n8_;have HL297_0:=n9_;have HB:=n10_;have HO301:=n11_;clear n0_ n1_ n2_ n3_ n4_ n5_ n6_ n7_ n8_ n9_ n10_ n11_ ho hb hg hat;obtain ⟨Ao106,co106,eo106⟩:=Kd.R_slice HO301.out;subst eo106;have hcz107_0 : w105.cell? ⟨gb282,0,none⟩ = some (u283000):=(blk_cell BK282.out 0).trans rfl;have hfz107_0:=blk_frozen BK282.out 0))
                        go_roundg k5
                        case measure=>have:=HJ2.out;have:=HJ10.out;have:=HK3.out;have:=HK4.out;have:=HK5.out;omega
                        case rel=>exact ⟨(wrap64 (x17_5 + 1)),(y299),(.slice Ao106 y299.length co106),(by first|rfl|(simp;done)|(simp [*];done)),H',⟨by have:=HJ2.out;have:=HJ10.out;have:=HK3.out;have:=HK4.out;have:=HK5.out;omega⟩,⟨by (with_reducible repeat (first|apply Kd.S_alloc|apply Kd.S_drewN));exact Kd.S_mono (Kd.S_far (p:=⟨gb282,0,none⟩) (Kd.S_mono HO_12.out (fun k_ hk=>(⟨hk,hk.1.1⟩ : _ ∧ k_ ≠ gb282))) (fun _ hk=>hk.2) (.slice Ao106 y299.length co106)) (fun _ hk=>⟨hk.1.2,hk.1.1.1⟩)⟩,⟨by (with_reducible repeat (first|apply Kd.R_alloc|apply Kd.R_drewN));exact Kd.R_mono (Kd.R_far (p:=⟨gb282,0,none⟩) (Kd.R_types HO_15.out BK282.out (by decide)) (fun _ hk=>hk.2) (.slice Ao106 y299.length co106)) (fun _ hk=>trivial)⟩,⟨by (with_reducible repeat (first|apply Kd.S_alloc|apply Kd.S_drewN));exact Kd.S_mono (Kd.S_far (p:=⟨gb282,0,none⟩) (Kd.S_types HO_275001.out BK282.out (by decide)) (fun _ hk=>hk.2) (.slice Ao106 y299.length co106)) (fun _ hk=>trivial)⟩,⟨by (with_reducible repeat (first|apply Kd.R_alloc|apply Kd.R_drewN));exact Kd.R_mono (Kd.R_far (p:=⟨gb282,0,none⟩) (Kd.R_types HO301.out BK282.out (by decide)) (fun _ hk=>hk.2) (.slice Ao106 y299.length co106)) (fun _ hk=>trivial)⟩,⟨by (with_reducible repeat first|refine blk_drewN ?_ _|refine blk_alloc ?_ _);refine blk_far ?_ NB265_282.out _;(with_reducible repeat first|refine blk_drewN ?_ _|refine blk_alloc ?_ _);exact BK265.out⟩,⟨by (with_reducible repeat first|refine blk_drewN ?_ _|refine blk_alloc ?_ _);refine blk_far ?_ NB268_282.out _;(with_reducible repeat first|refine blk_drewN ?_ _|refine blk_alloc ?_ _);exact BK268.out⟩,⟨by (with_reducible repeat first|refine blk_drewN ?_ _|refine blk_alloc ?_ _);refine blk_far ?_ NB274_282.out _;(with_reducible repeat first|refine blk_drewN ?_ _|refine blk_alloc ?_ _);exact BK274.out⟩,⟨by (with_reducible repeat first|refine blk_drewN ?_ _|refine blk_alloc ?_ _);refine blk_put (cs:=#[u283000]) ?_ 0 _ rfl;(with_reducible repeat first|refine blk_drewN ?_ _|refine blk_alloc ?_ _);exact BK282.out⟩,⟨by repeat (first|(with_reducible first|exact HB.out|apply below_alloc|apply pw_below_drewN|apply below_drew1|refine below_set ?_ GE265.out|refine below_set ?_ GE268.out|refine below_set ?_ GE274.out|refine below_set ?_ GE282.out|refine below_set ?_ GE293.out)|exact HB.out)⟩⟩
                       ·rw [if_neg c87] at H
                        exact absurd H (by simp)
                      ·rw [if_neg c86] at H
                       exact absurd H (by simp)
                    ·rw [if_neg c65] at H
                     have c65b0 : decide (x17_5 < (((rd_T58 t271 x13_3).f0).length : Int)) = false:=decide_eq_false c65
                     clear c65
                     by_cases c108 : x12_3.length < 5864062014805
                     ·rw [if_pos c108] at H
                      have LMc108:=Aside0.mk c108
                      clear c108
                      obtain ⟨y302,hy302⟩ : ∃ y_ : List (S55),y_ = (x12_3 ++ [(⟨x283000_5⟩ : S55)]):=⟨_,rfl⟩
                      replace H : (laws_FnJoined.l0 k5 l1 t264 (wrap64 (1 + (Int.tmod t269 7))) (t264.size : Int) y302 (wrap64 (x13_3 + 1)) (wrap64 (1 + (Int.tmod t266 5))) (Int.tmod t267 4) 0 t270 t271) = some r:=by first|(rw [hy302];with_reducible exact H)|(have H2_:=(Option.bind_some _ _).symm.trans H;rw [hy302];with_reducible exact H2_)|(have H2_:=(Option.bind_some _ _).symm.trans H;with_reducible exact H2_)|with_reducible exact H|(rw [hy302];exact H)|exact H
                      have Ny302:=Aside0.mk hy302
                      clear hy302
                      have H':=Aside0.mk H
                      clear H
                      have hnb109:=NB274_265.out
                      have hnc109:=NB265_274.out
                      have hnb110:=NB274_268.out
                      have hnc110:=NB268_274.out
                      have hnb111:=NB274_282.out
                      have hnc111:=NB282_274.out
                      have hcz112_0 : wr.cell? ⟨gb274,0,none⟩ = some (.int .i64 t270):=(blk_cell BK274.out 0).trans rfl
                      have hcz112_1 : wr.cell? ⟨gb274,1,none⟩ = some (.slice (some ad290) t271.length co23):=(blk_cell BK274.out 1).trans rfl
                      have hfz112_0:=blk_frozen BK274.out 0
                      have hfz112_1:=blk_frozen BK274.out 1
                      have p291 : 0 ≤ (x13_3 : Int):=of_decide_eq_true (by first|(with_reducible assumption)|assumption)
                      have q291 : x13_3 < (t271.length : Int):=of_decide_eq_true (by first|(with_reducible assumption)|assumption)
                      obtain ⟨ad291,A291_0,c291_0,e291,hx291_0,hl291_0,hi291_0⟩:=at_T58 (Kd.S_reads' HO_275001.out).2.2 x13_3 p291 q291
                      obtain rfl : ad290 = ad291:=(by injection e291)
                      obtain ⟨ce291,hce291,hMe291,hcc291⟩:=Kd.S_get HO_275001.out z58 x13_3 p291 (by first|exact q291|exact of_decide_eq_true (by first|(with_reducible assumption)|assumption)|(have e_:=(Kd.S_reads' HO_275001.out).1;omega))
                      obtain ⟨ve291_0,rfl,ge291_0⟩:=k58_openM hMe291
                      have hv291_0:=hcc291 0 _ rfl
                      rw [Nat.add_zero,show (k58).sz = 1 from rfl,Nat.mul_one] at hv291_0
                      replace hv291_0:=Option.some.inj (hv291_0.symm.trans hx291_0)
                      rw [hv291_0] at ge291_0
                      have HL291_0:=Aside0.mk (show Kd.R Kd.string 9 _ _ _ _ ((rd_T58 t271 x13_3).f0) from ge291_0)
                      clear hv291_0 ge291_0 hcc291 hce291
                      have HR291_0:=Aside0.mk hi291_0
                      have HC291_0:=Aside0.mk hl291_0
                      clear hi291_0 hl291_0
                      replace p291:=eq_true p291
                      replace q291:=eq_true q291
                      have hnb113:=NB282_265.out
                      have hnc113:=NB265_282.out
                      have hnb114:=NB282_268.out
                      have hnc114:=NB268_282.out
                      have hcz115_0 : wr.cell? ⟨gb282,0,none⟩ = some (u283000):=(blk_cell BK282.out 0).trans rfl
                      have hfz115_0:=blk_frozen BK282.out 0
                      obtain ⟨Ao117,co117,eo117⟩:=Kd.R_slice HO_283000.out
                      subst eo117
                      go_wp2_with (first|((with_reducible refine gate_builtin (b:=.append) (xs:=#[.tmp 144,.tmp 146]) rfl ?_);(try (refine gate_guard (by rfl) ?_;dsimp only));at_builtin;refine Kd.S_append k55 (w0:=w) w.heap.size rfl (.tmp 144) (.tmp 146) 52 55 (.agg #[(.slice none 0 0)]) 24 rfl Try.underlying52 info55 rfl (by decide) (by omega) u12 x12_3 (⟨x283000_5⟩ : S55) [.slice Ao117 x283000_5.length co117] (fun k_=>k_ ≠ gb282) (fun k_=>some k_ = (.slice Ao117 x283000_5.length co117 : Value).ownBlock) rfl rfl ?aP (fun k_ hk_=>((Kd.R_mono (ok':=fun k_=>((fun k_=>k_ ≠ gb282)) k_ ∧ some k_ ≠ (u12 : Value).ownBlock) (Kd.R_types (Kd.R_apart' (HO_283000.out) (Kd.S_typed HO_12.out) (by decide)) BK282.out (by decide)) (fun k_ hk=>⟨hk.2,hk.1.2⟩))).1 k_ hk_.symm) ?aF ?aO ?aB ?aS ?aL ?_;(case aP=>exact k55_mkM _ _ _ (⟨x283000_5⟩ : S55) (Kd.R_mono (Kd.R_tight rfl (Kd.R_mono (ok':=fun k_=>((fun k_=>k_ ≠ gb282)) k_ ∧ some k_ ≠ (u12 : Value).ownBlock) (Kd.R_types (Kd.R_apart' (HO_283000.out) (Kd.S_typed HO_12.out) (by decide)) BK282.out (by decide)) (fun k_ hk=>⟨hk.2,hk.1.2⟩))) (fun _ h_=>h_)));(case aB=>exact (by repeat (first|(with_reducible first|exact HB.out|apply below_alloc|apply pw_below_drewN|apply below_drew1|refine below_set ?_ GE265.out|refine below_set ?_ GE268.out|refine below_set ?_ GE274.out|refine below_set ?_ GE282.out)|exact HB.out)));(case aF=>exact (fun k_ hk=>Kd.freshB (g:=gb282) (o:=.cells #[.slice Ao117 x283000_5.length co117] 55 (0,0)) (by (with_reducible repeat first|refine blk_drewN ?_ _|refine blk_alloc ?_ _);exact BK282.out) k_ hk));(case aO=>exact (by (with_reducible repeat (first|apply Kd.S_alloc|apply Kd.S_drewN));exact Kd.S_mono HO_12.out (fun k_ hk=>⟨hk.2,fun e_=>hk.1 e_⟩)));(case aS=>exact (below_size (by repeat (first|(with_reducible first|exact HB.out|apply below_alloc|apply pw_below_drewN|apply below_drew1|refine below_set ?_ GE265.out|refine below_set ?_ GE268.out|refine below_set ?_ GE274.out|refine below_set ?_ GE282.out)|exact HB.out))));(case aL=>have:=LMc108.out;omega);intro v303 w116 ho hb hg hat;rw [← Ny302.out] at ho;have n0_:=Aside0.mk (Kd.R_over' (by (with_reducible repeat (first|apply Kd.R_alloc|apply Kd.R_drewN));exact HO_15.out) (Kd.S_typed (by (with_reducible repeat (first|apply Kd.S_alloc|apply Kd.S_drewN));exact HO_12.out)) (by decide) hg);have n1_:=Aside0.mk (Kd.S_over' (by (with_reducible repeat (first|apply Kd.S_alloc|apply Kd.S_drewN));exact HO_275001.out) (Kd.S_typed (by (with_reducible repeat (first|apply Kd.S_alloc|apply Kd.S_drewN));exact HO_12.out)) (by decide) hg);have n2_:=Aside0.mk (blk_grown (g:=gb265) (o:=.cells #[.int .i64 t260,.int .i64 t261,.int .i64 t262] 43 (0,0)) (by (with_reducible repeat first|refine blk_drewN ?_ _|refine blk_alloc ?_ _);exact BK265.out) hg (Kd.S_ne HO_12.out BK265.out (by decide)));have n3_:=Aside0.mk (blk_grown (g:=gb268) (o:=.cells #[.int .i64 (wrap64 (1 + (Int.tmod t266 5))),.int .i64 (Int.tmod t267 4),.int .i64 0] 43 (0,0)) (by (with_reducible repeat first|refine blk_drewN ?_ _|refine blk_alloc ?_ _);exact BK268.out) hg (Kd.S_ne HO_12.out BK268.out (by decide)));have n4_:=Aside0.mk (blk_grown (g:=gb274) (o:=.cells #[.int .i64 t270,.slice (some ad290) t271.length co23] 49 (0,0)) (by (with_reducible repeat first|refine blk_drewN ?_ _|refine blk_alloc ?_ _);exact BK274.out) hg (Kd.S_ne HO_12.out BK274.out (by decide)));have n5_:=Aside0.mk (blk_grown (g:=gb282) (o:=.cells #[.slice Ao117 x283000_5.length co117] 55 (0,0)) (by (with_reducible repeat first|refine blk_drewN ?_ _|refine blk_alloc ?_ _);exact BK282.out) hg (Kd.S_away HO_12.out (fun _ hk=>hk.2)));have n6_:=Aside0.mk (Kd.R_over' (by (with_reducible repeat (first|apply Kd.R_alloc|apply Kd.R_drewN));exact HL291_0.out) (Kd.S_typed (by (with_reducible repeat (first|apply Kd.S_alloc|apply Kd.S_drewN));exact HO_12.out)) (by decide) hg);have n7_:=Aside0.mk (hb);have n8_:=Aside0.mk (ho);clear HO_15 HO_275001 BK265 BK268 BK274 BK282 HL291_0 HB HO_12 HO_283000;have HO_15:=n0_;have HO_275001:=n1_;have BK265:=n2_;have BK268:=n3_;have BK274:=n4_;have BK282:=n5_;have HL291_0:=n6_;have HB:=n7_;have HO304:=n8_;clear n0_ n1_ n2_ n3_ n4_ n5_ n6_ n7_ n8_ ho hb hg hat))
                      go_roundg k5
                      case measure=>have:=HJ2.out;have:=HJ10.out;have:=HK3.out;have:=HK4.out;have:=HK5.out;omega
                      case rel=>exact ⟨(y302),(wrap64 (x13_3 + 1)),(by first|rfl|(simp;done)|(simp [*];done)),H',⟨by have:=HJ2.out;have:=HJ10.out;have:=HK3.out;have:=HK4.out;have:=HK5.out;omega⟩,⟨by (with_reducible repeat (first|apply Kd.S_alloc|apply Kd.S_drewN));exact Kd.S_mono HO304.out (fun _ hk=>trivial)⟩,⟨by (with_reducible repeat (first|apply Kd.S_alloc|apply Kd.S_drewN));exact HO_275001.out⟩,⟨by (with_reducible repeat first|refine blk_drewN ?_ _|refine blk_alloc ?_ _);exact BK265.out⟩,⟨by (with_reducible repeat first|refine blk_drewN ?_ _|refine blk_alloc ?_ _);exact BK268.out⟩,⟨by (with_reducible repeat first|refine blk_drewN ?_ _|refine blk_alloc ?_ _);exact BK274.out⟩,⟨by repeat (first|(with_reducible first|exact HB.out|apply below_alloc|apply pw_below_drewN|apply below_drew1|refine below_set ?_ GE265.out|refine below_set ?_ GE268.out|refine below_set ?_ GE274.out|refine below_set ?_ GE282.out)|exact HB.out)⟩⟩
                     ·rw [if_neg c108] at H
                      exact absurd H (by simp)
                   ·rw [if_neg c64] at H
                    exact absurd H (by simp)
                  ·rw [if_neg c63] at H
                   exact absurd H (by simp)
               ·rw [if_neg c57] at H
                have c57b0 : ((((rd_T58 t271 x13_3).f0).length : Int) == (wrap64 ((wrap64 (1 + (Int.tmod t266 5))) + (Int.tmod t267 4)))) = false:=beq_eq_false_iff_ne.mpr c57
                have c57b1 : ((((rd_T58 t271 x13_3).f0).length : Int) != (wrap64 ((wrap64 (1 + (Int.tmod t266 5))) + (Int.tmod t267 4)))) = true:=bne_iff_ne.mpr c57
                obtain rfl:=Option.some.inj H
                have hnb118:=NB268_265.out
                have hnc118:=NB265_268.out
                have hnb119:=NB268_274.out
                have hnc119:=NB274_268.out
                have hnb120:=NB268_282.out
                have hnc120:=NB282_268.out
                have hcz121_0 : wr.cell? ⟨gb268,0,none⟩ = some (.int .i64 (wrap64 (1 + (Int.tmod t266 5)))):=(blk_cell BK268.out 0).trans rfl
                have hcz121_1 : wr.cell? ⟨gb268,1,none⟩ = some (.int .i64 (Int.tmod t267 4)):=(blk_cell BK268.out 1).trans rfl
                have hcz121_2 : wr.cell? ⟨gb268,2,none⟩ = some (.int .i64 0):=(blk_cell BK268.out 2).trans rfl
                have hfz121_0:=blk_frozen BK268.out 0
                have hfz121_1:=blk_frozen BK268.out 1
                have hfz121_2:=blk_frozen BK268.out 2
                try go_wp2
                have n0_:=Aside0.mk (Kd.S_drew HO_12.out)
                have n1_:=Aside0.mk (Kd.R_drew HO_15.out)
                have n2_:=Aside0.mk (Kd.S_drew HO_275001.out)
                have n3_:=Aside0.mk (blk_drew BK265.out)
                have n4_:=Aside0.mk (blk_drew BK268.out)
                have n5_:=Aside0.mk (blk_drew BK274.out)
                have n6_:=Aside0.mk (blk_drew BK282.out)
                have n7_:=Aside0.mk (below_drew1 HB.out)
                clear HO_12 HO_15 HO_275001 BK265 BK268 BK274 BK282 HB
                have HO_12:=n0_
                have HO_15:=n1_
                have HO_275001:=n2_
                have BK265:=n3_
                have BK268:=n4_
                have BK274:=n5_
                have BK282:=n6_
                have HB:=n7_
                clear n0_ n1_ n2_ n3_ n4_ n5_ n6_ n7_
                have p290 : 0 ≤ (x13_3 : Int):=of_decide_eq_true (by first|(with_reducible assumption)|assumption)
                have q290 : x13_3 < (t271.length : Int):=of_decide_eq_true (by first|(with_reducible assumption)|assumption)
                obtain ⟨ad290,A290_0,c290_0,e290,hx290_0,hl290_0,hi290_0⟩:=at_T58 (Kd.S_reads' HO_275001.out).2.2 x13_3 p290 q290
                cases e290
                obtain ⟨ce290,hce290,hMe290,hcc290⟩:=Kd.S_get HO_275001.out z58 x13_3 p290 (by first|exact q290|exact of_decide_eq_true (by first|(with_reducible assumption)|assumption)|(have e_:=(Kd.S_reads' HO_275001.out).1;omega))
                obtain ⟨ve290_0,rfl,ge290_0⟩:=k58_openM hMe290
                have hv290_0:=hcc290 0 _ rfl
                rw [Nat.add_zero,show (k58).sz = 1 from rfl,Nat.mul_one] at hv290_0
                replace hv290_0:=Option.some.inj (hv290_0.symm.trans hx290_0)
                rw [hv290_0] at ge290_0
                have HL290_0:=Aside0.mk (show Kd.R Kd.string 9 _ _ _ _ ((rd_T58 t271 x13_3).f0) from ge290_0)
                clear hv290_0 ge290_0 hcc290 hce290
                have HR290_0:=Aside0.mk hi290_0
                have HC290_0:=Aside0.mk hl290_0
                clear hi290_0 hl290_0
                replace p290:=eq_true p290
                replace q290:=eq_true q290
                refine start_ (n:=13) (S:=fun w'=>w'.cell? ⟨gb274,0,none⟩ = some (.int .i64 t270) ∧ w'.cell? ⟨gb274,1,none⟩ = some (.slice (some ad290) t271.length co23) ∧ w'.cell? ⟨gb268,0,none⟩ = some (.int .i64 (wrap64 (1 + (Int.tmod t266 5)))) ∧ w'.cell? ⟨gb268,1,none⟩ = some (.int .i64 (Int.tmod t267 4)) ∧ w'.cell? ⟨gb268,2,none⟩ = some (.int .i64 0) ∧ w'.cell? (ad290.add (x13_3).toNat) = some (.slice A290_0 ((rd_T58 t271 x13_3).f0).length c290_0)) (ds:=[]) #[false,false,false,false,false,false,false,false,false,false,false,false,false] (by kernel_rfl) rfl rfl ⟨(blk_cell BK274.out 0).trans rfl,(blk_cell BK274.out 1).trans rfl,(blk_cell BK268.out 0).trans rfl,(blk_cell BK268.out 1).trans rfl,(blk_cell BK268.out 2).trans rfl,hx290_0⟩ (fun hHeld=>?_);refine with_tabW laws_FnJoined.tab20 laws_FnJoined.bits20 (fun HT_ HW_=>?_)
                generalize wr.drew = w122 at HO_12 HO_15 HO_275001 BK265 BK268 BK274 BK282 HB HL290_0 HR290_0 hx290_0 hHeld ⊢
                refine pure_ (i:=0) (N:=some 97) (v:=?_) (a':=?_) #[true,false,false,false,false,false,false,false,false,false,false,false,false] rfl rfl (any_of HT_.out (by kernel_rfl)) (fun _ _ _ h=>h) (Or.inl ⟨by rfl,?_⟩) ?_ ?_
                rotate_left
                ·intro w'
                 go_simp
                 with_reducible rfl
                rotate_left
                ·simp only [Act.put,List.setIfInBounds_toArray,List.set_cons_zero,List.set_cons_succ,i64_w,i32_w]
                 rfl
                refine pure_ (i:=2) (N:=some 99) (v:=?_) (a':=?_) #[true,false,true,false,false,false,false,false,false,false,false,false,false] rfl rfl (any_of HT_.out (by kernel_rfl)) (fun _ _ _ h=>h) (Or.inl ⟨by rfl,?_⟩) ?_ ?_
                rotate_left
                ·intro w'
                 go_simp
                 with_reducible rfl
                rotate_left
                ·simp only [Act.put,List.setIfInBounds_toArray,List.set_cons_zero,List.set_cons_succ,i64_w,i32_w]
                 rfl
                refine pure_ (i:=7) (N:=some 104) (v:=?_) (a':=?_) #[true,false,true,false,false,false,false,true,false,false,false,false,false] rfl rfl (any_of HT_.out (by kernel_rfl)) (fun _ _ _ h=>h) (Or.inl ⟨by rfl,?_⟩) ?_ ?_
                rotate_left
                ·intro w'
                 go_simp
                 with_reducible rfl
                rotate_left
                ·simp only [Act.put,List.setIfInBounds_toArray,List.set_cons_zero,List.set_cons_succ,i64_w,i32_w]
                 rfl
                refine pure_ (i:=9) (N:=some 106) (v:=?_) (a':=?_) #[true,false,true,false,false,false,false,true,false,true,false,false,false] rfl rfl (any_of HT_.out (by kernel_rfl)) (fun _ _ _ h=>h) (Or.inl ⟨by rfl,?_⟩) ?_ ?_
                rotate_left
                ·intro w'
                 go_simp
                 with_reducible rfl
                rotate_left
                ·simp only [Act.put,List.setIfInBounds_toArray,List.set_cons_zero,List.set_cons_succ,i64_w,i32_w]
                 rfl
                refine take_ (i:=1) (N:=some 98) (v:=?_) (a':=?_) #[true,true,true,false,false,false,false,true,false,true,false,false,false] rfl rfl (take_ofW HT_.out HW_.out (by kernel_rfl)) (fun _ _ _ h=>h) (Or.inl ⟨by rfl,?_⟩) hHeld ?_ ?_
                rotate_left
                ·rintro w' ⟨s0,s1,s2,s3,s4,s5⟩
                 go_simp
                 with_reducible rfl
                rotate_left
                ·simp only [Act.put,List.setIfInBounds_toArray,List.set_cons_zero,List.set_cons_succ,i64_w,i32_w]
                 rfl
                refine pure_ (i:=3) (N:=some 100) (v:=?_) (a':=?_) #[true,true,true,true,false,false,false,true,false,true,false,false,false] rfl rfl (any_of HT_.out (by kernel_rfl)) (fun _ _ _ h=>h) (Or.inl ⟨by rfl,?_⟩) ?_ ?_
                rotate_left
                ·intro w'
                 go_simp
                 with_reducible rfl
                rotate_left
                ·simp only [Act.put,List.setIfInBounds_toArray,List.set_cons_zero,List.set_cons_succ,i64_w,i32_w]
                 rfl
                refine pure_ (i:=4) (N:=some 101) (v:=?_) (a':=?_) #[true,true,true,true,true,false,false,true,false,true,false,false,false] rfl rfl (any_of HT_.out (by kernel_rfl)) (fun _ _ _ h=>h) (Or.inl ⟨by rfl,?_⟩) ?_ ?_
                rotate_left
                ·intro w'
                 go_simp
                 with_reducible rfl
                rotate_left
                ·simp only [Act.put,List.setIfInBounds_toArray,List.set_cons_zero,List.set_cons_succ,i64_w,i32_w]
                 rfl
                refine take_ (i:=5) (N:=some 102) (v:=?_) (a':=?_) #[true,true,true,true,true,true,false,true,false,true,false,false,false] rfl rfl (take_ofW HT_.out HW_.out (by kernel_rfl)) (fun _ _ _ h=>h) (Or.inl ⟨by rfl,?_⟩) hHeld ?_ ?_
                rotate_left
                ·rintro w' ⟨s0,s1,s2,s3,s4,s5⟩
                 go_simp
                 with_reducible rfl
                rotate_left
                ·simp only [Act.put,List.setIfInBounds_toArray,List.set_cons_zero,List.set_cons_succ,i64_w,i32_w]
                 rfl
                refine pure_ (i:=6) (N:=some 103) (v:=?_) (a':=?_) #[true,true,true,true,true,true,true,true,false,true,false,false,false] rfl rfl (any_of HT_.out (by kernel_rfl)) (fun _ _ _ h=>h) (Or.inl ⟨by rfl,?_⟩) ?_ ?_
                rotate_left
                ·intro w'
                 go_simp
                 with_reducible rfl
                rotate_left
                ·simp only [Act.put,List.setIfInBounds_toArray,List.set_cons_zero,List.set_cons_succ,i64_w,i32_w]
                 rfl
                refine take_ (i:=8) (N:=some 105) (v:=?_) (a':=?_) #[true,true,true,true,true,true,true,true,true,true,false,false,false] rfl rfl (take_ofW HT_.out HW_.out (by kernel_rfl)) (fun _ _ _ h=>h) (Or.inl ⟨by rfl,?_⟩) hHeld ?_ ?_
                rotate_left
                ·rintro w' ⟨s0,s1,s2,s3,s4,s5⟩
                 go_simp
                 with_reducible rfl
                rotate_left
                ·simp only [Act.put,List.setIfInBounds_toArray,List.set_cons_zero,List.set_cons_succ,i64_w,i32_w]
                 rfl
                refine take_ (i:=10) (N:=some 107) (v:=?_) (a':=?_) #[true,true,true,true,true,true,true,true,true,true,true,false,false] rfl rfl (take_ofW HT_.out HW_.out (by kernel_rfl)) (fun _ _ _ h=>h) (Or.inl ⟨by rfl,?_⟩) hHeld ?_ ?_
                rotate_left
                ·rintro w' ⟨s0,s1,s2,s3,s4,s5⟩
                 go_simp
                 with_reducible rfl
                rotate_left
                ·simp only [Act.put,List.setIfInBounds_toArray,List.set_cons_zero,List.set_cons_succ,i64_w,i32_w]
                 rfl
                refine pure_ (i:=11) (N:=some 108) (v:=?_) (a':=?_) #[true,true,true,true,true,true,true,true,true,true,true,true,false] rfl rfl (any_of HT_.out (by kernel_rfl)) (fun _ _ _ h=>h) (Or.inl ⟨by rfl,?_⟩) ?_ ?_
                rotate_left
                ·intro w'
                 go_simp
                 with_reducible rfl
                rotate_left
                ·simp only [Act.put,List.setIfInBounds_toArray,List.set_cons_zero,List.set_cons_succ,i64_w,i32_w]
                 rfl
                refine pure_ (i:=12) (N:=some 109) (v:=?_) (a':=?_) #[true,true,true,true,true,true,true,true,true,true,true,true,true] rfl rfl (any_of HT_.out (by kernel_rfl)) (fun _ _ _ h=>h) (Or.inl ⟨by rfl,?_⟩) ?_ ?_
                rotate_left
                ·intro w'
                 go_simp
                 with_reducible rfl
                rotate_left
                ·simp only [Act.put,List.setIfInBounds_toArray,List.set_cons_zero,List.set_cons_succ,i64_w,i32_w]
                 rfl
                refine done_ (done_of HT_.out (by kernel_rfl)) ?_
                try go_wp2
                go_ret
                exact ⟨by first|rfl|(simp [errW_none,errW_some] <;> rfl)|(simp [*,errW_none,errW_some] <;> rfl),by repeat (first|(with_reducible first|exact HB.out|apply below_alloc|apply pw_below_drewN|apply below_drew1|refine below_set ?_ GE265.out|refine below_set ?_ GE268.out|refine below_set ?_ GE274.out|refine below_set ?_ GE282.out)|exact HB.out)⟩
              ·rw [if_neg c56] at H
               exact absurd H (by simp)
             ·rw [if_neg c55] at H
              exact absurd H (by simp)
         ·rw [if_neg c34] at H
          have c34b0 : decide (x13_3 < (t271.length : Int)) = false:=decide_eq_false c34
          clear c34
          replace H:=Option.bind_eq_some_iff.mp H
          obtain ⟨⟨t279,t280⟩,A1230,H⟩:=H
          replace H : (if t279 = 0 then (some (t280.toList == t264.toList)) else (some false)) = some r:=H
          have A123:=Aside0.mk A1230
          clear A1230
          by_cases c124 : t279 = 0
          ·rw [if_pos c124] at H
           have c124b0 : (t279 == 0) = true:=beq_iff_eq.mpr c124
           have c124b1 : (t279 != 0) = false:=bne_eq_false_iff_eq.mpr c124
           clear c124
           obtain rfl:=Option.some.inj H
           have hnb125:=NB274_265.out
           have hnc125:=NB265_274.out
           have hnb126:=NB274_268.out
           have hnc126:=NB268_274.out
           have hcz127_0 : wr.cell? ⟨gb274,0,none⟩ = some (.int .i64 t270):=(blk_cell BK274.out 0).trans rfl
           have hcz127_1 : wr.cell? ⟨gb274,1,none⟩ = some (.slice Ao23 t271.length co23):=(blk_cell BK274.out 1).trans rfl
           have hfz127_0:=blk_frozen BK274.out 0
           have hfz127_1:=blk_frozen BK274.out 1
           have hnb128:=NB268_265.out
           have hnc128:=NB265_268.out
           have hcz129_0 : wr.cell? ⟨gb268,0,none⟩ = some (.int .i64 (wrap64 (1 + (Int.tmod t266 5)))):=(blk_cell BK268.out 0).trans rfl
           have hcz129_1 : wr.cell? ⟨gb268,1,none⟩ = some (.int .i64 (Int.tmod t267 4)):=(blk_cell BK268.out 1).trans rfl
           have hcz129_2 : wr.cell? ⟨gb268,2,none⟩ = some (.int .i64 0):=(blk_cell BK268.out 2).trans rfl
           have hfz129_0:=blk_frozen BK268.out 0
           have hfz129_1:=blk_frozen BK268.out 1
           have hfz129_2:=blk_frozen BK268.out 2
           obtain ⟨Ao130,co130,eo130⟩:=Kd.S_slice HO_12.out
           subst eo130
           go_wp2_with (first|((with_reducible refine gate_callee (f:=33) rfl ?_);refine goesL_ (some 152) rfl rfl Try.func33 (by kernel_rfl) rfl #[.agg #[.int .i64 (wrap64 (1 + (Int.tmod t266 5))),.int .i64 (Int.tmod t267 4),.int .i64 0],.int .i64 (wrap64 (1 + (Int.tmod t269 7))),.int .i64 (t264.size : Int),.slice Ao130 x12_3.length co130] rfl (by (try simp only [List.map_toArray,List.map_cons,List.map_nil]);first|done|rfl) ?_;(with_reducible refine (impl_JoinObject.calls k3 (wrap64 (1 + (Int.tmod t266 5))) (Int.tmod t267 4) 0 (wrap64 (1 + (Int.tmod t269 7))) (t264.size : Int) _ _ x12_3 t279 t280 _ ?side1 ?side2 A123.out).mono ?_);(case side1=>repeat (first|exact (Kd.S_reads' HO_12.out).2.2|(with_reducible refine Kd.C_alloc ?_ _)|(with_reducible refine Kd.C_drewN ?_ _)|(with_reducible refine Kd.C_drew ?_)));(case side2=>exact (Kd.S_reads' HO_12.out).2.1);rintro e w131 ⟨rfl,hb⟩;refine ⟨_,rfl,?_⟩;have n0_:=Aside0.mk (Kd.S_below (by (with_reducible repeat (first|apply Kd.S_alloc|apply Kd.S_drewN));exact HO_12.out) hb);have n1_:=Aside0.mk (Kd.S_below (by (with_reducible repeat (first|apply Kd.S_alloc|apply Kd.S_drewN));exact HO_275001.out) hb);have n2_:=Aside0.mk (blk_below (g:=gb265) (o:=.cells #[.int .i64 t260,.int .i64 t261,.int .i64 t262] 43 (0,0)) (by (with_reducible repeat first|refine blk_drewN ?_ _|refine blk_alloc ?_ _);exact BK265.out) hb);have n3_:=Aside0.mk (blk_below (g:=gb268) (o:=.cells #[.int .i64 (wrap64 (1 + (Int.tmod t266 5))),.int .i64 (Int.tmod t267 4),.int .i64 0] 43 (0,0)) (by (with_reducible repeat first|refine blk_drewN ?_ _|refine blk_alloc ?_ _);exact BK268.out) hb);have n4_:=Aside0.mk (blk_below (g:=gb274) (o:=.cells #[.int .i64 t270,.slice Ao23 t271.length co23] 49 (0,0)) (by (with_reducible repeat first|refine blk_drewN ?_ _|refine blk_alloc ?_ _);exact BK274.out) hb);have n5_:=Aside0.mk (below_step (by repeat (first|(with_reducible first|exact HB.out|apply below_alloc|apply pw_below_drewN|apply below_drew1|refine below_set ?_ GE265.out|refine below_set ?_ GE268.out|refine below_set ?_ GE274.out)|exact HB.out)) hb);clear HO_12 HO_275001 BK265 BK268 BK274 HB;have HO_12:=n0_;have HO_275001:=n1_;have BK265:=n2_;have BK268:=n3_;have BK274:=n4_;have HB:=n5_;clear n0_ n1_ n2_ n3_ n4_ n5_;(try clear hb);(try clear hb2);(try clear hk);(try clear hi))|((with_reducible refine gate_dst (N:=19) rfl ?_);(try (refine gate_guard (by rfl) ?_;dsimp only));refine box_event ?hg (N:=19) ?hd (cs:=#[.int .i64 0,.string (⟨#[]⟩ : ByteArray)]) (t:=63) ?hr ?_;(case hd=>rfl);(case hg=>rfl);(case hr=>first|(go_simp;done)|(go_simp;rfl));intro gb281 hg w132 hbox hb;have n0_:=Aside0.mk (Kd.S_below (by (with_reducible repeat (first|apply Kd.S_alloc|apply Kd.S_drewN));exact HO_12.out) hb);have n1_:=Aside0.mk (Kd.S_below (by (with_reducible repeat (first|apply Kd.S_alloc|apply Kd.S_drewN));exact HO_275001.out) hb);have n2_:=Aside0.mk (blk_below (g:=gb265) (o:=.cells #[.int .i64 t260,.int .i64 t261,.int .i64 t262] 43 (0,0)) (by (with_reducible repeat first|refine blk_drewN ?_ _|refine blk_alloc ?_ _);exact BK265.out) hb);have n3_:=Aside0.mk (blk_below (g:=gb268) (o:=.cells #[.int .i64 (wrap64 (1 + (Int.tmod t266 5))),.int .i64 (Int.tmod t267 4),.int .i64 0] 43 (0,0)) (by (with_reducible repeat first|refine blk_drewN ?_ _|refine blk_alloc ?_ _);exact BK268.out) hb);have n4_:=Aside0.mk (blk_below (g:=gb274) (o:=.cells #[.int .i64 t270,.slice Ao23 t271.length co23] 49 (0,0)) (by (with_reducible repeat first|refine blk_drewN ?_ _|refine blk_alloc ?_ _);exact BK274.out) hb);have n5_:=Aside0.mk (below_step (by repeat (first|(with_reducible first|exact HB.out|apply below_alloc|apply pw_below_drewN|apply below_drew1|refine below_set ?_ GE265.out|refine below_set ?_ GE268.out|refine below_set ?_ GE274.out)|exact HB.out)) hb);have n6_:=Aside0.mk (hbox);have n7_:=Aside0.mk ((by rw [hg];exact (below_size (by repeat (first|(with_reducible first|exact HB.out|apply below_alloc|apply pw_below_drewN|apply below_drew1|refine below_set ?_ GE265.out|refine below_set ?_ GE268.out|refine below_set ?_ GE274.out)|exact HB.out))) : w.heap.size ≤ gb281));have n8_:=Aside0.mk ((by rw [hg];exact (below_size (by repeat (first|(with_reducible first|exact HB.out|apply below_alloc|apply pw_below_drewN|apply below_drew1|refine below_set ?_ GE265.out|refine below_set ?_ GE268.out|refine below_set ?_ GE274.out)|exact HB.out))) : w.heap.size ≤ gb281));have n9_:=Aside0.mk ((by rw [hg];exact Nat.ne_of_lt (blk_lt (g:=gb265) (o:=.cells #[.int .i64 t260,.int .i64 t261,.int .i64 t262] 43 (0,0)) (by (with_reducible repeat first|refine blk_drewN ?_ _|refine blk_alloc ?_ _);exact BK265.out)) : gb265 ≠ gb281));have n10_:=Aside0.mk ((by rw [hg];exact Nat.ne_of_gt (blk_lt (g:=gb265) (o:=.cells #[.int .i64 t260,.int .i64 t261,.int .i64 t262] 43 (0,0)) (by (with_reducible repeat first|refine blk_drewN ?_ _|refine blk_alloc ?_ _);exact BK265.out)) : gb281 ≠ gb265));have n11_:=Aside0.mk ((by rw [hg];exact Nat.ne_of_lt (blk_lt (g:=gb268) (o:=.cells #[.int .i64 (wrap64 (1 + (Int.tmod t266 5))),.int .i64 (Int.tmod t267 4),.int .i64 0] 43 (0,0)) (by (with_reducible repeat first|refine blk_drewN ?_ _|refine blk_alloc ?_ _);exact BK268.out)) : gb268 ≠ gb281));have n12_:=Aside0.mk ((by rw [hg];exact Nat.ne_of_gt (blk_lt (g:=gb268) (o:=.cells #[.int .i64 (wrap64 (1 + (Int.tmod t266 5))),.int .i64 (Int.tmod t267 4),.int .i64 0] 43 (0,0)) (by (with_reducible repeat first|refine blk_drewN ?_ _|refine blk_alloc ?_ _);exact BK268.out)) : gb281 ≠ gb268));have n13_:=Aside0.mk ((by rw [hg];exact Nat.ne_of_lt (blk_lt (g:=gb274) (o:=.cells #[.int .i64 t270,.slice Ao23 t271.length co23] 49 (0,0)) (by (with_reducible repeat first|refine blk_drewN ?_ _|refine blk_alloc ?_ _);exact BK274.out)) : gb274 ≠ gb281));have n14_:=Aside0.mk ((by rw [hg];exact Nat.ne_of_gt (blk_lt (g:=gb274) (o:=.cells #[.int .i64 t270,.slice Ao23 t271.length co23] 49 (0,0)) (by (with_reducible repeat first|refine blk_drewN ?_ _|refine blk_alloc ?_ _);exact BK274.out)) : gb281 ≠ gb274));clear HO_12 HO_275001 BK265 BK268 BK274 HB;have HO_12:=n0_;have HO_275001:=n1_;have BK265:=n2_;have BK268:=n3_;have BK274:=n4_;have HB:=n5_;have BK281:=n6_;have GW281:=n7_;have GE281:=n8_;have NB265_281:=n9_;have NB281_265:=n10_;have NB268_281:=n11_;have NB281_268:=n12_;have NB274_281:=n13_;have NB281_274:=n14_;clear n0_ n1_ n2_ n3_ n4_ n5_ n6_ n7_ n8_ n9_ n10_ n11_ n12_ n13_ n14_ hb hbox hg;have hnb133:=NB281_265.out;have hnc133:=NB265_281.out;have hnb134:=NB281_268.out;have hnc134:=NB268_281.out;have hnb135:=NB281_274.out;have hnc135:=NB274_281.out;have hcz136_0 : w132.cell? ⟨gb281,0,none⟩ = some (.int .i64 0):=(blk_cell BK281.out 0).trans rfl;have hcz136_1 : w132.cell? ⟨gb281,1,none⟩ = some (.string (⟨#[]⟩ : ByteArray)):=(blk_cell BK281.out 1).trans rfl;have hfz136_0:=blk_frozen BK281.out 0;have hfz136_1:=blk_frozen BK281.out 1))
           go_ret
           exact ⟨by first|rfl|(simp [errW_none,errW_some] <;> rfl)|(simp [*,errW_none,errW_some] <;> rfl),by repeat (first|(with_reducible first|exact HB.out|apply below_alloc|apply pw_below_drewN|apply below_drew1|refine below_set ?_ GE265.out|refine below_set ?_ GE268.out|refine below_set ?_ GE274.out|refine below_set ?_ GE281.out)|exact HB.out)⟩
          ·rw [if_neg c124] at H
           have c124b0 : (t279 == 0) = false:=beq_eq_false_iff_ne.mpr c124
           have c124b1 : (t279 != 0) = true:=bne_iff_ne.mpr c124
           obtain rfl:=Option.some.inj H
           have hnb137:=NB274_265.out
           have hnc137:=NB265_274.out
           have hnb138:=NB274_268.out
           have hnc138:=NB268_274.out
           have hcz139_0 : wr.cell? ⟨gb274,0,none⟩ = some (.int .i64 t270):=(blk_cell BK274.out 0).trans rfl
           have hcz139_1 : wr.cell? ⟨gb274,1,none⟩ = some (.slice Ao23 t271.length co23):=(blk_cell BK274.out 1).trans rfl
           have hfz139_0:=blk_frozen BK274.out 0
           have hfz139_1:=blk_frozen BK274.out 1
           have hnb140:=NB268_265.out
           have hnc140:=NB265_268.out
           have hcz141_0 : wr.cell? ⟨gb268,0,none⟩ = some (.int .i64 (wrap64 (1 + (Int.tmod t266 5)))):=(blk_cell BK268.out 0).trans rfl
           have hcz141_1 : wr.cell? ⟨gb268,1,none⟩ = some (.int .i64 (Int.tmod t267 4)):=(blk_cell BK268.out 1).trans rfl
           have hcz141_2 : wr.cell? ⟨gb268,2,none⟩ = some (.int .i64 0):=(blk_cell BK268.out 2).trans rfl
           have hfz141_0:=blk_frozen BK268.out 0
           have hfz141_1:=blk_frozen BK268.out 1
           have hfz141_2:=blk_frozen BK268.out 2
           obtain ⟨Ao142,co142,eo142⟩:=Kd.S_slice HO_12.out
           subst eo142
           go_wp2_with (first|((with_reducible refine gate_callee (f:=33) rfl ?_);refine goesL_ (some 152) rfl rfl Try.func33 (by kernel_rfl) rfl #[.agg #[.int .i64 (wrap64 (1 + (Int.tmod t266 5))),.int .i64 (Int.tmod t267 4),.int .i64 0],.int .i64 (wrap64 (1 + (Int.tmod t269 7))),.int .i64 (t264.size : Int),.slice Ao142 x12_3.length co142] rfl (by (try simp only [List.map_toArray,List.map_cons,List.map_nil]);first|done|rfl) ?_;(with_reducible refine (impl_JoinObject.calls k3 (wrap64 (1 + (Int.tmod t266 5))) (Int.tmod t267 4) 0 (wrap64 (1 + (Int.tmod t269 7))) (t264.size : Int) _ _ x12_3 t279 t280 _ ?side1 ?side2 A123.out).mono ?_);(case side1=>repeat (first|exact (Kd.S_reads' HO_12.out).2.2|(with_reducible refine Kd.C_alloc ?_ _)|(with_reducible refine Kd.C_drewN ?_ _)|(with_reducible refine Kd.C_drew ?_)));(case side2=>exact (Kd.S_reads' HO_12.out).2.1);rintro e w143 ⟨rfl,hb⟩;refine ⟨_,rfl,?_⟩;have n0_:=Aside0.mk (Kd.S_below (by (with_reducible repeat (first|apply Kd.S_alloc|apply Kd.S_drewN));exact HO_12.out) hb);have n1_:=Aside0.mk (Kd.S_below (by (with_reducible repeat (first|apply Kd.S_alloc|apply Kd.S_drewN));exact HO_275001.out) hb);have n2_:=Aside0.mk (blk_below (g:=gb265) (o:=.cells #[.int .i64 t260,.int .i64 t261,.int .i64 t262] 43 (0,0)) (by (with_reducible repeat first|refine blk_drewN ?_ _|refine blk_alloc ?_ _);exact BK265.out) hb);have n3_:=Aside0.mk (blk_below (g:=gb268) (o:=.cells #[.int .i64 (wrap64 (1 + (Int.tmod t266 5))),.int .i64 (Int.tmod t267 4),.int .i64 0] 43 (0,0)) (by (with_reducible repeat first|refine blk_drewN ?_ _|refine blk_alloc ?_ _);exact BK268.out) hb);have n4_:=Aside0.mk (blk_below (g:=gb274) (o:=.cells #[.int .i64 t270,.slice Ao23 t271.length co23] 49 (0,0)) (by (with_reducible repeat first|refine blk_drewN ?_ _|refine blk_alloc ?_ _);exact BK274.out) hb);have n5_:=Aside0.mk (below_step (by repeat (first|(with_reducible first|exact HB.out|apply below_alloc|apply pw_below_drewN|apply below_drew1|refine below_set ?_ GE265.out|refine below_set ?_ GE268.out|refine below_set ?_ GE274.out)|exact HB.out)) hb);clear HO_12 HO_275001 BK265 BK268 BK274 HB;have HO_12:=n0_;have HO_275001:=n1_;have BK265:=n2_;have BK268:=n3_;have BK274:=n4_;have HB:=n5_;clear n0_ n1_ n2_ n3_ n4_ n5_;(try clear hb);(try clear hb2);(try clear hk);(try clear hi))|((with_reducible refine gate_dst (N:=19) rfl ?_);(try (refine gate_guard (by rfl) ?_;dsimp only));refine box_event ?hg (N:=19) ?hd (cs:=#[.int .i64 0,.string (⟨#[]⟩ : ByteArray)]) (t:=63) ?hr ?_;(case hd=>rfl);(case hg=>rfl);(case hr=>first|(go_simp;done)|(go_simp;rfl));intro gb281 hg w144 hbox hb;have n0_:=Aside0.mk (Kd.S_below (by (with_reducible repeat (first|apply Kd.S_alloc|apply Kd.S_drewN));exact HO_12.out) hb);have n1_:=Aside0.mk (Kd.S_below (by (with_reducible repeat (first|apply Kd.S_alloc|apply Kd.S_drewN));exact HO_275001.out) hb);have n2_:=Aside0.mk (blk_below (g:=gb265) (o:=.cells #[.int .i64 t260,.int .i64 t261,.int .i64 t262] 43 (0,0)) (by (with_reducible repeat first|refine blk_drewN ?_ _|refine blk_alloc ?_ _);exact BK265.out) hb);have n3_:=Aside0.mk (blk_below (g:=gb268) (o:=.cells #[.int .i64 (wrap64 (1 + (Int.tmod t266 5))),.int .i64 (Int.tmod t267 4),.int .i64 0] 43 (0,0)) (by (with_reducible repeat first|refine blk_drewN ?_ _|refine blk_alloc ?_ _);exact BK268.out) hb);have n4_:=Aside0.mk (blk_below (g:=gb274) (o:=.cells #[.int .i64 t270,.slice Ao23 t271.length co23] 49 (0,0)) (by (with_reducible repeat first|refine blk_drewN ?_ _|refine blk_alloc ?_ _);exact BK274.out) hb);have n5_:=Aside0.mk (below_step (by repeat (first|(with_reducible first|exact HB.out|apply below_alloc|apply pw_below_drewN|apply below_drew1|refine below_set ?_ GE265.out|refine below_set ?_ GE268.out|refine below_set ?_ GE274.out)|exact HB.out)) hb);have n6_:=Aside0.mk (hbox);have n7_:=Aside0.mk ((by rw [hg];exact (below_size (by repeat (first|(with_reducible first|exact HB.out|apply below_alloc|apply pw_below_drewN|apply below_drew1|refine below_set ?_ GE265.out|refine below_set ?_ GE268.out|refine below_set ?_ GE274.out)|exact HB.out))) : w.heap.size ≤ gb281));have n8_:=Aside0.mk ((by rw [hg];exact (below_size (by repeat (first|(with_reducible first|exact HB.out|apply below_alloc|apply pw_below_drewN|apply below_drew1|refine below_set ?_ GE265.out|refine below_set ?_ GE268.out|refine below_set ?_ GE274.out)|exact HB.out))) : w.heap.size ≤ gb281));have n9_:=Aside0.mk ((by rw [hg];exact Nat.ne_of_lt (blk_lt (g:=gb265) (o:=.cells #[.int .i64 t260,.int .i64 t261,.int .i64 t262] 43 (0,0)) (by (with_reducible repeat first|refine blk_drewN ?_ _|refine blk_alloc ?_ _);exact BK265.out)) : gb265 ≠ gb281));have n10_:=Aside0.mk ((by rw [hg];exact Nat.ne_of_gt (blk_lt (g:=gb265) (o:=.cells #[.int .i64 t260,.int .i64 t261,.int .i64 t262] 43 (0,0)) (by (with_reducible repeat first|refine blk_drewN ?_ _|refine blk_alloc ?_ _);exact BK265.out)) : gb281 ≠ gb265));have n11_:=Aside0.mk ((by rw [hg];exact Nat.ne_of_lt (blk_lt (g:=gb268) (o:=.cells #[.int .i64 (wrap64 (1 + (Int.tmod t266 5))),.int .i64 (Int.tmod t267 4),.int .i64 0] 43 (0,0)) (by (with_reducible repeat first|refine blk_drewN ?_ _|refine blk_alloc ?_ _);exact BK268.out)) : gb268 ≠ gb281));have n12_:=Aside0.mk ((by rw [hg];exact Nat.ne_of_gt (blk_lt (g:=gb268) (o:=.cells #[.int .i64 (wrap64 (1 + (Int.tmod t266 5))),.int .i64 (Int.tmod t267 4),.int .i64 0] 43 (0,0)) (by (with_reducible repeat first|refine blk_drewN ?_ _|refine blk_alloc ?_ _);exact BK268.out)) : gb281 ≠ gb268));have n13_:=Aside0.mk ((by rw [hg];exact Nat.ne_of_lt (blk_lt (g:=gb274) (o:=.cells #[.int .i64 t270,.slice Ao23 t271.length co23] 49 (0,0)) (by (with_reducible repeat first|refine blk_drewN ?_ _|refine blk_alloc ?_ _);exact BK274.out)) : gb274 ≠ gb281));have n14_:=Aside0.mk ((by rw [hg];exact Nat.ne_of_gt (blk_lt (g:=gb274) (o:=.cells #[.int .i64 t270,.slice Ao23 t271.length co23] 49 (0,0)) (by (with_reducible repeat first|refine blk_drewN ?_ _|refine blk_alloc ?_ _);exact BK274.out)) : gb281 ≠ gb274));clear HO_12 HO_275001 BK265 BK268 BK274 HB;have HO_12:=n0_;have HO_275001:=n1_;have BK265:=n2_;have BK268:=n3_;have BK274:=n4_;have HB:=n5_;have BK281:=n6_;have GW281:=n7_;have GE281:=n8_;have NB265_281:=n9_;have NB281_265:=n10_;have NB268_281:=n11_;have NB281_268:=n12_;have NB274_281:=n13_;have NB281_274:=n14_;clear n0_ n1_ n2_ n3_ n4_ n5_ n6_ n7_ n8_ n9_ n10_ n11_ n12_ n13_ n14_ hb hbox hg;have hnb145:=NB281_265.out;have hnc145:=NB265_281.out;have hnb146:=NB281_268.out;have hnc146:=NB268_281.out;have hnb147:=NB281_274.out;have hnc147:=NB274_281.out;have hcz148_0 : w144.cell? ⟨gb281,0,none⟩ = some (.int .i64 0):=(blk_cell BK281.out 0).trans rfl;have hcz148_1 : w144.cell? ⟨gb281,1,none⟩ = some (.string (⟨#[]⟩ : ByteArray)):=(blk_cell BK281.out 1).trans rfl;have hfz148_0:=blk_frozen BK281.out 0;have hfz148_1:=blk_frozen BK281.out 1))
           go_ret
           exact ⟨by first|rfl|(simp [errW_none,errW_some] <;> rfl)|(simp [*,errW_none,errW_some] <;> rfl),by repeat (first|(with_reducible first|exact HB.out|apply below_alloc|apply pw_below_drewN|apply below_drew1|refine below_set ?_ GE265.out|refine below_set ?_ GE268.out|refine below_set ?_ GE274.out|refine below_set ?_ GE281.out)|exact HB.out)⟩

end Go.Proofs.Ytffhbpepppodeaa.PFnJoined
