import Derived.Test.YtffhbpepppodeaaPFnRepairedx0
import Derived.Test.YtffhbpepppodeaaPFnRepairedx1
import Derived.Test.YtffhbpepppodeaaPFnRepairedx2
import Derived.Test.YtffhbpepppodeaaPFnRepairedx3
import Derived.Test.YtffhbpepppodeaaPFnRepairedx6
import Derived.Test.YtffhbpepppodeaaPFnRepairedx7
import Derived.Test.YtffhbpepppodeaaPFnRepairedx12
import Derived.Test.YtffhbpepppodeaaPFnRepairedx13
import Derived.Test.YtffhbpepppodeaaPFnRepairedx14
namespace Go.Proofs.Ytffhbpepppodeaa.PFnRepaired
private theorem nn {α : Type} {c : Prop} [Decidable c] {a : Option α} {r : α} (h : (if c then a else none) = some r) : c ∧ a = some r:=by
 split at h
 ·exact ⟨‹c›,h⟩
 ·cases h
open Go.RowKit Go.Proofs.YtffhbpepppodeaaW.PrintWords Go.Proofs.YtffhbpepppodeaaW.PrintLast Go.Proofs.YtffhbpepppodeaaW.PrintMore
attribute [local go_sem] max2_int min2_int max_two min_two max_three min_three max_four min_four   -- for this text's walks alone
set_option linter.unusedVariables false
set_option linter.unusedSimpArgs false

/-! ### laws_FnRepaired: function 8 -/
mutual
def laws_FnRepaired.j0 : Nat → List Int → List Int → Bool → Option (Bool)
 | 0,_,_,_=>none
 | k + 1,x0,x1,x25=>if x25 = true then (some true) else ((laws_lwAt.f x0 0).bind fun t291=>((laws_lwAt.f x0 1).bind fun t292=>((laws_lwAt.f x0 2).bind fun t294=>(if (wrap64 ((wrap64 (1 + (Int.tmod t291 6))) + 1)) = 0 then (none) else ((laws_lwData.f k x0 (wrap64 (1 + (Int.tmod t291 6)))).bind fun t295=>((impl_EncodeShards.f k (wrap64 (1 + (Int.tmod t291 6))) (Int.tmod t292 4) (Int.tmod t294 (wrap64 ((wrap64 (1 + (Int.tmod t291 6))) + 1))) t295).bind fun bt298=>(if bt298.1 = 0 then (if (bt298.2.length : Int) = (wrap64 ((wrap64 ((wrap64 (1 + (Int.tmod t291 6))) + (Int.tmod t292 4))) + (Int.tmod t294 (wrap64 ((wrap64 (1 + (Int.tmod t291 6))) + 1))))) then ((laws_lwData.f k x0 (wrap64 (1 + (Int.tmod t291 6)))).bind fun t303=>((spec_EncodeShards.f k (wrap64 (1 + (Int.tmod t291 6))) (Int.tmod t292 4) (Int.tmod t294 (wrap64 ((wrap64 (1 + (Int.tmod t291 6))) + 1))) t303).bind fun bt306=>((laws_lwTexts.f k bt298.2 bt306.2).bind fun t310=>(laws_FnRepaired.j1 k x1 (wrap64 ((wrap64 ((wrap64 (1 + (Int.tmod t291 6))) + (Int.tmod t292 4))) + (Int.tmod t294 (wrap64 ((wrap64 (1 + (Int.tmod t291 6))) + 1))))) (!t310) (wrap64 (1 + (Int.tmod t291 6))) (Int.tmod t292 4) (Int.tmod t294 (wrap64 ((wrap64 (1 + (Int.tmod t291 6))) + 1))) bt298.1 bt298.2)))) else (laws_FnRepaired.j1 k x1 (wrap64 ((wrap64 ((wrap64 (1 + (Int.tmod t291 6))) + (Int.tmod t292 4))) + (Int.tmod t294 (wrap64 ((wrap64 (1 + (Int.tmod t291 6))) + 1))))) true (wrap64 (1 + (Int.tmod t291 6))) (Int.tmod t292 4) (Int.tmod t294 (wrap64 ((wrap64 (1 + (Int.tmod t291 6))) + 1))) bt298.1 bt298.2)) else (laws_FnRepaired.j1 k x1 (wrap64 ((wrap64 ((wrap64 (1 + (Int.tmod t291 6))) + (Int.tmod t292 4))) + (Int.tmod t294 (wrap64 ((wrap64 (1 + (Int.tmod t291 6))) + 1))))) true (wrap64 (1 + (Int.tmod t291 6))) (Int.tmod t292 4) (Int.tmod t294 (wrap64 ((wrap64 (1 + (Int.tmod t291 6))) + 1))) bt298.1 bt298.2))))))))
def laws_FnRepaired.j1 : Nat → List Int → Int → Bool → Int → Int → Int → Int → List ByteArray → Option (Bool)
 | 0,_,_,_,_,_,_,_,_=>none
 | k + 1,x1,x7,x77,x294000,x294001,x294002,x303000,x303001=>if x77 = true then (some false) else (laws_FnRepaired.l0 k x1 x7 0 x294000 x294001 x294002 x303000 x303001)
def laws_FnRepaired.l0 : Nat → List Int → Int → Int → Int → Int → Int → Int → List ByteArray → Option (Bool)
 | 0,_,_,_,_,_,_,_,_=>none
 | k + 1,x1,x7,x8,x294000,x294001,x294002,x303000,x303001=>if x8 < x7 then (laws_FnRepaired.l1 k x1 x7 x8 (([] : List Bool)) (([] : List (S61))) 0 x294000 x294001 x294002 x303000 x303001) else (some true)
def laws_FnRepaired.l1 : Nat → List Int → Int → Int → List Bool → List (S61) → Int → Int → Int → Int → Int → List ByteArray → Option (Bool)
 | 0,_,_,_,_,_,_,_,_,_,_,_=>none
 | k + 1,x1,x7,x8,x9,x10,x11,x294000,x294001,x294002,x303000,x303001=>if x11 < x7 then (if x11 = x8 then (if x9.length < 140737488355328 then (if x10.length < 5864062014805 then (laws_FnRepaired.l1 k x1 x7 x8 (x9 ++ [false]) (x10 ++ [(⟨false,(⟨#[]⟩ : ByteArray)⟩ : S61)]) (wrap64 (x11 + 1)) x294000 x294001 x294002 x303000 x303001) else (none)) else (none)) else ((laws_lwAt.f x1 (wrap64 (x11 + x8))).bind fun t324=>(if x9.length < 140737488355328 then ((some (x9 ++ [decide ((Int.tmod t324 5) > 0)] : List Bool)).bind fun y325=>(if (Int.tmod t324 5) > 0 then (if 0 ≤ x11 then (if x11 < (x303001.length : Int) then (if x10.length < 5864062014805 then (laws_FnRepaired.l1 k x1 x7 x8 y325 (x10 ++ [(⟨decide ((Int.tmod t324 5) > 0),rdOf ByteArray.empty x303001 x11⟩ : S61)]) (wrap64 (x11 + 1)) x294000 x294001 x294002 x303000 x303001) else (none)) else (none)) else (none)) else (if x10.length < 5864062014805 then (laws_FnRepaired.l1 k x1 x7 x8 y325 (x10 ++ [(⟨decide ((Int.tmod t324 5) > 0),(⟨#[]⟩ : ByteArray)⟩ : S61)]) (wrap64 (x11 + 1)) x294000 x294001 x294002 x303000 x303001) else (none)))) else (none)))) else ((impl_RepairPlan.f x294000 x294001 x294002 x9 x8).bind fun bt336=>((spec_RepairPlan.f k x294000 x294001 x294002 x9 x8).bind fun bt341=>((impl_RepairShard.f k x294000 x294001 x294002 x10 x8).bind fun bt346=>(if bt336.1 = bt341.1 then ((laws_lwInts.f k bt336.2 bt341.2).bind fun t351=>(if t351 = true then (laws_FnRepaired.j4 k x1 x7 x8 x9 (bt346.1 != bt341.1) x294000 x294001 x294002 x303000 x303001 bt336.1 bt336.2 bt341.1 bt341.2 bt346.1 bt346.2) else (laws_FnRepaired.j4 k x1 x7 x8 x9 true x294000 x294001 x294002 x303000 x303001 bt336.1 bt336.2 bt341.1 bt341.2 bt346.1 bt346.2))) else (laws_FnRepaired.j4 k x1 x7 x8 x9 true x294000 x294001 x294002 x303000 x303001 bt336.1 bt336.2 bt341.1 bt341.2 bt346.1 bt346.2)))))
def laws_FnRepaired.j4 : Nat → List Int → Int → Int → List Bool → Bool → Int → Int → Int → Int → List ByteArray → Int → List Int → Int → List Int → Int → List ByteArray → Option (Bool)
 | 0,_,_,_,_,_,_,_,_,_,_,_,_,_,_,_,_=>none
 | k + 1,x1,x7,x8,x9,x150,x294000,x294001,x294002,x303000,x303001,x341000,x341001,x346000,x346001,x351000,x351001=>if x150 = true then (some false) else (if x346000 = 0 then (if (x351001.length : Int) = 1 then (if 0 < (x351001.length : Int) then (if 0 ≤ x8 then (if x8 < (x303001.length : Int) then (laws_FnRepaired.j5 k x1 x7 x8 x9 ((rdOf ByteArray.empty x351001 0).toList != (rdOf ByteArray.empty x303001 x8).toList) x294000 x294001 x294002 x303000 x303001 x341000 x341001) else (none)) else (none)) else (none)) else (laws_FnRepaired.j5 k x1 x7 x8 x9 true x294000 x294001 x294002 x303000 x303001 x341000 x341001)) else (laws_FnRepaired.l0 k x1 x7 (wrap64 (x8 + 1)) x294000 x294001 x294002 x303000 x303001))
def laws_FnRepaired.j5 : Nat → List Int → Int → Int → List Bool → Bool → Int → Int → Int → Int → List ByteArray → Int → List Int → Option (Bool)
 | 0,_,_,_,_,_,_,_,_,_,_,_,_=>none
 | k + 1,x1,x7,x8,x9,x169,x294000,x294001,x294002,x303000,x303001,x341000,x341001=>if x169 = true then (some false) else (laws_FnRepaired.l2 k x1 x7 x8 x9 0 x294000 x294001 x294002 x303000 x303001 x341000 x341001)
def laws_FnRepaired.l2 : Nat → List Int → Int → Int → List Bool → Int → Int → Int → Int → Int → List ByteArray → Int → List Int → Option (Bool)
 | 0,_,_,_,_,_,_,_,_,_,_,_,_=>none
 | k + 1,x1,x7,x8,x9,x17,x294000,x294001,x294002,x303000,x303001,x341000,x341001=>if x17 < (x341001.length : Int) then (if 0 ≤ x17 then (if (rd x341001 x17) = x8 then (some false) else (if 0 ≤ (rd x341001 x17) then (if (rd x341001 x17) < (x9.length : Int) then (if (rdOf false x9 (rd x341001 x17) = true) then (laws_FnRepaired.l2 k x1 x7 x8 x9 (wrap64 (x17 + 1)) x294000 x294001 x294002 x303000 x303001 x341000 x341001) else (some false)) else (none)) else (none))) else (none)) else (laws_FnRepaired.l0 k x1 x7 (wrap64 (x8 + 1)) x294000 x294001 x294002 x303000 x303001)
end
def laws_FnRepaired.f (k : Nat) (l0 : List Int) (l1 : List Int) : Option (Bool):=if (l0.length : Int) > 1048576 then (laws_FnRepaired.j0 k l0 l1 true) else (laws_FnRepaired.j0 k l0 l1 (decide ((l1.length : Int) > 1048576)))
def laws_FnRepaired.T4 : Bool × List (List Nat × List Nat):=(true,[([],[]),([0],[0]),([],[]),([2],[2]),([3],[3]),([1,4],[1,4]),([0,1,2,3,4,5],[]),([6,5,1,0,1,2,3,4,5],[5,6])])
def laws_FnRepaired.B4 : List Nat:=[0,1,0,4,12,31,63,127]
theorem laws_FnRepaired.tab4 : rtab .any (opsOf Try.f8 4) = laws_FnRepaired.T4:=by kernel_rfl
theorem laws_FnRepaired.bits4 : waitsOk laws_FnRepaired.T4.2 laws_FnRepaired.B4 = true:=by kernel_rfl
def laws_FnRepaired.T5 : Bool × List (List Nat × List Nat):=(true,[([],[]),([],[]),([],[]),([2],[2]),([1,3],[1,3]),([0,4,4],[0,4]),([],[]),([6,5,5,0,1,2,3,4,5,6],[5,6])])
def laws_FnRepaired.B5 : List Nat:=[0,0,0,4,14,31,0,127]
theorem laws_FnRepaired.tab5 : rtab .any (opsOf Try.f8 5) = laws_FnRepaired.T5:=by kernel_rfl
theorem laws_FnRepaired.bits5 : waitsOk laws_FnRepaired.T5.2 laws_FnRepaired.B5 = true:=by kernel_rfl
def laws_FnRepaired.T7 : Bool × List (List Nat × List Nat):=(true,[([],[]),([0],[0]),([1],[1]),([2],[2]),([3],[3]),([4,3],[3,4]),([5,3],[3,5]),([3],[3]),([6,7,3],[3,6,7]),([3,8],[3,8]),([9,3],[9]),([10],[10]),([11,10],[10,11]),([10],[10]),([10],[10]),([10],[10]),([15,10],[10,15]),([14,16,10,10],[10,14,16]),([13,17,17,10],[10,13,17]),([18,10],[10,18]),([12,19,18,10],[10,12,19]),([20,10],[10,20]),([10,21],[10,21])])
def laws_FnRepaired.B7 : List Nat:=[0,1,3,7,15,31,63,15,255,511,1023,2047,4095,2047,2047,2047,34815,116735,255999,518143,1048575,2097151,4194303]
theorem laws_FnRepaired.tab7 : rtab .any (opsOf Try.f8 7) = laws_FnRepaired.T7:=by kernel_rfl
theorem laws_FnRepaired.bits7 : waitsOk laws_FnRepaired.T7.2 laws_FnRepaired.B7 = true:=by kernel_rfl
def laws_FnRepaired.T29 : Bool × List (List Nat × List Nat):=(true,[([],[]),([0],[0]),([1],[1]),([2],[2]),([3],[3]),([4],[4]),([5,4],[4,5]),([6,4],[4,6]),([7,4],[4,7]),([4],[4]),([9,4],[4,9]),([4],[4]),([10,11,4],[4,10,11]),([12,4],[4,12]),([8,13,4],[4,8,13]),([4,14],[4,14])])
def laws_FnRepaired.B29 : List Nat:=[0,1,3,7,15,31,63,127,255,31,543,31,3615,7711,16383,32767]
theorem laws_FnRepaired.tab29 : rtab .any (opsOf Try.f8 29) = laws_FnRepaired.T29:=by kernel_rfl
theorem laws_FnRepaired.bits29 : waitsOk laws_FnRepaired.T29.2 laws_FnRepaired.B29 = true:=by kernel_rfl
set_option maxHeartbeats 8000000 in
set_option maxRecDepth 100000 in
theorem laws_FnRepaired.calls (k : Nat) (A0 : Option Addr) (c0 : Nat) (l0 : List Int) (A1 : Option Addr) (c1 : Nat) (l1 : List Int) (_r : Bool) (w : World) (hr0 : Kd.C (Kd.int .u8) w A0 l0.length l0) (hc0 : l0.length ≤ c0) (hr1 : Kd.C (Kd.int .u8) w A1 l1.length l1) (hc1 : l1.length ≤ c1) (h : laws_FnRepaired.f k l0 l1 = some true) :
  Calls Try.prog 8 #[.slice A0 l0.length c0,.slice A1 l1.length c1] w fun e w'=>e = .returned (.bool true) ∧ Below w.heap.size w w':=by
 have hu43:=Try.underlying43
 have hu68:=Try.underlying68
 have hfd0 : ∀ (a : Int) (v : Value) (w : World),(Instr.field 68 (.agg #[.int .i64 a,v]) 1).run Try.prog w = .ok v w:=fun _ _ _=>by kernel_rfl
 have hu61:=Try.underlying61
 have hu74:=Try.underlying74
 have HR0:=M0 hr0
 have HC0:=M0 hc0
 clear hr0 hc0
 have HR1:=M0 hr1
 have HC1:=M0 hc1
 clear hr1 hc1
 have HB:=M0 (Below.refl w.heap.size w)
 have H : (if (l0.length : Int) > 1048576 then (laws_FnRepaired.j0 k l0 l1 true) else (laws_FnRepaired.j0 k l0 l1 (decide ((l1.length : Int) > 1048576)))) = some true:=h
 clear h
 have HC3:=M0 H
 clear H
 go_enter Try.func8,Try.ntmps8
 go_upto_region 1 with (fail)
 go_cut [25] (fun v25 wc=>∃ (kq : Nat) (x25_2 : Bool),v25 = .bool x25_2 ∧ Aside0 (laws_FnRepaired.j0 kq l0 l1 x25_2 = some true) ∧ Aside0 (kq ≤ k) ∧ Aside0 (Below w.heap.size w wc))
 case first=>
  have H:=HC3.out
  clear HC3
  by_cases c4 : (l0.length : Int) > 1048576
  ·rw [if_pos c4] at H
   have c4b0:=decide_eq_true c4
   have c4b1 : decide (1048576 < l0.length) = true:=decide_eq_true (by omega)
   clear c4
   (skip)
   have H':=M0 H
   clear H
   go_wp2
   go_meet
   case rel=>exact ⟨_,(true),(by rfl),H',⟨by omega⟩,⟨HB.out⟩⟩
  ·rw [if_neg c4] at H
   have c4b0:=decide_eq_false c4
   have c4b1 : decide (1048576 < l0.length) = false:=decide_eq_false (by omega)
   clear c4
   (skip)
   have H':=M0 H
   clear H
   go_wp2
   go_meet
   case rel=>exact ⟨_,(decide ((l1.length : Int) > 1048576)),(by rfl),H',⟨by omega⟩,⟨HB.out⟩⟩
 case rest=>
  clear HC3
  obtain ⟨kq,x25_2,rfl,HA,HJ2,HB⟩:=hcut
  cases kq with
  | zero=>exact absurd HA.out (by simp [laws_FnRepaired.j0])
  | succ kj2=>
   have H:=HA.out
   clear HA
   simp only [laws_FnRepaired.j0] at H
   by_cases c5 : x25_2 = true
   ·subst c5
    have H1 : (some true) = some true:=rfl
    clear H
    have H:=H1
    clear H1 H
    go_wp2
    go_ret
    exact ⟨by rfl,HB.out⟩
   ·replace c5:=Bool.eq_false_iff.mpr c5
    subst c5
    have H1 : ((laws_lwAt.f l0 0).bind fun t291=>((laws_lwAt.f l0 1).bind fun t292=>((laws_lwAt.f l0 2).bind fun t294=>(if (wrap64 ((wrap64 (1 + (Int.tmod t291 6))) + 1)) = 0 then (none) else ((laws_lwData.f kj2 l0 (wrap64 (1 + (Int.tmod t291 6)))).bind fun t295=>((impl_EncodeShards.f kj2 (wrap64 (1 + (Int.tmod t291 6))) (Int.tmod t292 4) (Int.tmod t294 (wrap64 ((wrap64 (1 + (Int.tmod t291 6))) + 1))) t295).bind fun bt298=>(if bt298.1 = 0 then (if (bt298.2.length : Int) = (wrap64 ((wrap64 ((wrap64 (1 + (Int.tmod t291 6))) + (Int.tmod t292 4))) + (Int.tmod t294 (wrap64 ((wrap64 (1 + (Int.tmod t291 6))) + 1))))) then ((laws_lwData.f kj2 l0 (wrap64 (1 + (Int.tmod t291 6)))).bind fun t303=>((spec_EncodeShards.f kj2 (wrap64 (1 + (Int.tmod t291 6))) (Int.tmod t292 4) (Int.tmod t294 (wrap64 ((wrap64 (1 + (Int.tmod t291 6))) + 1))) t303).bind fun bt306=>((laws_lwTexts.f kj2 bt298.2 bt306.2).bind fun t310=>(laws_FnRepaired.j1 kj2 l1 (wrap64 ((wrap64 ((wrap64 (1 + (Int.tmod t291 6))) + (Int.tmod t292 4))) + (Int.tmod t294 (wrap64 ((wrap64 (1 + (Int.tmod t291 6))) + 1))))) (!t310) (wrap64 (1 + (Int.tmod t291 6))) (Int.tmod t292 4) (Int.tmod t294 (wrap64 ((wrap64 (1 + (Int.tmod t291 6))) + 1))) bt298.1 bt298.2)))) else (laws_FnRepaired.j1 kj2 l1 (wrap64 ((wrap64 ((wrap64 (1 + (Int.tmod t291 6))) + (Int.tmod t292 4))) + (Int.tmod t294 (wrap64 ((wrap64 (1 + (Int.tmod t291 6))) + 1))))) true (wrap64 (1 + (Int.tmod t291 6))) (Int.tmod t292 4) (Int.tmod t294 (wrap64 ((wrap64 (1 + (Int.tmod t291 6))) + 1))) bt298.1 bt298.2)) else (laws_FnRepaired.j1 kj2 l1 (wrap64 ((wrap64 ((wrap64 (1 + (Int.tmod t291 6))) + (Int.tmod t292 4))) + (Int.tmod t294 (wrap64 ((wrap64 (1 + (Int.tmod t291 6))) + 1))))) true (wrap64 (1 + (Int.tmod t291 6))) (Int.tmod t292 4) (Int.tmod t294 (wrap64 ((wrap64 (1 + (Int.tmod t291 6))) + 1))) bt298.1 bt298.2)))))))) = some true:=by rw [if_neg (show ¬ (false = true) by decide)] at H;exact H
    clear H
    have H:=H1
    clear H1
    replace H:=Option.bind_eq_some_iff.mp H
    obtain ⟨t291,A60,H⟩:=H
    replace H : ((laws_lwAt.f l0 1).bind fun t292=>((laws_lwAt.f l0 2).bind fun t294=>(if (wrap64 ((wrap64 (1 + (Int.tmod t291 6))) + 1)) = 0 then (none) else ((laws_lwData.f kj2 l0 (wrap64 (1 + (Int.tmod t291 6)))).bind fun t295=>((impl_EncodeShards.f kj2 (wrap64 (1 + (Int.tmod t291 6))) (Int.tmod t292 4) (Int.tmod t294 (wrap64 ((wrap64 (1 + (Int.tmod t291 6))) + 1))) t295).bind fun bt298=>(if bt298.1 = 0 then (if (bt298.2.length : Int) = (wrap64 ((wrap64 ((wrap64 (1 + (Int.tmod t291 6))) + (Int.tmod t292 4))) + (Int.tmod t294 (wrap64 ((wrap64 (1 + (Int.tmod t291 6))) + 1))))) then ((laws_lwData.f kj2 l0 (wrap64 (1 + (Int.tmod t291 6)))).bind fun t303=>((spec_EncodeShards.f kj2 (wrap64 (1 + (Int.tmod t291 6))) (Int.tmod t292 4) (Int.tmod t294 (wrap64 ((wrap64 (1 + (Int.tmod t291 6))) + 1))) t303).bind fun bt306=>((laws_lwTexts.f kj2 bt298.2 bt306.2).bind fun t310=>(laws_FnRepaired.j1 kj2 l1 (wrap64 ((wrap64 ((wrap64 (1 + (Int.tmod t291 6))) + (Int.tmod t292 4))) + (Int.tmod t294 (wrap64 ((wrap64 (1 + (Int.tmod t291 6))) + 1))))) (!t310) (wrap64 (1 + (Int.tmod t291 6))) (Int.tmod t292 4) (Int.tmod t294 (wrap64 ((wrap64 (1 + (Int.tmod t291 6))) + 1))) bt298.1 bt298.2)))) else (laws_FnRepaired.j1 kj2 l1 (wrap64 ((wrap64 ((wrap64 (1 + (Int.tmod t291 6))) + (Int.tmod t292 4))) + (Int.tmod t294 (wrap64 ((wrap64 (1 + (Int.tmod t291 6))) + 1))))) true (wrap64 (1 + (Int.tmod t291 6))) (Int.tmod t292 4) (Int.tmod t294 (wrap64 ((wrap64 (1 + (Int.tmod t291 6))) + 1))) bt298.1 bt298.2)) else (laws_FnRepaired.j1 kj2 l1 (wrap64 ((wrap64 ((wrap64 (1 + (Int.tmod t291 6))) + (Int.tmod t292 4))) + (Int.tmod t294 (wrap64 ((wrap64 (1 + (Int.tmod t291 6))) + 1))))) true (wrap64 (1 + (Int.tmod t291 6))) (Int.tmod t292 4) (Int.tmod t294 (wrap64 ((wrap64 (1 + (Int.tmod t291 6))) + 1))) bt298.1 bt298.2))))))) = some true:=H
    have A6:=M0 A60
    clear A60
    replace H:=Option.bind_eq_some_iff.mp H
    obtain ⟨t292,A70,H⟩:=H
    replace H : ((laws_lwAt.f l0 2).bind fun t294=>(if (wrap64 ((wrap64 (1 + (Int.tmod t291 6))) + 1)) = 0 then (none) else ((laws_lwData.f kj2 l0 (wrap64 (1 + (Int.tmod t291 6)))).bind fun t295=>((impl_EncodeShards.f kj2 (wrap64 (1 + (Int.tmod t291 6))) (Int.tmod t292 4) (Int.tmod t294 (wrap64 ((wrap64 (1 + (Int.tmod t291 6))) + 1))) t295).bind fun bt298=>(if bt298.1 = 0 then (if (bt298.2.length : Int) = (wrap64 ((wrap64 ((wrap64 (1 + (Int.tmod t291 6))) + (Int.tmod t292 4))) + (Int.tmod t294 (wrap64 ((wrap64 (1 + (Int.tmod t291 6))) + 1))))) then ((laws_lwData.f kj2 l0 (wrap64 (1 + (Int.tmod t291 6)))).bind fun t303=>((spec_EncodeShards.f kj2 (wrap64 (1 + (Int.tmod t291 6))) (Int.tmod t292 4) (Int.tmod t294 (wrap64 ((wrap64 (1 + (Int.tmod t291 6))) + 1))) t303).bind fun bt306=>((laws_lwTexts.f kj2 bt298.2 bt306.2).bind fun t310=>(laws_FnRepaired.j1 kj2 l1 (wrap64 ((wrap64 ((wrap64 (1 + (Int.tmod t291 6))) + (Int.tmod t292 4))) + (Int.tmod t294 (wrap64 ((wrap64 (1 + (Int.tmod t291 6))) + 1))))) (!t310) (wrap64 (1 + (Int.tmod t291 6))) (Int.tmod t292 4) (Int.tmod t294 (wrap64 ((wrap64 (1 + (Int.tmod t291 6))) + 1))) bt298.1 bt298.2)))) else (laws_FnRepaired.j1 kj2 l1 (wrap64 ((wrap64 ((wrap64 (1 + (Int.tmod t291 6))) + (Int.tmod t292 4))) + (Int.tmod t294 (wrap64 ((wrap64 (1 + (Int.tmod t291 6))) + 1))))) true (wrap64 (1 + (Int.tmod t291 6))) (Int.tmod t292 4) (Int.tmod t294 (wrap64 ((wrap64 (1 + (Int.tmod t291 6))) + 1))) bt298.1 bt298.2)) else (laws_FnRepaired.j1 kj2 l1 (wrap64 ((wrap64 ((wrap64 (1 + (Int.tmod t291 6))) + (Int.tmod t292 4))) + (Int.tmod t294 (wrap64 ((wrap64 (1 + (Int.tmod t291 6))) + 1))))) true (wrap64 (1 + (Int.tmod t291 6))) (Int.tmod t292 4) (Int.tmod t294 (wrap64 ((wrap64 (1 + (Int.tmod t291 6))) + 1))) bt298.1 bt298.2)))))) = some true:=H
    have A7:=M0 A70
    clear A70
    replace H:=Option.bind_eq_some_iff.mp H
    obtain ⟨t294,A80,H⟩:=H
    replace H : (if (wrap64 ((wrap64 (1 + (Int.tmod t291 6))) + 1)) = 0 then (none) else ((laws_lwData.f kj2 l0 (wrap64 (1 + (Int.tmod t291 6)))).bind fun t295=>((impl_EncodeShards.f kj2 (wrap64 (1 + (Int.tmod t291 6))) (Int.tmod t292 4) (Int.tmod t294 (wrap64 ((wrap64 (1 + (Int.tmod t291 6))) + 1))) t295).bind fun bt298=>(if bt298.1 = 0 then (if (bt298.2.length : Int) = (wrap64 ((wrap64 ((wrap64 (1 + (Int.tmod t291 6))) + (Int.tmod t292 4))) + (Int.tmod t294 (wrap64 ((wrap64 (1 + (Int.tmod t291 6))) + 1))))) then ((laws_lwData.f kj2 l0 (wrap64 (1 + (Int.tmod t291 6)))).bind fun t303=>((spec_EncodeShards.f kj2 (wrap64 (1 + (Int.tmod t291 6))) (Int.tmod t292 4) (Int.tmod t294 (wrap64 ((wrap64 (1 + (Int.tmod t291 6))) + 1))) t303).bind fun bt306=>((laws_lwTexts.f kj2 bt298.2 bt306.2).bind fun t310=>(laws_FnRepaired.j1 kj2 l1 (wrap64 ((wrap64 ((wrap64 (1 + (Int.tmod t291 6))) + (Int.tmod t292 4))) + (Int.tmod t294 (wrap64 ((wrap64 (1 + (Int.tmod t291 6))) + 1))))) (!t310) (wrap64 (1 + (Int.tmod t291 6))) (Int.tmod t292 4) (Int.tmod t294 (wrap64 ((wrap64 (1 + (Int.tmod t291 6))) + 1))) bt298.1 bt298.2)))) else (laws_FnRepaired.j1 kj2 l1 (wrap64 ((wrap64 ((wrap64 (1 + (Int.tmod t291 6))) + (Int.tmod t292 4))) + (Int.tmod t294 (wrap64 ((wrap64 (1 + (Int.tmod t291 6))) + 1))))) true (wrap64 (1 + (Int.tmod t291 6))) (Int.tmod t292 4) (Int.tmod t294 (wrap64 ((wrap64 (1 + (Int.tmod t291 6))) + 1))) bt298.1 bt298.2)) else (laws_FnRepaired.j1 kj2 l1 (wrap64 ((wrap64 ((wrap64 (1 + (Int.tmod t291 6))) + (Int.tmod t292 4))) + (Int.tmod t294 (wrap64 ((wrap64 (1 + (Int.tmod t291 6))) + 1))))) true (wrap64 (1 + (Int.tmod t291 6))) (Int.tmod t292 4) (Int.tmod t294 (wrap64 ((wrap64 (1 + (Int.tmod t291 6))) + 1))) bt298.1 bt298.2))))) = some true:=H
    have A8:=M0 A80
    clear A80
    by_cases c9 : (wrap64 ((wrap64 (1 + (Int.tmod t291 6))) + 1)) = 0
    ·rw [if_pos c9] at H
     exact absurd H (by simp)
    ·rw [if_neg c9] at H
     have c9b0 : ((wrap64 ((wrap64 (1 + (Int.tmod t291 6))) + 1)) == 0) = false:=beq_eq_false_iff_ne.mpr c9
     have c9b1 : ((wrap64 ((wrap64 (1 + (Int.tmod t291 6))) + 1)) != 0) = true:=bne_iff_ne.mpr c9
     replace H:=Option.bind_eq_some_iff.mp H
     obtain ⟨t295,A100,H⟩:=H
     replace H : ((impl_EncodeShards.f kj2 (wrap64 (1 + (Int.tmod t291 6))) (Int.tmod t292 4) (Int.tmod t294 (wrap64 ((wrap64 (1 + (Int.tmod t291 6))) + 1))) t295).bind fun bt298=>(if bt298.1 = 0 then (if (bt298.2.length : Int) = (wrap64 ((wrap64 ((wrap64 (1 + (Int.tmod t291 6))) + (Int.tmod t292 4))) + (Int.tmod t294 (wrap64 ((wrap64 (1 + (Int.tmod t291 6))) + 1))))) then ((laws_lwData.f kj2 l0 (wrap64 (1 + (Int.tmod t291 6)))).bind fun t303=>((spec_EncodeShards.f kj2 (wrap64 (1 + (Int.tmod t291 6))) (Int.tmod t292 4) (Int.tmod t294 (wrap64 ((wrap64 (1 + (Int.tmod t291 6))) + 1))) t303).bind fun bt306=>((laws_lwTexts.f kj2 bt298.2 bt306.2).bind fun t310=>(laws_FnRepaired.j1 kj2 l1 (wrap64 ((wrap64 ((wrap64 (1 + (Int.tmod t291 6))) + (Int.tmod t292 4))) + (Int.tmod t294 (wrap64 ((wrap64 (1 + (Int.tmod t291 6))) + 1))))) (!t310) (wrap64 (1 + (Int.tmod t291 6))) (Int.tmod t292 4) (Int.tmod t294 (wrap64 ((wrap64 (1 + (Int.tmod t291 6))) + 1))) bt298.1 bt298.2)))) else (laws_FnRepaired.j1 kj2 l1 (wrap64 ((wrap64 ((wrap64 (1 + (Int.tmod t291 6))) + (Int.tmod t292 4))) + (Int.tmod t294 (wrap64 ((wrap64 (1 + (Int.tmod t291 6))) + 1))))) true (wrap64 (1 + (Int.tmod t291 6))) (Int.tmod t292 4) (Int.tmod t294 (wrap64 ((wrap64 (1 + (Int.tmod t291 6))) + 1))) bt298.1 bt298.2)) else (laws_FnRepaired.j1 kj2 l1 (wrap64 ((wrap64 ((wrap64 (1 + (Int.tmod t291 6))) + (Int.tmod t292 4))) + (Int.tmod t294 (wrap64 ((wrap64 (1 + (Int.tmod t291 6))) + 1))))) true (wrap64 (1 + (Int.tmod t291 6))) (Int.tmod t292 4) (Int.tmod t294 (wrap64 ((wrap64 (1 + (Int.tmod t291 6))) + 1))) bt298.1 bt298.2))) = some true:=H
     have A10:=M0 A100
     clear A100
     replace H:=Option.bind_eq_some_iff.mp H
     obtain ⟨⟨t298,t299⟩,A110,H⟩:=H
     replace H : (if t298 = 0 then (if (t299.length : Int) = (wrap64 ((wrap64 ((wrap64 (1 + (Int.tmod t291 6))) + (Int.tmod t292 4))) + (Int.tmod t294 (wrap64 ((wrap64 (1 + (Int.tmod t291 6))) + 1))))) then ((laws_lwData.f kj2 l0 (wrap64 (1 + (Int.tmod t291 6)))).bind fun t303=>((spec_EncodeShards.f kj2 (wrap64 (1 + (Int.tmod t291 6))) (Int.tmod t292 4) (Int.tmod t294 (wrap64 ((wrap64 (1 + (Int.tmod t291 6))) + 1))) t303).bind fun bt306=>((laws_lwTexts.f kj2 t299 bt306.2).bind fun t310=>(laws_FnRepaired.j1 kj2 l1 (wrap64 ((wrap64 ((wrap64 (1 + (Int.tmod t291 6))) + (Int.tmod t292 4))) + (Int.tmod t294 (wrap64 ((wrap64 (1 + (Int.tmod t291 6))) + 1))))) (!t310) (wrap64 (1 + (Int.tmod t291 6))) (Int.tmod t292 4) (Int.tmod t294 (wrap64 ((wrap64 (1 + (Int.tmod t291 6))) + 1))) t298 t299)))) else (laws_FnRepaired.j1 kj2 l1 (wrap64 ((wrap64 ((wrap64 (1 + (Int.tmod t291 6))) + (Int.tmod t292 4))) + (Int.tmod t294 (wrap64 ((wrap64 (1 + (Int.tmod t291 6))) + 1))))) true (wrap64 (1 + (Int.tmod t291 6))) (Int.tmod t292 4) (Int.tmod t294 (wrap64 ((wrap64 (1 + (Int.tmod t291 6))) + 1))) t298 t299)) else (laws_FnRepaired.j1 kj2 l1 (wrap64 ((wrap64 ((wrap64 (1 + (Int.tmod t291 6))) + (Int.tmod t292 4))) + (Int.tmod t294 (wrap64 ((wrap64 (1 + (Int.tmod t291 6))) + 1))))) true (wrap64 (1 + (Int.tmod t291 6))) (Int.tmod t292 4) (Int.tmod t294 (wrap64 ((wrap64 (1 + (Int.tmod t291 6))) + 1))) t298 t299)) = some true:=H
     have A11:=M0 A110
     clear A110
     have HC12:=M0 H
     clear H
     try go_wp2_with (first|((with_reducible refine gate_callee (f:=29) rfl ?_);refine goesL_ (some 27) rfl rfl Try.func29 (by kernel_rfl) rfl #[.slice A0 l0.length c0,.int .i64 0] rfl (by (try simp only [List.map_toArray,List.map_cons,List.map_nil]);rfl) ?_;(with_reducible refine (laws_lwAt.calls _ _ l0 0 t291 _ (Kd.C_below HR0.out HB.out) HC0.out A6.out).mono ?_);rintro e w' ⟨rfl,⟨nd,rfl⟩⟩;refine ⟨_,rfl,?_⟩;(try (rw [drewN_self wc];generalize hq_ : World.drewN wc _ = wc;have n0_ : Aside0 (Below w.heap.size w wc):=⟨by rw [← hq_];exact (by repeat ((with_reducible first|exact HB.out|apply pw_below_drewN)))⟩;clear HB hq_;have HB:=n0_;clear n0_)))|((with_reducible refine gate_callee (f:=29) rfl ?_);refine goesL_ (some 31) rfl rfl Try.func29 (by kernel_rfl) rfl #[.slice A0 l0.length c0,.int .i64 1] rfl (by (try simp only [List.map_toArray,List.map_cons,List.map_nil]);rfl) ?_;(with_reducible refine (laws_lwAt.calls _ _ l0 1 t292 _ (Kd.C_below HR0.out HB.out) HC0.out A7.out).mono ?_);rintro e w' ⟨rfl,⟨nd,rfl⟩⟩;refine ⟨_,rfl,?_⟩;(try (rw [drewN_self wc];generalize hq_ : World.drewN wc _ = wc;have n0_ : Aside0 (Below w.heap.size w wc):=⟨by rw [← hq_];exact (by repeat ((with_reducible first|exact HB.out|apply pw_below_drewN)))⟩;clear HB hq_;have HB:=n0_;clear n0_)))|((with_reducible refine gate_dst (N:=5) rfl ?_);(try (refine gate_guard (by rfl) ?_;dsimp only));refine box_event rfl (N:=5) rfl (cs:=#[.int .i64 0,.int .i64 0,.int .i64 0]) (t:=43) (by go_simp) ?_;intro gb293 hg w13 hbox hb;have BK293:=M0 (hbox);have GW293:=M0 ((by rw [hg];exact (below_size HB.out) : w.heap.size ≤ gb293));have GE293:=GW293;replace HB:=M0 (below_step HB.out hb);clear hb hbox hg;have hcz14_0:=bcv (v:=.int .i64 0) BK293.out 0 rfl;have hcz14_1:=bcv (v:=.int .i64 0) BK293.out 1 rfl;have hcz14_2:=bcv (v:=.int .i64 0) BK293.out 2 rfl;have hfz14_0:=blk_frozen BK293.out 0;have hfz14_1:=blk_frozen BK293.out 1;have hfz14_2:=blk_frozen BK293.out 2))
     have n0_ : Aside0 ((((w13.setCell ⟨gb293,0,none⟩ (.int .i64 (wrap64 (1 + (Int.tmod t291 6))))).setCell ⟨gb293,1,none⟩ (.int .i64 (Int.tmod t292 4))).setCell ⟨gb293,2,none⟩ (.int .i64 0)).heap[gb293]? = some (.cells #[.int .i64 (wrap64 (1 + (Int.tmod t291 6))),.int .i64 (Int.tmod t292 4),.int .i64 0] 43 (0,0))):=⟨by refine blk_put (cs:=#[.int .i64 (wrap64 (1 + (Int.tmod t291 6))),.int .i64 (Int.tmod t292 4),.int .i64 0]) ?_ 2 _ rfl;refine blk_put (cs:=#[.int .i64 (wrap64 (1 + (Int.tmod t291 6))),.int .i64 0,.int .i64 0]) ?_ 1 _ rfl;refine blk_put (cs:=#[.int .i64 0,.int .i64 0,.int .i64 0]) ?_ 0 _ rfl;exact BK293.out⟩
     have n1_ : Aside0 (Below w.heap.size w (((w13.setCell ⟨gb293,0,none⟩ (.int .i64 (wrap64 (1 + (Int.tmod t291 6))))).setCell ⟨gb293,1,none⟩ (.int .i64 (Int.tmod t292 4))).setCell ⟨gb293,2,none⟩ (.int .i64 0))):=⟨by repeat ((with_reducible first|exact HB.out|refine below_set ?_ GE293.out))⟩
     clear BK293 HB
     generalize (((w13.setCell ⟨gb293,0,none⟩ (.int .i64 (wrap64 (1 + (Int.tmod t291 6))))).setCell ⟨gb293,1,none⟩ (.int .i64 (Int.tmod t292 4))).setCell ⟨gb293,2,none⟩ (.int .i64 0)) = w15 at n0_ n1_ ⊢
     have BK293:=n0_
     have HB:=n1_
     clear n0_ n1_
     replace BK293:=M0 (blk_drew BK293.out)
     replace HB:=M0 (below_drew1 HB.out)
     refine start_ (n:=8) (S:=fun w'=>w'.cell? ⟨gb293,0,none⟩ = some (.int .i64 (wrap64 (1 + (Int.tmod t291 6)))) ∧ w'.cell? ⟨gb293,1,none⟩ = some (.int .i64 (Int.tmod t292 4)) ∧ w'.cell? ⟨gb293,2,none⟩ = some (.int .i64 0)) (ds:=[7]) #[O,O,O,O,O,O,O,O] (by kernel_rfl) rfl rfl ⟨(blk_cell BK293.out 0).trans rfl,(blk_cell BK293.out 1).trans rfl,(blk_cell BK293.out 2).trans rfl⟩ (fun hHeld=>?_);refine with_tabW laws_FnRepaired.tab4 laws_FnRepaired.bits4 (fun HT_ HW_=>?_)
     generalize w15.drew = w16 at BK293 HB hHeld ⊢
     refine pure_ (i:=0) (N:=some 34) #[I,O,O,O,O,O,O,O] rfl rfl (any_of HT_.out (by kernel_rfl)) (fun _ _ _ h=>h) (Or.inl ⟨by rfl,by intro w';go_simp;with_reducible rfl⟩) (by simp only [Act.put,List.setIfInBounds_toArray,List.set_cons_zero,List.set_cons_succ,i64_w,i32_w];rfl) ?_
     refine pure_ (i:=2) (N:=some 36) #[I,O,I,O,O,O,O,O] rfl rfl (any_of HT_.out (by kernel_rfl)) (fun _ _ _ h=>h) (Or.inl ⟨by rfl,by intro w';go_simp;with_reducible rfl⟩) (by simp only [Act.put,List.setIfInBounds_toArray,List.set_cons_zero,List.set_cons_succ,i64_w,i32_w];rfl) ?_
     refine take_ (i:=3) (N:=some 37) #[I,O,I,I,O,O,O,O] rfl rfl (take_ofW HT_.out HW_.out (by kernel_rfl)) (fun _ _ _ h=>h) (Or.inl ⟨by rfl,by rintro w' ⟨s0,s1,s2⟩;go_simp;with_reducible rfl⟩) hHeld (by simp only [Act.put,List.setIfInBounds_toArray,List.set_cons_zero,List.set_cons_succ,i64_w,i32_w];rfl) ?_
     refine pure_ (i:=4) (N:=some 38) #[I,O,I,I,I,O,O,O] rfl rfl (any_of HT_.out (by kernel_rfl)) (fun _ _ _ h=>h) (Or.inl ⟨by rfl,by intro w';go_simp;with_reducible rfl⟩) (by simp only [Act.put,List.setIfInBounds_toArray,List.set_cons_zero,List.set_cons_succ,i64_w,i32_w];rfl) ?_
     refine one_ (i:=1) (N:=some 35) #[I,I,I,I,I,O,O,O] rfl rfl (one_of HT_.out (by kernel_rfl)) (by decide) (fun K hK=>?_)
     refine goes_ Try.func29 (by kernel_rfl) rfl #[.slice A0 l0.length c0,.int .i64 2] (by rfl) rfl rfl (by (try simp only [List.map_toArray,List.map_cons,List.map_nil]);rfl) ?_
     with_reducible refine (laws_lwAt.calls _ _ l0 2 t294 _ ?side1 ?side2 A8.out).mono ?_
     (case side1=>exact (Kd.C_below HR0.out HB.out))
     (case side2=>exact HC0.out)
     rintro e w' ⟨rfl,⟨nd,rfl⟩⟩
     refine ⟨_,rfl,?_⟩
     have n0_:=M0 (blk_drewN BK293.out nd)
     have n1_:=M0 (pw_below_drewN HB.out nd)
     clear BK293 HB
     generalize World.drewN w16 nd = w16 at n0_ n1_ ⊢
     have BK293:=n0_
     have HB:=n1_
     clear n0_ n1_
     refine hK.out _ _ ⟨(blk_cell BK293.out 0).trans rfl,(blk_cell BK293.out 1).trans rfl,(blk_cell BK293.out 2).trans rfl⟩ (fun hHeld=>?_)
     clear hK K
     refine norm_ (a':=?_) ?_ ?_
     rotate_left
     ·show Act.put _ (some 35) _ = _
      simp only [Act.put,List.setIfInBounds_toArray,List.set_cons_zero,List.set_cons_succ,i64_w,i32_w]
      rfl
     refine pure_ (i:=5) (N:=some 39) #[I,I,I,I,I,I,O,O] rfl rfl (any_of HT_.out (by kernel_rfl)) (fun _ _ _ h=>h) (Or.inl ⟨by rfl,by intro w';go_simp;with_reducible rfl⟩) (by simp only [Act.put,List.setIfInBounds_toArray,List.set_cons_zero,List.set_cons_succ,i64_w,i32_w];rfl) ?_
     refine pure_ (i:=6) (N:=some 40) #[I,I,I,I,I,I,I,O] rfl rfl (any_of HT_.out (by kernel_rfl)) (fun _ _ _ h=>h) (Or.inl ⟨by rfl,by intro w';go_simp;with_reducible rfl⟩) (by simp only [Act.put,List.setIfInBounds_toArray,List.set_cons_zero,List.set_cons_succ,i64_w,i32_w];rfl) ?_
     refine last_ (i:=7) (N:=none) #[I,I,I,I,I,I,I,I] rfl rfl (one_of HT_.out (by kernel_rfl)) (by decide) (fun K hK=>?_)
     have hs17 : w16.cell? ⟨gb293,2,none⟩ = some (.int .i64 0):=(blk_cell BK293.out 2).trans rfl
     have hfs17:=blk_frozen BK293.out 2
     refine skip_ (w1:=?_) (by rfl) rfl ?_ ?_
     rotate_left
     ·go_simp
      rfl
     refine hK.out _ _ ?_
     clear hK K
     refine done_ (done_of HT_.out (by kernel_rfl)) ?_
     try go_wp2
     have n0_ : Aside0 ((w16.setCell ⟨gb293,2,none⟩ (.int .i64 (Int.tmod t294 (wrap64 ((wrap64 (1 + (Int.tmod t291 6))) + 1))))).heap[gb293]? = some (.cells #[.int .i64 (wrap64 (1 + (Int.tmod t291 6))),.int .i64 (Int.tmod t292 4),.int .i64 (Int.tmod t294 (wrap64 ((wrap64 (1 + (Int.tmod t291 6))) + 1)))] 43 (0,0))):=⟨by refine blk_put (cs:=#[.int .i64 (wrap64 (1 + (Int.tmod t291 6))),.int .i64 (Int.tmod t292 4),.int .i64 0]) ?_ 2 _ rfl;exact BK293.out⟩
     have n1_ : Aside0 (Below w.heap.size w (w16.setCell ⟨gb293,2,none⟩ (.int .i64 (Int.tmod t294 (wrap64 ((wrap64 (1 + (Int.tmod t291 6))) + 1)))))):=⟨by repeat ((with_reducible first|exact HB.out|refine below_set ?_ GE293.out))⟩
     clear BK293 HB
     generalize (w16.setCell ⟨gb293,2,none⟩ (.int .i64 (Int.tmod t294 (wrap64 ((wrap64 (1 + (Int.tmod t291 6))) + 1))))) = w18 at n0_ n1_ ⊢
     have BK293:=n0_
     have HB:=n1_
     clear n0_ n1_
     replace BK293:=M0 (blk_drew BK293.out)
     replace HB:=M0 (below_drew1 HB.out)
     refine start_ (n:=8) (S:=fun w'=>w'.cell? ⟨gb293,0,none⟩ = some (.int .i64 (wrap64 (1 + (Int.tmod t291 6)))) ∧ w'.cell? ⟨gb293,1,none⟩ = some (.int .i64 (Int.tmod t292 4)) ∧ w'.cell? ⟨gb293,2,none⟩ = some (.int .i64 (Int.tmod t294 (wrap64 ((wrap64 (1 + (Int.tmod t291 6))) + 1))))) (ds:=[]) #[O,O,O,O,O,O,O,O] (by kernel_rfl) rfl rfl ⟨(blk_cell BK293.out 0).trans rfl,(blk_cell BK293.out 1).trans rfl,(blk_cell BK293.out 2).trans rfl⟩ (fun hHeld=>?_);refine with_tabW laws_FnRepaired.tab5 laws_FnRepaired.bits5 (fun HT_ HW_=>?_)
     generalize w18.drew = w19 at BK293 HB hHeld ⊢
     refine pure_ (i:=1) (N:=some 42) #[O,I,O,O,O,O,O,O] rfl rfl (any_of HT_.out (by kernel_rfl)) (fun _ _ _ h=>h) (Or.inl ⟨by rfl,by intro w';go_simp;with_reducible rfl⟩) (by simp only [Act.put,List.setIfInBounds_toArray,List.set_cons_zero,List.set_cons_succ,i64_w,i32_w];rfl) ?_
     refine pure_ (i:=2) (N:=some 43) #[O,I,I,O,O,O,O,O] rfl rfl (any_of HT_.out (by kernel_rfl)) (fun _ _ _ h=>h) (Or.inl ⟨by rfl,by intro w';go_simp;with_reducible rfl⟩) (by simp only [Act.put,List.setIfInBounds_toArray,List.set_cons_zero,List.set_cons_succ,i64_w,i32_w];rfl) ?_
     refine take_ (i:=0) (N:=some 41) #[I,I,I,O,O,O,O,O] rfl rfl (take_ofW HT_.out HW_.out (by kernel_rfl)) (fun _ _ _ h=>h) (Or.inl ⟨by rfl,by rintro w' ⟨s0,s1,s2⟩;go_simp;with_reducible rfl⟩) hHeld (by simp only [Act.put,List.setIfInBounds_toArray,List.set_cons_zero,List.set_cons_succ,i64_w,i32_w];rfl) ?_
     refine take_ (i:=3) (N:=some 44) #[I,I,I,I,O,O,O,O] rfl rfl (take_ofW HT_.out HW_.out (by kernel_rfl)) (fun _ _ _ h=>h) (Or.inl ⟨by rfl,by rintro w' ⟨s0,s1,s2⟩;go_simp;with_reducible rfl⟩) hHeld (by simp only [Act.put,List.setIfInBounds_toArray,List.set_cons_zero,List.set_cons_succ,i64_w,i32_w];rfl) ?_
     refine join_ (σ:=Value × Value × Nat) 1 #[I,I,I,I,I,I,I,O] (fun s_=>[(45,s_.1),(46,.agg #[.int .i64 t298,s_.2.1]),(6,.pointer (some ⟨s_.2.2,0,none⟩))]) (fun s_ w'=>(w'.cell? ⟨gb293,0,none⟩ = some (.int .i64 (wrap64 (1 + (Int.tmod t291 6)))) ∧ w'.cell? ⟨gb293,1,none⟩ = some (.int .i64 (Int.tmod t292 4)) ∧ w'.cell? ⟨gb293,2,none⟩ = some (.int .i64 (Int.tmod t294 (wrap64 ((wrap64 (1 + (Int.tmod t291 6))) + 1))))) ∧ (Kd.R Kd.string 9 w' w.heap.size (fun k_=>some k_ ≠ (s_.2.1 : Value).ownBlock) s_.1 t295) ∧ (Kd.R Kd.string 9 w' w.heap.size (fun k_=>some k_ ≠ (s_.1 : Value).ownBlock) s_.2.1 t299) ∧ (w'.heap[gb293]? = some (.cells #[.int .i64 (wrap64 (1 + (Int.tmod t291 6))),.int .i64 (Int.tmod t292 4),.int .i64 (Int.tmod t294 (wrap64 ((wrap64 (1 + (Int.tmod t291 6))) + 1)))] 43 (0,0))) ∧ (w'.heap[s_.2.2]? = some (.cells #[.int .i64 0,.slice none 0 0] 68 (0,0))) ∧ (w.heap.size ≤ s_.2.2) ∧ (w.heap.size ≤ s_.2.2) ∧ (gb293 ≠ s_.2.2) ∧ (s_.2.2 ≠ gb293) ∧ (Below w.heap.size w w')) ?_ ?_
     rotate_left
     ·intro hCont
      refine two_ (i:=4) (j:=6) (Ni:=some 45) (Nj:=some 6) #[I,I,I,I,I,O,O,O] #[I,I,I,I,O,O,I,O] rfl rfl rfl rfl (two_of HT_.out (by kernel_rfl)) (by decide) (by decide) (fun K hK=>?_) (fun K hK=>?_)
      ·skip
       refine goes_ Try.func34 (by kernel_rfl) rfl #[.slice A0 l0.length c0,.int .i64 (wrap64 (1 + (Int.tmod t291 6)))] (by rfl) rfl rfl (by (try simp only [List.map_toArray,List.map_cons,List.map_nil]);rfl) ?_
       with_reducible refine (laws_lwData.calls kj2 _ _ l0 (wrap64 (1 + (Int.tmod t291 6))) t295 _ ?side1 ?side2 A10.out).mono ?_
       (case side1=>exact (Kd.C_below HR0.out HB.out))
       (case side2=>exact HC0.out)
       rintro e w20 ⟨v296,rfl,ho0,hb⟩
       refine ⟨_,rfl,?_⟩
       have HO297:=M0 (Kd.R_lower ho0 (below_size HB.out))
       replace BK293:=M0 (blk_below (g:=gb293) (o:=.cells #[.int .i64 (wrap64 (1 + (Int.tmod t291 6))),.int .i64 (Int.tmod t292 4),.int .i64 (Int.tmod t294 (wrap64 ((wrap64 (1 + (Int.tmod t291 6))) + 1)))] 43 (0,0)) BK293.out hb)
       replace HB:=M0 (below_step HB.out hb)
       clear hb ho0
       obtain ⟨Ao21,co21,eo21⟩:=Kd.R_slice HO297.out
       (subst eo21)
       refine hK.out _ _ ⟨(blk_cell BK293.out 0).trans rfl,(blk_cell BK293.out 1).trans rfl,(blk_cell BK293.out 2).trans rfl⟩ (fun hHeld=>?_)
       clear hK K
       refine norm_ (a':=?_) ?_ ?_
       rotate_left
       ·show Act.put _ (some 45) _ = _
        simp only [Act.put,List.setIfInBounds_toArray,List.set_cons_zero,List.set_cons_succ,i64_w,i32_w]
        rfl
       refine two_ (i:=5) (j:=6) (Ni:=some 46) (Nj:=some 6) #[I,I,I,I,I,I,O,O] #[I,I,I,I,I,O,I,O] rfl rfl rfl rfl (two_of HT_.out (by kernel_rfl)) (by decide) (by decide) (fun K hK=>?_) (fun K hK=>?_)
       ·skip
        refine goes_ Try.func35 (by kernel_rfl) rfl #[.agg #[.int .i64 (wrap64 (1 + (Int.tmod t291 6))),.int .i64 (Int.tmod t292 4),.int .i64 (Int.tmod t294 (wrap64 ((wrap64 (1 + (Int.tmod t291 6))) + 1)))],.slice Ao21 t295.length co21] (by rfl) rfl rfl (by (try simp only [List.map_toArray,List.map_cons,List.map_nil]);rfl) ?_
        with_reducible refine (impl_EncodeShards.calls kj2 (wrap64 (1 + (Int.tmod t291 6))) (Int.tmod t292 4) (Int.tmod t294 (wrap64 ((wrap64 (1 + (Int.tmod t291 6))) + 1))) _ _ t295 t298 t299 _ ?side1 ?side2 A11.out).mono ?_
        (case side1=>exact (Kd.R_reads' HO297.out).2.2)
        (case side2=>exact (Kd.R_reads' HO297.out).2.1)
        rintro e w22 ⟨v300,rfl,ho0,hb⟩
        refine ⟨_,rfl,?_⟩
        have HO301:=M0 (Kd.R_lower (Kd.R_new' ho0 (Kd.R_lt HO297.out)) (below_size HB.out))
        replace HO297:=M0 (Kd.R_elder' HO297.out (Kd.R_base ho0) hb)
        replace BK293:=M0 (blk_below (g:=gb293) (o:=.cells #[.int .i64 (wrap64 (1 + (Int.tmod t291 6))),.int .i64 (Int.tmod t292 4),.int .i64 (Int.tmod t294 (wrap64 ((wrap64 (1 + (Int.tmod t291 6))) + 1)))] 43 (0,0)) BK293.out hb)
        replace HB:=M0 (below_step HB.out hb)
        clear hb ho0
        refine hK.out _ _ ⟨(blk_cell BK293.out 0).trans rfl,(blk_cell BK293.out 1).trans rfl,(blk_cell BK293.out 2).trans rfl⟩ (fun hHeld=>?_)
        clear hK K
        refine norm_ (a':=?_) ?_ ?_
        rotate_left
        ·show Act.put _ (some 46) _ = _
         simp only [Act.put,List.setIfInBounds_toArray,List.set_cons_zero,List.set_cons_succ,i64_w,i32_w]
         rfl
        refine one_ (i:=6) (N:=some 6) #[I,I,I,I,I,I,I,O] rfl rfl (one_of HT_.out (by kernel_rfl)) (by decide) (fun K hK=>?_)
        refine box_step ?hg (N:=6) ?hd (cs:=#[.int .i64 0,.slice none 0 0]) (t:=68) ?hr ?_;(case hd=>rfl);(case hg=>rfl);(case hr=>(go_simp;done))
        intro gb302 hg w23 hbox hb
        replace HO297:=M0 (Kd.R_below HO297.out hb)
        replace HO301:=M0 (Kd.R_below HO301.out hb)
        have BK302:=M0 (hbox)
        have GW302:=M0 ((by rw [hg];exact (below_size HB.out) : w.heap.size ≤ gb302))
        have GE302:=M0 ((by rw [hg];exact (below_size HB.out) : w.heap.size ≤ gb302))
        replace HB:=M0 (below_step HB.out hb)
        have NB293_302:=M0 ((by rw [hg];exact Nat.ne_of_lt (blk_lt (g:=gb293) (o:=.cells #[.int .i64 (wrap64 (1 + (Int.tmod t291 6))),.int .i64 (Int.tmod t292 4),.int .i64 (Int.tmod t294 (wrap64 ((wrap64 (1 + (Int.tmod t291 6))) + 1)))] 43 (0,0)) BK293.out) : gb293 ≠ gb302))
        have NB302_293:=M0 ((by rw [hg];exact Nat.ne_of_gt (blk_lt (g:=gb293) (o:=.cells #[.int .i64 (wrap64 (1 + (Int.tmod t291 6))),.int .i64 (Int.tmod t292 4),.int .i64 (Int.tmod t294 (wrap64 ((wrap64 (1 + (Int.tmod t291 6))) + 1)))] 43 (0,0)) BK293.out) : gb302 ≠ gb293))
        replace BK293:=M0 (blk_below (g:=gb293) (o:=.cells #[.int .i64 (wrap64 (1 + (Int.tmod t291 6))),.int .i64 (Int.tmod t292 4),.int .i64 (Int.tmod t294 (wrap64 ((wrap64 (1 + (Int.tmod t291 6))) + 1)))] 43 (0,0)) BK293.out hb)
        clear hb hbox hg
        refine hK.out _ _ ⟨(blk_cell BK293.out 0).trans rfl,(blk_cell BK293.out 1).trans rfl,(blk_cell BK293.out 2).trans rfl⟩ (fun hHeld=>?_)
        clear hK K
        refine norm_ (a':=?_) ?_ ?_
        rotate_left
        ·show Act.put _ (some 6) _ = _
         simp only [Act.put,List.setIfInBounds_toArray,List.set_cons_zero,List.set_cons_succ,i64_w,i32_w]
         rfl
        exact norm_ (by simp only [putAll,Act.put,List.setIfInBounds_toArray,List.set_cons_zero,List.set_cons_succ]) (hCont (.slice Ao21 t295.length co21,v300,gb302) _ ⟨hHeld,(by exact Kd.R_mono HO297.out (fun _ hk=>hk.2)),(by exact Kd.R_mono HO301.out (fun _ hk=>hk.2)),BK293.out,BK302.out,GW302.out,GE302.out,NB293_302.out,NB302_293.out,HB.out⟩)
       ·skip
        refine box_step ?hg (N:=6) ?hd (cs:=#[.int .i64 0,.slice none 0 0]) (t:=68) ?hr ?_;(case hd=>rfl);(case hg=>rfl);(case hr=>(go_simp;done))
        intro gb302 hg w21 hbox hb
        replace HO297:=M0 (Kd.R_below HO297.out hb)
        have BK302:=M0 (hbox)
        have GW302:=M0 ((by rw [hg];exact (below_size HB.out) : w.heap.size ≤ gb302))
        have GE302:=M0 ((by rw [hg];exact (below_size HB.out) : w.heap.size ≤ gb302))
        replace HB:=M0 (below_step HB.out hb)
        have NB293_302:=M0 ((by rw [hg];exact Nat.ne_of_lt (blk_lt (g:=gb293) (o:=.cells #[.int .i64 (wrap64 (1 + (Int.tmod t291 6))),.int .i64 (Int.tmod t292 4),.int .i64 (Int.tmod t294 (wrap64 ((wrap64 (1 + (Int.tmod t291 6))) + 1)))] 43 (0,0)) BK293.out) : gb293 ≠ gb302))
        have NB302_293:=M0 ((by rw [hg];exact Nat.ne_of_gt (blk_lt (g:=gb293) (o:=.cells #[.int .i64 (wrap64 (1 + (Int.tmod t291 6))),.int .i64 (Int.tmod t292 4),.int .i64 (Int.tmod t294 (wrap64 ((wrap64 (1 + (Int.tmod t291 6))) + 1)))] 43 (0,0)) BK293.out) : gb302 ≠ gb293))
        replace BK293:=M0 (blk_below (g:=gb293) (o:=.cells #[.int .i64 (wrap64 (1 + (Int.tmod t291 6))),.int .i64 (Int.tmod t292 4),.int .i64 (Int.tmod t294 (wrap64 ((wrap64 (1 + (Int.tmod t291 6))) + 1)))] 43 (0,0)) BK293.out hb)
        clear hb hbox hg
        obtain ⟨Ao22,co22,eo22⟩:=Kd.R_slice HO297.out
        ((injection eo22 with f1_ f2_ f3_;have f4_:=f1_.symm;have f5_:=f3_.symm;clear f1_ f2_ f3_;subst f4_;subst f5_))
        refine hK.out _ _ ⟨(blk_cell BK293.out 0).trans rfl,(blk_cell BK293.out 1).trans rfl,(blk_cell BK293.out 2).trans rfl⟩ (fun hHeld=>?_)
        clear hK K
        refine norm_ (a':=?_) ?_ ?_
        rotate_left
        ·show Act.put _ (some 6) _ = _
         simp only [Act.put,List.setIfInBounds_toArray,List.set_cons_zero,List.set_cons_succ,i64_w,i32_w]
         rfl
        refine one_ (i:=5) (N:=some 46) #[I,I,I,I,I,I,I,O] rfl rfl (one_of HT_.out (by kernel_rfl)) (by decide) (fun K hK=>?_)
        refine goes_ Try.func35 (by kernel_rfl) rfl #[.agg #[.int .i64 (wrap64 (1 + (Int.tmod t291 6))),.int .i64 (Int.tmod t292 4),.int .i64 (Int.tmod t294 (wrap64 ((wrap64 (1 + (Int.tmod t291 6))) + 1)))],.slice Ao22 t295.length co22] (by rfl) rfl rfl (by (try simp only [List.map_toArray,List.map_cons,List.map_nil]);rfl) ?_
        with_reducible refine (impl_EncodeShards.calls kj2 (wrap64 (1 + (Int.tmod t291 6))) (Int.tmod t292 4) (Int.tmod t294 (wrap64 ((wrap64 (1 + (Int.tmod t291 6))) + 1))) _ _ t295 t298 t299 _ ?side1 ?side2 A11.out).mono ?_
        (case side1=>exact (Kd.R_reads' HO297.out).2.2)
        (case side2=>exact (Kd.R_reads' HO297.out).2.1)
        rintro e w23 ⟨v300,rfl,ho0,hb⟩
        refine ⟨_,rfl,?_⟩
        have HO301:=M0 (Kd.R_lower (Kd.R_new' ho0 (Kd.R_lt HO297.out)) (below_size HB.out))
        replace HO297:=M0 (Kd.R_elder' HO297.out (Kd.R_base ho0) hb)
        replace BK293:=M0 (blk_below (g:=gb293) (o:=.cells #[.int .i64 (wrap64 (1 + (Int.tmod t291 6))),.int .i64 (Int.tmod t292 4),.int .i64 (Int.tmod t294 (wrap64 ((wrap64 (1 + (Int.tmod t291 6))) + 1)))] 43 (0,0)) BK293.out hb)
        replace BK302:=M0 (blk_below BK302.out hb)
        replace HB:=M0 (below_step HB.out hb)
        clear hb ho0
        refine hK.out _ _ ⟨(blk_cell BK293.out 0).trans rfl,(blk_cell BK293.out 1).trans rfl,(blk_cell BK293.out 2).trans rfl⟩ (fun hHeld=>?_)
        clear hK K
        refine norm_ (a':=?_) ?_ ?_
        rotate_left
        ·show Act.put _ (some 46) _ = _
         simp only [Act.put,List.setIfInBounds_toArray,List.set_cons_zero,List.set_cons_succ,i64_w,i32_w]
         rfl
        exact norm_ (by simp only [putAll,Act.put,List.setIfInBounds_toArray,List.set_cons_zero,List.set_cons_succ]) (hCont (.slice Ao22 t295.length co22,v300,gb302) _ ⟨hHeld,(by exact Kd.R_mono HO297.out (fun _ hk=>hk.2)),(by exact Kd.R_mono HO301.out (fun _ hk=>hk.2)),BK293.out,BK302.out,GW302.out,GE302.out,NB293_302.out,NB302_293.out,HB.out⟩)
      ·skip
       refine box_step ?hg (N:=6) ?hd (cs:=#[.int .i64 0,.slice none 0 0]) (t:=68) ?hr ?_;(case hd=>rfl);(case hg=>rfl);(case hr=>(go_simp;done))
       intro gb302 hg w20 hbox hb
       have BK302:=M0 (hbox)
       have GW302:=M0 ((by rw [hg];exact (below_size HB.out) : w.heap.size ≤ gb302))
       have GE302:=M0 ((by rw [hg];exact (below_size HB.out) : w.heap.size ≤ gb302))
       replace HB:=M0 (below_step HB.out hb)
       have NB293_302:=M0 ((by rw [hg];exact Nat.ne_of_lt (blk_lt (g:=gb293) (o:=.cells #[.int .i64 (wrap64 (1 + (Int.tmod t291 6))),.int .i64 (Int.tmod t292 4),.int .i64 (Int.tmod t294 (wrap64 ((wrap64 (1 + (Int.tmod t291 6))) + 1)))] 43 (0,0)) BK293.out) : gb293 ≠ gb302))
       have NB302_293:=M0 ((by rw [hg];exact Nat.ne_of_gt (blk_lt (g:=gb293) (o:=.cells #[.int .i64 (wrap64 (1 + (Int.tmod t291 6))),.int .i64 (Int.tmod t292 4),.int .i64 (Int.tmod t294 (wrap64 ((wrap64 (1 + (Int.tmod t291 6))) + 1)))] 43 (0,0)) BK293.out) : gb302 ≠ gb293))
       replace BK293:=M0 (blk_below (g:=gb293) (o:=.cells #[.int .i64 (wrap64 (1 + (Int.tmod t291 6))),.int .i64 (Int.tmod t292 4),.int .i64 (Int.tmod t294 (wrap64 ((wrap64 (1 + (Int.tmod t291 6))) + 1)))] 43 (0,0)) BK293.out hb)
       clear hb hbox hg
       refine hK.out _ _ ⟨(blk_cell BK293.out 0).trans rfl,(blk_cell BK293.out 1).trans rfl,(blk_cell BK293.out 2).trans rfl⟩ (fun hHeld=>?_)
       clear hK K
       refine norm_ (a':=?_) ?_ ?_
       rotate_left
       ·show Act.put _ (some 6) _ = _
        simp only [Act.put,List.setIfInBounds_toArray,List.set_cons_zero,List.set_cons_succ,i64_w,i32_w]
        rfl
       refine one_ (i:=4) (N:=some 45) #[I,I,I,I,I,O,I,O] rfl rfl (one_of HT_.out (by kernel_rfl)) (by decide) (fun K hK=>?_)
       refine goes_ Try.func34 (by kernel_rfl) rfl #[.slice A0 l0.length c0,.int .i64 (wrap64 (1 + (Int.tmod t291 6)))] (by rfl) rfl rfl (by (try simp only [List.map_toArray,List.map_cons,List.map_nil]);rfl) ?_
       with_reducible refine (laws_lwData.calls kj2 _ _ l0 (wrap64 (1 + (Int.tmod t291 6))) t295 _ ?side1 ?side2 A10.out).mono ?_
       (case side1=>exact (Kd.C_below HR0.out HB.out))
       (case side2=>exact HC0.out)
       rintro e w21 ⟨v296,rfl,ho0,hb⟩
       refine ⟨_,rfl,?_⟩
       have HO297:=M0 (Kd.R_lower ho0 (below_size HB.out))
       replace BK293:=M0 (blk_below (g:=gb293) (o:=.cells #[.int .i64 (wrap64 (1 + (Int.tmod t291 6))),.int .i64 (Int.tmod t292 4),.int .i64 (Int.tmod t294 (wrap64 ((wrap64 (1 + (Int.tmod t291 6))) + 1)))] 43 (0,0)) BK293.out hb)
       replace BK302:=M0 (blk_below BK302.out hb)
       replace HB:=M0 (below_step HB.out hb)
       clear hb ho0
       obtain ⟨Ao22,co22,eo22⟩:=Kd.R_slice HO297.out
       (subst eo22)
       refine hK.out _ _ ⟨(blk_cell BK293.out 0).trans rfl,(blk_cell BK293.out 1).trans rfl,(blk_cell BK293.out 2).trans rfl⟩ (fun hHeld=>?_)
       clear hK K
       refine norm_ (a':=?_) ?_ ?_
       rotate_left
       ·show Act.put _ (some 45) _ = _
        simp only [Act.put,List.setIfInBounds_toArray,List.set_cons_zero,List.set_cons_succ,i64_w,i32_w]
        rfl
       refine one_ (i:=5) (N:=some 46) #[I,I,I,I,I,I,I,O] rfl rfl (one_of HT_.out (by kernel_rfl)) (by decide) (fun K hK=>?_)
       refine goes_ Try.func35 (by kernel_rfl) rfl #[.agg #[.int .i64 (wrap64 (1 + (Int.tmod t291 6))),.int .i64 (Int.tmod t292 4),.int .i64 (Int.tmod t294 (wrap64 ((wrap64 (1 + (Int.tmod t291 6))) + 1)))],.slice Ao22 t295.length co22] (by rfl) rfl rfl (by (try simp only [List.map_toArray,List.map_cons,List.map_nil]);rfl) ?_
       with_reducible refine (impl_EncodeShards.calls kj2 (wrap64 (1 + (Int.tmod t291 6))) (Int.tmod t292 4) (Int.tmod t294 (wrap64 ((wrap64 (1 + (Int.tmod t291 6))) + 1))) _ _ t295 t298 t299 _ ?side1 ?side2 A11.out).mono ?_
       (case side1=>exact (Kd.R_reads' HO297.out).2.2)
       (case side2=>exact (Kd.R_reads' HO297.out).2.1)
       rintro e w23 ⟨v300,rfl,ho0,hb⟩
       refine ⟨_,rfl,?_⟩
       have HO301:=M0 (Kd.R_lower (Kd.R_new' ho0 (Kd.R_lt HO297.out)) (below_size HB.out))
       replace HO297:=M0 (Kd.R_elder' HO297.out (Kd.R_base ho0) hb)
       replace BK293:=M0 (blk_below (g:=gb293) (o:=.cells #[.int .i64 (wrap64 (1 + (Int.tmod t291 6))),.int .i64 (Int.tmod t292 4),.int .i64 (Int.tmod t294 (wrap64 ((wrap64 (1 + (Int.tmod t291 6))) + 1)))] 43 (0,0)) BK293.out hb)
       replace BK302:=M0 (blk_below BK302.out hb)
       replace HB:=M0 (below_step HB.out hb)
       clear hb ho0
       refine hK.out _ _ ⟨(blk_cell BK293.out 0).trans rfl,(blk_cell BK293.out 1).trans rfl,(blk_cell BK293.out 2).trans rfl⟩ (fun hHeld=>?_)
       clear hK K
       refine norm_ (a':=?_) ?_ ?_
       rotate_left
       ·show Act.put _ (some 46) _ = _
        simp only [Act.put,List.setIfInBounds_toArray,List.set_cons_zero,List.set_cons_succ,i64_w,i32_w]
        rfl
       exact norm_ (by simp only [putAll,Act.put,List.setIfInBounds_toArray,List.set_cons_zero,List.set_cons_succ]) (hCont (.slice Ao22 t295.length co22,v300,gb302) _ ⟨hHeld,(by exact Kd.R_mono HO297.out (fun _ hk=>hk.2)),(by exact Kd.R_mono HO301.out (fun _ hk=>hk.2)),BK293.out,BK302.out,GW302.out,GE302.out,NB293_302.out,NB302_293.out,HB.out⟩)
     rintro ⟨v296,v300,gb302⟩ w24 ⟨hS_,h0_,h1_,h2_,h3_,h4_,h5_,h6_,h7_,h8_⟩
     have n0_ : Aside0 (Kd.R Kd.string 9 w24 w.heap.size (fun k_=>some k_ ≠ (v300 : Value).ownBlock) v296 t295):=⟨h0_⟩
     have n1_ : Aside0 (Kd.R Kd.string 9 w24 w.heap.size (fun k_=>some k_ ≠ (v296 : Value).ownBlock) v300 t299):=⟨h1_⟩
     have n2_ : Aside0 (w24.heap[gb293]? = some (.cells #[.int .i64 (wrap64 (1 + (Int.tmod t291 6))),.int .i64 (Int.tmod t292 4),.int .i64 (Int.tmod t294 (wrap64 ((wrap64 (1 + (Int.tmod t291 6))) + 1)))] 43 (0,0))):=⟨h2_⟩
     have n3_ : Aside0 (w24.heap[gb302]? = some (.cells #[.int .i64 0,.slice none 0 0] 68 (0,0))):=⟨h3_⟩
     have n4_ : Aside0 (w.heap.size ≤ gb302):=⟨h4_⟩
     have n5_ : Aside0 (w.heap.size ≤ gb302):=⟨h5_⟩
     have n6_ : Aside0 (gb293 ≠ gb302):=⟨h6_⟩
     have n7_ : Aside0 (gb302 ≠ gb293):=⟨h7_⟩
     have n8_ : Aside0 (Below w.heap.size w w24):=⟨h8_⟩
     clear BK293 HB h0_ h1_ h2_ h3_ h4_ h5_ h6_ h7_ h8_
     have HO297:=n0_
     have HO301:=n1_
     have BK293:=n2_
     have BK302:=n3_
     have GW302:=n4_
     have GE302:=n5_
     have NB293_302:=n6_
     have NB302_293:=n7_
     have HB:=n8_
     clear n0_ n1_ n2_ n3_ n4_ n5_ n6_ n7_ n8_
     have hHeld : w24.cell? ⟨gb293,0,none⟩ = some (.int .i64 (wrap64 (1 + (Int.tmod t291 6)))) ∧ w24.cell? ⟨gb293,1,none⟩ = some (.int .i64 (Int.tmod t292 4)) ∧ w24.cell? ⟨gb293,2,none⟩ = some (.int .i64 (Int.tmod t294 (wrap64 ((wrap64 (1 + (Int.tmod t291 6))) + 1)))):=hS_
     obtain ⟨Ao26,co26,eo26⟩:=Kd.R_slice HO301.out
     (subst eo26)
     refine norm_ (a':=?_) ?_ ?_
     rotate_left
     ·simp only [putAll,Act.put,List.setIfInBounds_toArray,List.set_cons_zero,List.set_cons_succ]
      rfl
     refine one_ (i:=7) (N:=none) #[I,I,I,I,I,I,I,I] rfl rfl (one_of HT_.out (by kernel_rfl)) (by decide) (fun K hK=>?_)
     have hs25 : w24.cell? ⟨gb302,0,none⟩ = some (.int .i64 0):=(blk_cell BK302.out 0).trans rfl
     have hfs25:=blk_frozen BK302.out 0
     have hns25_0:=NB293_302.out
     have hms25_0:=NB302_293.out
     have hs27 : w24.cell? ⟨gb302,1,none⟩ = some (.slice none 0 0):=(blk_cell BK302.out 1).trans rfl
     have hfs27:=blk_frozen BK302.out 1
     have hns27_0:=NB293_302.out
     have hms27_0:=NB302_293.out
     refine skip_ (w1:=?_) (by rfl) rfl ?_ ?_
     rotate_left
     ·go_simp
      rfl
     refine hK.out _ _ ⟨((cell_far (p:=⟨gb302,_,none⟩) NB293_302.out _).trans (((cell_far (p:=⟨gb302,_,none⟩) NB293_302.out _).trans (hHeld.1)))),((cell_far (p:=⟨gb302,_,none⟩) NB293_302.out _).trans (((cell_far (p:=⟨gb302,_,none⟩) NB293_302.out _).trans (hHeld.2.1)))),((cell_far (p:=⟨gb302,_,none⟩) NB293_302.out _).trans (((cell_far (p:=⟨gb302,_,none⟩) NB293_302.out _).trans (hHeld.2.2))))⟩ (fun hHeld=>?_)
     clear hK K
     refine done_ (done_of HT_.out (by kernel_rfl)) ?_
     have hnb28:=NB293_302.out
     have hnc28:=NB302_293.out
     have hcz29_0:=bcv (v:=.int .i64 (wrap64 (1 + (Int.tmod t291 6)))) BK293.out 0 rfl
     have hcz29_1:=bcv (v:=.int .i64 (Int.tmod t292 4)) BK293.out 1 rfl
     have hcz29_2 : w24.cell? ⟨gb293,2,none⟩ = some (.int .i64 (Int.tmod t294 (wrap64 ((wrap64 (1 + (Int.tmod t291 6))) + 1)))):=(blk_cell BK293.out 2).trans rfl
     have hfz29_0:=blk_frozen BK293.out 0
     have hfz29_1:=blk_frozen BK293.out 1
     have hfz29_2:=blk_frozen BK293.out 2
     go_upto_region 7 with (fail)
     go_cut [77] (fun v77 wc=>∃ (kq : Nat) (x77_11 : Bool),v77 = .bool x77_11 ∧ Aside0 (laws_FnRepaired.j1 kq l1 (wrap64 ((wrap64 ((wrap64 (1 + (Int.tmod t291 6))) + (Int.tmod t292 4))) + (Int.tmod t294 (wrap64 ((wrap64 (1 + (Int.tmod t291 6))) + 1))))) x77_11 (wrap64 (1 + (Int.tmod t291 6))) (Int.tmod t292 4) (Int.tmod t294 (wrap64 ((wrap64 (1 + (Int.tmod t291 6))) + 1))) t298 t299 = some true) ∧ Aside0 (kq ≤ kj2) ∧ Aside0 (Kd.R Kd.string 9 wc w.heap.size (fun _=>True) (.slice Ao26 t299.length co26) t299) ∧ Aside0 (wc.heap[gb293]? = some (.cells #[.int .i64 (wrap64 (1 + (Int.tmod t291 6))),.int .i64 (Int.tmod t292 4),.int .i64 (Int.tmod t294 (wrap64 ((wrap64 (1 + (Int.tmod t291 6))) + 1)))] 43 (0,0))) ∧ Aside0 (wc.heap[gb302]? = some (.cells #[.int .i64 t298,(.slice Ao26 t299.length co26)] 68 (0,0))) ∧ Aside0 (Below w.heap.size w wc))
     case first=>
      as_aux_lemma=>
       have H:=HC12.out
       clear HC12
       by_cases c30 : t298 = 0
       ·rw [if_pos c30] at H
        have c30b0 : (t298 == 0) = true:=beq_iff_eq.mpr c30
        have c30b1 : (t298 != 0) = false:=bne_eq_false_iff_eq.mpr c30
        clear c30
        (skip)
        by_cases c31 : (t299.length : Int) = (wrap64 ((wrap64 ((wrap64 (1 + (Int.tmod t291 6))) + (Int.tmod t292 4))) + (Int.tmod t294 (wrap64 ((wrap64 (1 + (Int.tmod t291 6))) + 1)))))
        ·rw [if_pos c31] at H
         have c31b0 : ((t299.length : Int) == (wrap64 ((wrap64 ((wrap64 (1 + (Int.tmod t291 6))) + (Int.tmod t292 4))) + (Int.tmod t294 (wrap64 ((wrap64 (1 + (Int.tmod t291 6))) + 1)))))) = true:=beq_iff_eq.mpr c31
         have c31b1 : ((t299.length : Int) != (wrap64 ((wrap64 ((wrap64 (1 + (Int.tmod t291 6))) + (Int.tmod t292 4))) + (Int.tmod t294 (wrap64 ((wrap64 (1 + (Int.tmod t291 6))) + 1)))))) = false:=bne_eq_false_iff_eq.mpr c31
         clear c31
         replace H:=Option.bind_eq_some_iff.mp H
         obtain ⟨t303,A320,H⟩:=H
         replace H : ((spec_EncodeShards.f kj2 (wrap64 (1 + (Int.tmod t291 6))) (Int.tmod t292 4) (Int.tmod t294 (wrap64 ((wrap64 (1 + (Int.tmod t291 6))) + 1))) t303).bind fun bt306=>((laws_lwTexts.f kj2 t299 bt306.2).bind fun t310=>(laws_FnRepaired.j1 kj2 l1 (wrap64 ((wrap64 ((wrap64 (1 + (Int.tmod t291 6))) + (Int.tmod t292 4))) + (Int.tmod t294 (wrap64 ((wrap64 (1 + (Int.tmod t291 6))) + 1))))) (!t310) (wrap64 (1 + (Int.tmod t291 6))) (Int.tmod t292 4) (Int.tmod t294 (wrap64 ((wrap64 (1 + (Int.tmod t291 6))) + 1))) t298 t299))) = some true:=H
         have A32:=M0 A320
         clear A320
         replace H:=Option.bind_eq_some_iff.mp H
         obtain ⟨⟨t306,t307⟩,A330,H⟩:=H
         replace H : ((laws_lwTexts.f kj2 t299 t307).bind fun t310=>(laws_FnRepaired.j1 kj2 l1 (wrap64 ((wrap64 ((wrap64 (1 + (Int.tmod t291 6))) + (Int.tmod t292 4))) + (Int.tmod t294 (wrap64 ((wrap64 (1 + (Int.tmod t291 6))) + 1))))) (!t310) (wrap64 (1 + (Int.tmod t291 6))) (Int.tmod t292 4) (Int.tmod t294 (wrap64 ((wrap64 (1 + (Int.tmod t291 6))) + 1))) t298 t299)) = some true:=H
         have A33:=M0 A330
         clear A330
         replace H:=Option.bind_eq_some_iff.mp H
         obtain ⟨t310,A340,H⟩:=H
         replace H : (laws_FnRepaired.j1 kj2 l1 (wrap64 ((wrap64 ((wrap64 (1 + (Int.tmod t291 6))) + (Int.tmod t292 4))) + (Int.tmod t294 (wrap64 ((wrap64 (1 + (Int.tmod t291 6))) + 1))))) (!t310) (wrap64 (1 + (Int.tmod t291 6))) (Int.tmod t292 4) (Int.tmod t294 (wrap64 ((wrap64 (1 + (Int.tmod t291 6))) + 1))) t298 t299) = some true:=H
         have A34:=M0 A340
         clear A340
         have H':=M0 H
         clear H
         try go_wp2
         have n0_ : Aside0 (Kd.R Kd.string 9 ((w24.setCell ⟨gb302,0,none⟩ (.int .i64 t298)).setCell ⟨gb302,1,none⟩ (.slice Ao26 t299.length co26)) w.heap.size (fun k_=>some k_ ≠ (.slice Ao26 t299.length co26 : Value).ownBlock) v296 t295):=⟨by exact Kd.R_mono (Kd.R_far (p:=⟨gb302,1,none⟩) (Kd.R_far (p:=⟨gb302,0,none⟩) (Kd.R_types HO297.out BK302.out (by decide)) (fun _ hk=>hk.2) (.int .i64 t298)) (fun _ hk=>hk.2) (.slice Ao26 t299.length co26)) (fun _ hk=>hk.1)⟩
         have n1_ : Aside0 (Kd.R Kd.string 9 ((w24.setCell ⟨gb302,0,none⟩ (.int .i64 t298)).setCell ⟨gb302,1,none⟩ (.slice Ao26 t299.length co26)) w.heap.size (fun k_=>some k_ ≠ (v296 : Value).ownBlock) (.slice Ao26 t299.length co26) t299):=⟨by exact Kd.R_mono (Kd.R_far (p:=⟨gb302,1,none⟩) (Kd.R_far (p:=⟨gb302,0,none⟩) (Kd.R_types HO301.out BK302.out (by decide)) (fun _ hk=>hk.2) (.int .i64 t298)) (fun _ hk=>hk.2) (.slice Ao26 t299.length co26)) (fun _ hk=>hk.1)⟩
         have n2_ : Aside0 (((w24.setCell ⟨gb302,0,none⟩ (.int .i64 t298)).setCell ⟨gb302,1,none⟩ (.slice Ao26 t299.length co26)).heap[gb293]? = some (.cells #[.int .i64 (wrap64 (1 + (Int.tmod t291 6))),.int .i64 (Int.tmod t292 4),.int .i64 (Int.tmod t294 (wrap64 ((wrap64 (1 + (Int.tmod t291 6))) + 1)))] 43 (0,0))):=⟨by refine blk_far ?_ NB293_302.out _;refine blk_far ?_ NB293_302.out _;exact BK293.out⟩
         have n3_ : Aside0 (((w24.setCell ⟨gb302,0,none⟩ (.int .i64 t298)).setCell ⟨gb302,1,none⟩ (.slice Ao26 t299.length co26)).heap[gb302]? = some (.cells #[.int .i64 t298,.slice Ao26 t299.length co26] 68 (0,0))):=⟨by refine blk_put (cs:=#[.int .i64 t298,.slice none 0 0]) ?_ 1 _ rfl;refine blk_put (cs:=#[.int .i64 0,.slice none 0 0]) ?_ 0 _ rfl;exact BK302.out⟩
         have n4_ : Aside0 (Below w.heap.size w ((w24.setCell ⟨gb302,0,none⟩ (.int .i64 t298)).setCell ⟨gb302,1,none⟩ (.slice Ao26 t299.length co26))):=⟨by repeat ((with_reducible first|exact HB.out|refine below_set ?_ GE302.out))⟩
         clear HO297 HO301 BK293 BK302 HB
         generalize ((w24.setCell ⟨gb302,0,none⟩ (.int .i64 t298)).setCell ⟨gb302,1,none⟩ (.slice Ao26 t299.length co26)) = w35 at n0_ n1_ n2_ n3_ n4_ ⊢
         have HO297:=n0_
         have HO301:=n1_
         have BK293:=n2_
         have BK302:=n3_
         have HB:=n4_
         clear n0_ n1_ n2_ n3_ n4_
         replace HO297:=M0 (Kd.R_drew HO297.out)
         replace HO301:=M0 (Kd.R_drew HO301.out)
         replace BK293:=M0 (blk_drew BK293.out)
         replace BK302:=M0 (blk_drew BK302.out)
         replace HB:=M0 (below_drew1 HB.out)
         refine start_ (n:=23) (S:=fun w'=>w'.cell? ⟨gb302,0,none⟩ = some (.int .i64 t298) ∧ w'.cell? ⟨gb302,1,none⟩ = some (.slice Ao26 t299.length co26) ∧ w'.cell? ⟨gb293,0,none⟩ = some (.int .i64 (wrap64 (1 + (Int.tmod t291 6)))) ∧ w'.cell? ⟨gb293,1,none⟩ = some (.int .i64 (Int.tmod t292 4)) ∧ w'.cell? ⟨gb293,2,none⟩ = some (.int .i64 (Int.tmod t294 (wrap64 ((wrap64 (1 + (Int.tmod t291 6))) + 1))))) (ds:=[]) #[O,O,O,O,O,O,O,O,O,O,O,O,O,O,O,O,O,O,O,O,O,O,O] (by kernel_rfl) rfl rfl ⟨(blk_cell BK302.out 0).trans rfl,(blk_cell BK302.out 1).trans rfl,(blk_cell BK293.out 0).trans rfl,(blk_cell BK293.out 1).trans rfl,(blk_cell BK293.out 2).trans rfl⟩ (fun hHeld=>?_);refine with_tabW laws_FnRepaired.tab7 laws_FnRepaired.bits7 (fun HT_ HW_=>?_)
         generalize w35.drew = w36 at HO297 HO301 BK293 BK302 HB hHeld ⊢
         refine pure_ (i:=0) (N:=some 55) #[I,O,O,O,O,O,O,O,O,O,O,O,O,O,O,O,O,O,O,O,O,O,O] rfl rfl (any_of HT_.out (by kernel_rfl)) (fun _ _ _ h=>h) (Or.inl ⟨by rfl,by intro w';go_simp;with_reducible rfl⟩) (by simp only [Act.put,List.setIfInBounds_toArray,List.set_cons_zero,List.set_cons_succ,i64_w,i32_w];rfl) ?_
         refine take_ (i:=1) (N:=some 56) #[I,I,O,O,O,O,O,O,O,O,O,O,O,O,O,O,O,O,O,O,O,O,O] rfl rfl (take_ofW HT_.out HW_.out (by kernel_rfl)) (fun _ _ _ h=>h) (Or.inl ⟨by rfl,by rintro w' ⟨s0,s1,s2,s3,s4⟩;go_simp;with_reducible rfl⟩) hHeld (by simp only [Act.put,List.setIfInBounds_toArray,List.set_cons_zero,List.set_cons_succ,i64_w,i32_w];rfl) ?_
         refine pure_ (i:=2) (N:=some 57) #[I,I,I,O,O,O,O,O,O,O,O,O,O,O,O,O,O,O,O,O,O,O,O] rfl rfl (any_of HT_.out (by kernel_rfl)) (fun _ _ _ h=>h) (Or.inl ⟨by rfl,by intro w';go_simp;with_reducible rfl⟩) (by simp only [Act.put,List.setIfInBounds_toArray,List.set_cons_zero,List.set_cons_succ,i64_w,i32_w];rfl) ?_
         refine pure_ (i:=3) (N:=some 58) #[I,I,I,I,O,O,O,O,O,O,O,O,O,O,O,O,O,O,O,O,O,O,O] rfl rfl (any_of HT_.out (by kernel_rfl)) (fun _ _ _ h=>h) (Or.inl ⟨by rfl,by intro w';go_simp;with_reducible rfl⟩) (by simp only [Act.put,List.setIfInBounds_toArray,List.set_cons_zero,List.set_cons_succ,i64_w,i32_w];rfl) ?_
         refine pure_ (i:=4) (N:=some 59) #[I,I,I,I,I,O,O,O,O,O,O,O,O,O,O,O,O,O,O,O,O,O,O] rfl rfl (any_of HT_.out (by kernel_rfl)) (fun _ _ _ h=>h) (Or.inl ⟨by rfl,by intro w';go_simp;with_reducible rfl⟩) (by simp only [Act.put,List.setIfInBounds_toArray,List.set_cons_zero,List.set_cons_succ,i64_w,i32_w];rfl) ?_
         refine pure_ (i:=7) (N:=some 62) #[I,I,I,I,I,O,O,I,O,O,O,O,O,O,O,O,O,O,O,O,O,O,O] rfl rfl (any_of HT_.out (by kernel_rfl)) (fun _ _ _ h=>h) (Or.inl ⟨by rfl,by intro w';go_simp;with_reducible rfl⟩) (by simp only [Act.put,List.setIfInBounds_toArray,List.set_cons_zero,List.set_cons_succ,i64_w,i32_w];rfl) ?_
         refine take_ (i:=5) (N:=some 60) #[I,I,I,I,I,I,O,I,O,O,O,O,O,O,O,O,O,O,O,O,O,O,O] rfl rfl (take_ofW HT_.out HW_.out (by kernel_rfl)) (fun _ _ _ h=>h) (Or.inl ⟨by rfl,by rintro w' ⟨s0,s1,s2,s3,s4⟩;go_simp;with_reducible rfl⟩) hHeld (by simp only [Act.put,List.setIfInBounds_toArray,List.set_cons_zero,List.set_cons_succ,i64_w,i32_w];rfl) ?_
         refine pure_ (i:=6) (N:=some 61) #[I,I,I,I,I,I,I,I,O,O,O,O,O,O,O,O,O,O,O,O,O,O,O] rfl rfl (any_of HT_.out (by kernel_rfl)) (fun _ _ _ h=>h) (Or.inl ⟨by rfl,by intro w';go_simp;with_reducible rfl⟩) (by simp only [Act.put,List.setIfInBounds_toArray,List.set_cons_zero,List.set_cons_succ,i64_w,i32_w];rfl) ?_
         refine pure_ (i:=8) (N:=some 63) #[I,I,I,I,I,I,I,I,I,O,O,O,O,O,O,O,O,O,O,O,O,O,O] rfl rfl (any_of HT_.out (by kernel_rfl)) (fun _ _ _ h=>h) (Or.inl ⟨by rfl,by intro w';go_simp;with_reducible rfl⟩) (by simp only [Act.put,List.setIfInBounds_toArray,List.set_cons_zero,List.set_cons_succ,i64_w,i32_w];rfl) ?_
         refine pure_ (i:=9) (N:=some 64) #[I,I,I,I,I,I,I,I,I,I,O,O,O,O,O,O,O,O,O,O,O,O,O] rfl rfl (any_of HT_.out (by kernel_rfl)) (fun _ _ _ h=>h) (Or.inl ⟨by rfl,by intro w';go_simp;with_reducible rfl⟩) (by simp only [Act.put,List.setIfInBounds_toArray,List.set_cons_zero,List.set_cons_succ,i64_w,i32_w];rfl) ?_
         refine pure_ (i:=10) (N:=some 65) #[I,I,I,I,I,I,I,I,I,I,I,O,O,O,O,O,O,O,O,O,O,O,O] rfl rfl (any_of HT_.out (by kernel_rfl)) (fun _ _ _ h=>h) (Or.inl ⟨by rfl,by intro w';go_simp;with_reducible rfl⟩) (by simp only [Act.put,List.setIfInBounds_toArray,List.set_cons_zero,List.set_cons_succ,i64_w,i32_w];rfl) ?_
         refine pure_ (i:=11) (N:=some 66) #[I,I,I,I,I,I,I,I,I,I,I,I,O,O,O,O,O,O,O,O,O,O,O] rfl rfl (any_of HT_.out (by kernel_rfl)) (fun _ _ _ h=>h) (Or.inl ⟨by rfl,by intro w';go_simp;with_reducible rfl⟩) (by simp only [Act.put,List.setIfInBounds_toArray,List.set_cons_zero,List.set_cons_succ,i64_w,i32_w];rfl) ?_
         refine pure_ (i:=14) (N:=some 69) #[I,I,I,I,I,I,I,I,I,I,I,I,O,O,I,O,O,O,O,O,O,O,O] rfl rfl (any_of HT_.out (by kernel_rfl)) (fun _ _ _ h=>h) (Or.inl ⟨by rfl,by intro w';go_simp;with_reducible rfl⟩) (by simp only [Act.put,List.setIfInBounds_toArray,List.set_cons_zero,List.set_cons_succ,i64_w,i32_w];rfl) ?_
         refine pure_ (i:=15) (N:=some 70) #[I,I,I,I,I,I,I,I,I,I,I,I,O,O,I,I,O,O,O,O,O,O,O] rfl rfl (any_of HT_.out (by kernel_rfl)) (fun _ _ _ h=>h) (Or.inl ⟨by rfl,by intro w';go_simp;with_reducible rfl⟩) (by simp only [Act.put,List.setIfInBounds_toArray,List.set_cons_zero,List.set_cons_succ,i64_w,i32_w];rfl) ?_
         refine take_ (i:=12) (N:=some 67) #[I,I,I,I,I,I,I,I,I,I,I,I,I,O,I,I,O,O,O,O,O,O,O] rfl rfl (take_ofW HT_.out HW_.out (by kernel_rfl)) (fun _ _ _ h=>h) (Or.inl ⟨by rfl,by rintro w' ⟨s0,s1,s2,s3,s4⟩;go_simp;with_reducible rfl⟩) hHeld (by simp only [Act.put,List.setIfInBounds_toArray,List.set_cons_zero,List.set_cons_succ,i64_w,i32_w];rfl) ?_
         refine take_ (i:=13) (N:=some 68) #[I,I,I,I,I,I,I,I,I,I,I,I,I,I,I,I,O,O,O,O,O,O,O] rfl rfl (take_ofW HT_.out HW_.out (by kernel_rfl)) (fun _ _ _ h=>h) (Or.inl ⟨by rfl,by rintro w' ⟨s0,s1,s2,s3,s4⟩;go_simp;with_reducible rfl⟩) hHeld (by simp only [Act.put,List.setIfInBounds_toArray,List.set_cons_zero,List.set_cons_succ,i64_w,i32_w];rfl) ?_
         refine take_ (i:=16) (N:=some 71) #[I,I,I,I,I,I,I,I,I,I,I,I,I,I,I,I,I,O,O,O,O,O,O] rfl rfl (take_ofW HT_.out HW_.out (by kernel_rfl)) (fun _ _ _ h=>h) (Or.inl ⟨by rfl,by rintro w' ⟨s0,s1,s2,s3,s4⟩;go_simp;with_reducible rfl⟩) hHeld (by simp only [Act.put,List.setIfInBounds_toArray,List.set_cons_zero,List.set_cons_succ,i64_w,i32_w];rfl) ?_
         refine one_ (i:=17) (N:=some 72) #[I,I,I,I,I,I,I,I,I,I,I,I,I,I,I,I,I,I,O,O,O,O,O] rfl rfl (one_of HT_.out (by kernel_rfl)) (by decide) (fun K hK=>?_)
         refine goes_ Try.func34 (by kernel_rfl) rfl #[.slice A0 l0.length c0,.int .i64 (wrap64 (1 + (Int.tmod t291 6)))] (by rfl) rfl rfl (by (try simp only [List.map_toArray,List.map_cons,List.map_nil]);rfl) ?_
         with_reducible refine (laws_lwData.calls kj2 _ _ l0 (wrap64 (1 + (Int.tmod t291 6))) t303 _ ?side1 ?side2 A32.out).mono ?_
         (case side1=>exact (Kd.C_below HR0.out HB.out))
         (case side2=>exact HC0.out)
         rintro e w37 ⟨v304,rfl,ho0,hb⟩
         refine ⟨_,rfl,?_⟩
         have HO305:=M0 (Kd.R_lower (Kd.R_new' (Kd.R_new' ho0 (Kd.R_lt HO297.out)) (Kd.R_lt HO301.out)) (below_size HB.out))
         replace HO297:=M0 (Kd.R_elder' HO297.out (Kd.R_base ho0) hb)
         replace HO301:=M0 (Kd.R_elder' HO301.out (Kd.R_base ho0) hb)
         replace BK293:=M0 (blk_below (g:=gb293) (o:=.cells #[.int .i64 (wrap64 (1 + (Int.tmod t291 6))),.int .i64 (Int.tmod t292 4),.int .i64 (Int.tmod t294 (wrap64 ((wrap64 (1 + (Int.tmod t291 6))) + 1)))] 43 (0,0)) BK293.out hb)
         replace BK302:=M0 (blk_below BK302.out hb)
         replace HB:=M0 (below_step HB.out hb)
         clear hb ho0
         obtain ⟨Ao38,co38,eo38⟩:=Kd.R_slice HO305.out
         (subst eo38)
         refine hK.out _ _ ⟨(blk_cell BK302.out 0).trans rfl,(blk_cell BK302.out 1).trans rfl,(blk_cell BK293.out 0).trans rfl,(blk_cell BK293.out 1).trans rfl,(blk_cell BK293.out 2).trans rfl⟩ (fun hHeld=>?_)
         clear hK K
         refine norm_ (a':=?_) ?_ ?_
         rotate_left
         ·show Act.put _ (some 72) _ = _
          simp only [Act.put,List.setIfInBounds_toArray,List.set_cons_zero,List.set_cons_succ,i64_w,i32_w]
          rfl
         refine one_ (i:=18) (N:=some 73) #[I,I,I,I,I,I,I,I,I,I,I,I,I,I,I,I,I,I,I,O,O,O,O] rfl rfl (one_of HT_.out (by kernel_rfl)) (by decide) (fun K hK=>?_)
         refine goes_ Try.func37 (by kernel_rfl) rfl #[.agg #[.int .i64 (wrap64 (1 + (Int.tmod t291 6))),.int .i64 (Int.tmod t292 4),.int .i64 (Int.tmod t294 (wrap64 ((wrap64 (1 + (Int.tmod t291 6))) + 1)))],.slice Ao38 t303.length co38] (by rfl) rfl rfl (by (try simp only [List.map_toArray,List.map_cons,List.map_nil]);rfl) ?_
         with_reducible refine (spec_EncodeShards.calls kj2 (wrap64 (1 + (Int.tmod t291 6))) (Int.tmod t292 4) (Int.tmod t294 (wrap64 ((wrap64 (1 + (Int.tmod t291 6))) + 1))) _ _ t303 t306 t307 _ ?side1 ?side2 A33.out).mono ?_
         (case side1=>exact (Kd.R_reads' HO305.out).2.2)
         (case side2=>exact (Kd.R_reads' HO305.out).2.1)
         rintro e w39 ⟨v308,rfl,ho0,hb⟩
         refine ⟨_,rfl,?_⟩
         have HO309:=M0 (Kd.R_lower (Kd.R_new' (Kd.R_new' (Kd.R_new' ho0 (Kd.R_lt HO297.out)) (Kd.R_lt HO301.out)) (Kd.R_lt HO305.out)) (below_size HB.out))
         replace HO297:=M0 (Kd.R_elder' HO297.out (Kd.R_base ho0) hb)
         replace HO301:=M0 (Kd.R_elder' HO301.out (Kd.R_base ho0) hb)
         replace HO305:=M0 (Kd.R_elder' HO305.out (Kd.R_base ho0) hb)
         replace BK293:=M0 (blk_below (g:=gb293) (o:=.cells #[.int .i64 (wrap64 (1 + (Int.tmod t291 6))),.int .i64 (Int.tmod t292 4),.int .i64 (Int.tmod t294 (wrap64 ((wrap64 (1 + (Int.tmod t291 6))) + 1)))] 43 (0,0)) BK293.out hb)
         replace BK302:=M0 (blk_below BK302.out hb)
         replace HB:=M0 (below_step HB.out hb)
         clear hb ho0
         obtain ⟨Ao40,co40,eo40⟩:=Kd.R_slice HO309.out
         (subst eo40)
         refine hK.out _ _ ⟨(blk_cell BK302.out 0).trans rfl,(blk_cell BK302.out 1).trans rfl,(blk_cell BK293.out 0).trans rfl,(blk_cell BK293.out 1).trans rfl,(blk_cell BK293.out 2).trans rfl⟩ (fun hHeld=>?_)
         clear hK K
         refine norm_ (a':=?_) ?_ ?_
         rotate_left
         ·show Act.put _ (some 73) _ = _
          simp only [Act.put,List.setIfInBounds_toArray,List.set_cons_zero,List.set_cons_succ,i64_w,i32_w]
          rfl
         refine pure_ (i:=19) (N:=some 74) #[I,I,I,I,I,I,I,I,I,I,I,I,I,I,I,I,I,I,I,I,O,O,O] rfl rfl (any_of HT_.out (by kernel_rfl)) (fun _ _ _ h=>h) (Or.inl ⟨by rfl,by intro w';go_simp;with_reducible rfl⟩) (by simp only [Act.put,List.setIfInBounds_toArray,List.set_cons_zero,List.set_cons_succ,i64_w,i32_w];rfl) ?_
         refine one_ (i:=20) (N:=some 75) #[I,I,I,I,I,I,I,I,I,I,I,I,I,I,I,I,I,I,I,I,I,O,O] rfl rfl (one_of HT_.out (by kernel_rfl)) (by decide) (fun K hK=>?_)
         refine goes_ Try.func36 (by kernel_rfl) rfl #[.slice Ao26 t299.length co26,.slice Ao40 t307.length co40] (by rfl) rfl rfl (by (try simp only [List.map_toArray,List.map_cons,List.map_nil]);rfl) ?_
         with_reducible refine (laws_lwTexts.calls kj2 _ _ t299 _ _ t307 t310 _ ?side1 ?side2 ?side3 ?side4 A34.out).mono ?_
         (case side1=>exact (Kd.R_reads' HO301.out).2.2)
         (case side2=>exact (Kd.R_reads' HO301.out).2.1)
         (case side3=>exact (Kd.R_reads' HO309.out).2.2)
         (case side4=>exact (Kd.R_reads' HO309.out).2.1)
         rintro e w' ⟨rfl,⟨nd,rfl⟩⟩
         refine ⟨_,rfl,?_⟩
         have n0_:=M0 (blk_drewN BK302.out nd)
         have n1_:=M0 (pw_below_drewN HB.out nd)
         clear BK302 HB
         generalize World.drewN w36 nd = w36 at n0_ n1_ ⊢
         have BK302:=n0_
         have HB:=n1_
         clear n0_ n1_
         refine hK.out _ _ ⟨(blk_cell BK302.out 0).trans rfl,(blk_cell BK302.out 1).trans rfl,(blk_cell BK293.out 0).trans rfl,(blk_cell BK293.out 1).trans rfl,(blk_cell BK293.out 2).trans rfl⟩ (fun hHeld=>?_)
         clear hK K
         refine norm_ (a':=?_) ?_ ?_
         rotate_left
         ·show Act.put _ (some 75) _ = _
          simp only [Act.put,List.setIfInBounds_toArray,List.set_cons_zero,List.set_cons_succ,i64_w,i32_w]
          rfl
         refine pure_ (i:=21) (N:=some 76) #[I,I,I,I,I,I,I,I,I,I,I,I,I,I,I,I,I,I,I,I,I,I,O] rfl rfl (any_of HT_.out (by kernel_rfl)) (fun _ _ _ h=>h) (Or.inl ⟨by rfl,by intro w';go_simp;with_reducible rfl⟩) (by simp only [Act.put,List.setIfInBounds_toArray,List.set_cons_zero,List.set_cons_succ,i64_w,i32_w];rfl) ?_
         refine pure_ (i:=22) (N:=some 77) #[I,I,I,I,I,I,I,I,I,I,I,I,I,I,I,I,I,I,I,I,I,I,I] rfl rfl (any_of HT_.out (by kernel_rfl)) (fun _ _ _ h=>h) (Or.inl ⟨by rfl,by intro w';go_simp;with_reducible rfl⟩) (by simp only [Act.put,List.setIfInBounds_toArray,List.set_cons_zero,List.set_cons_succ,i64_w,i32_w];rfl) ?_
         refine done_ (done_of HT_.out (by kernel_rfl)) ?_
         try go_wp2
         go_meet
         case rel=>exact ⟨_,(!t310),(by rfl),H',⟨by have:=HJ2.out;omega⟩,⟨by (with_reducible repeat (apply Kd.R_drewN));exact Kd.R_mono HO301.out (fun _ hk=>trivial)⟩,⟨by (with_reducible repeat (refine blk_drewN ?_ _));exact BK293.out⟩,⟨by (with_reducible repeat (refine blk_drewN ?_ _));exact BK302.out⟩,⟨HB.out⟩⟩
        ·rw [if_neg c31] at H
         have c31b0 : ((t299.length : Int) == (wrap64 ((wrap64 ((wrap64 (1 + (Int.tmod t291 6))) + (Int.tmod t292 4))) + (Int.tmod t294 (wrap64 ((wrap64 (1 + (Int.tmod t291 6))) + 1)))))) = false:=beq_eq_false_iff_ne.mpr c31
         have c31b1 : ((t299.length : Int) != (wrap64 ((wrap64 ((wrap64 (1 + (Int.tmod t291 6))) + (Int.tmod t292 4))) + (Int.tmod t294 (wrap64 ((wrap64 (1 + (Int.tmod t291 6))) + 1)))))) = true:=bne_iff_ne.mpr c31
         have H':=M0 H
         clear H
         try go_wp2
         have n0_ : Aside0 (Kd.R Kd.string 9 ((w24.setCell ⟨gb302,0,none⟩ (.int .i64 t298)).setCell ⟨gb302,1,none⟩ (.slice Ao26 t299.length co26)) w.heap.size (fun k_=>some k_ ≠ (.slice Ao26 t299.length co26 : Value).ownBlock) v296 t295):=⟨by exact Kd.R_mono (Kd.R_far (p:=⟨gb302,1,none⟩) (Kd.R_far (p:=⟨gb302,0,none⟩) (Kd.R_types HO297.out BK302.out (by decide)) (fun _ hk=>hk.2) (.int .i64 t298)) (fun _ hk=>hk.2) (.slice Ao26 t299.length co26)) (fun _ hk=>hk.1)⟩
         have n1_ : Aside0 (Kd.R Kd.string 9 ((w24.setCell ⟨gb302,0,none⟩ (.int .i64 t298)).setCell ⟨gb302,1,none⟩ (.slice Ao26 t299.length co26)) w.heap.size (fun k_=>some k_ ≠ (v296 : Value).ownBlock) (.slice Ao26 t299.length co26) t299):=⟨by exact Kd.R_mono (Kd.R_far (p:=⟨gb302,1,none⟩) (Kd.R_far (p:=⟨gb302,0,none⟩) (Kd.R_types HO301.out BK302.out (by decide)) (fun _ hk=>hk.2) (.int .i64 t298)) (fun _ hk=>hk.2) (.slice Ao26 t299.length co26)) (fun _ hk=>hk.1)⟩
         have n2_ : Aside0 (((w24.setCell ⟨gb302,0,none⟩ (.int .i64 t298)).setCell ⟨gb302,1,none⟩ (.slice Ao26 t299.length co26)).heap[gb293]? = some (.cells #[.int .i64 (wrap64 (1 + (Int.tmod t291 6))),.int .i64 (Int.tmod t292 4),.int .i64 (Int.tmod t294 (wrap64 ((wrap64 (1 + (Int.tmod t291 6))) + 1)))] 43 (0,0))):=⟨by refine blk_far ?_ NB293_302.out _;refine blk_far ?_ NB293_302.out _;exact BK293.out⟩
         have n3_ : Aside0 (((w24.setCell ⟨gb302,0,none⟩ (.int .i64 t298)).setCell ⟨gb302,1,none⟩ (.slice Ao26 t299.length co26)).heap[gb302]? = some (.cells #[.int .i64 t298,.slice Ao26 t299.length co26] 68 (0,0))):=⟨by refine blk_put (cs:=#[.int .i64 t298,.slice none 0 0]) ?_ 1 _ rfl;refine blk_put (cs:=#[.int .i64 0,.slice none 0 0]) ?_ 0 _ rfl;exact BK302.out⟩
         have n4_ : Aside0 (Below w.heap.size w ((w24.setCell ⟨gb302,0,none⟩ (.int .i64 t298)).setCell ⟨gb302,1,none⟩ (.slice Ao26 t299.length co26))):=⟨by repeat ((with_reducible first|exact HB.out|refine below_set ?_ GE302.out))⟩
         clear HO297 HO301 BK293 BK302 HB
         generalize ((w24.setCell ⟨gb302,0,none⟩ (.int .i64 t298)).setCell ⟨gb302,1,none⟩ (.slice Ao26 t299.length co26)) = w41 at n0_ n1_ n2_ n3_ n4_ ⊢
         have HO297:=n0_
         have HO301:=n1_
         have BK293:=n2_
         have BK302:=n3_
         have HB:=n4_
         clear n0_ n1_ n2_ n3_ n4_
         replace HO297:=M0 (Kd.R_drew HO297.out)
         replace HO301:=M0 (Kd.R_drew HO301.out)
         replace BK293:=M0 (blk_drew BK293.out)
         replace BK302:=M0 (blk_drew BK302.out)
         replace HB:=M0 (below_drew1 HB.out)
         refine start_ (n:=23) (S:=fun w'=>w'.cell? ⟨gb302,0,none⟩ = some (.int .i64 t298) ∧ w'.cell? ⟨gb302,1,none⟩ = some (.slice Ao26 t299.length co26)) (ds:=[]) #[O,O,O,O,O,O,O,O,O,O,O,O,O,O,O,O,O,O,O,O,O,O,O] (by kernel_rfl) rfl rfl ⟨(blk_cell BK302.out 0).trans rfl,(blk_cell BK302.out 1).trans rfl⟩ (fun hHeld=>?_);refine with_tabW laws_FnRepaired.tab7 laws_FnRepaired.bits7 (fun HT_ HW_=>?_)
         generalize w41.drew = w42 at HO297 HO301 BK293 BK302 HB hHeld ⊢
         refine pure_ (i:=0) (N:=some 55) #[I,O,O,O,O,O,O,O,O,O,O,O,O,O,O,O,O,O,O,O,O,O,O] rfl rfl (any_of HT_.out (by kernel_rfl)) (fun _ _ _ h=>h) (Or.inl ⟨by rfl,by intro w';go_simp;with_reducible rfl⟩) (by simp only [Act.put,List.setIfInBounds_toArray,List.set_cons_zero,List.set_cons_succ,i64_w,i32_w];rfl) ?_
         refine take_ (i:=1) (N:=some 56) #[I,I,O,O,O,O,O,O,O,O,O,O,O,O,O,O,O,O,O,O,O,O,O] rfl rfl (take_ofW HT_.out HW_.out (by kernel_rfl)) (fun _ _ _ h=>h) (Or.inl ⟨by rfl,by rintro w' ⟨s0,s1⟩;go_simp;with_reducible rfl⟩) hHeld (by simp only [Act.put,List.setIfInBounds_toArray,List.set_cons_zero,List.set_cons_succ,i64_w,i32_w];rfl) ?_
         refine pure_ (i:=2) (N:=some 57) #[I,I,I,O,O,O,O,O,O,O,O,O,O,O,O,O,O,O,O,O,O,O,O] rfl rfl (any_of HT_.out (by kernel_rfl)) (fun _ _ _ h=>h) (Or.inl ⟨by rfl,by intro w';go_simp;with_reducible rfl⟩) (by simp only [Act.put,List.setIfInBounds_toArray,List.set_cons_zero,List.set_cons_succ,i64_w,i32_w];rfl) ?_
         refine pure_ (i:=3) (N:=some 58) #[I,I,I,I,O,O,O,O,O,O,O,O,O,O,O,O,O,O,O,O,O,O,O] rfl rfl (any_of HT_.out (by kernel_rfl)) (fun _ _ _ h=>h) (Or.inl ⟨by rfl,by intro w';go_simp;with_reducible rfl⟩) (by simp only [Act.put,List.setIfInBounds_toArray,List.set_cons_zero,List.set_cons_succ,i64_w,i32_w];rfl) ?_
         refine pure_ (i:=4) (N:=some 59) #[I,I,I,I,I,O,O,O,O,O,O,O,O,O,O,O,O,O,O,O,O,O,O] rfl rfl (any_of HT_.out (by kernel_rfl)) (fun _ _ _ h=>h) (Or.inl ⟨by rfl,by intro w';go_simp;with_reducible rfl⟩) (by simp only [Act.put,List.setIfInBounds_toArray,List.set_cons_zero,List.set_cons_succ,i64_w,i32_w];rfl) ?_
         refine pure_ (i:=7) (N:=some 62) #[I,I,I,I,I,O,O,I,O,O,O,O,O,O,O,O,O,O,O,O,O,O,O] rfl rfl (any_of HT_.out (by kernel_rfl)) (fun _ _ _ h=>h) (Or.inl ⟨by rfl,by intro w';go_simp;with_reducible rfl⟩) (by simp only [Act.put,List.setIfInBounds_toArray,List.set_cons_zero,List.set_cons_succ,i64_w,i32_w];rfl) ?_
         refine take_ (i:=5) (N:=some 60) #[I,I,I,I,I,I,O,I,O,O,O,O,O,O,O,O,O,O,O,O,O,O,O] rfl rfl (take_ofW HT_.out HW_.out (by kernel_rfl)) (fun _ _ _ h=>h) (Or.inl ⟨by rfl,by rintro w' ⟨s0,s1⟩;go_simp;with_reducible rfl⟩) hHeld (by simp only [Act.put,List.setIfInBounds_toArray,List.set_cons_zero,List.set_cons_succ,i64_w,i32_w];rfl) ?_
         refine pure_ (i:=6) (N:=some 61) #[I,I,I,I,I,I,I,I,O,O,O,O,O,O,O,O,O,O,O,O,O,O,O] rfl rfl (any_of HT_.out (by kernel_rfl)) (fun _ _ _ h=>h) (Or.inl ⟨by rfl,by intro w';go_simp;with_reducible rfl⟩) (by simp only [Act.put,List.setIfInBounds_toArray,List.set_cons_zero,List.set_cons_succ,i64_w,i32_w];rfl) ?_
         refine pure_ (i:=8) (N:=some 63) #[I,I,I,I,I,I,I,I,I,O,O,O,O,O,O,O,O,O,O,O,O,O,O] rfl rfl (any_of HT_.out (by kernel_rfl)) (fun _ _ _ h=>h) (Or.inl ⟨by rfl,by intro w';go_simp;with_reducible rfl⟩) (by simp only [Act.put,List.setIfInBounds_toArray,List.set_cons_zero,List.set_cons_succ,i64_w,i32_w];rfl) ?_
         refine pure_ (i:=9) (N:=some 64) #[I,I,I,I,I,I,I,I,I,I,O,O,O,O,O,O,O,O,O,O,O,O,O] rfl rfl (any_of HT_.out (by kernel_rfl)) (fun _ _ _ h=>h) (Or.inl ⟨by rfl,by intro w';go_simp;with_reducible rfl⟩) (by simp only [Act.put,List.setIfInBounds_toArray,List.set_cons_zero,List.set_cons_succ,i64_w,i32_w];rfl) ?_
         refine pure_ (i:=10) (N:=some 65) #[I,I,I,I,I,I,I,I,I,I,I,O,O,O,O,O,O,O,O,O,O,O,O] rfl rfl (any_of HT_.out (by kernel_rfl)) (fun _ _ _ h=>h) (Or.inl ⟨by rfl,by intro w';go_simp;with_reducible rfl⟩) (by simp only [Act.put,List.setIfInBounds_toArray,List.set_cons_zero,List.set_cons_succ,i64_w,i32_w];rfl) ?_
         refine pure_ (i:=11) (N:=some 66) (v:=undef) (a':=?_) #[I,I,I,I,I,I,I,I,I,I,I,I,O,O,O,O,O,O,O,O,O,O,O] rfl rfl (any_of HT_.out (by kernel_rfl)) (fun _ _ _ h=>h) (Or.inr ⟨by rfl,rfl⟩) ?_ ?_
         rotate_left
         ·simp only [Act.put,List.setIfInBounds_toArray,List.set_cons_zero,List.set_cons_succ,i64_w,i32_w]
          rfl
         refine pure_ (i:=12) (N:=some 67) (v:=undef) (a':=?_) #[I,I,I,I,I,I,I,I,I,I,I,I,I,O,O,O,O,O,O,O,O,O,O] rfl rfl (any_of HT_.out (by kernel_rfl)) (fun _ _ _ h=>h) (Or.inr ⟨by rfl,rfl⟩) ?_ ?_
         rotate_left
         ·simp only [Act.put,List.setIfInBounds_toArray,List.set_cons_zero,List.set_cons_succ,i64_w,i32_w]
          rfl
         refine pure_ (i:=13) (N:=some 68) (v:=undef) (a':=?_) #[I,I,I,I,I,I,I,I,I,I,I,I,I,I,O,O,O,O,O,O,O,O,O] rfl rfl (any_of HT_.out (by kernel_rfl)) (fun _ _ _ h=>h) (Or.inr ⟨by rfl,rfl⟩) ?_ ?_
         rotate_left
         ·simp only [Act.put,List.setIfInBounds_toArray,List.set_cons_zero,List.set_cons_succ,i64_w,i32_w]
          rfl
         refine pure_ (i:=14) (N:=some 69) (v:=undef) (a':=?_) #[I,I,I,I,I,I,I,I,I,I,I,I,I,I,I,O,O,O,O,O,O,O,O] rfl rfl (any_of HT_.out (by kernel_rfl)) (fun _ _ _ h=>h) (Or.inr ⟨by rfl,rfl⟩) ?_ ?_
         rotate_left
         ·simp only [Act.put,List.setIfInBounds_toArray,List.set_cons_zero,List.set_cons_succ,i64_w,i32_w]
          rfl
         refine pure_ (i:=15) (N:=some 70) (v:=undef) (a':=?_) #[I,I,I,I,I,I,I,I,I,I,I,I,I,I,I,I,O,O,O,O,O,O,O] rfl rfl (any_of HT_.out (by kernel_rfl)) (fun _ _ _ h=>h) (Or.inr ⟨by rfl,rfl⟩) ?_ ?_
         rotate_left
         ·simp only [Act.put,List.setIfInBounds_toArray,List.set_cons_zero,List.set_cons_succ,i64_w,i32_w]
          rfl
         refine pure_ (i:=16) (N:=some 71) (v:=undef) (a':=?_) #[I,I,I,I,I,I,I,I,I,I,I,I,I,I,I,I,I,O,O,O,O,O,O] rfl rfl (any_of HT_.out (by kernel_rfl)) (fun _ _ _ h=>h) (Or.inr ⟨by rfl,rfl⟩) ?_ ?_
         rotate_left
         ·simp only [Act.put,List.setIfInBounds_toArray,List.set_cons_zero,List.set_cons_succ,i64_w,i32_w]
          rfl
         refine pure_ (i:=17) (N:=some 72) (v:=undef) (a':=?_) #[I,I,I,I,I,I,I,I,I,I,I,I,I,I,I,I,I,I,O,O,O,O,O] rfl rfl (any_of HT_.out (by kernel_rfl)) (fun _ _ _ h=>h) (Or.inr ⟨by rfl,rfl⟩) ?_ ?_
         rotate_left
         ·simp only [Act.put,List.setIfInBounds_toArray,List.set_cons_zero,List.set_cons_succ,i64_w,i32_w]
          rfl
         refine pure_ (i:=18) (N:=some 73) (v:=undef) (a':=?_) #[I,I,I,I,I,I,I,I,I,I,I,I,I,I,I,I,I,I,I,O,O,O,O] rfl rfl (any_of HT_.out (by kernel_rfl)) (fun _ _ _ h=>h) (Or.inr ⟨by rfl,rfl⟩) ?_ ?_
         rotate_left
         ·simp only [Act.put,List.setIfInBounds_toArray,List.set_cons_zero,List.set_cons_succ,i64_w,i32_w]
          rfl
         refine pure_ (i:=19) (N:=some 74) (v:=undef) (a':=?_) #[I,I,I,I,I,I,I,I,I,I,I,I,I,I,I,I,I,I,I,I,O,O,O] rfl rfl (any_of HT_.out (by kernel_rfl)) (fun _ _ _ h=>h) (Or.inr ⟨by rfl,rfl⟩) ?_ ?_
         rotate_left
         ·simp only [Act.put,List.setIfInBounds_toArray,List.set_cons_zero,List.set_cons_succ,i64_w,i32_w]
          rfl
         refine pure_ (i:=20) (N:=some 75) (v:=undef) (a':=?_) #[I,I,I,I,I,I,I,I,I,I,I,I,I,I,I,I,I,I,I,I,I,O,O] rfl rfl (any_of HT_.out (by kernel_rfl)) (fun _ _ _ h=>h) (Or.inr ⟨by rfl,rfl⟩) ?_ ?_
         rotate_left
         ·simp only [Act.put,List.setIfInBounds_toArray,List.set_cons_zero,List.set_cons_succ,i64_w,i32_w]
          rfl
         refine pure_ (i:=21) (N:=some 76) (v:=undef) (a':=?_) #[I,I,I,I,I,I,I,I,I,I,I,I,I,I,I,I,I,I,I,I,I,I,O] rfl rfl (any_of HT_.out (by kernel_rfl)) (fun _ _ _ h=>h) (Or.inr ⟨by rfl,rfl⟩) ?_ ?_
         rotate_left
         ·simp only [Act.put,List.setIfInBounds_toArray,List.set_cons_zero,List.set_cons_succ,i64_w,i32_w]
          rfl
         refine pure_ (i:=22) (N:=some 77) #[I,I,I,I,I,I,I,I,I,I,I,I,I,I,I,I,I,I,I,I,I,I,I] rfl rfl (any_of HT_.out (by kernel_rfl)) (fun _ _ _ h=>h) (Or.inl ⟨by rfl,by intro w';go_simp;with_reducible rfl⟩) (by simp only [Act.put,List.setIfInBounds_toArray,List.set_cons_zero,List.set_cons_succ,i64_w,i32_w];rfl) ?_
         refine done_ (done_of HT_.out (by kernel_rfl)) ?_
         try go_wp2
         go_meet
         case rel=>exact ⟨_,(true),(by rfl),H',⟨by have:=HJ2.out;omega⟩,⟨by exact Kd.R_mono HO301.out (fun _ hk=>trivial)⟩,⟨by exact BK293.out⟩,⟨by exact BK302.out⟩,⟨HB.out⟩⟩
       ·rw [if_neg c30] at H
        have c30b0 : (t298 == 0) = false:=beq_eq_false_iff_ne.mpr c30
        have c30b1 : (t298 != 0) = true:=bne_iff_ne.mpr c30
        (skip)
        have H':=M0 H
        clear H
        try go_wp2
        have n0_ : Aside0 (Kd.R Kd.string 9 ((w24.setCell ⟨gb302,0,none⟩ (.int .i64 t298)).setCell ⟨gb302,1,none⟩ (.slice Ao26 t299.length co26)) w.heap.size (fun k_=>some k_ ≠ (.slice Ao26 t299.length co26 : Value).ownBlock) v296 t295):=⟨by exact Kd.R_mono (Kd.R_far (p:=⟨gb302,1,none⟩) (Kd.R_far (p:=⟨gb302,0,none⟩) (Kd.R_types HO297.out BK302.out (by decide)) (fun _ hk=>hk.2) (.int .i64 t298)) (fun _ hk=>hk.2) (.slice Ao26 t299.length co26)) (fun _ hk=>hk.1)⟩
        have n1_ : Aside0 (Kd.R Kd.string 9 ((w24.setCell ⟨gb302,0,none⟩ (.int .i64 t298)).setCell ⟨gb302,1,none⟩ (.slice Ao26 t299.length co26)) w.heap.size (fun k_=>some k_ ≠ (v296 : Value).ownBlock) (.slice Ao26 t299.length co26) t299):=⟨by exact Kd.R_mono (Kd.R_far (p:=⟨gb302,1,none⟩) (Kd.R_far (p:=⟨gb302,0,none⟩) (Kd.R_types HO301.out BK302.out (by decide)) (fun _ hk=>hk.2) (.int .i64 t298)) (fun _ hk=>hk.2) (.slice Ao26 t299.length co26)) (fun _ hk=>hk.1)⟩
        have n2_ : Aside0 (((w24.setCell ⟨gb302,0,none⟩ (.int .i64 t298)).setCell ⟨gb302,1,none⟩ (.slice Ao26 t299.length co26)).heap[gb293]? = some (.cells #[.int .i64 (wrap64 (1 + (Int.tmod t291 6))),.int .i64 (Int.tmod t292 4),.int .i64 (Int.tmod t294 (wrap64 ((wrap64 (1 + (Int.tmod t291 6))) + 1)))] 43 (0,0))):=⟨by refine blk_far ?_ NB293_302.out _;refine blk_far ?_ NB293_302.out _;exact BK293.out⟩
        have n3_ : Aside0 (((w24.setCell ⟨gb302,0,none⟩ (.int .i64 t298)).setCell ⟨gb302,1,none⟩ (.slice Ao26 t299.length co26)).heap[gb302]? = some (.cells #[.int .i64 t298,.slice Ao26 t299.length co26] 68 (0,0))):=⟨by refine blk_put (cs:=#[.int .i64 t298,.slice none 0 0]) ?_ 1 _ rfl;refine blk_put (cs:=#[.int .i64 0,.slice none 0 0]) ?_ 0 _ rfl;exact BK302.out⟩
        have n4_ : Aside0 (Below w.heap.size w ((w24.setCell ⟨gb302,0,none⟩ (.int .i64 t298)).setCell ⟨gb302,1,none⟩ (.slice Ao26 t299.length co26))):=⟨by repeat ((with_reducible first|exact HB.out|refine below_set ?_ GE302.out))⟩
        clear HO297 HO301 BK293 BK302 HB
        generalize ((w24.setCell ⟨gb302,0,none⟩ (.int .i64 t298)).setCell ⟨gb302,1,none⟩ (.slice Ao26 t299.length co26)) = w43 at n0_ n1_ n2_ n3_ n4_ ⊢
        have HO297:=n0_
        have HO301:=n1_
        have BK293:=n2_
        have BK302:=n3_
        have HB:=n4_
        clear n0_ n1_ n2_ n3_ n4_
        replace HO297:=M0 (Kd.R_drew HO297.out)
        replace HO301:=M0 (Kd.R_drew HO301.out)
        replace BK293:=M0 (blk_drew BK293.out)
        replace BK302:=M0 (blk_drew BK302.out)
        replace HB:=M0 (below_drew1 HB.out)
        refine start_ (n:=23) (S:=fun w'=>w'.cell? ⟨gb302,0,none⟩ = some (.int .i64 t298) ∧ w'.cell? ⟨gb302,1,none⟩ = some (.slice Ao26 t299.length co26)) (ds:=[]) #[O,O,O,O,O,O,O,O,O,O,O,O,O,O,O,O,O,O,O,O,O,O,O] (by kernel_rfl) rfl rfl ⟨(blk_cell BK302.out 0).trans rfl,(blk_cell BK302.out 1).trans rfl⟩ (fun hHeld=>?_);refine with_tabW laws_FnRepaired.tab7 laws_FnRepaired.bits7 (fun HT_ HW_=>?_)
        generalize w43.drew = w44 at HO297 HO301 BK293 BK302 HB hHeld ⊢
        refine pure_ (i:=0) (N:=some 55) #[I,O,O,O,O,O,O,O,O,O,O,O,O,O,O,O,O,O,O,O,O,O,O] rfl rfl (any_of HT_.out (by kernel_rfl)) (fun _ _ _ h=>h) (Or.inl ⟨by rfl,by intro w';go_simp;with_reducible rfl⟩) (by simp only [Act.put,List.setIfInBounds_toArray,List.set_cons_zero,List.set_cons_succ,i64_w,i32_w];rfl) ?_
        refine take_ (i:=1) (N:=some 56) #[I,I,O,O,O,O,O,O,O,O,O,O,O,O,O,O,O,O,O,O,O,O,O] rfl rfl (take_ofW HT_.out HW_.out (by kernel_rfl)) (fun _ _ _ h=>h) (Or.inl ⟨by rfl,by rintro w' ⟨s0,s1⟩;go_simp;with_reducible rfl⟩) hHeld (by simp only [Act.put,List.setIfInBounds_toArray,List.set_cons_zero,List.set_cons_succ,i64_w,i32_w];rfl) ?_
        refine pure_ (i:=2) (N:=some 57) #[I,I,I,O,O,O,O,O,O,O,O,O,O,O,O,O,O,O,O,O,O,O,O] rfl rfl (any_of HT_.out (by kernel_rfl)) (fun _ _ _ h=>h) (Or.inl ⟨by rfl,by intro w';go_simp;with_reducible rfl⟩) (by simp only [Act.put,List.setIfInBounds_toArray,List.set_cons_zero,List.set_cons_succ,i64_w,i32_w];rfl) ?_
        refine pure_ (i:=3) (N:=some 58) #[I,I,I,I,O,O,O,O,O,O,O,O,O,O,O,O,O,O,O,O,O,O,O] rfl rfl (any_of HT_.out (by kernel_rfl)) (fun _ _ _ h=>h) (Or.inl ⟨by rfl,by intro w';go_simp;with_reducible rfl⟩) (by simp only [Act.put,List.setIfInBounds_toArray,List.set_cons_zero,List.set_cons_succ,i64_w,i32_w];rfl) ?_
        refine pure_ (i:=4) (N:=some 59) (v:=undef) (a':=?_) #[I,I,I,I,I,O,O,O,O,O,O,O,O,O,O,O,O,O,O,O,O,O,O] rfl rfl (any_of HT_.out (by kernel_rfl)) (fun _ _ _ h=>h) (Or.inr ⟨by rfl,rfl⟩) ?_ ?_
        rotate_left
        ·simp only [Act.put,List.setIfInBounds_toArray,List.set_cons_zero,List.set_cons_succ,i64_w,i32_w]
         rfl
        refine pure_ (i:=5) (N:=some 60) (v:=undef) (a':=?_) #[I,I,I,I,I,I,O,O,O,O,O,O,O,O,O,O,O,O,O,O,O,O,O] rfl rfl (any_of HT_.out (by kernel_rfl)) (fun _ _ _ h=>h) (Or.inr ⟨by rfl,rfl⟩) ?_ ?_
        rotate_left
        ·simp only [Act.put,List.setIfInBounds_toArray,List.set_cons_zero,List.set_cons_succ,i64_w,i32_w]
         rfl
        refine pure_ (i:=6) (N:=some 61) (v:=undef) (a':=?_) #[I,I,I,I,I,I,I,O,O,O,O,O,O,O,O,O,O,O,O,O,O,O,O] rfl rfl (any_of HT_.out (by kernel_rfl)) (fun _ _ _ h=>h) (Or.inr ⟨by rfl,rfl⟩) ?_ ?_
        rotate_left
        ·simp only [Act.put,List.setIfInBounds_toArray,List.set_cons_zero,List.set_cons_succ,i64_w,i32_w]
         rfl
        refine pure_ (i:=7) (N:=some 62) (v:=undef) (a':=?_) #[I,I,I,I,I,I,I,I,O,O,O,O,O,O,O,O,O,O,O,O,O,O,O] rfl rfl (any_of HT_.out (by kernel_rfl)) (fun _ _ _ h=>h) (Or.inr ⟨by rfl,rfl⟩) ?_ ?_
        rotate_left
        ·simp only [Act.put,List.setIfInBounds_toArray,List.set_cons_zero,List.set_cons_succ,i64_w,i32_w]
         rfl
        refine pure_ (i:=8) (N:=some 63) (v:=undef) (a':=?_) #[I,I,I,I,I,I,I,I,I,O,O,O,O,O,O,O,O,O,O,O,O,O,O] rfl rfl (any_of HT_.out (by kernel_rfl)) (fun _ _ _ h=>h) (Or.inr ⟨by rfl,rfl⟩) ?_ ?_
        rotate_left
        ·simp only [Act.put,List.setIfInBounds_toArray,List.set_cons_zero,List.set_cons_succ,i64_w,i32_w]
         rfl
        refine pure_ (i:=9) (N:=some 64) #[I,I,I,I,I,I,I,I,I,I,O,O,O,O,O,O,O,O,O,O,O,O,O] rfl rfl (any_of HT_.out (by kernel_rfl)) (fun _ _ _ h=>h) (Or.inl ⟨by rfl,by intro w';go_simp;with_reducible rfl⟩) (by simp only [Act.put,List.setIfInBounds_toArray,List.set_cons_zero,List.set_cons_succ,i64_w,i32_w];rfl) ?_
        refine pure_ (i:=10) (N:=some 65) #[I,I,I,I,I,I,I,I,I,I,I,O,O,O,O,O,O,O,O,O,O,O,O] rfl rfl (any_of HT_.out (by kernel_rfl)) (fun _ _ _ h=>h) (Or.inl ⟨by rfl,by intro w';go_simp;with_reducible rfl⟩) (by simp only [Act.put,List.setIfInBounds_toArray,List.set_cons_zero,List.set_cons_succ,i64_w,i32_w];rfl) ?_
        refine pure_ (i:=11) (N:=some 66) (v:=undef) (a':=?_) #[I,I,I,I,I,I,I,I,I,I,I,I,O,O,O,O,O,O,O,O,O,O,O] rfl rfl (any_of HT_.out (by kernel_rfl)) (fun _ _ _ h=>h) (Or.inr ⟨by rfl,rfl⟩) ?_ ?_
        rotate_left
        ·simp only [Act.put,List.setIfInBounds_toArray,List.set_cons_zero,List.set_cons_succ,i64_w,i32_w]
         rfl
        refine pure_ (i:=12) (N:=some 67) (v:=undef) (a':=?_) #[I,I,I,I,I,I,I,I,I,I,I,I,I,O,O,O,O,O,O,O,O,O,O] rfl rfl (any_of HT_.out (by kernel_rfl)) (fun _ _ _ h=>h) (Or.inr ⟨by rfl,rfl⟩) ?_ ?_
        rotate_left
        ·simp only [Act.put,List.setIfInBounds_toArray,List.set_cons_zero,List.set_cons_succ,i64_w,i32_w]
         rfl
        refine pure_ (i:=13) (N:=some 68) (v:=undef) (a':=?_) #[I,I,I,I,I,I,I,I,I,I,I,I,I,I,O,O,O,O,O,O,O,O,O] rfl rfl (any_of HT_.out (by kernel_rfl)) (fun _ _ _ h=>h) (Or.inr ⟨by rfl,rfl⟩) ?_ ?_
        rotate_left
        ·simp only [Act.put,List.setIfInBounds_toArray,List.set_cons_zero,List.set_cons_succ,i64_w,i32_w]
         rfl
        refine pure_ (i:=14) (N:=some 69) (v:=undef) (a':=?_) #[I,I,I,I,I,I,I,I,I,I,I,I,I,I,I,O,O,O,O,O,O,O,O] rfl rfl (any_of HT_.out (by kernel_rfl)) (fun _ _ _ h=>h) (Or.inr ⟨by rfl,rfl⟩) ?_ ?_
        rotate_left
        ·simp only [Act.put,List.setIfInBounds_toArray,List.set_cons_zero,List.set_cons_succ,i64_w,i32_w]
         rfl
        refine pure_ (i:=15) (N:=some 70) (v:=undef) (a':=?_) #[I,I,I,I,I,I,I,I,I,I,I,I,I,I,I,I,O,O,O,O,O,O,O] rfl rfl (any_of HT_.out (by kernel_rfl)) (fun _ _ _ h=>h) (Or.inr ⟨by rfl,rfl⟩) ?_ ?_
        rotate_left
        ·simp only [Act.put,List.setIfInBounds_toArray,List.set_cons_zero,List.set_cons_succ,i64_w,i32_w]
         rfl
        refine pure_ (i:=16) (N:=some 71) (v:=undef) (a':=?_) #[I,I,I,I,I,I,I,I,I,I,I,I,I,I,I,I,I,O,O,O,O,O,O] rfl rfl (any_of HT_.out (by kernel_rfl)) (fun _ _ _ h=>h) (Or.inr ⟨by rfl,rfl⟩) ?_ ?_
        rotate_left
        ·simp only [Act.put,List.setIfInBounds_toArray,List.set_cons_zero,List.set_cons_succ,i64_w,i32_w]
         rfl
        refine pure_ (i:=17) (N:=some 72) (v:=undef) (a':=?_) #[I,I,I,I,I,I,I,I,I,I,I,I,I,I,I,I,I,I,O,O,O,O,O] rfl rfl (any_of HT_.out (by kernel_rfl)) (fun _ _ _ h=>h) (Or.inr ⟨by rfl,rfl⟩) ?_ ?_
        rotate_left
        ·simp only [Act.put,List.setIfInBounds_toArray,List.set_cons_zero,List.set_cons_succ,i64_w,i32_w]
         rfl
        refine pure_ (i:=18) (N:=some 73) (v:=undef) (a':=?_) #[I,I,I,I,I,I,I,I,I,I,I,I,I,I,I,I,I,I,I,O,O,O,O] rfl rfl (any_of HT_.out (by kernel_rfl)) (fun _ _ _ h=>h) (Or.inr ⟨by rfl,rfl⟩) ?_ ?_
        rotate_left
        ·simp only [Act.put,List.setIfInBounds_toArray,List.set_cons_zero,List.set_cons_succ,i64_w,i32_w]
         rfl
        refine pure_ (i:=19) (N:=some 74) (v:=undef) (a':=?_) #[I,I,I,I,I,I,I,I,I,I,I,I,I,I,I,I,I,I,I,I,O,O,O] rfl rfl (any_of HT_.out (by kernel_rfl)) (fun _ _ _ h=>h) (Or.inr ⟨by rfl,rfl⟩) ?_ ?_
        rotate_left
        ·simp only [Act.put,List.setIfInBounds_toArray,List.set_cons_zero,List.set_cons_succ,i64_w,i32_w]
         rfl
        refine pure_ (i:=20) (N:=some 75) (v:=undef) (a':=?_) #[I,I,I,I,I,I,I,I,I,I,I,I,I,I,I,I,I,I,I,I,I,O,O] rfl rfl (any_of HT_.out (by kernel_rfl)) (fun _ _ _ h=>h) (Or.inr ⟨by rfl,rfl⟩) ?_ ?_
        rotate_left
        ·simp only [Act.put,List.setIfInBounds_toArray,List.set_cons_zero,List.set_cons_succ,i64_w,i32_w]
         rfl
        refine pure_ (i:=21) (N:=some 76) (v:=undef) (a':=?_) #[I,I,I,I,I,I,I,I,I,I,I,I,I,I,I,I,I,I,I,I,I,I,O] rfl rfl (any_of HT_.out (by kernel_rfl)) (fun _ _ _ h=>h) (Or.inr ⟨by rfl,rfl⟩) ?_ ?_
        rotate_left
        ·simp only [Act.put,List.setIfInBounds_toArray,List.set_cons_zero,List.set_cons_succ,i64_w,i32_w]
         rfl
        refine pure_ (i:=22) (N:=some 77) #[I,I,I,I,I,I,I,I,I,I,I,I,I,I,I,I,I,I,I,I,I,I,I] rfl rfl (any_of HT_.out (by kernel_rfl)) (fun _ _ _ h=>h) (Or.inl ⟨by rfl,by intro w';go_simp;with_reducible rfl⟩) (by simp only [Act.put,List.setIfInBounds_toArray,List.set_cons_zero,List.set_cons_succ,i64_w,i32_w];rfl) ?_
        refine done_ (done_of HT_.out (by kernel_rfl)) ?_
        try go_wp2
        go_meet
        case rel=>exact ⟨_,(true),(by rfl),H',⟨by have:=HJ2.out;omega⟩,⟨by exact Kd.R_mono HO301.out (fun _ hk=>trivial)⟩,⟨by exact BK293.out⟩,⟨by exact BK302.out⟩,⟨HB.out⟩⟩
     case rest=>
      as_aux_lemma=>
       clear HC12
       obtain ⟨kq,x77_11,rfl,HA,HJ11,HO_303001,BK293,BK302,HB⟩:=hcut
       cases kq with
       | zero=>exact absurd HA.out (by simp [laws_FnRepaired.j1])
       | succ kj11=>
        have H:=HA.out
        clear HA
        simp only [laws_FnRepaired.j1] at H
        by_cases c45 : x77_11 = true
        ·subst c45
         have H1 : (some false) = some true:=by rw [if_pos rfl] at H;exact H
         clear H
         have H:=H1
         clear H1
         exact absurd (Option.some.inj H) (by decide)
        ·replace c45:=Bool.eq_false_iff.mpr c45
         subst c45
         have H1 : (laws_FnRepaired.l0 kj11 l1 (wrap64 ((wrap64 ((wrap64 (1 + (Int.tmod t291 6))) + (Int.tmod t292 4))) + (Int.tmod t294 (wrap64 ((wrap64 (1 + (Int.tmod t291 6))) + 1))))) 0 (wrap64 (1 + (Int.tmod t291 6))) (Int.tmod t292 4) (Int.tmod t294 (wrap64 ((wrap64 (1 + (Int.tmod t291 6))) + 1))) t298 t299) = some true:=by rw [if_neg (show ¬ (false = true) by decide)] at H;exact H
         clear H
         have H:=H1
         clear H1
         have H':=M0 H
         clear H
         go_wp2
         go_loopg [8] kj11 (fun kq v8 w'=>∃ (x8_3 : Int),v8 = .int .i64 x8_3 ∧ Aside0 (laws_FnRepaired.l0 kq l1 (wrap64 ((wrap64 ((wrap64 (1 + (Int.tmod t291 6))) + (Int.tmod t292 4))) + (Int.tmod t294 (wrap64 ((wrap64 (1 + (Int.tmod t291 6))) + 1))))) x8_3 (wrap64 (1 + (Int.tmod t291 6))) (Int.tmod t292 4) (Int.tmod t294 (wrap64 ((wrap64 (1 + (Int.tmod t291 6))) + 1))) t298 t299 = some true) ∧ Aside0 (kq ≤ kj11) ∧ Aside0 (Kd.R Kd.string 9 w' w.heap.size (fun _=>True) (.slice Ao26 t299.length co26) t299) ∧ Aside0 (w'.heap[gb293]? = some (.cells #[.int .i64 (wrap64 (1 + (Int.tmod t291 6))),.int .i64 (Int.tmod t292 4),.int .i64 (Int.tmod t294 (wrap64 ((wrap64 (1 + (Int.tmod t291 6))) + 1)))] 43 (0,0))) ∧ Aside0 (w'.heap[gb302]? = some (.cells #[.int .i64 t298,(.slice Ao26 t299.length co26)] 68 (0,0))) ∧ Aside0 (Below w.heap.size w w'))
         case atStart=>exact ⟨(0),(by rfl),H',⟨Nat.le_refl _⟩,⟨by exact HO_303001.out⟩,⟨by exact BK293.out⟩,⟨by exact BK302.out⟩,⟨HB.out⟩⟩
         case round=>
          as_aux_lemma=>
           clear H'
           obtain ⟨x8_3,rfl,HA,HK3,HO_303001,BK293,BK302,HB⟩:=hrel
           cases gk with
           | zero=>exact absurd HA.out (by simp [laws_FnRepaired.l0])
           | succ k3=>
            have H:=HA.out
            clear HA
            simp only [laws_FnRepaired.l0] at H
            by_cases c46 : x8_3 < (wrap64 ((wrap64 ((wrap64 (1 + (Int.tmod t291 6))) + (Int.tmod t292 4))) + (Int.tmod t294 (wrap64 ((wrap64 (1 + (Int.tmod t291 6))) + 1)))))
            ·rw [if_pos c46] at H
             have c46b0:=decide_eq_true c46
             clear c46
             obtain ⟨y311,hy311⟩ : ∃ y_ : List Bool,y_ = (([] : List Bool)):=⟨_,rfl⟩
             replace H : (laws_FnRepaired.l1 k3 l1 (wrap64 ((wrap64 ((wrap64 (1 + (Int.tmod t291 6))) + (Int.tmod t292 4))) + (Int.tmod t294 (wrap64 ((wrap64 (1 + (Int.tmod t291 6))) + 1))))) x8_3 y311 (([] : List (S61))) 0 (wrap64 (1 + (Int.tmod t291 6))) (Int.tmod t292 4) (Int.tmod t294 (wrap64 ((wrap64 (1 + (Int.tmod t291 6))) + 1))) t298 t299) = some true:=by rw [hy311];exact H
             have Ny311:=M0 hy311
             clear hy311
             obtain ⟨y314,hy314⟩ : ∃ y_ : List (S61),y_ = (([] : List (S61))):=⟨_,rfl⟩
             replace H : (laws_FnRepaired.l1 k3 l1 (wrap64 ((wrap64 ((wrap64 (1 + (Int.tmod t291 6))) + (Int.tmod t292 4))) + (Int.tmod t294 (wrap64 ((wrap64 (1 + (Int.tmod t291 6))) + 1))))) x8_3 y311 y314 0 (wrap64 (1 + (Int.tmod t291 6))) (Int.tmod t292 4) (Int.tmod t294 (wrap64 ((wrap64 (1 + (Int.tmod t291 6))) + 1))) t298 t299) = some true:=by rw [hy314];exact H
             have Ny314:=M0 hy314
             clear hy314
             have H':=M0 H
             clear H
             go_wp2_with (first|((with_reducible refine gate_dst (N:=83) rfl ?_);(try (refine gate_guard (by rfl) ?_;dsimp only));refine Kd.R_lit Kd.bool _ 4 ?hg (N:=83) ?hd (xs:=([] : List Bool)) (inner:=[]) (ok:=fun _=>True) (okp:=fun _=>True) ?hr ?hp (fun _ hk=>hk) trivial (Below.refl _ _) (Nat.le_refl _) (by simp) ?_;(case hd=>rfl);(case hg=>rfl);(case hr=>(go_simp;done));(case hp=>exact (Reps.none _ _));intro v312 w47 ho48 hb hg_ hnew_;clear hg_ hnew_;(rw [← Ny311.out] at ho48);replace HO_303001:=M0 (Kd.R_below HO_303001.out hb);have HO313:=M0 (Kd.R_lower ho48 (below_size HB.out));replace BK293:=M0 (blk_below (g:=gb293) (o:=.cells #[.int .i64 (wrap64 (1 + (Int.tmod t291 6))),.int .i64 (Int.tmod t292 4),.int .i64 (Int.tmod t294 (wrap64 ((wrap64 (1 + (Int.tmod t291 6))) + 1)))] 43 (0,0)) BK293.out hb);replace BK302:=M0 (blk_below BK302.out hb);replace HB:=M0 (below_step HB.out hb);clear hb ho48)|((with_reducible refine gate_dst (N:=84) rfl ?_);(try (refine gate_guard (by rfl) ?_;dsimp only));refine Kd.R_lit k61 _ 61 ?hg (N:=84) ?hd (xs:=([] : List (S61))) (inner:=[]) (ok:=fun _=>True) (okp:=fun _=>True) ?hr ?hp (fun _ hk=>hk) trivial (Below.refl _ _) (Nat.le_refl _) (by simp) ?_;(case hd=>rfl);(case hg=>rfl);(case hr=>(go_simp;done));(case hp=>exact (Reps.none _ _));intro v315 w49 ho50 hb hg_ hnew_;clear hg_ hnew_;(rw [← Ny314.out] at ho50);replace HO_303001:=M0 (Kd.R_below HO_303001.out hb);replace HO313:=M0 (Kd.R_below HO313.out hb);have HO316:=M0 (Kd.R_lower ho50 (below_size HB.out));replace BK293:=M0 (blk_below (g:=gb293) (o:=.cells #[.int .i64 (wrap64 (1 + (Int.tmod t291 6))),.int .i64 (Int.tmod t292 4),.int .i64 (Int.tmod t294 (wrap64 ((wrap64 (1 + (Int.tmod t291 6))) + 1)))] 43 (0,0)) BK293.out hb);replace BK302:=M0 (blk_below BK302.out hb);replace HB:=M0 (below_step HB.out hb);clear hb ho50))
             go_loopg [9,10,11] k3 (fun kq v9 v10 v11 w'=>∃ (x9_4 : List Bool) (x10_4 : List (S61)) (x11_4 : Int),v11 = .int .i64 x11_4 ∧ Aside0 (laws_FnRepaired.l1 kq l1 (wrap64 ((wrap64 ((wrap64 (1 + (Int.tmod t291 6))) + (Int.tmod t292 4))) + (Int.tmod t294 (wrap64 ((wrap64 (1 + (Int.tmod t291 6))) + 1))))) x8_3 x9_4 x10_4 x11_4 (wrap64 (1 + (Int.tmod t291 6))) (Int.tmod t292 4) (Int.tmod t294 (wrap64 ((wrap64 (1 + (Int.tmod t291 6))) + 1))) t298 t299 = some true) ∧ Aside0 (kq ≤ k3) ∧ Aside0 (Kd.R Kd.bool 4 w' w.heap.size (fun _=>True) v9 x9_4) ∧ Aside0 (Kd.R k61 61 w' w.heap.size (fun _=>True) v10 x10_4) ∧ Aside0 (Kd.R Kd.string 9 w' w.heap.size (fun _=>True) (.slice Ao26 t299.length co26) t299) ∧ Aside0 (w'.heap[gb293]? = some (.cells #[.int .i64 (wrap64 (1 + (Int.tmod t291 6))),.int .i64 (Int.tmod t292 4),.int .i64 (Int.tmod t294 (wrap64 ((wrap64 (1 + (Int.tmod t291 6))) + 1)))] 43 (0,0))) ∧ Aside0 (w'.heap[gb302]? = some (.cells #[.int .i64 t298,(.slice Ao26 t299.length co26)] 68 (0,0))) ∧ Aside0 (Below w.heap.size w w'))
             case atStart=>exact ⟨(y311),(y314),(0),(by rfl),H',⟨Nat.le_refl _⟩,⟨by exact HO313.out⟩,⟨by exact HO316.out⟩,⟨by exact HO_303001.out⟩,⟨by exact BK293.out⟩,⟨by exact BK302.out⟩,⟨HB.out⟩⟩
             case round=>
              as_aux_lemma=>
               clear H'
               (try clear c46b0)
               obtain ⟨x9_4,x10_4,x11_4,rfl,HA,HK4,HO_9,HO_10,HO_303001,BK293,BK302,HB⟩:=hrel
               cases gk with
               | zero=>exact absurd HA.out (by simp [laws_FnRepaired.l1])
               | succ k4=>
                have H:=HA.out
                clear HA
                simp only [laws_FnRepaired.l1] at H
                by_cases c51 : x11_4 < (wrap64 ((wrap64 ((wrap64 (1 + (Int.tmod t291 6))) + (Int.tmod t292 4))) + (Int.tmod t294 (wrap64 ((wrap64 (1 + (Int.tmod t291 6))) + 1)))))
                ·rw [if_pos c51] at H
                 have c51b0:=decide_eq_true c51
                 clear c51
                 by_cases c52 : x11_4 = x8_3
                 ·rw [if_pos c52] at H
                  have c52b0 : (x11_4 == x8_3) = true:=beq_iff_eq.mpr c52
                  have c52b1 : (x11_4 != x8_3) = false:=bne_eq_false_iff_eq.mpr c52
                  clear c52
                  obtain ⟨c53,H⟩:=nn H
                  have LMc53:=M0 c53
                  clear c53
                  obtain ⟨y317,hy317⟩ : ∃ y_ : List Bool,y_ = (x9_4 ++ [false]):=⟨_,rfl⟩
                  replace H : (if x10_4.length < 5864062014805 then (laws_FnRepaired.l1 k4 l1 (wrap64 ((wrap64 ((wrap64 (1 + (Int.tmod t291 6))) + (Int.tmod t292 4))) + (Int.tmod t294 (wrap64 ((wrap64 (1 + (Int.tmod t291 6))) + 1))))) x8_3 y317 (x10_4 ++ [(⟨false,(⟨#[]⟩ : ByteArray)⟩ : S61)]) (wrap64 (x11_4 + 1)) (wrap64 (1 + (Int.tmod t291 6))) (Int.tmod t292 4) (Int.tmod t294 (wrap64 ((wrap64 (1 + (Int.tmod t291 6))) + 1))) t298 t299) else (none)) = some true:=by rw [hy317];exact H
                  have Ny317:=M0 hy317
                  clear hy317
                  obtain ⟨c54,H⟩:=nn H
                  have LMc54:=M0 c54
                  clear c54
                  obtain ⟨y321,hy321⟩ : ∃ y_ : List (S61),y_ = (x10_4 ++ [(⟨false,(⟨#[]⟩ : ByteArray)⟩ : S61)]):=⟨_,rfl⟩
                  replace H : (laws_FnRepaired.l1 k4 l1 (wrap64 ((wrap64 ((wrap64 (1 + (Int.tmod t291 6))) + (Int.tmod t292 4))) + (Int.tmod t294 (wrap64 ((wrap64 (1 + (Int.tmod t291 6))) + 1))))) x8_3 y317 y321 (wrap64 (x11_4 + 1)) (wrap64 (1 + (Int.tmod t291 6))) (Int.tmod t292 4) (Int.tmod t294 (wrap64 ((wrap64 (1 + (Int.tmod t291 6))) + 1))) t298 t299) = some true:=by rw [hy321];exact H
                  have Ny321:=M0 hy321
                  clear hy321
                  have H':=M0 H
                  clear H
                  go_wp2_with (first|((with_reducible refine gate_builtin (b:=.append) (xs:=#[.tmp 102,.tmp 104]) rfl ?_);(try (refine gate_guard (by rfl) ?_;dsimp only));at_builtin;refine Kd.R_append Kd.bool (w0:=w) w.heap.size rfl (.tmp 102) (.tmp 104) 72 4 (.bool false) 1 rfl Try.underlying72 info4 rfl (by decide) (by omega) u9 x9_4 false [.bool false] (fun _=>True) (fun _=>False) rfl rfl ?aP (fun _ hk=>hk.elim) ?aF ?aO ?aB ?aS ?aL ?_;(case aP=>exact rfl);(case aB=>exact HB.out);(case aF=>exact (fun _ _=>trivial));(case aO=>exact HO_9.out);(case aS=>exact (below_size HB.out));(case aL=>have:=LMc53.out;omega);intro v318 w55 ho hb hg hat;rw [← Ny317.out] at ho;have n0_:=M0 (Kd.R_over' HO_10.out (Kd.R_typed HO_9.out) (by decide) hg);have n1_:=M0 (Kd.R_over' HO_303001.out (Kd.R_typed HO_9.out) (by decide) hg);have n2_:=M0 (blk_grown (g:=gb293) (o:=.cells #[.int .i64 (wrap64 (1 + (Int.tmod t291 6))),.int .i64 (Int.tmod t292 4),.int .i64 (Int.tmod t294 (wrap64 ((wrap64 (1 + (Int.tmod t291 6))) + 1)))] 43 (0,0)) BK293.out hg (Kd.R_ne HO_9.out BK293.out (by decide)));have n3_:=M0 (blk_grown (g:=gb302) (o:=.cells #[.int .i64 t298,.slice Ao26 t299.length co26] 68 (0,0)) BK302.out hg (Kd.R_ne HO_9.out BK302.out (by decide)));have n4_:=M0 (hb);have n5_:=M0 (ho);clear HO_10 HO_303001 BK293 BK302 HB HO_9;have HO_10:=n0_;have HO_303001:=n1_;have BK293:=n2_;have BK302:=n3_;have HB:=n4_;have HO319:=n5_;clear n0_ n1_ n2_ n3_ n4_ n5_ ho hb hg hat)|((with_reducible refine gate_dst (N:=13) rfl ?_);(try (refine gate_guard (by rfl) ?_;dsimp only));refine box_event rfl (N:=13) rfl (cs:=#[.bool false,.string (⟨#[]⟩ : ByteArray)]) (t:=61) (by go_simp) ?_;intro gb320 hg w56 hbox hb;replace HO_10:=M0 (Kd.R_below (Kd.R_elderB HO_10.out gb320 (Nat.le_of_eq hg.symm)) hb);replace HO_303001:=M0 (Kd.R_below HO_303001.out hb);replace HO319:=M0 (Kd.R_below HO319.out hb);have BK320:=M0 (hbox);have GW320:=M0 ((by rw [hg];exact (below_size HB.out) : w.heap.size ≤ gb320));have GE320:=GW320;replace HB:=M0 (below_step HB.out hb);have NB293_320:=M0 ((by rw [hg];exact Nat.ne_of_lt (blk_lt (g:=gb293) (o:=.cells #[.int .i64 (wrap64 (1 + (Int.tmod t291 6))),.int .i64 (Int.tmod t292 4),.int .i64 (Int.tmod t294 (wrap64 ((wrap64 (1 + (Int.tmod t291 6))) + 1)))] 43 (0,0)) BK293.out) : gb293 ≠ gb320));have NB320_293:=M0 ((by rw [hg];exact Nat.ne_of_gt (blk_lt (g:=gb293) (o:=.cells #[.int .i64 (wrap64 (1 + (Int.tmod t291 6))),.int .i64 (Int.tmod t292 4),.int .i64 (Int.tmod t294 (wrap64 ((wrap64 (1 + (Int.tmod t291 6))) + 1)))] 43 (0,0)) BK293.out) : gb320 ≠ gb293));replace BK293:=M0 (blk_below (g:=gb293) (o:=.cells #[.int .i64 (wrap64 (1 + (Int.tmod t291 6))),.int .i64 (Int.tmod t292 4),.int .i64 (Int.tmod t294 (wrap64 ((wrap64 (1 + (Int.tmod t291 6))) + 1)))] 43 (0,0)) BK293.out hb);have NB302_320:=M0 ((by rw [hg];exact Nat.ne_of_lt (blk_lt BK302.out) : gb302 ≠ gb320));have NB320_302:=M0 NB302_320.out.symm;replace BK302:=M0 (blk_below BK302.out hb);clear hb hbox hg;have hnb57:=NB320_293.out;have hnc57:=NB293_320.out;have hnb58:=NB320_302.out;have hnc58:=NB302_320.out;have hcz59_0:=bcv (v:=.bool false) BK320.out 0 rfl;have hcz59_1:=bcv (v:=.string (⟨#[]⟩ : ByteArray)) BK320.out 1 rfl;have hfz59_0:=blk_frozen BK320.out 0;have hfz59_1:=blk_frozen BK320.out 1)|((with_reducible refine gate_builtin (b:=.append) (xs:=#[.tmp 115,.tmp 117]) rfl ?_);(try (refine gate_guard (by rfl) ?_;dsimp only));at_builtin;refine Kd.R_append k61 (w0:=w) w.heap.size rfl (.tmp 115) (.tmp 117) 53 61 (.agg #[(.bool false),(.string ⟨#[]⟩)]) 24 rfl Try.underlying53 info61 rfl (by decide) (by omega) u10 x10_4 (⟨false,(⟨#[]⟩ : ByteArray)⟩ : S61) [.bool false,.string (⟨#[]⟩ : ByteArray)] (fun k_=>k_ ≠ gb320) (fun _=>False) rfl (by (go_simp;done)) ?aP (fun _ hk=>hk.elim) ?aF ?aO ?aB ?aS ?aL ?_;(case aP=>exact k61_mkM _ _ _ (⟨false,(⟨#[]⟩ : ByteArray)⟩ : S61));(case aB=>exact (by repeat ((with_reducible first|exact HB.out|refine below_set ?_ GE320.out))));(case aF=>exact (fun k_ hk=>Kd.freshB (g:=gb320) (o:=.cells #[.bool false,.string (⟨#[]⟩ : ByteArray)] 61 (0,0)) (by refine blk_put (cs:=#[.bool false,.string (⟨#[]⟩ : ByteArray)]) ?_ 1 _ rfl;refine blk_put (cs:=#[.bool false,.string (⟨#[]⟩ : ByteArray)]) ?_ 0 _ rfl;exact BK320.out) k_ hk));(case aO=>exact (by exact Kd.R_mono (Kd.R_far (p:=⟨gb320,1,none⟩) (Kd.R_far (p:=⟨gb320,0,none⟩) (Kd.R_mono HO_10.out (fun k_ hk=>(⟨hk,hk.2⟩ : _ ∧ k_ ≠ gb320))) (fun _ hk=>hk.2) (.bool false)) (fun _ hk=>hk.2) (.string (⟨#[]⟩ : ByteArray))) (fun _ hk=>hk.1.2)));(case aS=>exact (below_size (by repeat ((with_reducible first|exact HB.out|refine below_set ?_ GE320.out)))));(case aL=>have:=LMc54.out;omega);intro v322 w60 ho hb hg hat;rw [← Ny321.out] at ho;have n0_:=M0 (Kd.R_over' (by exact (Kd.R_mono (Kd.R_far (p:=⟨gb320,1,none⟩) (Kd.R_far (p:=⟨gb320,0,none⟩) (Kd.R_types HO_303001.out BK320.out (by decide)) (fun _ hk=>hk.2) (.bool false)) (fun _ hk=>hk.2) (.string (⟨#[]⟩ : ByteArray))) (fun _ h_=>h_.1))) (Kd.R_typed (by exact (Kd.R_mono (Kd.R_far (p:=⟨gb320,1,none⟩) (Kd.R_far (p:=⟨gb320,0,none⟩) (Kd.R_mono HO_10.out (fun k_ hk=>(⟨hk,hk.2⟩ : _ ∧ k_ ≠ gb320))) (fun _ hk=>hk.2) (.bool false)) (fun _ hk=>hk.2) (.string (⟨#[]⟩ : ByteArray))) (fun _ h_=>h_.1)))) (by decide) hg);have n1_:=M0 (blk_grown (g:=gb293) (o:=.cells #[.int .i64 (wrap64 (1 + (Int.tmod t291 6))),.int .i64 (Int.tmod t292 4),.int .i64 (Int.tmod t294 (wrap64 ((wrap64 (1 + (Int.tmod t291 6))) + 1)))] 43 (0,0)) (by refine blk_far ?_ NB293_320.out _;refine blk_far ?_ NB293_320.out _;exact BK293.out) hg (Kd.R_ne HO_10.out BK293.out (by decide)));have n2_:=M0 (blk_grown (g:=gb302) (o:=.cells #[.int .i64 t298,.slice Ao26 t299.length co26] 68 (0,0)) (by refine blk_far ?_ NB302_320.out _;refine blk_far ?_ NB302_320.out _;exact BK302.out) hg (Kd.R_ne HO_10.out BK302.out (by decide)));have n3_:=M0 (Kd.R_over' (by exact (Kd.R_mono (Kd.R_far (p:=⟨gb320,1,none⟩) (Kd.R_far (p:=⟨gb320,0,none⟩) (Kd.R_types HO319.out BK320.out (by decide)) (fun _ hk=>hk.2) (.bool false)) (fun _ hk=>hk.2) (.string (⟨#[]⟩ : ByteArray))) (fun _ h_=>h_.1))) (Kd.R_typed (by exact (Kd.R_mono (Kd.R_far (p:=⟨gb320,1,none⟩) (Kd.R_far (p:=⟨gb320,0,none⟩) (Kd.R_mono HO_10.out (fun k_ hk=>(⟨hk,hk.2⟩ : _ ∧ k_ ≠ gb320))) (fun _ hk=>hk.2) (.bool false)) (fun _ hk=>hk.2) (.string (⟨#[]⟩ : ByteArray))) (fun _ h_=>h_.1)))) (by decide) hg);have n4_:=M0 (blk_grown (g:=gb320) (o:=.cells #[.bool false,.string (⟨#[]⟩ : ByteArray)] 61 (0,0)) (by refine blk_put (cs:=#[.bool false,.string (⟨#[]⟩ : ByteArray)]) ?_ 1 _ rfl;refine blk_put (cs:=#[.bool false,.string (⟨#[]⟩ : ByteArray)]) ?_ 0 _ rfl;exact BK320.out) hg (Kd.R_away HO_10.out (fun _ hk=>hk.2)));have n5_:=M0 (hb);have n6_:=M0 (ho);clear HO_303001 BK293 BK302 HO319 BK320 HB HO_10;have HO_303001:=n0_;have BK293:=n1_;have BK302:=n2_;have HO319:=n3_;have BK320:=n4_;have HB:=n5_;have HO323:=n6_;clear n0_ n1_ n2_ n3_ n4_ n5_ n6_ ho hb hg hat))
                  go_roundg k4
                  case measure=>have:=HJ2.out;have:=HJ11.out;have:=HK3.out;have:=HK4.out;omega
                  case rel=>exact ⟨(y317),(y321),(wrap64 (x11_4 + 1)),(by rfl),H',⟨by have:=HJ2.out;have:=HJ11.out;have:=HK3.out;have:=HK4.out;omega⟩,⟨by exact HO319.out⟩,⟨by exact Kd.R_mono HO323.out (fun _ hk=>trivial)⟩,⟨by exact HO_303001.out⟩,⟨by exact BK293.out⟩,⟨by exact BK302.out⟩,⟨HB.out⟩⟩
                 ·rw [if_neg c52] at H
                  have c52b0 : (x11_4 == x8_3) = false:=beq_eq_false_iff_ne.mpr c52
                  have c52b1 : (x11_4 != x8_3) = true:=bne_iff_ne.mpr c52
                  replace H:=Option.bind_eq_some_iff.mp H
                  obtain ⟨t324,A610,H⟩:=H
                  replace H : (if x9_4.length < 140737488355328 then ((some (x9_4 ++ [decide ((Int.tmod t324 5) > 0)] : List Bool)).bind fun y325=>(if (Int.tmod t324 5) > 0 then (if 0 ≤ x11_4 then (if x11_4 < (t299.length : Int) then (if x10_4.length < 5864062014805 then (laws_FnRepaired.l1 k4 l1 (wrap64 ((wrap64 ((wrap64 (1 + (Int.tmod t291 6))) + (Int.tmod t292 4))) + (Int.tmod t294 (wrap64 ((wrap64 (1 + (Int.tmod t291 6))) + 1))))) x8_3 y325 (x10_4 ++ [(⟨decide ((Int.tmod t324 5) > 0),rdOf ByteArray.empty t299 x11_4⟩ : S61)]) (wrap64 (x11_4 + 1)) (wrap64 (1 + (Int.tmod t291 6))) (Int.tmod t292 4) (Int.tmod t294 (wrap64 ((wrap64 (1 + (Int.tmod t291 6))) + 1))) t298 t299) else (none)) else (none)) else (none)) else (if x10_4.length < 5864062014805 then (laws_FnRepaired.l1 k4 l1 (wrap64 ((wrap64 ((wrap64 (1 + (Int.tmod t291 6))) + (Int.tmod t292 4))) + (Int.tmod t294 (wrap64 ((wrap64 (1 + (Int.tmod t291 6))) + 1))))) x8_3 y325 (x10_4 ++ [(⟨decide ((Int.tmod t324 5) > 0),(⟨#[]⟩ : ByteArray)⟩ : S61)]) (wrap64 (x11_4 + 1)) (wrap64 (1 + (Int.tmod t291 6))) (Int.tmod t292 4) (Int.tmod t294 (wrap64 ((wrap64 (1 + (Int.tmod t291 6))) + 1))) t298 t299) else (none)))) else (none)) = some true:=H
                  have A61:=M0 A610
                  clear A610
                  obtain ⟨c62,H⟩:=nn H
                  have LMc62:=M0 c62
                  clear c62
                  obtain ⟨y325,hy325⟩ : ∃ y_ : List Bool,y_ = (x9_4 ++ [decide ((Int.tmod t324 5) > 0)]):=⟨_,rfl⟩
                  replace H : (if (Int.tmod t324 5) > 0 then (if 0 ≤ x11_4 then (if x11_4 < (t299.length : Int) then (if x10_4.length < 5864062014805 then (laws_FnRepaired.l1 k4 l1 (wrap64 ((wrap64 ((wrap64 (1 + (Int.tmod t291 6))) + (Int.tmod t292 4))) + (Int.tmod t294 (wrap64 ((wrap64 (1 + (Int.tmod t291 6))) + 1))))) x8_3 y325 (x10_4 ++ [(⟨decide ((Int.tmod t324 5) > 0),rdOf ByteArray.empty t299 x11_4⟩ : S61)]) (wrap64 (x11_4 + 1)) (wrap64 (1 + (Int.tmod t291 6))) (Int.tmod t292 4) (Int.tmod t294 (wrap64 ((wrap64 (1 + (Int.tmod t291 6))) + 1))) t298 t299) else (none)) else (none)) else (none)) else (if x10_4.length < 5864062014805 then (laws_FnRepaired.l1 k4 l1 (wrap64 ((wrap64 ((wrap64 (1 + (Int.tmod t291 6))) + (Int.tmod t292 4))) + (Int.tmod t294 (wrap64 ((wrap64 (1 + (Int.tmod t291 6))) + 1))))) x8_3 y325 (x10_4 ++ [(⟨decide ((Int.tmod t324 5) > 0),(⟨#[]⟩ : ByteArray)⟩ : S61)]) (wrap64 (x11_4 + 1)) (wrap64 (1 + (Int.tmod t291 6))) (Int.tmod t292 4) (Int.tmod t294 (wrap64 ((wrap64 (1 + (Int.tmod t291 6))) + 1))) t298 t299) else (none))) = some true:=by (have H2_:=(Option.bind_some _ _).symm.trans H;rw [hy325];with_reducible exact H2_)
                  have Ny325:=M0 hy325
                  clear hy325
                  by_cases c63 : (Int.tmod t324 5) > 0
                  ·rw [if_pos c63] at H
                   have hdc : decide ((Int.tmod t324 5) > 0) = true:=decide_eq_true c63
                   rw [hdc] at H Ny325
                   clear hdc
                   have c63b0:=decide_eq_true c63
                   clear c63
                   obtain ⟨c64,H⟩:=nn H
                   have c64b0:=decide_eq_true c64
                   clear c64
                   obtain ⟨c65,H⟩:=nn H
                   have c65b0:=decide_eq_true c65
                   clear c65
                   obtain ⟨c66,H⟩:=nn H
                   have LMc66:=M0 c66
                   clear c66
                   obtain ⟨y330,hy330⟩ : ∃ y_ : List (S61),y_ = (x10_4 ++ [(⟨true,rdOf ByteArray.empty t299 x11_4⟩ : S61)]):=⟨_,rfl⟩
                   replace H : (laws_FnRepaired.l1 k4 l1 (wrap64 ((wrap64 ((wrap64 (1 + (Int.tmod t291 6))) + (Int.tmod t292 4))) + (Int.tmod t294 (wrap64 ((wrap64 (1 + (Int.tmod t291 6))) + 1))))) x8_3 y325 y330 (wrap64 (x11_4 + 1)) (wrap64 (1 + (Int.tmod t291 6))) (Int.tmod t292 4) (Int.tmod t294 (wrap64 ((wrap64 (1 + (Int.tmod t291 6))) + 1))) t298 t299) = some true:=by rw [hy330];exact H
                   have Ny330:=M0 hy330
                   clear hy330
                   have H':=M0 H
                   clear H
                   go_wp2_with (first|(go_at_call 29;(with_reducible refine (laws_lwAt.calls _ _ l1 (wrap64 (x11_4 + x8_3)) t324 _ (Kd.C_below HR1.out HB.out) HC1.out A61.out).mono ?_);rintro e w' ⟨rfl,⟨nd,rfl⟩⟩;(try (rw [drewN_self wr];generalize hq_ : World.drewN wr _ = wr;have n0_ : Aside0 (Kd.R k61 61 wr w.heap.size (fun _=>True) u10 x10_4):=⟨by rw [← hq_];exact (by (with_reducible repeat (apply Kd.R_drewN));exact HO_10.out)⟩;have n1_ : Aside0 (Kd.R Kd.string 9 wr w.heap.size (fun _=>True) (.slice Ao26 t299.length co26) t299):=⟨by rw [← hq_];exact (by (with_reducible repeat (apply Kd.R_drewN));exact HO_303001.out)⟩;have n2_ : Aside0 (Kd.R Kd.bool 4 wr w.heap.size (fun _=>True) u9 x9_4):=⟨by rw [← hq_];exact (by (with_reducible repeat (apply Kd.R_drewN));exact HO_9.out)⟩;have n3_ : Aside0 (wr.heap[gb293]? = some (.cells #[.int .i64 (wrap64 (1 + (Int.tmod t291 6))),.int .i64 (Int.tmod t292 4),.int .i64 (Int.tmod t294 (wrap64 ((wrap64 (1 + (Int.tmod t291 6))) + 1)))] 43 (0,0))):=⟨by rw [← hq_];exact (by (with_reducible repeat (refine blk_drewN ?_ _));exact BK293.out)⟩;have n4_ : Aside0 (wr.heap[gb302]? = some (.cells #[.int .i64 t298,.slice Ao26 t299.length co26] 68 (0,0))):=⟨by rw [← hq_];exact (by (with_reducible repeat (refine blk_drewN ?_ _));exact BK302.out)⟩;have n5_ : Aside0 (Below w.heap.size w wr):=⟨by rw [← hq_];exact (by repeat ((with_reducible first|exact HB.out|apply pw_below_drewN)))⟩;clear HO_10 HO_303001 HO_9 BK293 BK302 HB hq_;have HO_10:=n0_;have HO_303001:=n1_;have HO_9:=n2_;have BK293:=n3_;have BK302:=n4_;have HB:=n5_;clear n0_ n1_ n2_ n3_ n4_ n5_)))|((with_reducible refine gate_builtin (b:=.append) (xs:=#[.tmp 102,.tmp 104]) rfl ?_);(try (refine gate_guard (by rfl) ?_;dsimp only));at_builtin;refine Kd.R_append Kd.bool (w0:=w) w.heap.size rfl (.tmp 102) (.tmp 104) 72 4 (.bool false) 1 rfl Try.underlying72 info4 rfl (by decide) (by omega) u9 x9_4 true [.bool true] (fun _=>True) (fun _=>False) rfl rfl ?aP (fun _ hk=>hk.elim) ?aF ?aO ?aB ?aS ?aL ?_;(case aP=>exact rfl);(case aB=>exact HB.out);(case aF=>exact (fun _ _=>trivial));(case aO=>exact HO_9.out);(case aS=>exact (below_size HB.out));(case aL=>have:=LMc62.out;omega);intro v326 w67 ho hb hg hat;rw [← Ny325.out] at ho;have n0_:=M0 (Kd.R_over' HO_10.out (Kd.R_typed HO_9.out) (by decide) hg);have n1_:=M0 (Kd.R_over' HO_303001.out (Kd.R_typed HO_9.out) (by decide) hg);have n2_:=M0 (blk_grown (g:=gb293) (o:=.cells #[.int .i64 (wrap64 (1 + (Int.tmod t291 6))),.int .i64 (Int.tmod t292 4),.int .i64 (Int.tmod t294 (wrap64 ((wrap64 (1 + (Int.tmod t291 6))) + 1)))] 43 (0,0)) BK293.out hg (Kd.R_ne HO_9.out BK293.out (by decide)));have n3_:=M0 (blk_grown (g:=gb302) (o:=.cells #[.int .i64 t298,.slice Ao26 t299.length co26] 68 (0,0)) BK302.out hg (Kd.R_ne HO_9.out BK302.out (by decide)));have n4_:=M0 (hb);have n5_:=M0 (ho);clear HO_10 HO_303001 BK293 BK302 HB HO_9;have HO_10:=n0_;have HO_303001:=n1_;have BK293:=n2_;have BK302:=n3_;have HB:=n4_;have HO327:=n5_;clear n0_ n1_ n2_ n3_ n4_ n5_ ho hb hg hat)|((with_reducible refine gate_dst (N:=13) rfl ?_);(try (refine gate_guard (by rfl) ?_;dsimp only));refine box_event rfl (N:=13) rfl (cs:=#[.bool false,.string (⟨#[]⟩ : ByteArray)]) (t:=61) (by go_simp) ?_;intro gb328 hg w68 hbox hb;replace HO_10:=M0 (Kd.R_below (Kd.R_elderB HO_10.out gb328 (Nat.le_of_eq hg.symm)) hb);replace HO_303001:=M0 (Kd.R_below HO_303001.out hb);replace HO327:=M0 (Kd.R_below HO327.out hb);have BK328:=M0 (hbox);have GW328:=M0 ((by rw [hg];exact (below_size HB.out) : w.heap.size ≤ gb328));have GE328:=GW328;replace HB:=M0 (below_step HB.out hb);have NB293_328:=M0 ((by rw [hg];exact Nat.ne_of_lt (blk_lt (g:=gb293) (o:=.cells #[.int .i64 (wrap64 (1 + (Int.tmod t291 6))),.int .i64 (Int.tmod t292 4),.int .i64 (Int.tmod t294 (wrap64 ((wrap64 (1 + (Int.tmod t291 6))) + 1)))] 43 (0,0)) BK293.out) : gb293 ≠ gb328));have NB328_293:=M0 ((by rw [hg];exact Nat.ne_of_gt (blk_lt (g:=gb293) (o:=.cells #[.int .i64 (wrap64 (1 + (Int.tmod t291 6))),.int .i64 (Int.tmod t292 4),.int .i64 (Int.tmod t294 (wrap64 ((wrap64 (1 + (Int.tmod t291 6))) + 1)))] 43 (0,0)) BK293.out) : gb328 ≠ gb293));replace BK293:=M0 (blk_below (g:=gb293) (o:=.cells #[.int .i64 (wrap64 (1 + (Int.tmod t291 6))),.int .i64 (Int.tmod t292 4),.int .i64 (Int.tmod t294 (wrap64 ((wrap64 (1 + (Int.tmod t291 6))) + 1)))] 43 (0,0)) BK293.out hb);have NB302_328:=M0 ((by rw [hg];exact Nat.ne_of_lt (blk_lt BK302.out) : gb302 ≠ gb328));have NB328_302:=M0 NB302_328.out.symm;replace BK302:=M0 (blk_below BK302.out hb);clear hb hbox hg;have hnb69:=NB328_293.out;have hnc69:=NB293_328.out;have hnb70:=NB328_302.out;have hnc70:=NB302_328.out;have hcz71_0:=bcv (v:=.bool false) BK328.out 0 rfl;have hcz71_1:=bcv (v:=.string (⟨#[]⟩ : ByteArray)) BK328.out 1 rfl;have hfz71_0:=blk_frozen BK328.out 0;have hfz71_1:=blk_frozen BK328.out 1;have hnb72:=NB302_293.out;have hnc72:=NB293_302.out;have hcz73_0:=bcv (v:=.int .i64 t298) BK302.out 0 rfl;have hcz73_1:=bcv (v:=.slice Ao26 t299.length co26) BK302.out 1 rfl;have hfz73_0:=blk_frozen BK302.out 0;have hfz73_1:=blk_frozen BK302.out 1;have p329 : 0 ≤ (x11_4 : Int):=of_decide_eq_true (by with_reducible assumption);have q329 : x11_4 < (t299.length : Int):=of_decide_eq_true (by with_reducible assumption);obtain ⟨ad329,e329,hx329_0⟩:=Kd.at_string (Kd.R_reads' HO_303001.out).2.2 x11_4 p329 q329;cases e329;have hn329_0 : ad329.block ≠ gb328:=Kd.own_blk (Kd.R_ne HO_303001.out BK328.out (by decide));have hn329_1 : ad329.block ≠ gb328:=Kd.own_blk (Kd.R_ne HO_303001.out BK328.out (by decide));replace hx329_0:=(cell_far (p:=⟨gb328,0,none⟩) (by rw [add_block];exact hn329_0) (.bool true)).trans hx329_0;replace hx329_0:=(cell_far (p:=⟨gb328,1,none⟩) (by rw [add_block];exact hn329_1) (.string (⟨#[]⟩ : ByteArray))).trans hx329_0;have hcm_ : ((w68.setCell ⟨gb328,0,none⟩ (.bool true)).setCell ⟨gb328,1,none⟩ (.string (⟨#[]⟩ : ByteArray))).cell? ⟨gb328,1,none⟩ = some (.string (⟨#[]⟩ : ByteArray)):=World.cell?_setCell_same _ _ _ ((World.cell?_setCell_other _ _ _ _ (by simp)).trans hcz71_1);clear hn329_0 hn329_1;replace p329:=eq_true p329;replace q329:=eq_true q329)|((with_reducible refine gate_builtin (b:=.append) (xs:=#[.tmp 115,.tmp 117]) rfl ?_);(try (refine gate_guard (by rfl) ?_;dsimp only));at_builtin;refine Kd.R_append k61 (w0:=w) w.heap.size rfl (.tmp 115) (.tmp 117) 53 61 (.agg #[(.bool false),(.string ⟨#[]⟩)]) 24 rfl Try.underlying53 info61 rfl (by decide) (by omega) u10 x10_4 (⟨true,rdOf ByteArray.empty t299 x11_4⟩ : S61) [.bool true,.string (rdOf ByteArray.empty t299 x11_4)] (fun k_=>k_ ≠ gb328) (fun _=>False) rfl (by (go_simp;done)) ?aP (fun _ hk=>hk.elim) ?aF ?aO ?aB ?aS ?aL ?_;(case aP=>exact k61_mkM _ _ _ (⟨true,rdOf ByteArray.empty t299 x11_4⟩ : S61));(case aB=>exact (by repeat ((with_reducible first|exact HB.out|refine below_set ?_ GE328.out))));(case aF=>exact (fun k_ hk=>Kd.freshB (g:=gb328) (o:=.cells #[.bool true,.string (rdOf ByteArray.empty t299 x11_4)] 61 (0,0)) (by refine blk_put (cs:=#[.bool true,.string (⟨#[]⟩ : ByteArray)]) ?_ 1 _ rfl;refine blk_put (cs:=#[.bool true,.string (⟨#[]⟩ : ByteArray)]) ?_ 1 _ rfl;refine blk_put (cs:=#[.bool false,.string (⟨#[]⟩ : ByteArray)]) ?_ 0 _ rfl;exact BK328.out) k_ hk));(case aO=>exact (by exact Kd.R_mono (Kd.R_far (p:=⟨gb328,1,none⟩) (Kd.R_far (p:=⟨gb328,1,none⟩) (Kd.R_far (p:=⟨gb328,0,none⟩) (Kd.R_mono HO_10.out (fun k_ hk=>(⟨hk,hk.2⟩ : _ ∧ k_ ≠ gb328))) (fun _ hk=>hk.2) (.bool true)) (fun _ hk=>hk.2) (.string (⟨#[]⟩ : ByteArray))) (fun _ hk=>hk.2) (.string (rdOf ByteArray.empty t299 x11_4))) (fun _ hk=>hk.1.2)));(case aS=>exact (below_size (by repeat ((with_reducible first|exact HB.out|refine below_set ?_ GE328.out)))));(case aL=>have:=LMc66.out;omega);intro v331 w74 ho hb hg hat;rw [← Ny330.out] at ho;have n0_:=M0 (Kd.R_over' (by exact (Kd.R_mono (Kd.R_far (p:=⟨gb328,1,none⟩) (Kd.R_far (p:=⟨gb328,1,none⟩) (Kd.R_far (p:=⟨gb328,0,none⟩) (Kd.R_types HO_303001.out BK328.out (by decide)) (fun _ hk=>hk.2) (.bool true)) (fun _ hk=>hk.2) (.string (⟨#[]⟩ : ByteArray))) (fun _ hk=>hk.2) (.string (rdOf ByteArray.empty t299 x11_4))) (fun _ h_=>h_.1))) (Kd.R_typed (by exact (Kd.R_mono (Kd.R_far (p:=⟨gb328,1,none⟩) (Kd.R_far (p:=⟨gb328,1,none⟩) (Kd.R_far (p:=⟨gb328,0,none⟩) (Kd.R_mono HO_10.out (fun k_ hk=>(⟨hk,hk.2⟩ : _ ∧ k_ ≠ gb328))) (fun _ hk=>hk.2) (.bool true)) (fun _ hk=>hk.2) (.string (⟨#[]⟩ : ByteArray))) (fun _ hk=>hk.2) (.string (rdOf ByteArray.empty t299 x11_4))) (fun _ h_=>h_.1)))) (by decide) hg);have n1_:=M0 (blk_grown (g:=gb293) (o:=.cells #[.int .i64 (wrap64 (1 + (Int.tmod t291 6))),.int .i64 (Int.tmod t292 4),.int .i64 (Int.tmod t294 (wrap64 ((wrap64 (1 + (Int.tmod t291 6))) + 1)))] 43 (0,0)) (by refine blk_far ?_ NB293_328.out _;refine blk_far ?_ NB293_328.out _;refine blk_far ?_ NB293_328.out _;exact BK293.out) hg (Kd.R_ne HO_10.out BK293.out (by decide)));have n2_:=M0 (blk_grown (g:=gb302) (o:=.cells #[.int .i64 t298,.slice (some ad329) t299.length co26] 68 (0,0)) (by refine blk_far ?_ NB302_328.out _;refine blk_far ?_ NB302_328.out _;refine blk_far ?_ NB302_328.out _;exact BK302.out) hg (Kd.R_ne HO_10.out BK302.out (by decide)));have n3_:=M0 (Kd.R_over' (by exact (Kd.R_mono (Kd.R_far (p:=⟨gb328,1,none⟩) (Kd.R_far (p:=⟨gb328,1,none⟩) (Kd.R_far (p:=⟨gb328,0,none⟩) (Kd.R_types HO327.out BK328.out (by decide)) (fun _ hk=>hk.2) (.bool true)) (fun _ hk=>hk.2) (.string (⟨#[]⟩ : ByteArray))) (fun _ hk=>hk.2) (.string (rdOf ByteArray.empty t299 x11_4))) (fun _ h_=>h_.1))) (Kd.R_typed (by exact (Kd.R_mono (Kd.R_far (p:=⟨gb328,1,none⟩) (Kd.R_far (p:=⟨gb328,1,none⟩) (Kd.R_far (p:=⟨gb328,0,none⟩) (Kd.R_mono HO_10.out (fun k_ hk=>(⟨hk,hk.2⟩ : _ ∧ k_ ≠ gb328))) (fun _ hk=>hk.2) (.bool true)) (fun _ hk=>hk.2) (.string (⟨#[]⟩ : ByteArray))) (fun _ hk=>hk.2) (.string (rdOf ByteArray.empty t299 x11_4))) (fun _ h_=>h_.1)))) (by decide) hg);have n4_:=M0 (blk_grown (g:=gb328) (o:=.cells #[.bool true,.string (rdOf ByteArray.empty t299 x11_4)] 61 (0,0)) (by refine blk_put (cs:=#[.bool true,.string (⟨#[]⟩ : ByteArray)]) ?_ 1 _ rfl;refine blk_put (cs:=#[.bool true,.string (⟨#[]⟩ : ByteArray)]) ?_ 1 _ rfl;refine blk_put (cs:=#[.bool false,.string (⟨#[]⟩ : ByteArray)]) ?_ 0 _ rfl;exact BK328.out) hg (Kd.R_away HO_10.out (fun _ hk=>hk.2)));have n5_:=M0 (hb);have n6_:=M0 (ho);clear HO_303001 BK293 BK302 HO327 BK328 HB HO_10;have HO_303001:=n0_;have BK293:=n1_;have BK302:=n2_;have HO327:=n3_;have BK328:=n4_;have HB:=n5_;have HO332:=n6_;clear n0_ n1_ n2_ n3_ n4_ n5_ n6_ ho hb hg hat))
                   go_roundg k4
                   case measure=>have:=HJ2.out;have:=HJ11.out;have:=HK3.out;have:=HK4.out;omega
                   case rel=>exact ⟨(y325),(y330),(wrap64 (x11_4 + 1)),(by rfl),H',⟨by have:=HJ2.out;have:=HJ11.out;have:=HK3.out;have:=HK4.out;omega⟩,⟨by exact HO327.out⟩,⟨by exact Kd.R_mono HO332.out (fun _ hk=>trivial)⟩,⟨by exact HO_303001.out⟩,⟨by exact BK293.out⟩,⟨by exact BK302.out⟩,⟨HB.out⟩⟩
                  ·rw [if_neg c63] at H
                   have hdc : decide ((Int.tmod t324 5) > 0) = false:=decide_eq_false c63
                   rw [hdc] at H Ny325
                   clear hdc
                   have c63b0:=decide_eq_false c63
                   clear c63
                   obtain ⟨c75,H⟩:=nn H
                   have LMc75:=M0 c75
                   clear c75
                   obtain ⟨y333,hy333⟩ : ∃ y_ : List (S61),y_ = (x10_4 ++ [(⟨false,(⟨#[]⟩ : ByteArray)⟩ : S61)]):=⟨_,rfl⟩
                   replace H : (laws_FnRepaired.l1 k4 l1 (wrap64 ((wrap64 ((wrap64 (1 + (Int.tmod t291 6))) + (Int.tmod t292 4))) + (Int.tmod t294 (wrap64 ((wrap64 (1 + (Int.tmod t291 6))) + 1))))) x8_3 y325 y333 (wrap64 (x11_4 + 1)) (wrap64 (1 + (Int.tmod t291 6))) (Int.tmod t292 4) (Int.tmod t294 (wrap64 ((wrap64 (1 + (Int.tmod t291 6))) + 1))) t298 t299) = some true:=by rw [hy333];exact H
                   have Ny333:=M0 hy333
                   clear hy333
                   have H':=M0 H
                   clear H
                   go_wp2_with (first|(go_at_call 29;(with_reducible refine (laws_lwAt.calls _ _ l1 (wrap64 (x11_4 + x8_3)) t324 _ (Kd.C_below HR1.out HB.out) HC1.out A61.out).mono ?_);rintro e w' ⟨rfl,⟨nd,rfl⟩⟩;(try (rw [drewN_self wr];generalize hq_ : World.drewN wr _ = wr;have n0_ : Aside0 (Kd.R k61 61 wr w.heap.size (fun _=>True) u10 x10_4):=⟨by rw [← hq_];exact (by (with_reducible repeat (apply Kd.R_drewN));exact HO_10.out)⟩;have n1_ : Aside0 (Kd.R Kd.string 9 wr w.heap.size (fun _=>True) (.slice Ao26 t299.length co26) t299):=⟨by rw [← hq_];exact (by (with_reducible repeat (apply Kd.R_drewN));exact HO_303001.out)⟩;have n2_ : Aside0 (Kd.R Kd.bool 4 wr w.heap.size (fun _=>True) u9 x9_4):=⟨by rw [← hq_];exact (by (with_reducible repeat (apply Kd.R_drewN));exact HO_9.out)⟩;have n3_ : Aside0 (wr.heap[gb293]? = some (.cells #[.int .i64 (wrap64 (1 + (Int.tmod t291 6))),.int .i64 (Int.tmod t292 4),.int .i64 (Int.tmod t294 (wrap64 ((wrap64 (1 + (Int.tmod t291 6))) + 1)))] 43 (0,0))):=⟨by rw [← hq_];exact (by (with_reducible repeat (refine blk_drewN ?_ _));exact BK293.out)⟩;have n4_ : Aside0 (wr.heap[gb302]? = some (.cells #[.int .i64 t298,.slice Ao26 t299.length co26] 68 (0,0))):=⟨by rw [← hq_];exact (by (with_reducible repeat (refine blk_drewN ?_ _));exact BK302.out)⟩;have n5_ : Aside0 (Below w.heap.size w wr):=⟨by rw [← hq_];exact (by repeat ((with_reducible first|exact HB.out|apply pw_below_drewN)))⟩;clear HO_10 HO_303001 HO_9 BK293 BK302 HB hq_;have HO_10:=n0_;have HO_303001:=n1_;have HO_9:=n2_;have BK293:=n3_;have BK302:=n4_;have HB:=n5_;clear n0_ n1_ n2_ n3_ n4_ n5_)))|((with_reducible refine gate_builtin (b:=.append) (xs:=#[.tmp 102,.tmp 104]) rfl ?_);(try (refine gate_guard (by rfl) ?_;dsimp only));at_builtin;refine Kd.R_append Kd.bool (w0:=w) w.heap.size rfl (.tmp 102) (.tmp 104) 72 4 (.bool false) 1 rfl Try.underlying72 info4 rfl (by decide) (by omega) u9 x9_4 false [.bool false] (fun _=>True) (fun _=>False) rfl rfl ?aP (fun _ hk=>hk.elim) ?aF ?aO ?aB ?aS ?aL ?_;(case aP=>exact rfl);(case aB=>exact HB.out);(case aF=>exact (fun _ _=>trivial));(case aO=>exact HO_9.out);(case aS=>exact (below_size HB.out));(case aL=>have:=LMc62.out;omega);intro v326 w76 ho hb hg hat;rw [← Ny325.out] at ho;have n0_:=M0 (Kd.R_over' HO_10.out (Kd.R_typed HO_9.out) (by decide) hg);have n1_:=M0 (Kd.R_over' HO_303001.out (Kd.R_typed HO_9.out) (by decide) hg);have n2_:=M0 (blk_grown (g:=gb293) (o:=.cells #[.int .i64 (wrap64 (1 + (Int.tmod t291 6))),.int .i64 (Int.tmod t292 4),.int .i64 (Int.tmod t294 (wrap64 ((wrap64 (1 + (Int.tmod t291 6))) + 1)))] 43 (0,0)) BK293.out hg (Kd.R_ne HO_9.out BK293.out (by decide)));have n3_:=M0 (blk_grown (g:=gb302) (o:=.cells #[.int .i64 t298,.slice Ao26 t299.length co26] 68 (0,0)) BK302.out hg (Kd.R_ne HO_9.out BK302.out (by decide)));have n4_:=M0 (hb);have n5_:=M0 (ho);clear HO_10 HO_303001 BK293 BK302 HB HO_9;have HO_10:=n0_;have HO_303001:=n1_;have BK293:=n2_;have BK302:=n3_;have HB:=n4_;have HO327:=n5_;clear n0_ n1_ n2_ n3_ n4_ n5_ ho hb hg hat)|((with_reducible refine gate_dst (N:=13) rfl ?_);(try (refine gate_guard (by rfl) ?_;dsimp only));refine box_event rfl (N:=13) rfl (cs:=#[.bool false,.string (⟨#[]⟩ : ByteArray)]) (t:=61) (by go_simp) ?_;intro gb328 hg w77 hbox hb;replace HO_10:=M0 (Kd.R_below (Kd.R_elderB HO_10.out gb328 (Nat.le_of_eq hg.symm)) hb);replace HO_303001:=M0 (Kd.R_below HO_303001.out hb);replace HO327:=M0 (Kd.R_below HO327.out hb);have BK328:=M0 (hbox);have GW328:=M0 ((by rw [hg];exact (below_size HB.out) : w.heap.size ≤ gb328));have GE328:=GW328;replace HB:=M0 (below_step HB.out hb);have NB293_328:=M0 ((by rw [hg];exact Nat.ne_of_lt (blk_lt (g:=gb293) (o:=.cells #[.int .i64 (wrap64 (1 + (Int.tmod t291 6))),.int .i64 (Int.tmod t292 4),.int .i64 (Int.tmod t294 (wrap64 ((wrap64 (1 + (Int.tmod t291 6))) + 1)))] 43 (0,0)) BK293.out) : gb293 ≠ gb328));have NB328_293:=M0 ((by rw [hg];exact Nat.ne_of_gt (blk_lt (g:=gb293) (o:=.cells #[.int .i64 (wrap64 (1 + (Int.tmod t291 6))),.int .i64 (Int.tmod t292 4),.int .i64 (Int.tmod t294 (wrap64 ((wrap64 (1 + (Int.tmod t291 6))) + 1)))] 43 (0,0)) BK293.out) : gb328 ≠ gb293));replace BK293:=M0 (blk_below (g:=gb293) (o:=.cells #[.int .i64 (wrap64 (1 + (Int.tmod t291 6))),.int .i64 (Int.tmod t292 4),.int .i64 (Int.tmod t294 (wrap64 ((wrap64 (1 + (Int.tmod t291 6))) + 1)))] 43 (0,0)) BK293.out hb);have NB302_328:=M0 ((by rw [hg];exact Nat.ne_of_lt (blk_lt BK302.out) : gb302 ≠ gb328));have NB328_302:=M0 NB302_328.out.symm;replace BK302:=M0 (blk_below BK302.out hb);clear hb hbox hg;have hnb78:=NB328_293.out;have hnc78:=NB293_328.out;have hnb79:=NB328_302.out;have hnc79:=NB302_328.out;have hcz80_0:=bcv (v:=.bool false) BK328.out 0 rfl;have hcz80_1:=bcv (v:=.string (⟨#[]⟩ : ByteArray)) BK328.out 1 rfl;have hfz80_0:=blk_frozen BK328.out 0;have hfz80_1:=blk_frozen BK328.out 1)|((with_reducible refine gate_builtin (b:=.append) (xs:=#[.tmp 115,.tmp 117]) rfl ?_);(try (refine gate_guard (by rfl) ?_;dsimp only));at_builtin;refine Kd.R_append k61 (w0:=w) w.heap.size rfl (.tmp 115) (.tmp 117) 53 61 (.agg #[(.bool false),(.string ⟨#[]⟩)]) 24 rfl Try.underlying53 info61 rfl (by decide) (by omega) u10 x10_4 (⟨false,(⟨#[]⟩ : ByteArray)⟩ : S61) [.bool false,.string (⟨#[]⟩ : ByteArray)] (fun k_=>k_ ≠ gb328) (fun _=>False) rfl (by (go_simp;done)) ?aP (fun _ hk=>hk.elim) ?aF ?aO ?aB ?aS ?aL ?_;(case aP=>exact k61_mkM _ _ _ (⟨false,(⟨#[]⟩ : ByteArray)⟩ : S61));(case aB=>exact (by repeat ((with_reducible first|exact HB.out|refine below_set ?_ GE328.out))));(case aF=>exact (fun k_ hk=>Kd.freshB (g:=gb328) (o:=.cells #[.bool false,.string (⟨#[]⟩ : ByteArray)] 61 (0,0)) (by refine blk_put (cs:=#[.bool false,.string (⟨#[]⟩ : ByteArray)]) ?_ 1 _ rfl;refine blk_put (cs:=#[.bool false,.string (⟨#[]⟩ : ByteArray)]) ?_ 0 _ rfl;exact BK328.out) k_ hk));(case aO=>exact (by exact Kd.R_mono (Kd.R_far (p:=⟨gb328,1,none⟩) (Kd.R_far (p:=⟨gb328,0,none⟩) (Kd.R_mono HO_10.out (fun k_ hk=>(⟨hk,hk.2⟩ : _ ∧ k_ ≠ gb328))) (fun _ hk=>hk.2) (.bool false)) (fun _ hk=>hk.2) (.string (⟨#[]⟩ : ByteArray))) (fun _ hk=>hk.1.2)));(case aS=>exact (below_size (by repeat ((with_reducible first|exact HB.out|refine below_set ?_ GE328.out)))));(case aL=>have:=LMc75.out;omega);intro v334 w81 ho hb hg hat;rw [← Ny333.out] at ho;have n0_:=M0 (Kd.R_over' (by exact (Kd.R_mono (Kd.R_far (p:=⟨gb328,1,none⟩) (Kd.R_far (p:=⟨gb328,0,none⟩) (Kd.R_types HO_303001.out BK328.out (by decide)) (fun _ hk=>hk.2) (.bool false)) (fun _ hk=>hk.2) (.string (⟨#[]⟩ : ByteArray))) (fun _ h_=>h_.1))) (Kd.R_typed (by exact (Kd.R_mono (Kd.R_far (p:=⟨gb328,1,none⟩) (Kd.R_far (p:=⟨gb328,0,none⟩) (Kd.R_mono HO_10.out (fun k_ hk=>(⟨hk,hk.2⟩ : _ ∧ k_ ≠ gb328))) (fun _ hk=>hk.2) (.bool false)) (fun _ hk=>hk.2) (.string (⟨#[]⟩ : ByteArray))) (fun _ h_=>h_.1)))) (by decide) hg);have n1_:=M0 (blk_grown (g:=gb293) (o:=.cells #[.int .i64 (wrap64 (1 + (Int.tmod t291 6))),.int .i64 (Int.tmod t292 4),.int .i64 (Int.tmod t294 (wrap64 ((wrap64 (1 + (Int.tmod t291 6))) + 1)))] 43 (0,0)) (by refine blk_far ?_ NB293_328.out _;refine blk_far ?_ NB293_328.out _;exact BK293.out) hg (Kd.R_ne HO_10.out BK293.out (by decide)));have n2_:=M0 (blk_grown (g:=gb302) (o:=.cells #[.int .i64 t298,.slice Ao26 t299.length co26] 68 (0,0)) (by refine blk_far ?_ NB302_328.out _;refine blk_far ?_ NB302_328.out _;exact BK302.out) hg (Kd.R_ne HO_10.out BK302.out (by decide)));have n3_:=M0 (Kd.R_over' (by exact (Kd.R_mono (Kd.R_far (p:=⟨gb328,1,none⟩) (Kd.R_far (p:=⟨gb328,0,none⟩) (Kd.R_types HO327.out BK328.out (by decide)) (fun _ hk=>hk.2) (.bool false)) (fun _ hk=>hk.2) (.string (⟨#[]⟩ : ByteArray))) (fun _ h_=>h_.1))) (Kd.R_typed (by exact (Kd.R_mono (Kd.R_far (p:=⟨gb328,1,none⟩) (Kd.R_far (p:=⟨gb328,0,none⟩) (Kd.R_mono HO_10.out (fun k_ hk=>(⟨hk,hk.2⟩ : _ ∧ k_ ≠ gb328))) (fun _ hk=>hk.2) (.bool false)) (fun _ hk=>hk.2) (.string (⟨#[]⟩ : ByteArray))) (fun _ h_=>h_.1)))) (by decide) hg);have n4_:=M0 (blk_grown (g:=gb328) (o:=.cells #[.bool false,.string (⟨#[]⟩ : ByteArray)] 61 (0,0)) (by refine blk_put (cs:=#[.bool false,.string (⟨#[]⟩ : ByteArray)]) ?_ 1 _ rfl;refine blk_put (cs:=#[.bool false,.string (⟨#[]⟩ : ByteArray)]) ?_ 0 _ rfl;exact BK328.out) hg (Kd.R_away HO_10.out (fun _ hk=>hk.2)));have n5_:=M0 (hb);have n6_:=M0 (ho);clear HO_303001 BK293 BK302 HO327 BK328 HB HO_10;have HO_303001:=n0_;have BK293:=n1_;have BK302:=n2_;have HO327:=n3_;have BK328:=n4_;have HB:=n5_;have HO335:=n6_;clear n0_ n1_ n2_ n3_ n4_ n5_ n6_ ho hb hg hat))
                   go_roundg k4
                   case measure=>have:=HJ2.out;have:=HJ11.out;have:=HK3.out;have:=HK4.out;omega
                   case rel=>exact ⟨(y325),(y333),(wrap64 (x11_4 + 1)),(by rfl),H',⟨by have:=HJ2.out;have:=HJ11.out;have:=HK3.out;have:=HK4.out;omega⟩,⟨by exact HO327.out⟩,⟨by exact Kd.R_mono HO335.out (fun _ hk=>trivial)⟩,⟨by exact HO_303001.out⟩,⟨by exact BK293.out⟩,⟨by exact BK302.out⟩,⟨HB.out⟩⟩
                ·rw [if_neg c51] at H
                 have c51b0:=decide_eq_false c51
                 clear c51
                 replace H:=Option.bind_eq_some_iff.mp H
                 obtain ⟨⟨t336,t337⟩,A820,H⟩:=H
                 replace H : ((spec_RepairPlan.f k4 (wrap64 (1 + (Int.tmod t291 6))) (Int.tmod t292 4) (Int.tmod t294 (wrap64 ((wrap64 (1 + (Int.tmod t291 6))) + 1))) x9_4 x8_3).bind fun bt341=>((impl_RepairShard.f k4 (wrap64 (1 + (Int.tmod t291 6))) (Int.tmod t292 4) (Int.tmod t294 (wrap64 ((wrap64 (1 + (Int.tmod t291 6))) + 1))) x10_4 x8_3).bind fun bt346=>(if t336 = bt341.1 then ((laws_lwInts.f k4 t337 bt341.2).bind fun t351=>(if t351 = true then (laws_FnRepaired.j4 k4 l1 (wrap64 ((wrap64 ((wrap64 (1 + (Int.tmod t291 6))) + (Int.tmod t292 4))) + (Int.tmod t294 (wrap64 ((wrap64 (1 + (Int.tmod t291 6))) + 1))))) x8_3 x9_4 (bt346.1 != bt341.1) (wrap64 (1 + (Int.tmod t291 6))) (Int.tmod t292 4) (Int.tmod t294 (wrap64 ((wrap64 (1 + (Int.tmod t291 6))) + 1))) t298 t299 t336 t337 bt341.1 bt341.2 bt346.1 bt346.2) else (laws_FnRepaired.j4 k4 l1 (wrap64 ((wrap64 ((wrap64 (1 + (Int.tmod t291 6))) + (Int.tmod t292 4))) + (Int.tmod t294 (wrap64 ((wrap64 (1 + (Int.tmod t291 6))) + 1))))) x8_3 x9_4 true (wrap64 (1 + (Int.tmod t291 6))) (Int.tmod t292 4) (Int.tmod t294 (wrap64 ((wrap64 (1 + (Int.tmod t291 6))) + 1))) t298 t299 t336 t337 bt341.1 bt341.2 bt346.1 bt346.2))) else (laws_FnRepaired.j4 k4 l1 (wrap64 ((wrap64 ((wrap64 (1 + (Int.tmod t291 6))) + (Int.tmod t292 4))) + (Int.tmod t294 (wrap64 ((wrap64 (1 + (Int.tmod t291 6))) + 1))))) x8_3 x9_4 true (wrap64 (1 + (Int.tmod t291 6))) (Int.tmod t292 4) (Int.tmod t294 (wrap64 ((wrap64 (1 + (Int.tmod t291 6))) + 1))) t298 t299 t336 t337 bt341.1 bt341.2 bt346.1 bt346.2)))) = some true:=H
                 have A82:=M0 A820
                 clear A820
                 replace H:=Option.bind_eq_some_iff.mp H
                 obtain ⟨⟨t341,t342⟩,A830,H⟩:=H
                 replace H : ((impl_RepairShard.f k4 (wrap64 (1 + (Int.tmod t291 6))) (Int.tmod t292 4) (Int.tmod t294 (wrap64 ((wrap64 (1 + (Int.tmod t291 6))) + 1))) x10_4 x8_3).bind fun bt346=>(if t336 = t341 then ((laws_lwInts.f k4 t337 t342).bind fun t351=>(if t351 = true then (laws_FnRepaired.j4 k4 l1 (wrap64 ((wrap64 ((wrap64 (1 + (Int.tmod t291 6))) + (Int.tmod t292 4))) + (Int.tmod t294 (wrap64 ((wrap64 (1 + (Int.tmod t291 6))) + 1))))) x8_3 x9_4 (bt346.1 != t341) (wrap64 (1 + (Int.tmod t291 6))) (Int.tmod t292 4) (Int.tmod t294 (wrap64 ((wrap64 (1 + (Int.tmod t291 6))) + 1))) t298 t299 t336 t337 t341 t342 bt346.1 bt346.2) else (laws_FnRepaired.j4 k4 l1 (wrap64 ((wrap64 ((wrap64 (1 + (Int.tmod t291 6))) + (Int.tmod t292 4))) + (Int.tmod t294 (wrap64 ((wrap64 (1 + (Int.tmod t291 6))) + 1))))) x8_3 x9_4 true (wrap64 (1 + (Int.tmod t291 6))) (Int.tmod t292 4) (Int.tmod t294 (wrap64 ((wrap64 (1 + (Int.tmod t291 6))) + 1))) t298 t299 t336 t337 t341 t342 bt346.1 bt346.2))) else (laws_FnRepaired.j4 k4 l1 (wrap64 ((wrap64 ((wrap64 (1 + (Int.tmod t291 6))) + (Int.tmod t292 4))) + (Int.tmod t294 (wrap64 ((wrap64 (1 + (Int.tmod t291 6))) + 1))))) x8_3 x9_4 true (wrap64 (1 + (Int.tmod t291 6))) (Int.tmod t292 4) (Int.tmod t294 (wrap64 ((wrap64 (1 + (Int.tmod t291 6))) + 1))) t298 t299 t336 t337 t341 t342 bt346.1 bt346.2))) = some true:=H
                 have A83:=M0 A830
                 clear A830
                 replace H:=Option.bind_eq_some_iff.mp H
                 obtain ⟨⟨t346,t347⟩,A840,H⟩:=H
                 replace H : (if t336 = t341 then ((laws_lwInts.f k4 t337 t342).bind fun t351=>(if t351 = true then (laws_FnRepaired.j4 k4 l1 (wrap64 ((wrap64 ((wrap64 (1 + (Int.tmod t291 6))) + (Int.tmod t292 4))) + (Int.tmod t294 (wrap64 ((wrap64 (1 + (Int.tmod t291 6))) + 1))))) x8_3 x9_4 (t346 != t341) (wrap64 (1 + (Int.tmod t291 6))) (Int.tmod t292 4) (Int.tmod t294 (wrap64 ((wrap64 (1 + (Int.tmod t291 6))) + 1))) t298 t299 t336 t337 t341 t342 t346 t347) else (laws_FnRepaired.j4 k4 l1 (wrap64 ((wrap64 ((wrap64 (1 + (Int.tmod t291 6))) + (Int.tmod t292 4))) + (Int.tmod t294 (wrap64 ((wrap64 (1 + (Int.tmod t291 6))) + 1))))) x8_3 x9_4 true (wrap64 (1 + (Int.tmod t291 6))) (Int.tmod t292 4) (Int.tmod t294 (wrap64 ((wrap64 (1 + (Int.tmod t291 6))) + 1))) t298 t299 t336 t337 t341 t342 t346 t347))) else (laws_FnRepaired.j4 k4 l1 (wrap64 ((wrap64 ((wrap64 (1 + (Int.tmod t291 6))) + (Int.tmod t292 4))) + (Int.tmod t294 (wrap64 ((wrap64 (1 + (Int.tmod t291 6))) + 1))))) x8_3 x9_4 true (wrap64 (1 + (Int.tmod t291 6))) (Int.tmod t292 4) (Int.tmod t294 (wrap64 ((wrap64 (1 + (Int.tmod t291 6))) + 1))) t298 t299 t336 t337 t341 t342 t346 t347)) = some true:=H
                 have A84:=M0 A840
                 clear A840
                 have HC85:=M0 H
                 clear H
                 have hnb86:=NB293_302.out
                 have hnc86:=NB302_293.out
                 have hcz87_0:=bcv (v:=.int .i64 (wrap64 (1 + (Int.tmod t291 6)))) BK293.out 0 rfl
                 have hcz87_1:=bcv (v:=.int .i64 (Int.tmod t292 4)) BK293.out 1 rfl
                 have hcz87_2 : wr.cell? ⟨gb293,2,none⟩ = some (.int .i64 (Int.tmod t294 (wrap64 ((wrap64 (1 + (Int.tmod t291 6))) + 1)))):=(blk_cell BK293.out 2).trans rfl
                 have hfz87_0:=blk_frozen BK293.out 0
                 have hfz87_1:=blk_frozen BK293.out 1
                 have hfz87_2:=blk_frozen BK293.out 2
                 obtain ⟨Ao88,co88,eo88⟩:=Kd.R_slice HO_9.out
                 subst eo88
                 go_upto_region 26 with (first|((with_reducible refine gate_callee (f:=39) rfl ?_);refine goesL_ (some 122) rfl rfl Try.func39 (by kernel_rfl) rfl #[.agg #[.int .i64 (wrap64 (1 + (Int.tmod t291 6))),.int .i64 (Int.tmod t292 4),.int .i64 (Int.tmod t294 (wrap64 ((wrap64 (1 + (Int.tmod t291 6))) + 1)))],.slice Ao88 x9_4.length co88,.int .i64 x8_3] rfl (by (try simp only [List.map_toArray,List.map_cons,List.map_nil]);rfl) ?_;(with_reducible refine (impl_RepairPlan.calls (wrap64 (1 + (Int.tmod t291 6))) (Int.tmod t292 4) (Int.tmod t294 (wrap64 ((wrap64 (1 + (Int.tmod t291 6))) + 1))) _ _ x9_4 x8_3 t336 t337 _ (Kd.R_reads' HO_9.out).2.2 (Kd.R_reads' HO_9.out).2.1 A82.out).mono ?_);rintro e w89 ⟨v338,rfl,ho0,hb⟩;refine ⟨_,rfl,?_⟩;replace HO_9:=M0 (Kd.R_below HO_9.out hb);replace HO_10:=M0 (Kd.R_below HO_10.out hb);replace HO_303001:=M0 (Kd.R_below HO_303001.out hb);have HO339:=M0 (Kd.R_lower ho0 (below_size HB.out));replace BK293:=M0 (blk_below (g:=gb293) (o:=.cells #[.int .i64 (wrap64 (1 + (Int.tmod t291 6))),.int .i64 (Int.tmod t292 4),.int .i64 (Int.tmod t294 (wrap64 ((wrap64 (1 + (Int.tmod t291 6))) + 1)))] 43 (0,0)) BK293.out hb);replace BK302:=M0 (blk_below BK302.out hb);replace HB:=M0 (below_step HB.out hb);clear hb ho0)|((with_reducible refine gate_dst (N:=14) rfl ?_);(try (refine gate_guard (by rfl) ?_;dsimp only));refine box_event rfl (N:=14) rfl (cs:=#[.int .i64 0,.slice none 0 0]) (t:=74) (by go_simp) ?_;intro gb340 hg w90 hbox hb;replace HO_9:=M0 (Kd.R_below HO_9.out hb);replace HO_10:=M0 (Kd.R_below HO_10.out hb);replace HO_303001:=M0 (Kd.R_below HO_303001.out hb);replace HO339:=M0 (Kd.R_below HO339.out hb);have BK340:=M0 (hbox);have GW340:=M0 ((by rw [hg];exact (below_size HB.out) : w.heap.size ≤ gb340));have GE340:=GW340;replace HB:=M0 (below_step HB.out hb);have NB293_340:=M0 ((by rw [hg];exact Nat.ne_of_lt (blk_lt (g:=gb293) (o:=.cells #[.int .i64 (wrap64 (1 + (Int.tmod t291 6))),.int .i64 (Int.tmod t292 4),.int .i64 (Int.tmod t294 (wrap64 ((wrap64 (1 + (Int.tmod t291 6))) + 1)))] 43 (0,0)) BK293.out) : gb293 ≠ gb340));have NB340_293:=M0 ((by rw [hg];exact Nat.ne_of_gt (blk_lt (g:=gb293) (o:=.cells #[.int .i64 (wrap64 (1 + (Int.tmod t291 6))),.int .i64 (Int.tmod t292 4),.int .i64 (Int.tmod t294 (wrap64 ((wrap64 (1 + (Int.tmod t291 6))) + 1)))] 43 (0,0)) BK293.out) : gb340 ≠ gb293));replace BK293:=M0 (blk_below (g:=gb293) (o:=.cells #[.int .i64 (wrap64 (1 + (Int.tmod t291 6))),.int .i64 (Int.tmod t292 4),.int .i64 (Int.tmod t294 (wrap64 ((wrap64 (1 + (Int.tmod t291 6))) + 1)))] 43 (0,0)) BK293.out hb);have NB302_340:=M0 ((by rw [hg];exact Nat.ne_of_lt (blk_lt BK302.out) : gb302 ≠ gb340));have NB340_302:=M0 NB302_340.out.symm;replace BK302:=M0 (blk_below BK302.out hb);clear hb hbox hg;have hnb91:=NB340_293.out;have hnc91:=NB293_340.out;have hnb92:=NB340_302.out;have hnc92:=NB302_340.out;have hcz93_0:=bcv (v:=.int .i64 0) BK340.out 0 rfl;have hcz93_1:=bcv (v:=.slice none 0 0) BK340.out 1 rfl;have hfz93_0:=blk_frozen BK340.out 0;have hfz93_1:=blk_frozen BK340.out 1;obtain ⟨Ao94,co94,eo94⟩:=Kd.R_slice HO339.out;subst eo94;have hcz95_0:=bcv (v:=.int .i64 (wrap64 (1 + (Int.tmod t291 6)))) BK293.out 0 rfl;have hcz95_1:=bcv (v:=.int .i64 (Int.tmod t292 4)) BK293.out 1 rfl;have hcz95_2 : w90.cell? ⟨gb293,2,none⟩ = some (.int .i64 (Int.tmod t294 (wrap64 ((wrap64 (1 + (Int.tmod t291 6))) + 1)))):=(blk_cell BK293.out 2).trans rfl;have hfz95_0:=blk_frozen BK293.out 0;have hfz95_1:=blk_frozen BK293.out 1;have hfz95_2:=blk_frozen BK293.out 2)|((with_reducible refine gate_callee (f:=40) rfl ?_);refine goesL_ (some 126) rfl rfl Try.func40 (by kernel_rfl) rfl #[.agg #[.int .i64 (wrap64 (1 + (Int.tmod t291 6))),.int .i64 (Int.tmod t292 4),.int .i64 (Int.tmod t294 (wrap64 ((wrap64 (1 + (Int.tmod t291 6))) + 1)))],.slice Ao88 x9_4.length co88,.int .i64 x8_3] rfl (by (try simp only [List.map_toArray,List.map_cons,List.map_nil]);rfl) ?_;(with_reducible refine (spec_RepairPlan.calls k4 (wrap64 (1 + (Int.tmod t291 6))) (Int.tmod t292 4) (Int.tmod t294 (wrap64 ((wrap64 (1 + (Int.tmod t291 6))) + 1))) _ _ x9_4 x8_3 t341 t342 _ ?side1 ?side2 A83.out).mono ?_);(case side1=>refine (Kd.R_reads' (e:=4) (base:=w.heap.size) (ok:=fun k_=>True) (n:=x9_4.length) (c:=co88) ?_).2.2;exact (by exact (Kd.R_mono (Kd.R_far (p:=⟨gb340,1,none⟩) (Kd.R_far (p:=⟨gb340,0,none⟩) (Kd.R_types HO_9.out BK340.out (by decide)) (fun _ hk=>hk.2) (.int .i64 t336)) (fun _ hk=>hk.2) (.slice Ao94 t337.length co94)) (fun _ h_=>h_.1))));(case side2=>exact (Kd.R_reads' HO_9.out).2.1);rintro e w96 ⟨v343,rfl,ho0,hb⟩;refine ⟨_,rfl,?_⟩;replace HO_9:=M0 (Kd.R_below (by exact (Kd.R_mono (Kd.R_far (p:=⟨gb340,1,none⟩) (Kd.R_far (p:=⟨gb340,0,none⟩) (Kd.R_types HO_9.out BK340.out (by decide)) (fun _ hk=>hk.2) (.int .i64 t336)) (fun _ hk=>hk.2) (.slice Ao94 t337.length co94)) (fun _ h_=>h_.1))) hb);replace HO_10:=M0 (Kd.R_below (by exact (Kd.R_mono (Kd.R_far (p:=⟨gb340,1,none⟩) (Kd.R_far (p:=⟨gb340,0,none⟩) (Kd.R_types HO_10.out BK340.out (by decide)) (fun _ hk=>hk.2) (.int .i64 t336)) (fun _ hk=>hk.2) (.slice Ao94 t337.length co94)) (fun _ h_=>h_.1))) hb);replace HO_303001:=M0 (Kd.R_below (by exact (Kd.R_mono (Kd.R_far (p:=⟨gb340,1,none⟩) (Kd.R_far (p:=⟨gb340,0,none⟩) (Kd.R_types HO_303001.out BK340.out (by decide)) (fun _ hk=>hk.2) (.int .i64 t336)) (fun _ hk=>hk.2) (.slice Ao94 t337.length co94)) (fun _ h_=>h_.1))) hb);have HO344:=M0 (Kd.R_lower (Kd.R_new' ho0 (Kd.R_lt (by exact (Kd.R_mono (Kd.R_far (p:=⟨gb340,1,none⟩) (Kd.R_far (p:=⟨gb340,0,none⟩) (Kd.R_types HO339.out BK340.out (by decide)) (fun _ hk=>hk.2) (.int .i64 t336)) (fun _ hk=>hk.2) (.slice Ao94 t337.length co94)) (fun _ h_=>h_.1))))) (below_size (by repeat ((with_reducible first|exact HB.out|refine below_set ?_ GE340.out)))));replace HO339:=M0 (Kd.R_elder' (by exact (Kd.R_mono (Kd.R_far (p:=⟨gb340,1,none⟩) (Kd.R_far (p:=⟨gb340,0,none⟩) (Kd.R_types HO339.out BK340.out (by decide)) (fun _ hk=>hk.2) (.int .i64 t336)) (fun _ hk=>hk.2) (.slice Ao94 t337.length co94)) (fun _ h_=>h_.1))) (Kd.R_base ho0) hb);replace BK293:=M0 (blk_below (g:=gb293) (o:=.cells #[.int .i64 (wrap64 (1 + (Int.tmod t291 6))),.int .i64 (Int.tmod t292 4),.int .i64 (Int.tmod t294 (wrap64 ((wrap64 (1 + (Int.tmod t291 6))) + 1)))] 43 (0,0)) (by refine blk_far ?_ NB293_340.out _;refine blk_far ?_ NB293_340.out _;exact BK293.out) hb);replace BK302:=M0 (blk_below (g:=gb302) (o:=.cells #[.int .i64 t298,.slice Ao26 t299.length co26] 68 (0,0)) (by refine blk_far ?_ NB302_340.out _;refine blk_far ?_ NB302_340.out _;exact BK302.out) hb);replace BK340:=M0 (blk_below (g:=gb340) (o:=.cells #[.int .i64 t336,.slice Ao94 t337.length co94] 74 (0,0)) (by refine blk_put (cs:=#[.int .i64 t336,.slice none 0 0]) ?_ 1 _ rfl;refine blk_put (cs:=#[.int .i64 0,.slice none 0 0]) ?_ 0 _ rfl;exact BK340.out) hb);replace HB:=M0 (below_step (by repeat ((with_reducible first|exact HB.out|refine below_set ?_ GE340.out))) hb);clear hb ho0)|((with_reducible refine gate_dst (N:=15) rfl ?_);(try (refine gate_guard (by rfl) ?_;dsimp only));refine box_event rfl (N:=15) rfl (cs:=#[.int .i64 0,.slice none 0 0]) (t:=74) (by go_simp) ?_;intro gb345 hg w97 hbox hb;replace HO_9:=M0 (Kd.R_below HO_9.out hb);replace HO_10:=M0 (Kd.R_below HO_10.out hb);replace HO_303001:=M0 (Kd.R_below HO_303001.out hb);replace HO339:=M0 (Kd.R_below HO339.out hb);replace HO344:=M0 (Kd.R_below HO344.out hb);have BK345:=M0 (hbox);have GW345:=M0 ((by rw [hg];exact (below_size HB.out) : w.heap.size ≤ gb345));have GE345:=GW345;replace HB:=M0 (below_step HB.out hb);have NB293_345:=M0 ((by rw [hg];exact Nat.ne_of_lt (blk_lt (g:=gb293) (o:=.cells #[.int .i64 (wrap64 (1 + (Int.tmod t291 6))),.int .i64 (Int.tmod t292 4),.int .i64 (Int.tmod t294 (wrap64 ((wrap64 (1 + (Int.tmod t291 6))) + 1)))] 43 (0,0)) BK293.out) : gb293 ≠ gb345));have NB345_293:=M0 ((by rw [hg];exact Nat.ne_of_gt (blk_lt (g:=gb293) (o:=.cells #[.int .i64 (wrap64 (1 + (Int.tmod t291 6))),.int .i64 (Int.tmod t292 4),.int .i64 (Int.tmod t294 (wrap64 ((wrap64 (1 + (Int.tmod t291 6))) + 1)))] 43 (0,0)) BK293.out) : gb345 ≠ gb293));replace BK293:=M0 (blk_below (g:=gb293) (o:=.cells #[.int .i64 (wrap64 (1 + (Int.tmod t291 6))),.int .i64 (Int.tmod t292 4),.int .i64 (Int.tmod t294 (wrap64 ((wrap64 (1 + (Int.tmod t291 6))) + 1)))] 43 (0,0)) BK293.out hb);have NB302_345:=M0 ((by rw [hg];exact Nat.ne_of_lt (blk_lt BK302.out) : gb302 ≠ gb345));have NB345_302:=M0 NB302_345.out.symm;replace BK302:=M0 (blk_below BK302.out hb);have NB340_345:=M0 ((by rw [hg];exact Nat.ne_of_lt (blk_lt BK340.out) : gb340 ≠ gb345));have NB345_340:=M0 NB340_345.out.symm;replace BK340:=M0 (blk_below BK340.out hb);clear hb hbox hg;have hnb98:=NB345_293.out;have hnc98:=NB293_345.out;have hnb99:=NB345_302.out;have hnc99:=NB302_345.out;have hnb100:=NB345_340.out;have hnc100:=NB340_345.out;have hcz101_0:=bcv (v:=.int .i64 0) BK345.out 0 rfl;have hcz101_1:=bcv (v:=.slice none 0 0) BK345.out 1 rfl;have hfz101_0:=blk_frozen BK345.out 0;have hfz101_1:=blk_frozen BK345.out 1;obtain ⟨Ao102,co102,eo102⟩:=Kd.R_slice HO344.out;subst eo102;have hcz103_0:=bcv (v:=.int .i64 (wrap64 (1 + (Int.tmod t291 6)))) BK293.out 0 rfl;have hcz103_1:=bcv (v:=.int .i64 (Int.tmod t292 4)) BK293.out 1 rfl;have hcz103_2 : w97.cell? ⟨gb293,2,none⟩ = some (.int .i64 (Int.tmod t294 (wrap64 ((wrap64 (1 + (Int.tmod t291 6))) + 1)))):=(blk_cell BK293.out 2).trans rfl;have hfz103_0:=blk_frozen BK293.out 0;have hfz103_1:=blk_frozen BK293.out 1;have hfz103_2:=blk_frozen BK293.out 2;obtain ⟨Ao104,co104,eo104⟩:=Kd.R_slice HO_10.out;subst eo104)|((with_reducible refine gate_callee (f:=41) rfl ?_);refine goesL_ (some 130) rfl rfl Try.func41 (by kernel_rfl) rfl #[.agg #[.int .i64 (wrap64 (1 + (Int.tmod t291 6))),.int .i64 (Int.tmod t292 4),.int .i64 (Int.tmod t294 (wrap64 ((wrap64 (1 + (Int.tmod t291 6))) + 1)))],.slice Ao104 x10_4.length co104,.int .i64 x8_3] rfl (by (try simp only [List.map_toArray,List.map_cons,List.map_nil]);rfl) ?_;(with_reducible refine (impl_RepairShard.calls k4 (wrap64 (1 + (Int.tmod t291 6))) (Int.tmod t292 4) (Int.tmod t294 (wrap64 ((wrap64 (1 + (Int.tmod t291 6))) + 1))) _ _ x10_4 x8_3 t346 t347 _ ?side1 ?side2 A84.out).mono ?_);(case side1=>refine (Kd.R_reads' (e:=61) (base:=w.heap.size) (ok:=fun k_=>True) (n:=x10_4.length) (c:=co104) ?_).2.2;exact (by exact (Kd.R_mono (Kd.R_far (p:=⟨gb345,1,none⟩) (Kd.R_far (p:=⟨gb345,0,none⟩) (Kd.R_types HO_10.out BK345.out (by decide)) (fun _ hk=>hk.2) (.int .i64 t341)) (fun _ hk=>hk.2) (.slice Ao102 t342.length co102)) (fun _ h_=>h_.1))));(case side2=>exact (Kd.R_reads' HO_10.out).2.1);rintro e w105 ⟨v348,rfl,ho0,hb⟩;refine ⟨_,rfl,?_⟩;replace HO_9:=M0 (Kd.R_below (by exact (Kd.R_mono (Kd.R_far (p:=⟨gb345,1,none⟩) (Kd.R_far (p:=⟨gb345,0,none⟩) (Kd.R_types HO_9.out BK345.out (by decide)) (fun _ hk=>hk.2) (.int .i64 t341)) (fun _ hk=>hk.2) (.slice Ao102 t342.length co102)) (fun _ h_=>h_.1))) hb);replace HO_10:=M0 (Kd.R_below (by exact (Kd.R_mono (Kd.R_far (p:=⟨gb345,1,none⟩) (Kd.R_far (p:=⟨gb345,0,none⟩) (Kd.R_types HO_10.out BK345.out (by decide)) (fun _ hk=>hk.2) (.int .i64 t341)) (fun _ hk=>hk.2) (.slice Ao102 t342.length co102)) (fun _ h_=>h_.1))) hb);replace HO339:=M0 (Kd.R_below (by exact (Kd.R_mono (Kd.R_far (p:=⟨gb345,1,none⟩) (Kd.R_far (p:=⟨gb345,0,none⟩) (Kd.R_types HO339.out BK345.out (by decide)) (fun _ hk=>hk.2) (.int .i64 t341)) (fun _ hk=>hk.2) (.slice Ao102 t342.length co102)) (fun _ h_=>h_.1))) hb);replace HO344:=M0 (Kd.R_below (by exact (Kd.R_mono (Kd.R_far (p:=⟨gb345,1,none⟩) (Kd.R_far (p:=⟨gb345,0,none⟩) (Kd.R_types HO344.out BK345.out (by decide)) (fun _ hk=>hk.2) (.int .i64 t341)) (fun _ hk=>hk.2) (.slice Ao102 t342.length co102)) (fun _ h_=>h_.1))) hb);have HO349:=M0 (Kd.R_lower (Kd.R_new' ho0 (Kd.R_lt (by exact (Kd.R_mono (Kd.R_far (p:=⟨gb345,1,none⟩) (Kd.R_far (p:=⟨gb345,0,none⟩) (Kd.R_types HO_303001.out BK345.out (by decide)) (fun _ hk=>hk.2) (.int .i64 t341)) (fun _ hk=>hk.2) (.slice Ao102 t342.length co102)) (fun _ h_=>h_.1))))) (below_size (by repeat ((with_reducible first|exact HB.out|refine below_set ?_ GE345.out)))));replace HO_303001:=M0 (Kd.R_elder' (by exact (Kd.R_mono (Kd.R_far (p:=⟨gb345,1,none⟩) (Kd.R_far (p:=⟨gb345,0,none⟩) (Kd.R_types HO_303001.out BK345.out (by decide)) (fun _ hk=>hk.2) (.int .i64 t341)) (fun _ hk=>hk.2) (.slice Ao102 t342.length co102)) (fun _ h_=>h_.1))) (Kd.R_base ho0) hb);replace BK293:=M0 (blk_below (g:=gb293) (o:=.cells #[.int .i64 (wrap64 (1 + (Int.tmod t291 6))),.int .i64 (Int.tmod t292 4),.int .i64 (Int.tmod t294 (wrap64 ((wrap64 (1 + (Int.tmod t291 6))) + 1)))] 43 (0,0)) (by refine blk_far ?_ NB293_345.out _;refine blk_far ?_ NB293_345.out _;exact BK293.out) hb);replace BK302:=M0 (blk_below (g:=gb302) (o:=.cells #[.int .i64 t298,.slice Ao26 t299.length co26] 68 (0,0)) (by refine blk_far ?_ NB302_345.out _;refine blk_far ?_ NB302_345.out _;exact BK302.out) hb);replace BK340:=M0 (blk_below (g:=gb340) (o:=.cells #[.int .i64 t336,.slice Ao94 t337.length co94] 74 (0,0)) (by refine blk_far ?_ NB340_345.out _;refine blk_far ?_ NB340_345.out _;exact BK340.out) hb);replace BK345:=M0 (blk_below (g:=gb345) (o:=.cells #[.int .i64 t341,.slice Ao102 t342.length co102] 74 (0,0)) (by refine blk_put (cs:=#[.int .i64 t341,.slice none 0 0]) ?_ 1 _ rfl;refine blk_put (cs:=#[.int .i64 0,.slice none 0 0]) ?_ 0 _ rfl;exact BK345.out) hb);replace HB:=M0 (below_step (by repeat ((with_reducible first|exact HB.out|refine below_set ?_ GE345.out))) hb);clear hb ho0)|((with_reducible refine gate_dst (N:=16) rfl ?_);(try (refine gate_guard (by rfl) ?_;dsimp only));refine box_event rfl (N:=16) rfl (cs:=#[.int .i64 0,.slice none 0 0]) (t:=68) (by go_simp) ?_;intro gb350 hg w106 hbox hb;replace HO_9:=M0 (Kd.R_below HO_9.out hb);replace HO_10:=M0 (Kd.R_below HO_10.out hb);replace HO_303001:=M0 (Kd.R_below HO_303001.out hb);replace HO339:=M0 (Kd.R_below HO339.out hb);replace HO344:=M0 (Kd.R_below HO344.out hb);replace HO349:=M0 (Kd.R_below HO349.out hb);have BK350:=M0 (hbox);have GW350:=M0 ((by rw [hg];exact (below_size HB.out) : w.heap.size ≤ gb350));have GE350:=GW350;replace HB:=M0 (below_step HB.out hb);have NB293_350:=M0 ((by rw [hg];exact Nat.ne_of_lt (blk_lt (g:=gb293) (o:=.cells #[.int .i64 (wrap64 (1 + (Int.tmod t291 6))),.int .i64 (Int.tmod t292 4),.int .i64 (Int.tmod t294 (wrap64 ((wrap64 (1 + (Int.tmod t291 6))) + 1)))] 43 (0,0)) BK293.out) : gb293 ≠ gb350));have NB350_293:=M0 ((by rw [hg];exact Nat.ne_of_gt (blk_lt (g:=gb293) (o:=.cells #[.int .i64 (wrap64 (1 + (Int.tmod t291 6))),.int .i64 (Int.tmod t292 4),.int .i64 (Int.tmod t294 (wrap64 ((wrap64 (1 + (Int.tmod t291 6))) + 1)))] 43 (0,0)) BK293.out) : gb350 ≠ gb293));replace BK293:=M0 (blk_below (g:=gb293) (o:=.cells #[.int .i64 (wrap64 (1 + (Int.tmod t291 6))),.int .i64 (Int.tmod t292 4),.int .i64 (Int.tmod t294 (wrap64 ((wrap64 (1 + (Int.tmod t291 6))) + 1)))] 43 (0,0)) BK293.out hb);have NB302_350:=M0 ((by rw [hg];exact Nat.ne_of_lt (blk_lt BK302.out) : gb302 ≠ gb350));have NB350_302:=M0 NB302_350.out.symm;replace BK302:=M0 (blk_below BK302.out hb);have NB340_350:=M0 ((by rw [hg];exact Nat.ne_of_lt (blk_lt BK340.out) : gb340 ≠ gb350));have NB350_340:=M0 NB340_350.out.symm;replace BK340:=M0 (blk_below BK340.out hb);have NB345_350:=M0 ((by rw [hg];exact Nat.ne_of_lt (blk_lt BK345.out) : gb345 ≠ gb350));have NB350_345:=M0 NB345_350.out.symm;replace BK345:=M0 (blk_below BK345.out hb);clear hb hbox hg;have hnb107:=NB350_293.out;have hnc107:=NB293_350.out;have hnb108:=NB350_302.out;have hnc108:=NB302_350.out;have hnb109:=NB350_340.out;have hnc109:=NB340_350.out;have hnb110:=NB350_345.out;have hnc110:=NB345_350.out;have hcz111_0:=bcv (v:=.int .i64 0) BK350.out 0 rfl;have hcz111_1:=bcv (v:=.slice none 0 0) BK350.out 1 rfl;have hfz111_0:=blk_frozen BK350.out 0;have hfz111_1:=blk_frozen BK350.out 1;obtain ⟨Ao112,co112,eo112⟩:=Kd.R_slice HO349.out;subst eo112))
                 go_cut [150] (fun v150 wc=>∃ (kq : Nat) (x150_84 : Bool),v150 = .bool x150_84 ∧ Aside0 (laws_FnRepaired.j4 kq l1 (wrap64 ((wrap64 ((wrap64 (1 + (Int.tmod t291 6))) + (Int.tmod t292 4))) + (Int.tmod t294 (wrap64 ((wrap64 (1 + (Int.tmod t291 6))) + 1))))) x8_3 x9_4 x150_84 (wrap64 (1 + (Int.tmod t291 6))) (Int.tmod t292 4) (Int.tmod t294 (wrap64 ((wrap64 (1 + (Int.tmod t291 6))) + 1))) t298 t299 t336 t337 t341 t342 t346 t347 = some true) ∧ Aside0 (kq ≤ k4) ∧ Aside0 (Kd.R Kd.bool 4 wc w.heap.size (fun _=>True) (.slice Ao88 x9_4.length co88) x9_4) ∧ Aside0 (Kd.R Kd.string 9 wc w.heap.size (fun k_=>some k_ ≠ ((.slice Ao112 t347.length co112) : Value).ownBlock) (.slice Ao26 t299.length co26) t299) ∧ Aside0 (Kd.R (Kd.int .i64) 2 wc w.heap.size (fun k_=>some k_ ≠ ((.slice Ao102 t342.length co102) : Value).ownBlock) (.slice Ao94 t337.length co94) t337) ∧ Aside0 (Kd.R (Kd.int .i64) 2 wc w.heap.size (fun k_=>some k_ ≠ ((.slice Ao94 t337.length co94) : Value).ownBlock) (.slice Ao102 t342.length co102) t342) ∧ Aside0 (Kd.R Kd.string 9 wc w.heap.size (fun k_=>some k_ ≠ ((.slice Ao26 t299.length co26) : Value).ownBlock) (.slice Ao112 t347.length co112) t347) ∧ Aside0 (wc.heap[gb293]? = some (.cells #[.int .i64 (wrap64 (1 + (Int.tmod t291 6))),.int .i64 (Int.tmod t292 4),.int .i64 (Int.tmod t294 (wrap64 ((wrap64 (1 + (Int.tmod t291 6))) + 1)))] 43 (0,0))) ∧ Aside0 (wc.heap[gb302]? = some (.cells #[.int .i64 t298,(.slice Ao26 t299.length co26)] 68 (0,0))) ∧ Aside0 (wc.heap[gb340]? = some (.cells #[.int .i64 t336,(.slice Ao94 t337.length co94)] 74 (0,0))) ∧ Aside0 (wc.heap[gb345]? = some (.cells #[.int .i64 t341,(.slice Ao102 t342.length co102)] 74 (0,0))) ∧ Aside0 (wc.heap[gb350]? = some (.cells #[.int .i64 t346,(.slice Ao112 t347.length co112)] 68 (0,0))) ∧ Aside0 (Below w.heap.size w wc))
                 case first=>
                  as_aux_lemma=>
                   have H:=HC85.out
                   clear HC85
                   by_cases c113 : t336 = t341
                   ·rw [if_pos c113] at H
                    have c113b0 : (t336 == t341) = true:=beq_iff_eq.mpr c113
                    have c113b1 : (t336 != t341) = false:=bne_eq_false_iff_eq.mpr c113
                    clear c113
                    (skip)
                    replace H:=Option.bind_eq_some_iff.mp H
                    obtain ⟨t351,A1140,H⟩:=H
                    replace H : (if t351 = true then (laws_FnRepaired.j4 k4 l1 (wrap64 ((wrap64 ((wrap64 (1 + (Int.tmod t291 6))) + (Int.tmod t292 4))) + (Int.tmod t294 (wrap64 ((wrap64 (1 + (Int.tmod t291 6))) + 1))))) x8_3 x9_4 (t346 != t341) (wrap64 (1 + (Int.tmod t291 6))) (Int.tmod t292 4) (Int.tmod t294 (wrap64 ((wrap64 (1 + (Int.tmod t291 6))) + 1))) t298 t299 t336 t337 t341 t342 t346 t347) else (laws_FnRepaired.j4 k4 l1 (wrap64 ((wrap64 ((wrap64 (1 + (Int.tmod t291 6))) + (Int.tmod t292 4))) + (Int.tmod t294 (wrap64 ((wrap64 (1 + (Int.tmod t291 6))) + 1))))) x8_3 x9_4 true (wrap64 (1 + (Int.tmod t291 6))) (Int.tmod t292 4) (Int.tmod t294 (wrap64 ((wrap64 (1 + (Int.tmod t291 6))) + 1))) t298 t299 t336 t337 t341 t342 t346 t347)) = some true:=H
                    have A114:=M0 A1140
                    clear A1140
                    by_cases c115 : t351 = true
                    ·subst c115
                     have H1 : (laws_FnRepaired.j4 k4 l1 (wrap64 ((wrap64 ((wrap64 (1 + (Int.tmod t291 6))) + (Int.tmod t292 4))) + (Int.tmod t294 (wrap64 ((wrap64 (1 + (Int.tmod t291 6))) + 1))))) x8_3 x9_4 (t346 != t341) (wrap64 (1 + (Int.tmod t291 6))) (Int.tmod t292 4) (Int.tmod t294 (wrap64 ((wrap64 (1 + (Int.tmod t291 6))) + 1))) t298 t299 t336 t337 t341 t342 t346 t347) = some true:=by rw [if_pos rfl] at H;exact H
                     clear H
                     have H:=H1
                     clear H1
                     have H':=M0 H
                     clear H
                     have hnb116:=NB340_293.out
                     have hnc116:=NB293_340.out
                     have hnb117:=NB340_302.out
                     have hnc117:=NB302_340.out
                     have hnb118:=NB340_345.out
                     have hnc118:=NB345_340.out
                     have hnb119:=NB340_350.out
                     have hnc119:=NB350_340.out
                     have hcz120_0:=bcv (v:=.int .i64 t336) BK340.out 0 rfl
                     have hcz120_1:=bcv (v:=.slice Ao94 t337.length co94) BK340.out 1 rfl
                     have hfz120_0:=blk_frozen BK340.out 0
                     have hfz120_1:=blk_frozen BK340.out 1
                     have hnb121:=NB345_293.out
                     have hnc121:=NB293_345.out
                     have hnb122:=NB345_302.out
                     have hnc122:=NB302_345.out
                     have hnb123:=NB345_350.out
                     have hnc123:=NB350_345.out
                     have hcz124_0:=bcv (v:=.int .i64 t341) BK345.out 0 rfl
                     have hcz124_1:=bcv (v:=.slice Ao102 t342.length co102) BK345.out 1 rfl
                     have hfz124_0:=blk_frozen BK345.out 0
                     have hfz124_1:=blk_frozen BK345.out 1
                     go_wp2_with ((go_at_call 42;(with_reducible refine (laws_lwInts.calls k4 _ _ t337 _ _ t342 true _ ?side1 ?side2 ?side3 ?side4 A114.out).mono ?_);(case side1=>refine (Kd.R_reads' (e:=2) (base:=w.heap.size) (ok:=fun k_=>(True ∧ some k_ ≠ (.slice Ao102 t342.length co102 : Value).ownBlock)) (n:=t337.length) (c:=co94) ?_).2.2;exact (by exact (Kd.R_mono (Kd.R_far (p:=⟨gb350,1,none⟩) (Kd.R_far (p:=⟨gb350,0,none⟩) (Kd.R_types HO339.out BK350.out (by decide)) (fun _ hk=>hk.2) (.int .i64 t346)) (fun _ hk=>hk.2) (.slice Ao112 t347.length co112)) (fun _ h_=>h_.1))));(case side2=>exact (Kd.R_reads' HO339.out).2.1);(case side3=>refine (Kd.R_reads' (e:=2) (base:=w.heap.size) (ok:=fun k_=>(True ∧ some k_ ≠ (.slice Ao94 t337.length co94 : Value).ownBlock)) (n:=t342.length) (c:=co102) ?_).2.2;exact (by exact (Kd.R_mono (Kd.R_far (p:=⟨gb350,1,none⟩) (Kd.R_far (p:=⟨gb350,0,none⟩) (Kd.R_types HO344.out BK350.out (by decide)) (fun _ hk=>hk.2) (.int .i64 t346)) (fun _ hk=>hk.2) (.slice Ao112 t347.length co112)) (fun _ h_=>h_.1))));(case side4=>exact (Kd.R_reads' HO344.out).2.1);rintro e w' ⟨rfl,⟨nd,rfl⟩⟩;have hnb125:=NB350_293.out;have hnc125:=NB293_350.out;have hnb126:=NB350_302.out;have hnc126:=NB302_350.out;have hcz127_0:=bcv (v:=.int .i64 0) BK350.out 0 rfl;have hcz127_1:=bcv (v:=.slice none 0 0) BK350.out 1 rfl;have hfz127_0:=blk_frozen BK350.out 0;have hfz127_1:=blk_frozen BK350.out 1))
                     go_meet
                     case rel=>exact ⟨_,((t346 != t341)),(by rfl),H',⟨by have:=HJ2.out;have:=HJ11.out;have:=HK3.out;have:=HK4.out;omega⟩,⟨by (with_reducible repeat (apply Kd.R_drewN));exact Kd.R_mono (Kd.R_far (p:=⟨gb350,1,none⟩) (Kd.R_far (p:=⟨gb350,0,none⟩) (Kd.R_types HO_9.out BK350.out (by decide)) (fun _ hk=>hk.2) (.int .i64 t346)) (fun _ hk=>hk.2) (.slice Ao112 t347.length co112)) (fun _ hk=>trivial)⟩,⟨by (with_reducible repeat (apply Kd.R_drewN));exact Kd.R_mono (Kd.R_far (p:=⟨gb350,1,none⟩) (Kd.R_far (p:=⟨gb350,0,none⟩) (Kd.R_types HO_303001.out BK350.out (by decide)) (fun _ hk=>hk.2) (.int .i64 t346)) (fun _ hk=>hk.2) (.slice Ao112 t347.length co112)) (fun _ hk=>hk.1.2)⟩,⟨by (with_reducible repeat (apply Kd.R_drewN));exact Kd.R_mono (Kd.R_far (p:=⟨gb350,1,none⟩) (Kd.R_far (p:=⟨gb350,0,none⟩) (Kd.R_types HO339.out BK350.out (by decide)) (fun _ hk=>hk.2) (.int .i64 t346)) (fun _ hk=>hk.2) (.slice Ao112 t347.length co112)) (fun _ hk=>hk.1.2)⟩,⟨by (with_reducible repeat (apply Kd.R_drewN));exact Kd.R_mono (Kd.R_far (p:=⟨gb350,1,none⟩) (Kd.R_far (p:=⟨gb350,0,none⟩) (Kd.R_types HO344.out BK350.out (by decide)) (fun _ hk=>hk.2) (.int .i64 t346)) (fun _ hk=>hk.2) (.slice Ao112 t347.length co112)) (fun _ hk=>hk.1.2)⟩,⟨by (with_reducible repeat (apply Kd.R_drewN));exact Kd.R_mono (Kd.R_far (p:=⟨gb350,1,none⟩) (Kd.R_far (p:=⟨gb350,0,none⟩) (Kd.R_types HO349.out BK350.out (by decide)) (fun _ hk=>hk.2) (.int .i64 t346)) (fun _ hk=>hk.2) (.slice Ao112 t347.length co112)) (fun _ hk=>hk.1.2)⟩,⟨by (with_reducible repeat (refine blk_drewN ?_ _));refine blk_far ?_ NB293_350.out _;refine blk_far ?_ NB293_350.out _;exact BK293.out⟩,⟨by (with_reducible repeat (refine blk_drewN ?_ _));refine blk_far ?_ NB302_350.out _;refine blk_far ?_ NB302_350.out _;exact BK302.out⟩,⟨by (with_reducible repeat (refine blk_drewN ?_ _));refine blk_far ?_ NB340_350.out _;refine blk_far ?_ NB340_350.out _;exact BK340.out⟩,⟨by (with_reducible repeat (refine blk_drewN ?_ _));refine blk_far ?_ NB345_350.out _;refine blk_far ?_ NB345_350.out _;exact BK345.out⟩,⟨by (with_reducible repeat (refine blk_drewN ?_ _));refine blk_put (cs:=#[.int .i64 t346,.slice none 0 0]) ?_ 1 _ rfl;refine blk_put (cs:=#[.int .i64 0,.slice none 0 0]) ?_ 0 _ rfl;exact BK350.out⟩,⟨by repeat ((with_reducible first|exact HB.out|apply pw_below_drewN|refine below_set ?_ GE350.out))⟩⟩
                    ·replace c115:=Bool.eq_false_iff.mpr c115
                     subst c115
                     have H1 : (laws_FnRepaired.j4 k4 l1 (wrap64 ((wrap64 ((wrap64 (1 + (Int.tmod t291 6))) + (Int.tmod t292 4))) + (Int.tmod t294 (wrap64 ((wrap64 (1 + (Int.tmod t291 6))) + 1))))) x8_3 x9_4 true (wrap64 (1 + (Int.tmod t291 6))) (Int.tmod t292 4) (Int.tmod t294 (wrap64 ((wrap64 (1 + (Int.tmod t291 6))) + 1))) t298 t299 t336 t337 t341 t342 t346 t347) = some true:=by rw [if_neg (show ¬ (false = true) by decide)] at H;exact H
                     clear H
                     have H:=H1
                     clear H1
                     have H':=M0 H
                     clear H
                     have hnb128:=NB340_293.out
                     have hnc128:=NB293_340.out
                     have hnb129:=NB340_302.out
                     have hnc129:=NB302_340.out
                     have hnb130:=NB340_345.out
                     have hnc130:=NB345_340.out
                     have hnb131:=NB340_350.out
                     have hnc131:=NB350_340.out
                     have hcz132_0:=bcv (v:=.int .i64 t336) BK340.out 0 rfl
                     have hcz132_1:=bcv (v:=.slice Ao94 t337.length co94) BK340.out 1 rfl
                     have hfz132_0:=blk_frozen BK340.out 0
                     have hfz132_1:=blk_frozen BK340.out 1
                     have hnb133:=NB345_293.out
                     have hnc133:=NB293_345.out
                     have hnb134:=NB345_302.out
                     have hnc134:=NB302_345.out
                     have hnb135:=NB345_350.out
                     have hnc135:=NB350_345.out
                     have hcz136_0:=bcv (v:=.int .i64 t341) BK345.out 0 rfl
                     have hcz136_1:=bcv (v:=.slice Ao102 t342.length co102) BK345.out 1 rfl
                     have hfz136_0:=blk_frozen BK345.out 0
                     have hfz136_1:=blk_frozen BK345.out 1
                     go_wp2_with ((go_at_call 42;(with_reducible refine (laws_lwInts.calls k4 _ _ t337 _ _ t342 false _ ?side1 ?side2 ?side3 ?side4 A114.out).mono ?_);(case side1=>refine (Kd.R_reads' (e:=2) (base:=w.heap.size) (ok:=fun k_=>(True ∧ some k_ ≠ (.slice Ao102 t342.length co102 : Value).ownBlock)) (n:=t337.length) (c:=co94) ?_).2.2;exact (by exact (Kd.R_mono (Kd.R_far (p:=⟨gb350,1,none⟩) (Kd.R_far (p:=⟨gb350,0,none⟩) (Kd.R_types HO339.out BK350.out (by decide)) (fun _ hk=>hk.2) (.int .i64 t346)) (fun _ hk=>hk.2) (.slice Ao112 t347.length co112)) (fun _ h_=>h_.1))));(case side2=>exact (Kd.R_reads' HO339.out).2.1);(case side3=>refine (Kd.R_reads' (e:=2) (base:=w.heap.size) (ok:=fun k_=>(True ∧ some k_ ≠ (.slice Ao94 t337.length co94 : Value).ownBlock)) (n:=t342.length) (c:=co102) ?_).2.2;exact (by exact (Kd.R_mono (Kd.R_far (p:=⟨gb350,1,none⟩) (Kd.R_far (p:=⟨gb350,0,none⟩) (Kd.R_types HO344.out BK350.out (by decide)) (fun _ hk=>hk.2) (.int .i64 t346)) (fun _ hk=>hk.2) (.slice Ao112 t347.length co112)) (fun _ h_=>h_.1))));(case side4=>exact (Kd.R_reads' HO344.out).2.1);rintro e w' ⟨rfl,⟨nd,rfl⟩⟩))
                     go_meet
                     case rel=>exact ⟨_,(true),(by rfl),H',⟨by have:=HJ2.out;have:=HJ11.out;have:=HK3.out;have:=HK4.out;omega⟩,⟨by (with_reducible repeat (apply Kd.R_drewN));exact Kd.R_mono (Kd.R_far (p:=⟨gb350,1,none⟩) (Kd.R_far (p:=⟨gb350,0,none⟩) (Kd.R_types HO_9.out BK350.out (by decide)) (fun _ hk=>hk.2) (.int .i64 t346)) (fun _ hk=>hk.2) (.slice Ao112 t347.length co112)) (fun _ hk=>trivial)⟩,⟨by (with_reducible repeat (apply Kd.R_drewN));exact Kd.R_mono (Kd.R_far (p:=⟨gb350,1,none⟩) (Kd.R_far (p:=⟨gb350,0,none⟩) (Kd.R_types HO_303001.out BK350.out (by decide)) (fun _ hk=>hk.2) (.int .i64 t346)) (fun _ hk=>hk.2) (.slice Ao112 t347.length co112)) (fun _ hk=>hk.1.2)⟩,⟨by (with_reducible repeat (apply Kd.R_drewN));exact Kd.R_mono (Kd.R_far (p:=⟨gb350,1,none⟩) (Kd.R_far (p:=⟨gb350,0,none⟩) (Kd.R_types HO339.out BK350.out (by decide)) (fun _ hk=>hk.2) (.int .i64 t346)) (fun _ hk=>hk.2) (.slice Ao112 t347.length co112)) (fun _ hk=>hk.1.2)⟩,⟨by (with_reducible repeat (apply Kd.R_drewN));exact Kd.R_mono (Kd.R_far (p:=⟨gb350,1,none⟩) (Kd.R_far (p:=⟨gb350,0,none⟩) (Kd.R_types HO344.out BK350.out (by decide)) (fun _ hk=>hk.2) (.int .i64 t346)) (fun _ hk=>hk.2) (.slice Ao112 t347.length co112)) (fun _ hk=>hk.1.2)⟩,⟨by (with_reducible repeat (apply Kd.R_drewN));exact Kd.R_mono (Kd.R_far (p:=⟨gb350,1,none⟩) (Kd.R_far (p:=⟨gb350,0,none⟩) (Kd.R_types HO349.out BK350.out (by decide)) (fun _ hk=>hk.2) (.int .i64 t346)) (fun _ hk=>hk.2) (.slice Ao112 t347.length co112)) (fun _ hk=>hk.1.2)⟩,⟨by (with_reducible repeat (refine blk_drewN ?_ _));refine blk_far ?_ NB293_350.out _;refine blk_far ?_ NB293_350.out _;exact BK293.out⟩,⟨by (with_reducible repeat (refine blk_drewN ?_ _));refine blk_far ?_ NB302_350.out _;refine blk_far ?_ NB302_350.out _;exact BK302.out⟩,⟨by (with_reducible repeat (refine blk_drewN ?_ _));refine blk_far ?_ NB340_350.out _;refine blk_far ?_ NB340_350.out _;exact BK340.out⟩,⟨by (with_reducible repeat (refine blk_drewN ?_ _));refine blk_far ?_ NB345_350.out _;refine blk_far ?_ NB345_350.out _;exact BK345.out⟩,⟨by (with_reducible repeat (refine blk_drewN ?_ _));refine blk_put (cs:=#[.int .i64 t346,.slice none 0 0]) ?_ 1 _ rfl;refine blk_put (cs:=#[.int .i64 0,.slice none 0 0]) ?_ 0 _ rfl;exact BK350.out⟩,⟨by repeat ((with_reducible first|exact HB.out|apply pw_below_drewN|refine below_set ?_ GE350.out))⟩⟩
                   ·rw [if_neg c113] at H
                    have c113b0 : (t336 == t341) = false:=beq_eq_false_iff_ne.mpr c113
                    have c113b1 : (t336 != t341) = true:=bne_iff_ne.mpr c113
                    (skip)
                    have H':=M0 H
                    clear H
                    have hnb137:=NB340_293.out
                    have hnc137:=NB293_340.out
                    have hnb138:=NB340_302.out
                    have hnc138:=NB302_340.out
                    have hnb139:=NB340_345.out
                    have hnc139:=NB345_340.out
                    have hnb140:=NB340_350.out
                    have hnc140:=NB350_340.out
                    have hcz141_0:=bcv (v:=.int .i64 t336) BK340.out 0 rfl
                    have hcz141_1:=bcv (v:=.slice Ao94 t337.length co94) BK340.out 1 rfl
                    have hfz141_0:=blk_frozen BK340.out 0
                    have hfz141_1:=blk_frozen BK340.out 1
                    have hnb142:=NB345_293.out
                    have hnc142:=NB293_345.out
                    have hnb143:=NB345_302.out
                    have hnc143:=NB302_345.out
                    have hnb144:=NB345_350.out
                    have hnc144:=NB350_345.out
                    have hcz145_0:=bcv (v:=.int .i64 t341) BK345.out 0 rfl
                    have hcz145_1:=bcv (v:=.slice Ao102 t342.length co102) BK345.out 1 rfl
                    have hfz145_0:=blk_frozen BK345.out 0
                    have hfz145_1:=blk_frozen BK345.out 1
                    go_wp2
                    go_meet
                    case rel=>exact ⟨_,(true),(by rfl),H',⟨by have:=HJ2.out;have:=HJ11.out;have:=HK3.out;have:=HK4.out;omega⟩,⟨by exact Kd.R_mono (Kd.R_far (p:=⟨gb350,1,none⟩) (Kd.R_far (p:=⟨gb350,0,none⟩) (Kd.R_types HO_9.out BK350.out (by decide)) (fun _ hk=>hk.2) (.int .i64 t346)) (fun _ hk=>hk.2) (.slice Ao112 t347.length co112)) (fun _ hk=>trivial)⟩,⟨by exact Kd.R_mono (Kd.R_far (p:=⟨gb350,1,none⟩) (Kd.R_far (p:=⟨gb350,0,none⟩) (Kd.R_types HO_303001.out BK350.out (by decide)) (fun _ hk=>hk.2) (.int .i64 t346)) (fun _ hk=>hk.2) (.slice Ao112 t347.length co112)) (fun _ hk=>hk.1.2)⟩,⟨by exact Kd.R_mono (Kd.R_far (p:=⟨gb350,1,none⟩) (Kd.R_far (p:=⟨gb350,0,none⟩) (Kd.R_types HO339.out BK350.out (by decide)) (fun _ hk=>hk.2) (.int .i64 t346)) (fun _ hk=>hk.2) (.slice Ao112 t347.length co112)) (fun _ hk=>hk.1.2)⟩,⟨by exact Kd.R_mono (Kd.R_far (p:=⟨gb350,1,none⟩) (Kd.R_far (p:=⟨gb350,0,none⟩) (Kd.R_types HO344.out BK350.out (by decide)) (fun _ hk=>hk.2) (.int .i64 t346)) (fun _ hk=>hk.2) (.slice Ao112 t347.length co112)) (fun _ hk=>hk.1.2)⟩,⟨by exact Kd.R_mono (Kd.R_far (p:=⟨gb350,1,none⟩) (Kd.R_far (p:=⟨gb350,0,none⟩) (Kd.R_types HO349.out BK350.out (by decide)) (fun _ hk=>hk.2) (.int .i64 t346)) (fun _ hk=>hk.2) (.slice Ao112 t347.length co112)) (fun _ hk=>hk.1.2)⟩,⟨by refine blk_far ?_ NB293_350.out _;refine blk_far ?_ NB293_350.out _;exact BK293.out⟩,⟨by refine blk_far ?_ NB302_350.out _;refine blk_far ?_ NB302_350.out _;exact BK302.out⟩,⟨by refine blk_far ?_ NB340_350.out _;refine blk_far ?_ NB340_350.out _;exact BK340.out⟩,⟨by refine blk_far ?_ NB345_350.out _;refine blk_far ?_ NB345_350.out _;exact BK345.out⟩,⟨by refine blk_put (cs:=#[.int .i64 t346,.slice none 0 0]) ?_ 1 _ rfl;refine blk_put (cs:=#[.int .i64 0,.slice none 0 0]) ?_ 0 _ rfl;exact BK350.out⟩,⟨by repeat ((with_reducible first|exact HB.out|refine below_set ?_ GE350.out))⟩⟩
                 case rest=>
                  as_aux_lemma=>
                   clear HC85
                   (try clear c9);(try clear c51b0);(try clear hcz101_0);(try clear hcz101_1);(try clear hcz103_0);(try clear hcz103_1);(try clear hcz103_2);(try clear hcz111_0);(try clear hcz111_1);(try clear hcz87_0);(try clear hcz87_1);(try clear hcz87_2);(try clear hcz93_0);(try clear hcz93_1);(try clear hcz95_0);(try clear hcz95_1);(try clear hcz95_2);(try clear hfz101_0);(try clear hfz101_1);(try clear hfz103_0);(try clear hfz103_1);(try clear hfz103_2);(try clear hfz111_0);(try clear hfz111_1);(try clear hfz87_0);(try clear hfz87_1);(try clear hfz87_2);(try clear hfz93_0);(try clear hfz93_1);(try clear hfz95_0);(try clear hfz95_1);(try clear hfz95_2)
                   obtain ⟨kq,x150_84,rfl,HA,HJ84,HO_9,HO_303001,HO_341001,HO_346001,HO_351001,BK293,BK302,BK340,BK345,BK350,HB⟩:=hcut
                   cases kq with
                   | zero=>exact absurd HA.out (by simp [laws_FnRepaired.j4])
                   | succ kj84=>
                    have H:=HA.out
                    clear HA
                    simp only [laws_FnRepaired.j4] at H
                    by_cases c146 : x150_84 = true
                    ·subst c146
                     have H1 : (some false) = some true:=by rw [if_pos rfl] at H;exact H
                     clear H
                     have H:=H1
                     clear H1
                     exact absurd (Option.some.inj H) (by decide)
                    ·replace c146:=Bool.eq_false_iff.mpr c146
                     subst c146
                     have H1 : (if t341 = 0 then (if (t347.length : Int) = 1 then (if 0 < (t347.length : Int) then (if 0 ≤ x8_3 then (if x8_3 < (t299.length : Int) then (laws_FnRepaired.j5 kj84 l1 (wrap64 ((wrap64 ((wrap64 (1 + (Int.tmod t291 6))) + (Int.tmod t292 4))) + (Int.tmod t294 (wrap64 ((wrap64 (1 + (Int.tmod t291 6))) + 1))))) x8_3 x9_4 ((rdOf ByteArray.empty t347 0).toList != (rdOf ByteArray.empty t299 x8_3).toList) (wrap64 (1 + (Int.tmod t291 6))) (Int.tmod t292 4) (Int.tmod t294 (wrap64 ((wrap64 (1 + (Int.tmod t291 6))) + 1))) t298 t299 t336 t337) else (none)) else (none)) else (none)) else (laws_FnRepaired.j5 kj84 l1 (wrap64 ((wrap64 ((wrap64 (1 + (Int.tmod t291 6))) + (Int.tmod t292 4))) + (Int.tmod t294 (wrap64 ((wrap64 (1 + (Int.tmod t291 6))) + 1))))) x8_3 x9_4 true (wrap64 (1 + (Int.tmod t291 6))) (Int.tmod t292 4) (Int.tmod t294 (wrap64 ((wrap64 (1 + (Int.tmod t291 6))) + 1))) t298 t299 t336 t337)) else (laws_FnRepaired.l0 kj84 l1 (wrap64 ((wrap64 ((wrap64 (1 + (Int.tmod t291 6))) + (Int.tmod t292 4))) + (Int.tmod t294 (wrap64 ((wrap64 (1 + (Int.tmod t291 6))) + 1))))) (wrap64 (x8_3 + 1)) (wrap64 (1 + (Int.tmod t291 6))) (Int.tmod t292 4) (Int.tmod t294 (wrap64 ((wrap64 (1 + (Int.tmod t291 6))) + 1))) t298 t299)) = some true:=by rw [if_neg (show ¬ (false = true) by decide)] at H;exact H
                     clear H
                     have H:=H1
                     clear H1
                     by_cases c147 : t341 = 0
                     ·rw [if_pos c147] at H
                      have c147b0 : (t341 == 0) = true:=beq_iff_eq.mpr c147
                      have c147b1 : (t341 != 0) = false:=bne_eq_false_iff_eq.mpr c147
                      clear c147
                      have HC148:=M0 H
                      clear H
                      have hnb149:=NB345_293.out
                      have hnc149:=NB293_345.out
                      have hnb150:=NB345_302.out
                      have hnc150:=NB302_345.out
                      have hnb151:=NB345_340.out
                      have hnc151:=NB340_345.out
                      have hnb152:=NB345_350.out
                      have hnc152:=NB350_345.out
                      have hcz153_0:=bcv (v:=.int .i64 t341) BK345.out 0 rfl
                      have hcz153_1:=bcv (v:=.slice Ao102 t342.length co102) BK345.out 1 rfl
                      have hfz153_0:=blk_frozen BK345.out 0
                      have hfz153_1:=blk_frozen BK345.out 1
                      go_upto_region 29 with (fail)
                      go_cut [169] (fun v169 wc=>∃ (kq : Nat) (x169_147 : Bool),v169 = .bool x169_147 ∧ Aside0 (laws_FnRepaired.j5 kq l1 (wrap64 ((wrap64 ((wrap64 (1 + (Int.tmod t291 6))) + (Int.tmod t292 4))) + (Int.tmod t294 (wrap64 ((wrap64 (1 + (Int.tmod t291 6))) + 1))))) x8_3 x9_4 x169_147 (wrap64 (1 + (Int.tmod t291 6))) (Int.tmod t292 4) (Int.tmod t294 (wrap64 ((wrap64 (1 + (Int.tmod t291 6))) + 1))) t298 t299 t336 t337 = some true) ∧ Aside0 (kq ≤ kj84) ∧ Aside0 (Kd.R Kd.bool 4 wc w.heap.size (fun _=>True) (.slice Ao88 x9_4.length co88) x9_4) ∧ Aside0 (Kd.R Kd.string 9 wc w.heap.size (fun k_=>some k_ ≠ ((.slice Ao112 t347.length co112) : Value).ownBlock) (.slice Ao26 t299.length co26) t299) ∧ Aside0 (Kd.R (Kd.int .i64) 2 wc w.heap.size (fun k_=>some k_ ≠ ((.slice Ao102 t342.length co102) : Value).ownBlock) (.slice Ao94 t337.length co94) t337) ∧ Aside0 (Kd.R (Kd.int .i64) 2 wc w.heap.size (fun k_=>some k_ ≠ ((.slice Ao94 t337.length co94) : Value).ownBlock) (.slice Ao102 t342.length co102) t342) ∧ Aside0 (Kd.R Kd.string 9 wc w.heap.size (fun k_=>some k_ ≠ ((.slice Ao26 t299.length co26) : Value).ownBlock) (.slice Ao112 t347.length co112) t347) ∧ Aside0 (wc.heap[gb293]? = some (.cells #[.int .i64 (wrap64 (1 + (Int.tmod t291 6))),.int .i64 (Int.tmod t292 4),.int .i64 (Int.tmod t294 (wrap64 ((wrap64 (1 + (Int.tmod t291 6))) + 1)))] 43 (0,0))) ∧ Aside0 (wc.heap[gb302]? = some (.cells #[.int .i64 t298,(.slice Ao26 t299.length co26)] 68 (0,0))) ∧ Aside0 (wc.heap[gb340]? = some (.cells #[.int .i64 t336,(.slice Ao94 t337.length co94)] 74 (0,0))) ∧ Aside0 (wc.heap[gb345]? = some (.cells #[.int .i64 t341,(.slice Ao102 t342.length co102)] 74 (0,0))) ∧ Aside0 (wc.heap[gb350]? = some (.cells #[.int .i64 t346,(.slice Ao112 t347.length co112)] 68 (0,0))) ∧ Aside0 (Below w.heap.size w wc))
                      case first=>
                       have H:=HC148.out
                       clear HC148
                       by_cases c154 : (t347.length : Int) = 1
                       ·rw [if_pos c154] at H
                        have c154b0 : ((t347.length : Int) == 1) = true:=beq_iff_eq.mpr c154
                        have c154b1 : ((t347.length : Int) != 1) = false:=bne_eq_false_iff_eq.mpr c154
                        clear c154
                        (skip)
                        obtain ⟨c155,H⟩:=nn H
                        have c155b0:=decide_eq_true c155
                        have c155b1 : decide (0 < t347.length) = true:=decide_eq_true (by omega)
                        clear c155
                        obtain ⟨c156,H⟩:=nn H
                        have c156b0:=decide_eq_true c156
                        clear c156
                        obtain ⟨c157,H⟩:=nn H
                        have c157b0:=decide_eq_true c157
                        clear c157
                        have H':=M0 H
                        clear H
                        try go_wp2
                        replace HO_9:=M0 (Kd.R_drew HO_9.out)
                        replace HO_303001:=M0 (Kd.R_drew HO_303001.out)
                        replace HO_341001:=M0 (Kd.R_drew HO_341001.out)
                        replace HO_346001:=M0 (Kd.R_drew HO_346001.out)
                        replace HO_351001:=M0 (Kd.R_drew HO_351001.out)
                        replace BK293:=M0 (blk_drew BK293.out)
                        replace BK302:=M0 (blk_drew BK302.out)
                        replace BK340:=M0 (blk_drew BK340.out)
                        replace BK345:=M0 (blk_drew BK345.out)
                        replace BK350:=M0 (blk_drew BK350.out)
                        replace HB:=M0 (below_drew1 HB.out)
                        have p352 : 0 ≤ (0 : Int):=(by omega)
                        have q352 : 0 < (t347.length : Int):=of_decide_eq_true (by with_reducible assumption)
                        obtain ⟨ad352,e352,hx352_0⟩:=Kd.at_string (Kd.R_reads' HO_351001.out).2.2 0 p352 q352
                        cases e352
                        have qi352 : (0 < t347.length) = True:=eq_true (by omega)
                        (try rw [show ((0 : Int)).toNat = 0 from rfl] at hx352_0)
                        (try rw [Addr.add_zero'] at hx352_0)
                        replace p352:=eq_true p352
                        replace q352:=eq_true q352
                        have p353 : 0 ≤ (x8_3 : Int):=of_decide_eq_true (by with_reducible assumption)
                        have q353 : x8_3 < (t299.length : Int):=of_decide_eq_true (by with_reducible assumption)
                        obtain ⟨ad353,e353,hx353_0⟩:=Kd.at_string (Kd.R_reads' HO_303001.out).2.2 x8_3 p353 q353
                        cases e353
                        replace p353:=eq_true p353
                        replace q353:=eq_true q353
                        refine start_ (n:=16) (S:=fun w'=>w'.cell? ⟨gb350,0,none⟩ = some (.int .i64 t346) ∧ w'.cell? ⟨gb350,1,none⟩ = some (.slice (some ad352) t347.length co112) ∧ w'.cell? ⟨gb302,0,none⟩ = some (.int .i64 t298) ∧ w'.cell? ⟨gb302,1,none⟩ = some (.slice (some ad353) t299.length co26) ∧ w'.cell? ad352 = some (.string (rdOf ByteArray.empty t347 0)) ∧ w'.cell? (ad353.add (x8_3).toNat) = some (.string (rdOf ByteArray.empty t299 x8_3))) (ds:=[]) #[O,O,O,O,O,O,O,O,O,O,O,O,O,O,O,O] (by kernel_rfl) rfl rfl ⟨(blk_cell BK350.out 0).trans rfl,(blk_cell BK350.out 1).trans rfl,(blk_cell BK302.out 0).trans rfl,(blk_cell BK302.out 1).trans rfl,hx352_0,hx353_0⟩ (fun hHeld=>?_);refine with_tabW laws_FnRepaired.tab29 laws_FnRepaired.bits29 (fun HT_ HW_=>?_)
                        generalize wc.drew = w158 at HO_9 HO_303001 HO_341001 HO_346001 HO_351001 BK293 BK302 BK340 BK345 BK350 HB hx352_0 hx353_0 hHeld ⊢
                        refine pure_ (i:=0) (N:=some 154) #[I,O,O,O,O,O,O,O,O,O,O,O,O,O,O,O] rfl rfl (any_of HT_.out (by kernel_rfl)) (fun _ _ _ h=>h) (Or.inl ⟨by rfl,by intro w';go_simp;with_reducible rfl⟩) (by simp only [Act.put,List.setIfInBounds_toArray,List.set_cons_zero,List.set_cons_succ,i64_w,i32_w];rfl) ?_
                        refine take_ (i:=1) (N:=some 155) #[I,I,O,O,O,O,O,O,O,O,O,O,O,O,O,O] rfl rfl (take_ofW HT_.out HW_.out (by kernel_rfl)) (fun _ _ _ h=>h) (Or.inl ⟨by rfl,by rintro w' ⟨s0,s1,s2,s3,s4,s5⟩;go_simp;with_reducible rfl⟩) hHeld (by simp only [Act.put,List.setIfInBounds_toArray,List.set_cons_zero,List.set_cons_succ,i64_w,i32_w];rfl) ?_
                        refine pure_ (i:=2) (N:=some 156) #[I,I,I,O,O,O,O,O,O,O,O,O,O,O,O,O] rfl rfl (any_of HT_.out (by kernel_rfl)) (fun _ _ _ h=>h) (Or.inl ⟨by rfl,by intro w';go_simp;with_reducible rfl⟩) (by simp only [Act.put,List.setIfInBounds_toArray,List.set_cons_zero,List.set_cons_succ,i64_w,i32_w];rfl) ?_
                        refine pure_ (i:=3) (N:=some 157) #[I,I,I,I,O,O,O,O,O,O,O,O,O,O,O,O] rfl rfl (any_of HT_.out (by kernel_rfl)) (fun _ _ _ h=>h) (Or.inl ⟨by rfl,by intro w';go_simp;with_reducible rfl⟩) (by simp only [Act.put,List.setIfInBounds_toArray,List.set_cons_zero,List.set_cons_succ,i64_w,i32_w];rfl) ?_
                        refine pure_ (i:=4) (N:=some 158) #[I,I,I,I,I,O,O,O,O,O,O,O,O,O,O,O] rfl rfl (any_of HT_.out (by kernel_rfl)) (fun _ _ _ h=>h) (Or.inl ⟨by rfl,by intro w';go_simp;with_reducible rfl⟩) (by simp only [Act.put,List.setIfInBounds_toArray,List.set_cons_zero,List.set_cons_succ,i64_w,i32_w];rfl) ?_
                        refine pure_ (i:=5) (N:=some 159) #[I,I,I,I,I,I,O,O,O,O,O,O,O,O,O,O] rfl rfl (any_of HT_.out (by kernel_rfl)) (fun _ _ _ h=>h) (Or.inl ⟨by rfl,by intro w';go_simp;with_reducible rfl⟩) (by simp only [Act.put,List.setIfInBounds_toArray,List.set_cons_zero,List.set_cons_succ,i64_w,i32_w];rfl) ?_
                        refine pure_ (i:=9) (N:=some 163) #[I,I,I,I,I,I,O,O,O,I,O,O,O,O,O,O] rfl rfl (any_of HT_.out (by kernel_rfl)) (fun _ _ _ h=>h) (Or.inl ⟨by rfl,by intro w';go_simp;with_reducible rfl⟩) (by simp only [Act.put,List.setIfInBounds_toArray,List.set_cons_zero,List.set_cons_succ,i64_w,i32_w];rfl) ?_
                        refine pure_ (i:=11) (N:=some 165) #[I,I,I,I,I,I,O,O,O,I,O,I,O,O,O,O] rfl rfl (any_of HT_.out (by kernel_rfl)) (fun _ _ _ h=>h) (Or.inl ⟨by rfl,by intro w';go_simp;with_reducible rfl⟩) (by simp only [Act.put,List.setIfInBounds_toArray,List.set_cons_zero,List.set_cons_succ,i64_w,i32_w];rfl) ?_
                        refine take_ (i:=6) (N:=some 160) #[I,I,I,I,I,I,I,O,O,I,O,I,O,O,O,O] rfl rfl (take_ofW HT_.out HW_.out (by kernel_rfl)) (fun _ _ _ h=>h) (Or.inl ⟨by rfl,by rintro w' ⟨s0,s1,s2,s3,s4,s5⟩;go_simp;with_reducible rfl⟩) hHeld (by simp only [Act.put,List.setIfInBounds_toArray,List.set_cons_zero,List.set_cons_succ,i64_w,i32_w];rfl) ?_
                        refine pure_ (i:=7) (N:=some 161) #[I,I,I,I,I,I,I,I,O,I,O,I,O,O,O,O] rfl rfl (any_of HT_.out (by kernel_rfl)) (fun _ _ _ h=>h) (Or.inl ⟨by rfl,by intro w';go_simp;with_reducible rfl⟩) (by simp only [Act.put,List.setIfInBounds_toArray,List.set_cons_zero,List.set_cons_succ,i64_w,i32_w];rfl) ?_
                        refine take_ (i:=8) (N:=some 162) #[I,I,I,I,I,I,I,I,I,I,O,I,O,O,O,O] rfl rfl (take_ofW HT_.out HW_.out (by kernel_rfl)) (fun _ _ _ h=>h) (Or.inl ⟨by rfl,by rintro w' ⟨s0,s1,s2,s3,s4,s5⟩;go_simp;with_reducible rfl⟩) hHeld (by simp only [Act.put,List.setIfInBounds_toArray,List.set_cons_zero,List.set_cons_succ,i64_w,i32_w];rfl) ?_
                        refine take_ (i:=10) (N:=some 164) #[I,I,I,I,I,I,I,I,I,I,I,I,O,O,O,O] rfl rfl (take_ofW HT_.out HW_.out (by kernel_rfl)) (fun _ _ _ h=>h) (Or.inl ⟨by rfl,by rintro w' ⟨s0,s1,s2,s3,s4,s5⟩;go_simp;with_reducible rfl⟩) hHeld (by simp only [Act.put,List.setIfInBounds_toArray,List.set_cons_zero,List.set_cons_succ,i64_w,i32_w];rfl) ?_
                        refine pure_ (i:=12) (N:=some 166) #[I,I,I,I,I,I,I,I,I,I,I,I,I,O,O,O] rfl rfl (any_of HT_.out (by kernel_rfl)) (fun _ _ _ h=>h) (Or.inl ⟨by rfl,by intro w';go_simp;with_reducible rfl⟩) (by simp only [Act.put,List.setIfInBounds_toArray,List.set_cons_zero,List.set_cons_succ,i64_w,i32_w];rfl) ?_
                        refine take_ (i:=13) (N:=some 167) #[I,I,I,I,I,I,I,I,I,I,I,I,I,I,O,O] rfl rfl (take_ofW HT_.out HW_.out (by kernel_rfl)) (fun _ _ _ h=>h) (Or.inl ⟨by rfl,by rintro w' ⟨s0,s1,s2,s3,s4,s5⟩;go_simp;with_reducible rfl⟩) hHeld (by simp only [Act.put,List.setIfInBounds_toArray,List.set_cons_zero,List.set_cons_succ,i64_w,i32_w];rfl) ?_
                        refine pure_ (i:=14) (N:=some 168) #[I,I,I,I,I,I,I,I,I,I,I,I,I,I,I,O] rfl rfl (any_of HT_.out (by kernel_rfl)) (fun _ _ _ h=>h) (Or.inl ⟨by rfl,by intro w';go_simp;with_reducible rfl⟩) (by simp only [Act.put,List.setIfInBounds_toArray,List.set_cons_zero,List.set_cons_succ,i64_w,i32_w];rfl) ?_
                        refine pure_ (i:=15) (N:=some 169) #[I,I,I,I,I,I,I,I,I,I,I,I,I,I,I,I] rfl rfl (any_of HT_.out (by kernel_rfl)) (fun _ _ _ h=>h) (Or.inl ⟨by rfl,by intro w';go_simp;with_reducible rfl⟩) (by simp only [Act.put,List.setIfInBounds_toArray,List.set_cons_zero,List.set_cons_succ,i64_w,i32_w];rfl) ?_
                        refine done_ (done_of HT_.out (by kernel_rfl)) ?_
                        try go_wp2
                        go_meet
                        case rel=>exact ⟨_,(((rdOf ByteArray.empty t347 0).toList != (rdOf ByteArray.empty t299 x8_3).toList)),(by rfl),H',⟨by have:=HJ2.out;have:=HJ11.out;have:=HK3.out;have:=HK4.out;have:=HJ84.out;omega⟩,⟨by exact HO_9.out⟩,⟨by exact HO_303001.out⟩,⟨by exact HO_341001.out⟩,⟨by exact HO_346001.out⟩,⟨by exact HO_351001.out⟩,⟨by exact BK293.out⟩,⟨by exact BK302.out⟩,⟨by exact BK340.out⟩,⟨by exact BK345.out⟩,⟨by exact BK350.out⟩,⟨HB.out⟩⟩
                       ·rw [if_neg c154] at H
                        have c154b0 : ((t347.length : Int) == 1) = false:=beq_eq_false_iff_ne.mpr c154
                        have c154b1 : ((t347.length : Int) != 1) = true:=bne_iff_ne.mpr c154
                        (skip)
                        have H':=M0 H
                        clear H
                        try go_wp2
                        replace HO_9:=M0 (Kd.R_drew HO_9.out)
                        replace HO_303001:=M0 (Kd.R_drew HO_303001.out)
                        replace HO_341001:=M0 (Kd.R_drew HO_341001.out)
                        replace HO_346001:=M0 (Kd.R_drew HO_346001.out)
                        replace HO_351001:=M0 (Kd.R_drew HO_351001.out)
                        replace BK293:=M0 (blk_drew BK293.out)
                        replace BK302:=M0 (blk_drew BK302.out)
                        replace BK340:=M0 (blk_drew BK340.out)
                        replace BK345:=M0 (blk_drew BK345.out)
                        replace BK350:=M0 (blk_drew BK350.out)
                        replace HB:=M0 (below_drew1 HB.out)
                        refine start_ (n:=16) (S:=fun w'=>w'.cell? ⟨gb350,0,none⟩ = some (.int .i64 t346) ∧ w'.cell? ⟨gb350,1,none⟩ = some (.slice Ao112 t347.length co112)) (ds:=[]) #[O,O,O,O,O,O,O,O,O,O,O,O,O,O,O,O] (by kernel_rfl) rfl rfl ⟨(blk_cell BK350.out 0).trans rfl,(blk_cell BK350.out 1).trans rfl⟩ (fun hHeld=>?_);refine with_tabW laws_FnRepaired.tab29 laws_FnRepaired.bits29 (fun HT_ HW_=>?_)
                        generalize wc.drew = w159 at HO_9 HO_303001 HO_341001 HO_346001 HO_351001 BK293 BK302 BK340 BK345 BK350 HB hHeld ⊢
                        refine pure_ (i:=0) (N:=some 154) #[I,O,O,O,O,O,O,O,O,O,O,O,O,O,O,O] rfl rfl (any_of HT_.out (by kernel_rfl)) (fun _ _ _ h=>h) (Or.inl ⟨by rfl,by intro w';go_simp;with_reducible rfl⟩) (by simp only [Act.put,List.setIfInBounds_toArray,List.set_cons_zero,List.set_cons_succ,i64_w,i32_w];rfl) ?_
                        refine take_ (i:=1) (N:=some 155) #[I,I,O,O,O,O,O,O,O,O,O,O,O,O,O,O] rfl rfl (take_ofW HT_.out HW_.out (by kernel_rfl)) (fun _ _ _ h=>h) (Or.inl ⟨by rfl,by rintro w' ⟨s0,s1⟩;go_simp;with_reducible rfl⟩) hHeld (by simp only [Act.put,List.setIfInBounds_toArray,List.set_cons_zero,List.set_cons_succ,i64_w,i32_w];rfl) ?_
                        refine pure_ (i:=2) (N:=some 156) #[I,I,I,O,O,O,O,O,O,O,O,O,O,O,O,O] rfl rfl (any_of HT_.out (by kernel_rfl)) (fun _ _ _ h=>h) (Or.inl ⟨by rfl,by intro w';go_simp;with_reducible rfl⟩) (by simp only [Act.put,List.setIfInBounds_toArray,List.set_cons_zero,List.set_cons_succ,i64_w,i32_w];rfl) ?_
                        refine pure_ (i:=3) (N:=some 157) #[I,I,I,I,O,O,O,O,O,O,O,O,O,O,O,O] rfl rfl (any_of HT_.out (by kernel_rfl)) (fun _ _ _ h=>h) (Or.inl ⟨by rfl,by intro w';go_simp;with_reducible rfl⟩) (by simp only [Act.put,List.setIfInBounds_toArray,List.set_cons_zero,List.set_cons_succ,i64_w,i32_w];rfl) ?_
                        refine pure_ (i:=4) (N:=some 158) #[I,I,I,I,I,O,O,O,O,O,O,O,O,O,O,O] rfl rfl (any_of HT_.out (by kernel_rfl)) (fun _ _ _ h=>h) (Or.inl ⟨by rfl,by intro w';go_simp;with_reducible rfl⟩) (by simp only [Act.put,List.setIfInBounds_toArray,List.set_cons_zero,List.set_cons_succ,i64_w,i32_w];rfl) ?_
                        refine pure_ (i:=5) (N:=some 159) (v:=undef) (a':=?_) #[I,I,I,I,I,I,O,O,O,O,O,O,O,O,O,O] rfl rfl (any_of HT_.out (by kernel_rfl)) (fun _ _ _ h=>h) (Or.inr ⟨by rfl,rfl⟩) ?_ ?_
                        rotate_left
                        ·simp only [Act.put,List.setIfInBounds_toArray,List.set_cons_zero,List.set_cons_succ,i64_w,i32_w]
                         rfl
                        refine pure_ (i:=6) (N:=some 160) (v:=undef) (a':=?_) #[I,I,I,I,I,I,I,O,O,O,O,O,O,O,O,O] rfl rfl (any_of HT_.out (by kernel_rfl)) (fun _ _ _ h=>h) (Or.inr ⟨by rfl,rfl⟩) ?_ ?_
                        rotate_left
                        ·simp only [Act.put,List.setIfInBounds_toArray,List.set_cons_zero,List.set_cons_succ,i64_w,i32_w]
                         rfl
                        refine pure_ (i:=7) (N:=some 161) (v:=undef) (a':=?_) #[I,I,I,I,I,I,I,I,O,O,O,O,O,O,O,O] rfl rfl (any_of HT_.out (by kernel_rfl)) (fun _ _ _ h=>h) (Or.inr ⟨by rfl,rfl⟩) ?_ ?_
                        rotate_left
                        ·simp only [Act.put,List.setIfInBounds_toArray,List.set_cons_zero,List.set_cons_succ,i64_w,i32_w]
                         rfl
                        refine pure_ (i:=8) (N:=some 162) (v:=undef) (a':=?_) #[I,I,I,I,I,I,I,I,I,O,O,O,O,O,O,O] rfl rfl (any_of HT_.out (by kernel_rfl)) (fun _ _ _ h=>h) (Or.inr ⟨by rfl,rfl⟩) ?_ ?_
                        rotate_left
                        ·simp only [Act.put,List.setIfInBounds_toArray,List.set_cons_zero,List.set_cons_succ,i64_w,i32_w]
                         rfl
                        refine pure_ (i:=9) (N:=some 163) (v:=undef) (a':=?_) #[I,I,I,I,I,I,I,I,I,I,O,O,O,O,O,O] rfl rfl (any_of HT_.out (by kernel_rfl)) (fun _ _ _ h=>h) (Or.inr ⟨by rfl,rfl⟩) ?_ ?_
                        rotate_left
                        ·simp only [Act.put,List.setIfInBounds_toArray,List.set_cons_zero,List.set_cons_succ,i64_w,i32_w]
                         rfl
                        refine pure_ (i:=10) (N:=some 164) (v:=undef) (a':=?_) #[I,I,I,I,I,I,I,I,I,I,I,O,O,O,O,O] rfl rfl (any_of HT_.out (by kernel_rfl)) (fun _ _ _ h=>h) (Or.inr ⟨by rfl,rfl⟩) ?_ ?_
                        rotate_left
                        ·simp only [Act.put,List.setIfInBounds_toArray,List.set_cons_zero,List.set_cons_succ,i64_w,i32_w]
                         rfl
                        refine pure_ (i:=11) (N:=some 165) (v:=undef) (a':=?_) #[I,I,I,I,I,I,I,I,I,I,I,I,O,O,O,O] rfl rfl (any_of HT_.out (by kernel_rfl)) (fun _ _ _ h=>h) (Or.inr ⟨by rfl,rfl⟩) ?_ ?_
                        rotate_left
                        ·simp only [Act.put,List.setIfInBounds_toArray,List.set_cons_zero,List.set_cons_succ,i64_w,i32_w]
                         rfl
                        refine pure_ (i:=12) (N:=some 166) (v:=undef) (a':=?_) #[I,I,I,I,I,I,I,I,I,I,I,I,I,O,O,O] rfl rfl (any_of HT_.out (by kernel_rfl)) (fun _ _ _ h=>h) (Or.inr ⟨by rfl,rfl⟩) ?_ ?_
                        rotate_left
                        ·simp only [Act.put,List.setIfInBounds_toArray,List.set_cons_zero,List.set_cons_succ,i64_w,i32_w]
                         rfl
                        refine pure_ (i:=13) (N:=some 167) (v:=undef) (a':=?_) #[I,I,I,I,I,I,I,I,I,I,I,I,I,I,O,O] rfl rfl (any_of HT_.out (by kernel_rfl)) (fun _ _ _ h=>h) (Or.inr ⟨by rfl,rfl⟩) ?_ ?_
                        rotate_left
                        ·simp only [Act.put,List.setIfInBounds_toArray,List.set_cons_zero,List.set_cons_succ,i64_w,i32_w]
                         rfl
                        refine pure_ (i:=14) (N:=some 168) (v:=undef) (a':=?_) #[I,I,I,I,I,I,I,I,I,I,I,I,I,I,I,O] rfl rfl (any_of HT_.out (by kernel_rfl)) (fun _ _ _ h=>h) (Or.inr ⟨by rfl,rfl⟩) ?_ ?_
                        rotate_left
                        ·simp only [Act.put,List.setIfInBounds_toArray,List.set_cons_zero,List.set_cons_succ,i64_w,i32_w]
                         rfl
                        refine pure_ (i:=15) (N:=some 169) #[I,I,I,I,I,I,I,I,I,I,I,I,I,I,I,I] rfl rfl (any_of HT_.out (by kernel_rfl)) (fun _ _ _ h=>h) (Or.inl ⟨by rfl,by intro w';go_simp;with_reducible rfl⟩) (by simp only [Act.put,List.setIfInBounds_toArray,List.set_cons_zero,List.set_cons_succ,i64_w,i32_w];rfl) ?_
                        refine done_ (done_of HT_.out (by kernel_rfl)) ?_
                        try go_wp2
                        go_meet
                        case rel=>exact ⟨_,(true),(by rfl),H',⟨by have:=HJ2.out;have:=HJ11.out;have:=HK3.out;have:=HK4.out;have:=HJ84.out;omega⟩,⟨by exact HO_9.out⟩,⟨by exact HO_303001.out⟩,⟨by exact HO_341001.out⟩,⟨by exact HO_346001.out⟩,⟨by exact HO_351001.out⟩,⟨by exact BK293.out⟩,⟨by exact BK302.out⟩,⟨by exact BK340.out⟩,⟨by exact BK345.out⟩,⟨by exact BK350.out⟩,⟨HB.out⟩⟩
                      case rest=>
                       clear HC148
                       (try clear c147b0);(try clear c147b1);(try clear hcz153_0);(try clear hcz153_1);(try clear hfz153_0);(try clear hfz153_1)
                       obtain ⟨kq,x169_147,rfl,HA,HJ147,HO_9,HO_303001,HO_341001,HO_346001,HO_351001,BK293,BK302,BK340,BK345,BK350,HB⟩:=hcut
                       cases kq with
                       | zero=>exact absurd HA.out (by simp [laws_FnRepaired.j5])
                       | succ kj147=>
                        have H:=HA.out
                        clear HA
                        simp only [laws_FnRepaired.j5] at H
                        by_cases c160 : x169_147 = true
                        ·subst c160
                         have H1 : (some false) = some true:=by rw [if_pos rfl] at H;exact H
                         clear H
                         have H:=H1
                         clear H1
                         exact absurd (Option.some.inj H) (by decide)
                        ·replace c160:=Bool.eq_false_iff.mpr c160
                         subst c160
                         have H1 : (laws_FnRepaired.l2 kj147 l1 (wrap64 ((wrap64 ((wrap64 (1 + (Int.tmod t291 6))) + (Int.tmod t292 4))) + (Int.tmod t294 (wrap64 ((wrap64 (1 + (Int.tmod t291 6))) + 1))))) x8_3 x9_4 0 (wrap64 (1 + (Int.tmod t291 6))) (Int.tmod t292 4) (Int.tmod t294 (wrap64 ((wrap64 (1 + (Int.tmod t291 6))) + 1))) t298 t299 t336 t337) = some true:=by rw [if_neg (show ¬ (false = true) by decide)] at H;exact H
                         clear H
                         have H:=H1
                         clear H1
                         have H':=M0 H
                         clear H
                         go_wp2
                         go_loopg [17] kj147 (fun kq v17 w'=>∃ (x17_7 : Int),v17 = .int .i64 x17_7 ∧ Aside0 (laws_FnRepaired.l2 kq l1 (wrap64 ((wrap64 ((wrap64 (1 + (Int.tmod t291 6))) + (Int.tmod t292 4))) + (Int.tmod t294 (wrap64 ((wrap64 (1 + (Int.tmod t291 6))) + 1))))) x8_3 x9_4 x17_7 (wrap64 (1 + (Int.tmod t291 6))) (Int.tmod t292 4) (Int.tmod t294 (wrap64 ((wrap64 (1 + (Int.tmod t291 6))) + 1))) t298 t299 t336 t337 = some true) ∧ Aside0 (kq ≤ kj147) ∧ Aside0 (Kd.R Kd.bool 4 w' w.heap.size (fun _=>True) (.slice Ao88 x9_4.length co88) x9_4) ∧ Aside0 (Kd.R Kd.string 9 w' w.heap.size (fun k_=>some k_ ≠ ((.slice Ao112 t347.length co112) : Value).ownBlock) (.slice Ao26 t299.length co26) t299) ∧ Aside0 (Kd.R (Kd.int .i64) 2 w' w.heap.size (fun k_=>some k_ ≠ ((.slice Ao102 t342.length co102) : Value).ownBlock) (.slice Ao94 t337.length co94) t337) ∧ Aside0 (Kd.R (Kd.int .i64) 2 w' w.heap.size (fun k_=>some k_ ≠ ((.slice Ao94 t337.length co94) : Value).ownBlock) (.slice Ao102 t342.length co102) t342) ∧ Aside0 (Kd.R Kd.string 9 w' w.heap.size (fun k_=>some k_ ≠ ((.slice Ao26 t299.length co26) : Value).ownBlock) (.slice Ao112 t347.length co112) t347) ∧ Aside0 (w'.heap[gb293]? = some (.cells #[.int .i64 (wrap64 (1 + (Int.tmod t291 6))),.int .i64 (Int.tmod t292 4),.int .i64 (Int.tmod t294 (wrap64 ((wrap64 (1 + (Int.tmod t291 6))) + 1)))] 43 (0,0))) ∧ Aside0 (w'.heap[gb302]? = some (.cells #[.int .i64 t298,(.slice Ao26 t299.length co26)] 68 (0,0))) ∧ Aside0 (w'.heap[gb340]? = some (.cells #[.int .i64 t336,(.slice Ao94 t337.length co94)] 74 (0,0))) ∧ Aside0 (w'.heap[gb345]? = some (.cells #[.int .i64 t341,(.slice Ao102 t342.length co102)] 74 (0,0))) ∧ Aside0 (w'.heap[gb350]? = some (.cells #[.int .i64 t346,(.slice Ao112 t347.length co112)] 68 (0,0))) ∧ Aside0 (Below w.heap.size w w'))
                         case atStart=>exact ⟨(0),(by rfl),H',⟨Nat.le_refl _⟩,⟨by exact HO_9.out⟩,⟨by exact HO_303001.out⟩,⟨by exact HO_341001.out⟩,⟨by exact HO_346001.out⟩,⟨by exact HO_351001.out⟩,⟨by exact BK293.out⟩,⟨by exact BK302.out⟩,⟨by exact BK340.out⟩,⟨by exact BK345.out⟩,⟨by exact BK350.out⟩,⟨HB.out⟩⟩
                         case round=>
                          as_aux_lemma=>
                           clear H'
                           obtain ⟨x17_7,rfl,HA,HK7,HO_9,HO_303001,HO_341001,HO_346001,HO_351001,BK293,BK302,BK340,BK345,BK350,HB⟩:=hrel
                           cases gk with
                           | zero=>exact absurd HA.out (by simp [laws_FnRepaired.l2])
                           | succ k7=>
                            have H:=HA.out
                            clear HA
                            simp only [laws_FnRepaired.l2] at H
                            by_cases c161 : x17_7 < (t337.length : Int)
                            ·rw [if_pos c161] at H
                             have c161b0:=decide_eq_true c161
                             clear c161
                             obtain ⟨c162,H⟩:=nn H
                             have c162b0:=decide_eq_true c162
                             clear c162
                             by_cases c163 : (rd t337 x17_7) = x8_3
                             ·rw [if_pos c163] at H
                              have c163b0 : ((rd t337 x17_7) == x8_3) = true:=beq_iff_eq.mpr c163
                              have c163b1 : ((rd t337 x17_7) != x8_3) = false:=bne_eq_false_iff_eq.mpr c163
                              clear c163
                              exact absurd (Option.some.inj H) (by decide)
                             ·rw [if_neg c163] at H
                              have c163b0 : ((rd t337 x17_7) == x8_3) = false:=beq_eq_false_iff_ne.mpr c163
                              have c163b1 : ((rd t337 x17_7) != x8_3) = true:=bne_iff_ne.mpr c163
                              obtain ⟨c169,H⟩:=nn H
                              have c169b0:=decide_eq_true c169
                              clear c169
                              obtain ⟨c170,H⟩:=nn H
                              have c170b0:=decide_eq_true c170
                              clear c170
                              obtain ⟨bq171,hbq171⟩ : ∃ b_ : Bool,b_ = (rdOf false x9_4 (rd t337 x17_7)):=⟨_,rfl⟩
                              replace H : (if (bq171 = true) then (laws_FnRepaired.l2 k7 l1 (wrap64 ((wrap64 ((wrap64 (1 + (Int.tmod t291 6))) + (Int.tmod t292 4))) + (Int.tmod t294 (wrap64 ((wrap64 (1 + (Int.tmod t291 6))) + 1))))) x8_3 x9_4 (wrap64 (x17_7 + 1)) (wrap64 (1 + (Int.tmod t291 6))) (Int.tmod t292 4) (Int.tmod t294 (wrap64 ((wrap64 (1 + (Int.tmod t291 6))) + 1))) t298 t299 t336 t337) else (some false)) = some true:=by rw [← hbq171] at H;exact H
                              have Nbq171:=M0 hbq171
                              clear hbq171
                              by_cases c172 : (bq171 = true)
                              ·subst c172
                               have H1 : (laws_FnRepaired.l2 k7 l1 (wrap64 ((wrap64 ((wrap64 (1 + (Int.tmod t291 6))) + (Int.tmod t292 4))) + (Int.tmod t294 (wrap64 ((wrap64 (1 + (Int.tmod t291 6))) + 1))))) x8_3 x9_4 (wrap64 (x17_7 + 1)) (wrap64 (1 + (Int.tmod t291 6))) (Int.tmod t292 4) (Int.tmod t294 (wrap64 ((wrap64 (1 + (Int.tmod t291 6))) + 1))) t298 t299 t336 t337) = some true:=by rw [if_pos rfl] at H;exact H
                               clear H
                               have H:=H1
                               clear H1
                               have H':=M0 H
                               clear H
                               have hnb173:=NB340_293.out
                               have hnc173:=NB293_340.out
                               have hnb174:=NB340_302.out
                               have hnc174:=NB302_340.out
                               have hnb175:=NB340_345.out
                               have hnc175:=NB345_340.out
                               have hnb176:=NB340_350.out
                               have hnc176:=NB350_340.out
                               have hcz177_0:=bcv (v:=.int .i64 t336) BK340.out 0 rfl
                               have hcz177_1:=bcv (v:=.slice Ao94 t337.length co94) BK340.out 1 rfl
                               have hfz177_0:=blk_frozen BK340.out 0
                               have hfz177_1:=blk_frozen BK340.out 1
                               have p354 : 0 ≤ (x17_7 : Int):=of_decide_eq_true (by with_reducible assumption)
                               have q354 : x17_7 < (t337.length : Int):=of_decide_eq_true (by with_reducible assumption)
                               obtain ⟨ad354,e354,hx354_0⟩:=Kd.at_int (Kd.R_reads' HO_341001.out).2.2 x17_7 p354 q354
                               cases e354
                               replace p354:=eq_true p354
                               replace q354:=eq_true q354
                               have p355 : 0 ≤ (x17_7 : Int):=of_decide_eq_true (by with_reducible assumption)
                               have q355 : x17_7 < (t337.length : Int):=of_decide_eq_true (by with_reducible assumption)
                               obtain ⟨ad355,e355,hx355_0⟩:=Kd.at_int (Kd.R_reads' HO_341001.out).2.2 x17_7 p355 q355
                               obtain rfl : ad354 = ad355:=(by injection e355)
                               replace p355:=eq_true p355
                               replace q355:=eq_true q355
                               have p356 : 0 ≤ ((rd t337 x17_7) : Int):=of_decide_eq_true (by with_reducible assumption)
                               have q356 : (rd t337 x17_7) < (x9_4.length : Int):=of_decide_eq_true (by with_reducible assumption)
                               obtain ⟨ad356,e356,hx356_0⟩:=Kd.at_bool (Kd.R_reads' HO_9.out).2.2 (rd t337 x17_7) p356 q356
                               (try rw [← Nbq171.out] at hx356_0)
                               cases e356
                               replace p356:=eq_true p356
                               replace q356:=eq_true q356
                               go_wp2
                               go_roundg k7
                               case measure=>have:=HJ2.out;have:=HJ11.out;have:=HK3.out;have:=HK4.out;have:=HJ84.out;have:=HJ147.out;have:=HK7.out;omega
                               case rel=>exact ⟨(wrap64 (x17_7 + 1)),(by rfl),H',⟨by have:=HJ2.out;have:=HJ11.out;have:=HK3.out;have:=HK4.out;have:=HJ84.out;have:=HJ147.out;have:=HK7.out;omega⟩,⟨by exact HO_9.out⟩,⟨by exact HO_303001.out⟩,⟨by exact HO_341001.out⟩,⟨by exact HO_346001.out⟩,⟨by exact HO_351001.out⟩,⟨by exact BK293.out⟩,⟨by exact BK302.out⟩,⟨by exact BK340.out⟩,⟨by exact BK345.out⟩,⟨by exact BK350.out⟩,⟨HB.out⟩⟩
                              ·replace c172:=Bool.eq_false_iff.mpr c172
                               subst c172
                               have H1 : (some false) = some true:=by rw [if_neg (show ¬ (false = true) by decide)] at H;exact H
                               clear H
                               have H:=H1
                               clear H1
                               exact absurd (Option.some.inj H) (by decide)
                            ·rw [if_neg c161] at H
                             have c161b0:=decide_eq_false c161
                             clear c161
                             have H':=M0 H
                             clear H
                             have hnb183:=NB340_293.out
                             have hnc183:=NB293_340.out
                             have hnb184:=NB340_302.out
                             have hnc184:=NB302_340.out
                             have hnb185:=NB340_345.out
                             have hnc185:=NB345_340.out
                             have hnb186:=NB340_350.out
                             have hnc186:=NB350_340.out
                             have hcz187_0:=bcv (v:=.int .i64 t336) BK340.out 0 rfl
                             have hcz187_1:=bcv (v:=.slice Ao94 t337.length co94) BK340.out 1 rfl
                             have hfz187_0:=blk_frozen BK340.out 0
                             have hfz187_1:=blk_frozen BK340.out 1
                             go_wp2
                             go_roundg k7
                             case measure=>have:=HJ2.out;have:=HJ11.out;have:=HK3.out;have:=HK4.out;have:=HJ84.out;have:=HJ147.out;have:=HK7.out;omega
                             case rel=>exact ⟨(wrap64 (x8_3 + 1)),(by rfl),H',⟨by have:=HJ2.out;have:=HJ11.out;have:=HK3.out;have:=HK4.out;have:=HJ84.out;have:=HJ147.out;have:=HK7.out;omega⟩,⟨by exact Kd.R_mono HO_303001.out (fun _ hk=>trivial)⟩,⟨by exact BK293.out⟩,⟨by exact BK302.out⟩,⟨HB.out⟩⟩
                     ·rw [if_neg c147] at H
                      have c147b0 : (t341 == 0) = false:=beq_eq_false_iff_ne.mpr c147
                      have c147b1 : (t341 != 0) = true:=bne_iff_ne.mpr c147
                      have H':=M0 H
                      clear H
                      have hnb188:=NB345_293.out
                      have hnc188:=NB293_345.out
                      have hnb189:=NB345_302.out
                      have hnc189:=NB302_345.out
                      have hnb190:=NB345_340.out
                      have hnc190:=NB340_345.out
                      have hnb191:=NB345_350.out
                      have hnc191:=NB350_345.out
                      have hcz192_0:=bcv (v:=.int .i64 t341) BK345.out 0 rfl
                      have hcz192_1:=bcv (v:=.slice Ao102 t342.length co102) BK345.out 1 rfl
                      have hfz192_0:=blk_frozen BK345.out 0
                      have hfz192_1:=blk_frozen BK345.out 1
                      go_wp2
                      go_roundg kj84
                      case measure=>have:=HJ2.out;have:=HJ11.out;have:=HK3.out;have:=HK4.out;have:=HJ84.out;omega
                      case rel=>exact ⟨(wrap64 (x8_3 + 1)),(by rfl),H',⟨by have:=HJ2.out;have:=HJ11.out;have:=HK3.out;have:=HK4.out;have:=HJ84.out;omega⟩,⟨by exact Kd.R_mono HO_303001.out (fun _ hk=>trivial)⟩,⟨by exact BK293.out⟩,⟨by exact BK302.out⟩,⟨HB.out⟩⟩
            ·rw [if_neg c46] at H
             have c46b0:=decide_eq_false c46
             clear c46
             have hT_:=Option.some.inj H
             clear H
             go_wp2
             go_ret
             exact ⟨by rfl,HB.out⟩

end Go.Proofs.Ytffhbpepppodeaa.PFnRepaired
