import Derived.Test.YtffhbpepppodeaaPFnInversex0
import Derived.Test.YtffhbpepppodeaaPFnInversex2
import Derived.Test.YtffhbpepppodeaaPFnInversex3
import Derived.Test.YtffhbpepppodeaaPFnInversex6
import Derived.Test.YtffhbpepppodeaaPFnInversex8
import Derived.Test.YtffhbpepppodeaaPFnInversex11
import Derived.Test.YtffhbpepppodeaaPFnInversex12
import Derived.Test.YtffhbpepppodeaaPFnInversex13
namespace Go.Proofs.Ytffhbpepppodeaa.PFnInverse
open Go.RowKit Go.Proofs.YtffhbpepppodeaaW.PrintWords Go.Proofs.YtffhbpepppodeaaW.PrintLast Go.Proofs.YtffhbpepppodeaaW.PrintMore
attribute [local go_sem] max2_int min2_int max_two min_two max_three min_three max_four min_four   -- for this text's walks alone
set_option linter.unusedVariables false
set_option linter.unusedSimpArgs false

/-! ### laws_FnInverse: function 5 -/
def laws_FnInverse.j0 : Nat → Bool → Int → Int → List Int → Int → Int → Int → List Int → Option (Bool)
 | 0,_,_,_,_,_,_,_,_=>none
 | k + 1,x27,x266000,x266001,x266002,x273000,x273001,x273002,x273003=>if x27 = true then (some (x273000 == 1)) else ((impl_MatRank.f k x266000 x266001 x266002).bind fun t280=>(if t280 < x266000 then (some (x273000 == 5)) else (if x273000 = 0 then ((impl_MatMul.f k x266000 x266001 x266002 x273001 x273002 x273003).bind fun bt281=>((laws_lwUnit.f k x266000).bind fun bt287=>((laws_lwMatrix.f k bt281.2.1 bt281.2.2.1 bt281.2.2.2 bt287.1 bt287.2.1 bt287.2.2).bind fun t292=>(if t292 = true then ((impl_MatMul.f k x273001 x273002 x273003 x266000 x266001 x266002).bind fun bt293=>((laws_lwUnit.f k x266000).bind fun bt299=>((laws_lwMatrix.f k bt293.2.1 bt293.2.2.1 bt293.2.2.2 bt299.1 bt299.2.1 bt299.2.2).bind fun t304=>(some t304)))) else (some false))))) else (some false))))
def laws_FnInverse.f (k : Nat) (l0 : List Int) : Option (Bool):=if (l0.length : Int) > 1048576 then (some true) else ((spec_DrawMatInv.f k l0).bind fun bt260=>((impl_MatInv.f k bt260.1 bt260.2.1 bt260.2.2).bind fun bt266=>((spec_MatInv.f k bt260.1 bt260.2.1 bt260.2.2).bind fun bt273=>(if bt266.1 = bt273.1 then ((spec_MatrixFault.f k bt260.1 bt260.2.1 bt260.2.2).bind fun t279=>(if t279 = 0 then (laws_FnInverse.j0 k (bt260.1 != bt260.2.1) bt260.1 bt260.2.1 bt260.2.2 bt266.1 bt266.2.1 bt266.2.2.1 bt266.2.2.2) else (laws_FnInverse.j0 k true bt260.1 bt260.2.1 bt260.2.2 bt266.1 bt266.2.1 bt266.2.2.1 bt266.2.2.2))) else (some false)))))
theorem laws_FnInverse.mono_l : ∀ k,(∀ y0 y1 y2 y3 y4 y5 y6 y7,LeO (laws_FnInverse.j0 k y0 y1 y2 y3 y4 y5 y6 y7) (laws_FnInverse.j0 (k + 1) y0 y1 y2 y3 y4 y5 y6 y7))
 | 0=>fun _ _ _ _ _ _ _ _ r h=>by simp [laws_FnInverse.j0] at h
 | k + 1=>by
  have ih0:=laws_FnInverse.mono_l k
  ·intro y0 y1 y2 y3 y4 y5 y6 y7
   unfold laws_FnInverse.j0
   repeat' first
   | (with_reducible exact ih0 _ _ _ _ _ _ _ _)
   | (with_reducible exact impl_MatInv.mono _ _ _ _)
   | (with_reducible exact impl_MatMul.mono _ _ _ _ _ _ _)
   | (with_reducible exact impl_MatRank.mono _ _ _ _)
   | (with_reducible exact laws_lwMatrix.mono _ _ _ _ _ _ _)
   | (with_reducible exact laws_lwUnit.mono _ _)
   | (with_reducible exact spec_DrawMatInv.mono _ _)
   | (with_reducible exact spec_MatInv.mono _ _ _ _)
   | (with_reducible exact spec_MatrixFault.mono _ _ _ _)
   | (with_reducible exact LeO.refl _)
   | (with_reducible exact LeO.none _)
   | (with_reducible refine LeO.ite ?_ ?_)
   | (with_reducible refine LeO.bind ?_ (fun _=>?_))
   | exact ih0 _ _ _ _ _ _ _ _
   | exact impl_MatInv.mono _ _ _ _
   | exact impl_MatMul.mono _ _ _ _ _ _ _
   | exact impl_MatRank.mono _ _ _ _
   | exact laws_lwMatrix.mono _ _ _ _ _ _ _
   | exact laws_lwUnit.mono _ _
   | exact spec_DrawMatInv.mono _ _
   | exact spec_MatInv.mono _ _ _ _
   | exact spec_MatrixFault.mono _ _ _ _
   | exact LeO.none _
   | refine LeO.ite ?_ ?_
   | refine LeO.bind ?_ (fun _=>?_)
theorem laws_FnInverse.mono : ∀ a0 k,LeO (laws_FnInverse.f k a0) (laws_FnInverse.f (k + 1) a0):=by
 intro a0 k
 have ih0:=laws_FnInverse.mono_l k
 unfold laws_FnInverse.f
 repeat' first
   | (with_reducible exact ih0 _ _ _ _ _ _ _ _)
   | (with_reducible exact impl_MatInv.mono _ _ _ _)
   | (with_reducible exact impl_MatMul.mono _ _ _ _ _ _ _)
   | (with_reducible exact impl_MatRank.mono _ _ _ _)
   | (with_reducible exact laws_lwMatrix.mono _ _ _ _ _ _ _)
   | (with_reducible exact laws_lwUnit.mono _ _)
   | (with_reducible exact spec_DrawMatInv.mono _ _)
   | (with_reducible exact spec_MatInv.mono _ _ _ _)
   | (with_reducible exact spec_MatrixFault.mono _ _ _ _)
   | (with_reducible exact LeO.refl _)
   | (with_reducible exact LeO.none _)
   | (with_reducible refine LeO.ite ?_ ?_)
   | (with_reducible refine LeO.bind ?_ (fun _=>?_))
   | exact ih0 _ _ _ _ _ _ _ _
   | exact impl_MatInv.mono _ _ _ _
   | exact impl_MatMul.mono _ _ _ _ _ _ _
   | exact impl_MatRank.mono _ _ _ _
   | exact laws_lwMatrix.mono _ _ _ _ _ _ _
   | exact laws_lwUnit.mono _ _
   | exact spec_DrawMatInv.mono _ _
   | exact spec_MatInv.mono _ _ _ _
   | exact spec_MatrixFault.mono _ _ _ _
   | exact LeO.none _
   | refine LeO.ite ?_ ?_
   | refine LeO.bind ?_ (fun _=>?_)
def laws_FnInverse.T11 : Bool × List (List Nat × List Nat):=(true,[([],[]),([0],[0]),([1],[1]),([2],[2]),([3],[3]),([3],[3]),([5,3],[3,5]),([4,6,3,3],[3,4,6]),([7,3],[3,7]),([3],[3]),([9,3],[3,9]),([10,7,3],[3,10]),([8,11,11,3],[3,8,11]),([3,12],[3,12]),([13,12],[13]),([14],[14]),([15,14],[14,15]),([14],[14]),([16,17,14,14],[14,16,17]),([18,14],[14,18]),([14],[14]),([20,14],[14,20]),([21,18,14],[14,21]),([19,22,22,14],[14,19,22]),([14,23],[14,23]),([24,23,0,1,2,3,4,5,6,7,8,9,10,11,12,13,14,15,16,17,18,19,20,21,22,23,24],[24])])
def laws_FnInverse.B11 : List Nat:=[0,1,3,7,15,15,47,127,255,15,527,1791,4095,8191,16383,32767,65535,32767,262143,524287,32767,1081343,3670015,8388607,16777215,33554431]
theorem laws_FnInverse.tab11 : rtab .any (opsOf Try.f5 11) = laws_FnInverse.T11:=by kernel_rfl
theorem laws_FnInverse.bits11 : waitsOk laws_FnInverse.T11.2 laws_FnInverse.B11 = true:=by kernel_rfl
set_option maxHeartbeats 8000000 in
set_option maxRecDepth 100000 in
theorem laws_FnInverse.calls (k : Nat) (A0 : Option Addr) (c0 : Nat) (l0 : List Int) (_r : Bool) (w : World) (hr0 : Kd.C (Kd.int .u8) w A0 l0.length l0) (hc0 : l0.length ≤ c0) (h : laws_FnInverse.f k l0 = some true) :
  Calls Try.prog 5 #[.slice A0 l0.length c0] w fun e w'=>e = .returned (.bool true) ∧ Below w.heap.size w w':=by
 have hu27:=Try.underlying27
 have hu32:=Try.underlying32
 have hfd0 : ∀ (a b c : Int) (v : Value) (w : World),(Instr.field 32 (.agg #[.int .i64 a,.int .i64 b,.int .i64 c,v]) 0).run Try.prog w = .ok (.int .i64 a) w:=fun _ _ _ _ _=>by kernel_rfl
 have hfd1 : ∀ (a b c : Int) (v : Value) (w : World),(Instr.field 32 (.agg #[.int .i64 a,.int .i64 b,.int .i64 c,v]) 1).run Try.prog w = .ok (.agg #[.int .i64 b,.int .i64 c,v]) w:=fun _ _ _ _ _=>by kernel_rfl
 have HR0:=Aside0.mk hr0
 have HC0:=Aside0.mk hc0
 clear hr0 hc0
 have HB:=Aside0.mk (Below.refl w.heap.size w)
 have H : (if (l0.length : Int) > 1048576 then (some true) else ((spec_DrawMatInv.f k l0).bind fun bt260=>((impl_MatInv.f k bt260.1 bt260.2.1 bt260.2.2).bind fun bt266=>((spec_MatInv.f k bt260.1 bt260.2.1 bt260.2.2).bind fun bt273=>(if bt266.1 = bt273.1 then ((spec_MatrixFault.f k bt260.1 bt260.2.1 bt260.2.2).bind fun t279=>(if t279 = 0 then (laws_FnInverse.j0 k (bt260.1 != bt260.2.1) bt260.1 bt260.2.1 bt260.2.2 bt266.1 bt266.2.1 bt266.2.2.1 bt266.2.2.2) else (laws_FnInverse.j0 k true bt260.1 bt260.2.1 bt260.2.2 bt266.1 bt266.2.1 bt266.2.2.1 bt266.2.2.2))) else (some false)))))) = some true:=h
 clear h
 by_cases c2 : (l0.length : Int) > 1048576
 ·rw [if_pos c2] at H
  have c2b0 : decide (1048576 < (l0.length : Int)) = true:=decide_eq_true c2
  have c2b1 : decide (1048576 < l0.length) = true:=decide_eq_true (by omega)
  clear c2 H
  go_enter Try.func5,Try.ntmps5
  go_wp2
  go_ret
  exact ⟨by first|rfl|(simp [errW_none,errW_some] <;> rfl)|(simp [*,errW_none,errW_some] <;> rfl),by repeat (first|(with_reducible first|exact HB.out|apply below_alloc)|exact HB.out)⟩
 ·rw [if_neg c2] at H
  have c2b0 : decide (1048576 < (l0.length : Int)) = false:=decide_eq_false c2
  have c2b1 : decide (1048576 < l0.length) = false:=decide_eq_false (by omega)
  clear c2
  replace H:=Option.bind_eq_some_iff.mp H
  obtain ⟨⟨t260,t261,t262⟩,A30,H⟩:=H
  replace H : ((impl_MatInv.f k t260 t261 t262).bind fun bt266=>((spec_MatInv.f k t260 t261 t262).bind fun bt273=>(if bt266.1 = bt273.1 then ((spec_MatrixFault.f k t260 t261 t262).bind fun t279=>(if t279 = 0 then (laws_FnInverse.j0 k (t260 != t261) t260 t261 t262 bt266.1 bt266.2.1 bt266.2.2.1 bt266.2.2.2) else (laws_FnInverse.j0 k true t260 t261 t262 bt266.1 bt266.2.1 bt266.2.2.1 bt266.2.2.2))) else (some false)))) = some true:=H
  have A3:=Aside0.mk A30
  clear A30
  replace H:=Option.bind_eq_some_iff.mp H
  obtain ⟨⟨t266,t267,t268,t269⟩,A40,H⟩:=H
  replace H : ((spec_MatInv.f k t260 t261 t262).bind fun bt273=>(if t266 = bt273.1 then ((spec_MatrixFault.f k t260 t261 t262).bind fun t279=>(if t279 = 0 then (laws_FnInverse.j0 k (t260 != t261) t260 t261 t262 t266 t267 t268 t269) else (laws_FnInverse.j0 k true t260 t261 t262 t266 t267 t268 t269))) else (some false))) = some true:=H
  have A4:=Aside0.mk A40
  clear A40
  replace H:=Option.bind_eq_some_iff.mp H
  obtain ⟨⟨t273,t274,t275,t276⟩,A50,H⟩:=H
  replace H : (if t266 = t273 then ((spec_MatrixFault.f k t260 t261 t262).bind fun t279=>(if t279 = 0 then (laws_FnInverse.j0 k (t260 != t261) t260 t261 t262 t266 t267 t268 t269) else (laws_FnInverse.j0 k true t260 t261 t262 t266 t267 t268 t269))) else (some false)) = some true:=H
  have A5:=Aside0.mk A50
  clear A50
  by_cases c6 : t266 = t273
  ·rw [if_pos c6] at H
   have c6b0 : (t266 == t273) = true:=beq_iff_eq.mpr c6
   have c6b1 : (t266 != t273) = false:=bne_eq_false_iff_eq.mpr c6
   clear c6
   have HC7:=Aside0.mk H
   clear H
   go_enter Try.func5,Try.ntmps5
   try go_wp2_with (first|((with_reducible refine gate_callee (f:=23) rfl ?_);refine goesL_ (some 9) rfl rfl Try.func23 (by kernel_rfl) rfl #[.slice A0 l0.length c0] rfl (by (try simp only [List.map_toArray,List.map_cons,List.map_nil]);first|done|rfl) ?_;(with_reducible refine (spec_DrawMatInv.calls k _ _ l0 t260 t261 t262 _ ?side1 ?side2 A3.out).mono ?_);(case side1=>repeat (first|exact HR0.out|(with_reducible refine Kd.C_alloc ?_ _)|(with_reducible refine Kd.C_drewN ?_ _)|(with_reducible refine Kd.C_drew ?_)));(case side2=>exact HC0.out);rintro e w8 ⟨v263,rfl,ho0,hb⟩;refine ⟨_,rfl,?_⟩;have n0_:=Aside0.mk (Kd.R_lower ho0 (below_size (by repeat (first|(with_reducible first|exact HB.out|apply below_alloc)|exact HB.out))));have n1_:=Aside0.mk (below_step (by repeat (first|(with_reducible first|exact HB.out|apply below_alloc)|exact HB.out)) hb);clear HB;have HO264:=n0_;have HB:=n1_;clear n0_ n1_;(try clear hb);(try clear hb2);(try clear hk);(try clear hi);(try clear ho0))|((with_reducible refine gate_dst (N:=3) rfl ?_);refine box_event ?hg (N:=3) ?hd (cs:=#[.int .i64 0,.int .i64 0,.slice none 0 0]) (t:=27) ?hr ?_;(case hd=>rfl);(case hg=>rfl);(case hr=>first|(go_simp;done)|(go_simp;rfl));intro gb265 hg w9 hbox hb;have n0_:=Aside0.mk (Kd.R_below (by (with_reducible repeat (first|apply Kd.R_alloc));exact HO264.out) hb);have n1_:=Aside0.mk (below_step (by repeat (first|(with_reducible first|exact HB.out|apply below_alloc)|exact HB.out)) hb);have n2_:=Aside0.mk (hbox);have n3_:=Aside0.mk ((by rw [hg];exact (below_size (by repeat (first|(with_reducible first|exact HB.out|apply below_alloc)|exact HB.out))) : w.heap.size ≤ gb265));have n4_:=Aside0.mk ((by rw [hg];exact (below_size (by repeat (first|(with_reducible first|exact HB.out|apply below_alloc)|exact HB.out))) : w.heap.size ≤ gb265));clear HO264 HB;have HO264:=n0_;have HB:=n1_;have BK265:=n2_;have GW265:=n3_;have GE265:=n4_;clear n0_ n1_ n2_ n3_ n4_ hb hbox hg;have hcz10_0 : w9.cell? ⟨gb265,0,none⟩ = some (.int .i64 0):=(blk_cell BK265.out 0).trans rfl;have hcz10_1 : w9.cell? ⟨gb265,1,none⟩ = some (.int .i64 0):=(blk_cell BK265.out 1).trans rfl;have hcz10_2 : w9.cell? ⟨gb265,2,none⟩ = some (.slice none 0 0):=(blk_cell BK265.out 2).trans rfl;have hfz10_0:=blk_frozen BK265.out 0;have hfz10_1:=blk_frozen BK265.out 1;have hfz10_2:=blk_frozen BK265.out 2;obtain ⟨Ao11,co11,eo11⟩:=Kd.R_slice HO264.out;subst eo11)|((with_reducible refine gate_callee (f:=18) rfl ?_);refine goesL_ (some 11) rfl rfl Try.func18 (by kernel_rfl) rfl #[.agg #[.int .i64 t260,.int .i64 t261,.slice Ao11 t262.length co11]] rfl (by (try simp only [List.map_toArray,List.map_cons,List.map_nil]);first|done|rfl) ?_;(with_reducible refine (impl_MatInv.calls k t260 t261 _ _ t262 t266 t267 t268 t269 _ ?side1 ?side2 A4.out).mono ?_);(case side1=>refine (Kd.R_reads' (e:=2) (base:=w.heap.size) (ok:=fun k_=>True) (n:=t262.length) (c:=co11) ?_).2.2;exact (by (with_reducible repeat (first|apply Kd.R_alloc));exact (Kd.R_mono (Kd.R_far (p:=⟨gb265,2,none⟩) (Kd.R_far (p:=⟨gb265,1,none⟩) (Kd.R_far (p:=⟨gb265,0,none⟩) (Kd.R_types HO264.out BK265.out (by decide)) (fun _ hk=>hk.2) (.int .i64 t260)) (fun _ hk=>hk.2) (.int .i64 t261)) (fun _ hk=>hk.2) (.slice Ao11 t262.length co11)) (fun _ h_=>h_.1))));(case side2=>exact (Kd.R_reads' HO264.out).2.1);rintro e w12 ⟨v270,rfl,ho0,hb⟩;refine ⟨_,rfl,?_⟩;have n0_:=Aside0.mk (Kd.R_elder' (by (with_reducible repeat (first|apply Kd.R_alloc));exact (Kd.R_mono (Kd.R_far (p:=⟨gb265,2,none⟩) (Kd.R_far (p:=⟨gb265,1,none⟩) (Kd.R_far (p:=⟨gb265,0,none⟩) (Kd.R_types HO264.out BK265.out (by decide)) (fun _ hk=>hk.2) (.int .i64 t260)) (fun _ hk=>hk.2) (.int .i64 t261)) (fun _ hk=>hk.2) (.slice Ao11 t262.length co11)) (fun _ h_=>h_.1))) (Kd.R_base ho0) hb);have n1_:=Aside0.mk (Kd.R_lower (Kd.R_new' ho0 (Kd.R_lt (by (with_reducible repeat (first|apply Kd.R_alloc));exact (Kd.R_mono (Kd.R_far (p:=⟨gb265,2,none⟩) (Kd.R_far (p:=⟨gb265,1,none⟩) (Kd.R_far (p:=⟨gb265,0,none⟩) (Kd.R_types HO264.out BK265.out (by decide)) (fun _ hk=>hk.2) (.int .i64 t260)) (fun _ hk=>hk.2) (.int .i64 t261)) (fun _ hk=>hk.2) (.slice Ao11 t262.length co11)) (fun _ h_=>h_.1))))) (below_size (by repeat (first|(with_reducible first|exact HB.out|apply below_alloc|refine below_set ?_ GE265.out)|exact HB.out))));have n2_:=Aside0.mk (blk_below (g:=gb265) (o:=.cells #[.int .i64 t260,.int .i64 t261,.slice Ao11 t262.length co11] 27 (0,0)) (by (with_reducible repeat refine blk_alloc ?_ _);refine blk_put (cs:=#[.int .i64 t260,.int .i64 t261,.slice none 0 0]) ?_ 2 _ rfl;(with_reducible repeat refine blk_alloc ?_ _);refine blk_put (cs:=#[.int .i64 t260,.int .i64 0,.slice none 0 0]) ?_ 1 _ rfl;(with_reducible repeat refine blk_alloc ?_ _);refine blk_put (cs:=#[.int .i64 0,.int .i64 0,.slice none 0 0]) ?_ 0 _ rfl;(with_reducible repeat refine blk_alloc ?_ _);exact BK265.out) hb);have n3_:=Aside0.mk (below_step (by repeat (first|(with_reducible first|exact HB.out|apply below_alloc|refine below_set ?_ GE265.out)|exact HB.out)) hb);clear HO264 BK265 HB;have HO264:=n0_;have HO271:=n1_;have BK265:=n2_;have HB:=n3_;clear n0_ n1_ n2_ n3_;(try clear hb);(try clear hb2);(try clear hk);(try clear hi);(try clear ho0))|((with_reducible refine gate_dst (N:=4) rfl ?_);refine box_event ?hg (N:=4) ?hd (cs:=#[.int .i64 0,.int .i64 0,.int .i64 0,.slice none 0 0]) (t:=32) ?hr ?_;(case hd=>rfl);(case hg=>rfl);(case hr=>first|(go_simp;done)|(go_simp;rfl));intro gb272 hg w13 hbox hb;have n0_:=Aside0.mk (Kd.R_below (by (with_reducible repeat (first|apply Kd.R_alloc));exact HO264.out) hb);have n1_:=Aside0.mk (Kd.R_below (by (with_reducible repeat (first|apply Kd.R_alloc));exact HO271.out) hb);have n2_:=Aside0.mk (blk_below (g:=gb265) (o:=.cells #[.int .i64 t260,.int .i64 t261,.slice Ao11 t262.length co11] 27 (0,0)) (by (with_reducible repeat refine blk_alloc ?_ _);exact BK265.out) hb);have n3_:=Aside0.mk (below_step (by repeat (first|(with_reducible first|exact HB.out|apply below_alloc|refine below_set ?_ GE265.out)|exact HB.out)) hb);have n4_:=Aside0.mk (hbox);have n5_:=Aside0.mk ((by rw [hg];exact (below_size (by repeat (first|(with_reducible first|exact HB.out|apply below_alloc|refine below_set ?_ GE265.out)|exact HB.out))) : w.heap.size ≤ gb272));have n6_:=Aside0.mk ((by rw [hg];exact (below_size (by repeat (first|(with_reducible first|exact HB.out|apply below_alloc|refine below_set ?_ GE265.out)|exact HB.out))) : w.heap.size ≤ gb272));have n7_:=Aside0.mk ((by rw [hg];exact Nat.ne_of_lt (blk_lt (g:=gb265) (o:=.cells #[.int .i64 t260,.int .i64 t261,.slice Ao11 t262.length co11] 27 (0,0)) (by (with_reducible repeat refine blk_alloc ?_ _);exact BK265.out)) : gb265 ≠ gb272));have n8_:=Aside0.mk ((by rw [hg];exact Nat.ne_of_gt (blk_lt (g:=gb265) (o:=.cells #[.int .i64 t260,.int .i64 t261,.slice Ao11 t262.length co11] 27 (0,0)) (by (with_reducible repeat refine blk_alloc ?_ _);exact BK265.out)) : gb272 ≠ gb265));clear HO264 HO271 BK265 HB;have HO264:=n0_;have HO271:=n1_;have BK265:=n2_;have HB:=n3_;have BK272:=n4_;have GW272:=n5_;have GE272:=n6_;have NB265_272:=n7_;have NB272_265:=n8_;clear n0_ n1_ n2_ n3_ n4_ n5_ n6_ n7_ n8_ hb hbox hg;have hnb14:=NB272_265.out;have hnc14:=NB265_272.out;have hcz15_0 : w13.cell? ⟨gb272,0,none⟩ = some (.int .i64 0):=(blk_cell BK272.out 0).trans rfl;have hcz15_1 : w13.cell? ⟨gb272,1,none⟩ = some (.int .i64 0):=(blk_cell BK272.out 1).trans rfl;have hcz15_2 : w13.cell? ⟨gb272,2,none⟩ = some (.int .i64 0):=(blk_cell BK272.out 2).trans rfl;have hcz15_3 : w13.cell? ⟨gb272,3,none⟩ = some (.slice none 0 0):=(blk_cell BK272.out 3).trans rfl;have hfz15_0:=blk_frozen BK272.out 0;have hfz15_1:=blk_frozen BK272.out 1;have hfz15_2:=blk_frozen BK272.out 2;have hfz15_3:=blk_frozen BK272.out 3;obtain ⟨Ao16,co16,eo16⟩:=Kd.R_slice HO271.out;subst eo16))
   have n0_ : Aside0 (Kd.R (Kd.int .i64) 2 ((((w13.setCell ⟨gb272,0,none⟩ (.int .i64 t266)).setCell ⟨gb272,1,none⟩ (.int .i64 t267)).setCell ⟨gb272,2,none⟩ (.int .i64 t268)).setCell ⟨gb272,3,none⟩ (.slice Ao16 t269.length co16)) w.heap.size (fun k_=>some k_ ≠ (.slice Ao16 t269.length co16 : Value).ownBlock) (.slice Ao11 t262.length co11) t262):=⟨by (with_reducible repeat (first|apply Kd.R_alloc));exact Kd.R_mono (Kd.R_far (p:=⟨gb272,3,none⟩) (Kd.R_far (p:=⟨gb272,2,none⟩) (Kd.R_far (p:=⟨gb272,1,none⟩) (Kd.R_far (p:=⟨gb272,0,none⟩) (Kd.R_types HO264.out BK272.out (by decide)) (fun _ hk=>hk.2) (.int .i64 t266)) (fun _ hk=>hk.2) (.int .i64 t267)) (fun _ hk=>hk.2) (.int .i64 t268)) (fun _ hk=>hk.2) (.slice Ao16 t269.length co16)) (fun _ hk=>hk.1.2)⟩
   have n1_ : Aside0 (Kd.R (Kd.int .i64) 2 ((((w13.setCell ⟨gb272,0,none⟩ (.int .i64 t266)).setCell ⟨gb272,1,none⟩ (.int .i64 t267)).setCell ⟨gb272,2,none⟩ (.int .i64 t268)).setCell ⟨gb272,3,none⟩ (.slice Ao16 t269.length co16)) w.heap.size (fun k_=>some k_ ≠ (.slice Ao11 t262.length co11 : Value).ownBlock) (.slice Ao16 t269.length co16) t269):=⟨by (with_reducible repeat (first|apply Kd.R_alloc));exact Kd.R_mono (Kd.R_far (p:=⟨gb272,3,none⟩) (Kd.R_far (p:=⟨gb272,2,none⟩) (Kd.R_far (p:=⟨gb272,1,none⟩) (Kd.R_far (p:=⟨gb272,0,none⟩) (Kd.R_types HO271.out BK272.out (by decide)) (fun _ hk=>hk.2) (.int .i64 t266)) (fun _ hk=>hk.2) (.int .i64 t267)) (fun _ hk=>hk.2) (.int .i64 t268)) (fun _ hk=>hk.2) (.slice Ao16 t269.length co16)) (fun _ hk=>hk.1.2)⟩
   have n2_ : Aside0 (((((w13.setCell ⟨gb272,0,none⟩ (.int .i64 t266)).setCell ⟨gb272,1,none⟩ (.int .i64 t267)).setCell ⟨gb272,2,none⟩ (.int .i64 t268)).setCell ⟨gb272,3,none⟩ (.slice Ao16 t269.length co16)).heap[gb265]? = some (.cells #[.int .i64 t260,.int .i64 t261,.slice Ao11 t262.length co11] 27 (0,0))):=⟨by (with_reducible repeat refine blk_alloc ?_ _);refine blk_far ?_ NB265_272.out _;(with_reducible repeat refine blk_alloc ?_ _);refine blk_far ?_ NB265_272.out _;(with_reducible repeat refine blk_alloc ?_ _);refine blk_far ?_ NB265_272.out _;(with_reducible repeat refine blk_alloc ?_ _);refine blk_far ?_ NB265_272.out _;(with_reducible repeat refine blk_alloc ?_ _);exact BK265.out⟩
   have n3_ : Aside0 (((((w13.setCell ⟨gb272,0,none⟩ (.int .i64 t266)).setCell ⟨gb272,1,none⟩ (.int .i64 t267)).setCell ⟨gb272,2,none⟩ (.int .i64 t268)).setCell ⟨gb272,3,none⟩ (.slice Ao16 t269.length co16)).heap[gb272]? = some (.cells #[.int .i64 t266,.int .i64 t267,.int .i64 t268,.slice Ao16 t269.length co16] 32 (0,0))):=⟨by (with_reducible repeat refine blk_alloc ?_ _);refine blk_put (cs:=#[.int .i64 t266,.int .i64 t267,.int .i64 t268,.slice none 0 0]) ?_ 3 _ rfl;(with_reducible repeat refine blk_alloc ?_ _);refine blk_put (cs:=#[.int .i64 t266,.int .i64 t267,.int .i64 0,.slice none 0 0]) ?_ 2 _ rfl;(with_reducible repeat refine blk_alloc ?_ _);refine blk_put (cs:=#[.int .i64 t266,.int .i64 0,.int .i64 0,.slice none 0 0]) ?_ 1 _ rfl;(with_reducible repeat refine blk_alloc ?_ _);refine blk_put (cs:=#[.int .i64 0,.int .i64 0,.int .i64 0,.slice none 0 0]) ?_ 0 _ rfl;(with_reducible repeat refine blk_alloc ?_ _);exact BK272.out⟩
   have n4_ : Aside0 (Below w.heap.size w ((((w13.setCell ⟨gb272,0,none⟩ (.int .i64 t266)).setCell ⟨gb272,1,none⟩ (.int .i64 t267)).setCell ⟨gb272,2,none⟩ (.int .i64 t268)).setCell ⟨gb272,3,none⟩ (.slice Ao16 t269.length co16))):=⟨by repeat (first|(with_reducible first|exact HB.out|apply below_alloc|refine below_set ?_ GE265.out|refine below_set ?_ GE272.out)|exact HB.out)⟩
   (try clear HO264);(try clear HO271);(try clear BK265);(try clear BK272);(try clear HB)
   generalize ((((w13.setCell ⟨gb272,0,none⟩ (.int .i64 t266)).setCell ⟨gb272,1,none⟩ (.int .i64 t267)).setCell ⟨gb272,2,none⟩ (.int .i64 t268)).setCell ⟨gb272,3,none⟩ (.slice Ao16 t269.length co16)) = w17 at n0_ n1_ n2_ n3_ n4_ ⊢
   have HO264:=n0_
   have HO271:=n1_
   have BK265:=n2_
   have BK272:=n3_
   have HB:=n4_
   clear n0_ n1_ n2_ n3_ n4_
   have n0_:=Aside0.mk (Kd.R_drew HO264.out)
   have n1_:=Aside0.mk (Kd.R_drew HO271.out)
   have n2_:=Aside0.mk (blk_drew BK265.out)
   have n3_:=Aside0.mk (blk_drew BK272.out)
   have n4_:=Aside0.mk (below_drew1 HB.out)
   clear HO264 HO271 BK265 BK272 HB
   have HO264:=n0_
   have HO271:=n1_
   have BK265:=n2_
   have BK272:=n3_
   have HB:=n4_
   clear n0_ n1_ n2_ n3_ n4_
   refine start_ (n:=6) (S:=fun w'=>w'.cell? ⟨gb272,0,none⟩ = some (.int .i64 t266) ∧ w'.cell? ⟨gb272,1,none⟩ = some (.int .i64 t267) ∧ w'.cell? ⟨gb272,2,none⟩ = some (.int .i64 t268) ∧ w'.cell? ⟨gb272,3,none⟩ = some (.slice Ao16 t269.length co16) ∧ w'.cell? ⟨gb265,0,none⟩ = some (.int .i64 t260) ∧ w'.cell? ⟨gb265,1,none⟩ = some (.int .i64 t261) ∧ w'.cell? ⟨gb265,2,none⟩ = some (.slice Ao11 t262.length co11)) (ds:=[]) #[false,false,false,false,false,false] (by kernel_rfl) rfl rfl ⟨(blk_cell BK272.out 0).trans rfl,(blk_cell BK272.out 1).trans rfl,(blk_cell BK272.out 2).trans rfl,(blk_cell BK272.out 3).trans rfl,(blk_cell BK265.out 0).trans rfl,(blk_cell BK265.out 1).trans rfl,(blk_cell BK265.out 2).trans rfl⟩ (fun hHeld=>?_)
   generalize w17.drew = w18 at HO264 HO271 BK265 BK272 HB hHeld ⊢
   refine pure_ (i:=0) (N:=some 12) (v:=?_) (a':=?_) #[true,false,false,false,false,false] rfl rfl (by kernel_rfl) (fun _ _ _ h=>h) (Or.inl ⟨by rfl,?_⟩) ?_ ?_
   rotate_left
   ·intro w'
    go_simp
    with_reducible rfl
   rotate_left
   ·simp only [Act.put,List.setIfInBounds_toArray,List.set_cons_zero,List.set_cons_succ,i64_w,i32_w]
    rfl
   refine take_ (i:=1) (N:=some 13) (v:=?_) (a':=?_) #[true,true,false,false,false,false] rfl rfl (by kernel_rfl) (fun _ _ _ h=>h) (Or.inl ⟨by rfl,?_⟩) hHeld ?_ ?_
   rotate_left
   ·rintro w' ⟨s0,s1,s2,s3,s4,s5,s6⟩
    go_simp
    with_reducible rfl
   rotate_left
   ·simp only [Act.put,List.setIfInBounds_toArray,List.set_cons_zero,List.set_cons_succ,i64_w,i32_w]
    rfl
   refine take_ (i:=2) (N:=some 14) (v:=?_) (a':=?_) #[true,true,true,false,false,false] rfl rfl (by kernel_rfl) (fun _ _ _ h=>h) (Or.inl ⟨by rfl,?_⟩) hHeld ?_ ?_
   rotate_left
   ·rintro w' ⟨s0,s1,s2,s3,s4,s5,s6⟩
    go_simp
    with_reducible rfl
   rotate_left
   ·simp only [Act.put,List.setIfInBounds_toArray,List.set_cons_zero,List.set_cons_succ,i64_w,i32_w]
    rfl
   refine one_ (i:=3) (N:=some 15) #[true,true,true,true,false,false] rfl rfl (by kernel_rfl) (by decide) (fun K hK=>?_)
   refine goes_ Try.func17 (by kernel_rfl) rfl #[.agg #[.int .i64 t260,.int .i64 t261,.slice Ao11 t262.length co11]] (by rfl) rfl rfl (by (try simp only [List.map_toArray,List.map_cons,List.map_nil]);first|done|rfl) ?_
   with_reducible refine (spec_MatInv.calls k t260 t261 _ _ t262 t273 t274 t275 t276 _ ?side1 ?side2 A5.out).mono ?_
   (case side1=>repeat (first|exact (Kd.R_reads' HO264.out).2.2|(with_reducible refine Kd.C_alloc ?_ _)|(with_reducible refine Kd.C_drewN ?_ _)|(with_reducible refine Kd.C_drew ?_)))
   (case side2=>exact (Kd.R_reads' HO264.out).2.1)
   rintro e w19 ⟨v277,rfl,ho0,hb⟩
   refine ⟨_,rfl,?_⟩
   have n0_:=Aside0.mk (Kd.R_elder' (by (with_reducible repeat (first|apply Kd.R_alloc));exact HO264.out) (Kd.R_base ho0) hb)
   have n1_:=Aside0.mk (Kd.R_elder' (by (with_reducible repeat (first|apply Kd.R_alloc));exact HO271.out) (Kd.R_base ho0) hb)
   have n2_:=Aside0.mk (Kd.R_lower (Kd.R_new' (Kd.R_new' ho0 (Kd.R_lt (by (with_reducible repeat (first|apply Kd.R_alloc));exact HO264.out))) (Kd.R_lt (by (with_reducible repeat (first|apply Kd.R_alloc));exact HO271.out))) (below_size (by repeat (first|(with_reducible first|exact HB.out|apply below_alloc|refine below_set ?_ GE265.out|refine below_set ?_ GE272.out)|exact HB.out))))
   have n3_:=Aside0.mk (blk_below (g:=gb265) (o:=.cells #[.int .i64 t260,.int .i64 t261,.slice Ao11 t262.length co11] 27 (0,0)) (by (with_reducible repeat refine blk_alloc ?_ _);exact BK265.out) hb)
   have n4_:=Aside0.mk (blk_below (g:=gb272) (o:=.cells #[.int .i64 t266,.int .i64 t267,.int .i64 t268,.slice Ao16 t269.length co16] 32 (0,0)) (by (with_reducible repeat refine blk_alloc ?_ _);exact BK272.out) hb)
   have n5_:=Aside0.mk (below_step (by repeat (first|(with_reducible first|exact HB.out|apply below_alloc|refine below_set ?_ GE265.out|refine below_set ?_ GE272.out)|exact HB.out)) hb)
   clear HO264 HO271 BK265 BK272 HB
   have HO264:=n0_
   have HO271:=n1_
   have HO278:=n2_
   have BK265:=n3_
   have BK272:=n4_
   have HB:=n5_
   clear n0_ n1_ n2_ n3_ n4_ n5_
   (try clear hb);(try clear hb2);(try clear hk);(try clear hi);(try clear ho0)
   refine hK.out _ _ ⟨(blk_cell BK272.out 0).trans rfl,(blk_cell BK272.out 1).trans rfl,(blk_cell BK272.out 2).trans rfl,(blk_cell BK272.out 3).trans rfl,(blk_cell BK265.out 0).trans rfl,(blk_cell BK265.out 1).trans rfl,(blk_cell BK265.out 2).trans rfl⟩ (fun hHeld=>?_)
   clear hK K
   refine norm_ (a':=?_) ?_ ?_
   rotate_left
   ·show Act.put _ (some 15) _ = _
    simp only [Act.put,List.setIfInBounds_toArray,List.set_cons_zero,List.set_cons_succ,i64_w,i32_w]
    rfl
   refine pure_ (i:=4) (N:=some 16) (v:=?_) (a':=?_) #[true,true,true,true,true,false] rfl rfl (by kernel_rfl) (fun _ _ _ h=>h) (Or.inl ⟨by rfl,?_⟩) ?_ ?_
   rotate_left
   ·intro w'
    go_simp
    with_reducible rfl
   rotate_left
   ·simp only [Act.put,List.setIfInBounds_toArray,List.set_cons_zero,List.set_cons_succ,i64_w,i32_w]
    rfl
   refine pure_ (i:=5) (N:=some 17) (v:=?_) (a':=?_) #[true,true,true,true,true,true] rfl rfl (by kernel_rfl) (fun _ _ _ h=>h) (Or.inl ⟨by rfl,?_⟩) ?_ ?_
   rotate_left
   ·intro w'
    go_simp
    with_reducible rfl
   rotate_left
   ·simp only [Act.put,List.setIfInBounds_toArray,List.set_cons_zero,List.set_cons_succ,i64_w,i32_w]
    rfl
   refine done_ (by kernel_rfl) ?_
   go_upto_region 7 with (fail)
   go_cut [27] (fun v27 wc=>∃ (kq : Nat) (x27_6 : Bool),v27 = .bool x27_6 ∧ Aside0 (laws_FnInverse.j0 kq x27_6 t260 t261 t262 t266 t267 t268 t269 = some true) ∧ Aside0 (kq ≤ k) ∧ Aside0 (Kd.R (Kd.int .i64) 2 wc w.heap.size (fun k_=>some k_ ≠ ((.slice Ao16 t269.length co16) : Value).ownBlock) (.slice Ao11 t262.length co11) t262) ∧ Aside0 (Kd.R (Kd.int .i64) 2 wc w.heap.size (fun k_=>some k_ ≠ ((.slice Ao11 t262.length co11) : Value).ownBlock) (.slice Ao16 t269.length co16) t269) ∧ Aside0 (wc.heap[gb265]? = some (.cells #[.int .i64 t260,.int .i64 t261,(.slice Ao11 t262.length co11)] 27 (0,0))) ∧ Aside0 (wc.heap[gb272]? = some (.cells #[.int .i64 t266,.int .i64 t267,.int .i64 t268,(.slice Ao16 t269.length co16)] 32 (0,0))) ∧ Aside0 (Below w.heap.size w wc))
   case first=>
    have H:=HC7.out
    clear HC7
    replace H:=Option.bind_eq_some_iff.mp H
    obtain ⟨t279,A200,H⟩:=H
    replace H : (if t279 = 0 then (laws_FnInverse.j0 k (t260 != t261) t260 t261 t262 t266 t267 t268 t269) else (laws_FnInverse.j0 k true t260 t261 t262 t266 t267 t268 t269)) = some true:=H
    have A20:=Aside0.mk A200
    clear A200
    by_cases c21 : t279 = 0
    ·rw [if_pos c21] at H
     have c21b0 : (t279 == 0) = true:=beq_iff_eq.mpr c21
     have c21b1 : (t279 != 0) = false:=bne_eq_false_iff_eq.mpr c21
     clear c21
     (first|rw [c21b0]|(simp only [i64_w,i32_w];rw [c21b0])|skip)
     have H':=Aside0.mk H
     clear H
     have hnb22:=NB265_272.out
     have hnc22:=NB272_265.out
     have hcz23_0 : w19.cell? ⟨gb265,0,none⟩ = some (.int .i64 t260):=(blk_cell BK265.out 0).trans rfl
     have hcz23_1 : w19.cell? ⟨gb265,1,none⟩ = some (.int .i64 t261):=(blk_cell BK265.out 1).trans rfl
     have hcz23_2 : w19.cell? ⟨gb265,2,none⟩ = some (.slice Ao11 t262.length co11):=(blk_cell BK265.out 2).trans rfl
     have hfz23_0:=blk_frozen BK265.out 0
     have hfz23_1:=blk_frozen BK265.out 1
     have hfz23_2:=blk_frozen BK265.out 2
     go_wp2_with (first|((with_reducible refine gate_callee (f:=24) rfl ?_);refine goesL_ (some 19) rfl rfl Try.func24 (by kernel_rfl) rfl #[.agg #[.int .i64 t260,.int .i64 t261,.slice Ao11 t262.length co11]] rfl (by (try simp only [List.map_toArray,List.map_cons,List.map_nil]);first|done|rfl) ?_;(with_reducible refine (spec_MatrixFault.calls k t260 t261 _ _ t262 t279 _ ?side1 ?side2 A20.out).mono ?_);(case side1=>repeat (first|exact (Kd.R_reads' HO264.out).2.2|(with_reducible refine Kd.C_alloc ?_ _)|(with_reducible refine Kd.C_drewN ?_ _)|(with_reducible refine Kd.C_drew ?_)));(case side2=>exact (Kd.R_reads' HO264.out).2.1);rintro e w24 ⟨rfl,hb⟩;refine ⟨_,rfl,?_⟩;have n0_:=Aside0.mk (Kd.R_below (by (with_reducible repeat (first|apply Kd.R_alloc));exact HO264.out) hb);have n1_:=Aside0.mk (Kd.R_below (by (with_reducible repeat (first|apply Kd.R_alloc));exact HO271.out) hb);have n2_:=Aside0.mk (Kd.R_below (by (with_reducible repeat (first|apply Kd.R_alloc));exact HO278.out) hb);have n3_:=Aside0.mk (blk_below (g:=gb265) (o:=.cells #[.int .i64 t260,.int .i64 t261,.slice Ao11 t262.length co11] 27 (0,0)) (by (with_reducible repeat refine blk_alloc ?_ _);exact BK265.out) hb);have n4_:=Aside0.mk (blk_below (g:=gb272) (o:=.cells #[.int .i64 t266,.int .i64 t267,.int .i64 t268,.slice Ao16 t269.length co16] 32 (0,0)) (by (with_reducible repeat refine blk_alloc ?_ _);exact BK272.out) hb);have n5_:=Aside0.mk (below_step (by repeat (first|(with_reducible first|exact HB.out|apply below_alloc|refine below_set ?_ GE265.out|refine below_set ?_ GE272.out)|exact HB.out)) hb);clear HO264 HO271 HO278 BK265 BK272 HB;have HO264:=n0_;have HO271:=n1_;have HO278:=n2_;have BK265:=n3_;have BK272:=n4_;have HB:=n5_;clear n0_ n1_ n2_ n3_ n4_ n5_;(try clear hb);(try clear hb2);(try clear hk);(try clear hi);have hcz25_0 : w24.cell? ⟨gb265,0,none⟩ = some (.int .i64 t260):=(blk_cell BK265.out 0).trans rfl;have hcz25_1 : w24.cell? ⟨gb265,1,none⟩ = some (.int .i64 t261):=(blk_cell BK265.out 1).trans rfl;have hcz25_2 : w24.cell? ⟨gb265,2,none⟩ = some (.slice Ao11 t262.length co11):=(blk_cell BK265.out 2).trans rfl;have hfz25_0:=blk_frozen BK265.out 0;have hfz25_1:=blk_frozen BK265.out 1;have hfz25_2:=blk_frozen BK265.out 2))
     go_meet
     case rel=>exact ⟨_,((t260 != t261)),(by first|rfl|(simp;done)|(simp [*];done)),H',⟨by first|omega|exact Nat.le_refl _⟩,⟨by (with_reducible repeat (first|apply Kd.R_alloc));exact Kd.R_mono HO264.out (fun _ hk=>hk.1)⟩,⟨by (with_reducible repeat (first|apply Kd.R_alloc));exact Kd.R_mono HO271.out (fun _ hk=>hk.1)⟩,⟨by (with_reducible repeat refine blk_alloc ?_ _);exact BK265.out⟩,⟨by (with_reducible repeat refine blk_alloc ?_ _);exact BK272.out⟩,⟨by repeat (first|(with_reducible first|exact HB.out|apply below_alloc|refine below_set ?_ GE265.out|refine below_set ?_ GE272.out)|exact HB.out)⟩⟩
    ·rw [if_neg c21] at H
     have c21b0 : (t279 == 0) = false:=beq_eq_false_iff_ne.mpr c21
     have c21b1 : (t279 != 0) = true:=bne_iff_ne.mpr c21
     (first|rw [c21b0]|(simp only [i64_w,i32_w];rw [c21b0])|skip)
     have H':=Aside0.mk H
     clear H
     have hnb26:=NB265_272.out
     have hnc26:=NB272_265.out
     have hcz27_0 : w19.cell? ⟨gb265,0,none⟩ = some (.int .i64 t260):=(blk_cell BK265.out 0).trans rfl
     have hcz27_1 : w19.cell? ⟨gb265,1,none⟩ = some (.int .i64 t261):=(blk_cell BK265.out 1).trans rfl
     have hcz27_2 : w19.cell? ⟨gb265,2,none⟩ = some (.slice Ao11 t262.length co11):=(blk_cell BK265.out 2).trans rfl
     have hfz27_0:=blk_frozen BK265.out 0
     have hfz27_1:=blk_frozen BK265.out 1
     have hfz27_2:=blk_frozen BK265.out 2
     go_wp2_with (first|((with_reducible refine gate_callee (f:=24) rfl ?_);refine goesL_ (some 19) rfl rfl Try.func24 (by kernel_rfl) rfl #[.agg #[.int .i64 t260,.int .i64 t261,.slice Ao11 t262.length co11]] rfl (by (try simp only [List.map_toArray,List.map_cons,List.map_nil]);first|done|rfl) ?_;(with_reducible refine (spec_MatrixFault.calls k t260 t261 _ _ t262 t279 _ ?side1 ?side2 A20.out).mono ?_);(case side1=>repeat (first|exact (Kd.R_reads' HO264.out).2.2|(with_reducible refine Kd.C_alloc ?_ _)|(with_reducible refine Kd.C_drewN ?_ _)|(with_reducible refine Kd.C_drew ?_)));(case side2=>exact (Kd.R_reads' HO264.out).2.1);rintro e w28 ⟨rfl,hb⟩;refine ⟨_,rfl,?_⟩;have n0_:=Aside0.mk (Kd.R_below (by (with_reducible repeat (first|apply Kd.R_alloc));exact HO264.out) hb);have n1_:=Aside0.mk (Kd.R_below (by (with_reducible repeat (first|apply Kd.R_alloc));exact HO271.out) hb);have n2_:=Aside0.mk (Kd.R_below (by (with_reducible repeat (first|apply Kd.R_alloc));exact HO278.out) hb);have n3_:=Aside0.mk (blk_below (g:=gb265) (o:=.cells #[.int .i64 t260,.int .i64 t261,.slice Ao11 t262.length co11] 27 (0,0)) (by (with_reducible repeat refine blk_alloc ?_ _);exact BK265.out) hb);have n4_:=Aside0.mk (blk_below (g:=gb272) (o:=.cells #[.int .i64 t266,.int .i64 t267,.int .i64 t268,.slice Ao16 t269.length co16] 32 (0,0)) (by (with_reducible repeat refine blk_alloc ?_ _);exact BK272.out) hb);have n5_:=Aside0.mk (below_step (by repeat (first|(with_reducible first|exact HB.out|apply below_alloc|refine below_set ?_ GE265.out|refine below_set ?_ GE272.out)|exact HB.out)) hb);clear HO264 HO271 HO278 BK265 BK272 HB;have HO264:=n0_;have HO271:=n1_;have HO278:=n2_;have BK265:=n3_;have BK272:=n4_;have HB:=n5_;clear n0_ n1_ n2_ n3_ n4_ n5_;(try clear hb);(try clear hb2);(try clear hk);(try clear hi)))
     go_meet
     case rel=>exact ⟨_,(true),(by first|rfl|(simp;done)|(simp [*];done)),H',⟨by first|omega|exact Nat.le_refl _⟩,⟨by (with_reducible repeat (first|apply Kd.R_alloc));exact Kd.R_mono HO264.out (fun _ hk=>hk.1)⟩,⟨by (with_reducible repeat (first|apply Kd.R_alloc));exact Kd.R_mono HO271.out (fun _ hk=>hk.1)⟩,⟨by (with_reducible repeat refine blk_alloc ?_ _);exact BK265.out⟩,⟨by (with_reducible repeat refine blk_alloc ?_ _);exact BK272.out⟩,⟨by repeat (first|(with_reducible first|exact HB.out|apply below_alloc|refine below_set ?_ GE265.out|refine below_set ?_ GE272.out)|exact HB.out)⟩⟩
   case rest=>
    clear HC7
    (try clear c1);(try clear c2);(try clear c2b0);(try clear c2b1);(try clear p2);(try clear c5);(try clear c6);(try clear c6b0);(try clear c6b1);(try clear c14);(try clear c17);(try clear c18);(try clear c21);(try clear c21b0);(try clear c21b1);(try clear c22);(try clear c23);(try clear c24);(try clear c26);(try clear hcz10_0);(try clear hcz10_1);(try clear hcz10_2);(try clear hcz15_0);(try clear hcz15_1);(try clear hcz15_2);(try clear hcz15_3);(try clear hcz23_0);(try clear hcz23_1);(try clear hcz23_2);(try clear hcz25_0);(try clear hcz25_1);(try clear hcz25_2);(try clear hcz27_0);(try clear hcz27_1);(try clear hcz27_2);(try clear hfz10_0);(try clear hfz10_1);(try clear hfz10_2);(try clear hfz15_0);(try clear hfz15_1);(try clear hfz15_2);(try clear hfz15_3);(try clear hfz23_0);(try clear hfz23_1);(try clear hfz23_2);(try clear hfz25_0);(try clear hfz25_1);(try clear hfz25_2);(try clear hfz27_0);(try clear hfz27_1);(try clear hfz27_2)
    obtain ⟨kq,x27_6,rfl,HA,HJ6,HO_266002,HO_273003,BK265,BK272,HB⟩:=hcut
    cases kq with
    | zero=>exact absurd HA.out (by simp [laws_FnInverse.j0])
    | succ kj6=>
     have H:=HA.out
     clear HA
     simp only [laws_FnInverse.j0] at H
     by_cases c29 : x27_6 = true
     ·subst c29
      have H1 : (some (t266 == 1)) = some true:=by rw [if_pos rfl] at H;exact H
      clear H
      have H:=H1
      clear H1
      have hT_:=Option.some.inj H
      clear H
      have hnb30:=NB272_265.out
      have hnc30:=NB265_272.out
      have hcz31_0 : wc.cell? ⟨gb272,0,none⟩ = some (.int .i64 t266):=(blk_cell BK272.out 0).trans rfl
      have hcz31_1 : wc.cell? ⟨gb272,1,none⟩ = some (.int .i64 t267):=(blk_cell BK272.out 1).trans rfl
      have hcz31_2 : wc.cell? ⟨gb272,2,none⟩ = some (.int .i64 t268):=(blk_cell BK272.out 2).trans rfl
      have hcz31_3 : wc.cell? ⟨gb272,3,none⟩ = some (.slice Ao16 t269.length co16):=(blk_cell BK272.out 3).trans rfl
      have hfz31_0:=blk_frozen BK272.out 0
      have hfz31_1:=blk_frozen BK272.out 1
      have hfz31_2:=blk_frozen BK272.out 2
      have hfz31_3:=blk_frozen BK272.out 3
      go_wp2
      go_ret
      exact ⟨by first|rfl|(simp [errW_none,errW_some] <;> rfl)|(simp [*,errW_none,errW_some] <;> rfl),by repeat (first|(with_reducible first|exact HB.out|apply below_alloc|refine below_set ?_ GE265.out|refine below_set ?_ GE272.out)|exact HB.out)⟩
     ·replace c29:=Bool.eq_false_iff.mpr c29
      subst c29
      have H1 : ((impl_MatRank.f kj6 t260 t261 t262).bind fun t280=>(if t280 < t260 then (some (t266 == 5)) else (if t266 = 0 then ((impl_MatMul.f kj6 t260 t261 t262 t267 t268 t269).bind fun bt281=>((laws_lwUnit.f kj6 t260).bind fun bt287=>((laws_lwMatrix.f kj6 bt281.2.1 bt281.2.2.1 bt281.2.2.2 bt287.1 bt287.2.1 bt287.2.2).bind fun t292=>(if t292 = true then ((impl_MatMul.f kj6 t267 t268 t269 t260 t261 t262).bind fun bt293=>((laws_lwUnit.f kj6 t260).bind fun bt299=>((laws_lwMatrix.f kj6 bt293.2.1 bt293.2.2.1 bt293.2.2.2 bt299.1 bt299.2.1 bt299.2.2).bind fun t304=>(some t304)))) else (some false))))) else (some false)))) = some true:=by rw [if_neg (show ¬ (false = true) by decide)] at H;exact H
      clear H
      have H:=H1
      clear H1
      replace H:=Option.bind_eq_some_iff.mp H
      obtain ⟨t280,A320,H⟩:=H
      replace H : (if t280 < t260 then (some (t266 == 5)) else (if t266 = 0 then ((impl_MatMul.f kj6 t260 t261 t262 t267 t268 t269).bind fun bt281=>((laws_lwUnit.f kj6 t260).bind fun bt287=>((laws_lwMatrix.f kj6 bt281.2.1 bt281.2.2.1 bt281.2.2.2 bt287.1 bt287.2.1 bt287.2.2).bind fun t292=>(if t292 = true then ((impl_MatMul.f kj6 t267 t268 t269 t260 t261 t262).bind fun bt293=>((laws_lwUnit.f kj6 t260).bind fun bt299=>((laws_lwMatrix.f kj6 bt293.2.1 bt293.2.2.1 bt293.2.2.2 bt299.1 bt299.2.1 bt299.2.2).bind fun t304=>(some t304)))) else (some false))))) else (some false))) = some true:=H
      have A32:=Aside0.mk A320
      clear A320
      by_cases c33 : t280 < t260
      ·rw [if_pos c33] at H
       have c33b0 : decide (t280 < t260) = true:=decide_eq_true c33
       clear c33
       have hT_:=Option.some.inj H
       clear H
       try go_wp2
       have n0_:=Aside0.mk (Kd.R_drew HO_266002.out)
       have n1_:=Aside0.mk (Kd.R_drew HO_273003.out)
       have n2_:=Aside0.mk (blk_drew BK265.out)
       have n3_:=Aside0.mk (blk_drew BK272.out)
       have n4_:=Aside0.mk (below_drew1 HB.out)
       clear HO_266002 HO_273003 BK265 BK272 HB
       have HO_266002:=n0_
       have HO_273003:=n1_
       have BK265:=n2_
       have BK272:=n3_
       have HB:=n4_
       clear n0_ n1_ n2_ n3_ n4_
       refine start_ (n:=5) (S:=fun w'=>w'.cell? ⟨gb265,0,none⟩ = some (.int .i64 t260) ∧ w'.cell? ⟨gb265,1,none⟩ = some (.int .i64 t261) ∧ w'.cell? ⟨gb265,2,none⟩ = some (.slice Ao11 t262.length co11)) (ds:=[]) #[false,false,false,false,false] (by kernel_rfl) rfl rfl ⟨(blk_cell BK265.out 0).trans rfl,(blk_cell BK265.out 1).trans rfl,(blk_cell BK265.out 2).trans rfl⟩ (fun hHeld=>?_)
       generalize wc.drew = w34 at HO_266002 HO_273003 BK265 BK272 HB hHeld ⊢
       refine pure_ (i:=2) (N:=some 33) (v:=?_) (a':=?_) #[false,false,true,false,false] rfl rfl (by kernel_rfl) (fun _ _ _ h=>h) (Or.inl ⟨by rfl,?_⟩) ?_ ?_
       rotate_left
       ·intro w'
        go_simp
        with_reducible rfl
       rotate_left
       ·simp only [Act.put,List.setIfInBounds_toArray,List.set_cons_zero,List.set_cons_succ,i64_w,i32_w]
        rfl
       refine take_ (i:=0) (N:=some 31) (v:=?_) (a':=?_) #[true,false,true,false,false] rfl rfl (by kernel_rfl) (fun _ _ _ h=>h) (Or.inl ⟨by rfl,?_⟩) hHeld ?_ ?_
       rotate_left
       ·rintro w' ⟨s0,s1,s2⟩
        go_simp
        with_reducible rfl
       rotate_left
       ·simp only [Act.put,List.setIfInBounds_toArray,List.set_cons_zero,List.set_cons_succ,i64_w,i32_w]
        rfl
       refine take_ (i:=3) (N:=some 34) (v:=?_) (a':=?_) #[true,false,true,true,false] rfl rfl (by kernel_rfl) (fun _ _ _ h=>h) (Or.inl ⟨by rfl,?_⟩) hHeld ?_ ?_
       rotate_left
       ·rintro w' ⟨s0,s1,s2⟩
        go_simp
        with_reducible rfl
       rotate_left
       ·simp only [Act.put,List.setIfInBounds_toArray,List.set_cons_zero,List.set_cons_succ,i64_w,i32_w]
        rfl
       refine one_ (i:=1) (N:=some 32) #[true,true,true,true,false] rfl rfl (by kernel_rfl) (by decide) (fun K hK=>?_)
       refine goes_ Try.func15 (by kernel_rfl) rfl #[.agg #[.int .i64 t260,.int .i64 t261,.slice Ao11 t262.length co11]] (by rfl) rfl rfl (by (try simp only [List.map_toArray,List.map_cons,List.map_nil]);first|done|rfl) ?_
       with_reducible refine (impl_MatRank.calls kj6 t260 t261 _ _ t262 t280 _ ?side1 ?side2 A32.out).mono ?_
       (case side1=>repeat (first|exact (Kd.R_reads' HO_266002.out).2.2|(with_reducible refine Kd.C_alloc ?_ _)|(with_reducible refine Kd.C_drewN ?_ _)|(with_reducible refine Kd.C_drew ?_)))
       (case side2=>exact (Kd.R_reads' HO_266002.out).2.1)
       rintro e w35 ⟨rfl,hb⟩
       refine ⟨_,rfl,?_⟩
       have n0_:=Aside0.mk (Kd.R_below (by (with_reducible repeat (first|apply Kd.R_alloc));exact HO_266002.out) hb)
       have n1_:=Aside0.mk (Kd.R_below (by (with_reducible repeat (first|apply Kd.R_alloc));exact HO_273003.out) hb)
       have n2_:=Aside0.mk (blk_below (g:=gb265) (o:=.cells #[.int .i64 t260,.int .i64 t261,.slice Ao11 t262.length co11] 27 (0,0)) (by (with_reducible repeat refine blk_alloc ?_ _);exact BK265.out) hb)
       have n3_:=Aside0.mk (blk_below (g:=gb272) (o:=.cells #[.int .i64 t266,.int .i64 t267,.int .i64 t268,.slice Ao16 t269.length co16] 32 (0,0)) (by (with_reducible repeat refine blk_alloc ?_ _);exact BK272.out) hb)
       have n4_:=Aside0.mk (below_step (by repeat (first|(with_reducible first|exact HB.out|apply below_alloc|refine below_set ?_ GE265.out|refine below_set ?_ GE272.out)|exact HB.out)) hb)
       clear HO_266002 HO_273003 BK265 BK272 HB
       have HO_266002:=n0_
       have HO_273003:=n1_
       have BK265:=n2_
       have BK272:=n3_
       have HB:=n4_
       clear n0_ n1_ n2_ n3_ n4_
       (try clear hb);(try clear hb2);(try clear hk);(try clear hi)
       refine hK.out _ _ ⟨(blk_cell BK265.out 0).trans rfl,(blk_cell BK265.out 1).trans rfl,(blk_cell BK265.out 2).trans rfl⟩ (fun hHeld=>?_)
       clear hK K
       refine norm_ (a':=?_) ?_ ?_
       rotate_left
       ·show Act.put _ (some 32) _ = _
        simp only [Act.put,List.setIfInBounds_toArray,List.set_cons_zero,List.set_cons_succ,i64_w,i32_w]
        rfl
       refine pure_ (i:=4) (N:=some 35) (v:=?_) (a':=?_) #[true,true,true,true,true] rfl rfl (by kernel_rfl) (fun _ _ _ h=>h) (Or.inl ⟨by rfl,?_⟩) ?_ ?_
       rotate_left
       ·intro w'
        go_simp
        with_reducible rfl
       rotate_left
       ·simp only [Act.put,List.setIfInBounds_toArray,List.set_cons_zero,List.set_cons_succ,i64_w,i32_w]
        rfl
       refine done_ (by kernel_rfl) ?_
       have hnb36:=NB272_265.out
       have hnc36:=NB265_272.out
       have hcz37_0 : w35.cell? ⟨gb272,0,none⟩ = some (.int .i64 t266):=(blk_cell BK272.out 0).trans rfl
       have hcz37_1 : w35.cell? ⟨gb272,1,none⟩ = some (.int .i64 t267):=(blk_cell BK272.out 1).trans rfl
       have hcz37_2 : w35.cell? ⟨gb272,2,none⟩ = some (.int .i64 t268):=(blk_cell BK272.out 2).trans rfl
       have hcz37_3 : w35.cell? ⟨gb272,3,none⟩ = some (.slice Ao16 t269.length co16):=(blk_cell BK272.out 3).trans rfl
       have hfz37_0:=blk_frozen BK272.out 0
       have hfz37_1:=blk_frozen BK272.out 1
       have hfz37_2:=blk_frozen BK272.out 2
       have hfz37_3:=blk_frozen BK272.out 3
       try go_wp2
       go_ret
       exact ⟨by first|rfl|(simp [errW_none,errW_some] <;> rfl)|(simp [*,errW_none,errW_some] <;> rfl),by repeat (first|(with_reducible first|exact HB.out|apply below_alloc|refine below_set ?_ GE265.out|refine below_set ?_ GE272.out)|exact HB.out)⟩
      ·rw [if_neg c33] at H
       have c33b0 : decide (t280 < t260) = false:=decide_eq_false c33
       clear c33
       by_cases c38 : t266 = 0
       ·rw [if_pos c38] at H
        have c38b0 : (t266 == 0) = true:=beq_iff_eq.mpr c38
        have c38b1 : (t266 != 0) = false:=bne_eq_false_iff_eq.mpr c38
        clear c38
        replace H:=Option.bind_eq_some_iff.mp H
        obtain ⟨⟨t281,t282,t283,t284⟩,A390,H⟩:=H
        replace H : ((laws_lwUnit.f kj6 t260).bind fun bt287=>((laws_lwMatrix.f kj6 t282 t283 t284 bt287.1 bt287.2.1 bt287.2.2).bind fun t292=>(if t292 = true then ((impl_MatMul.f kj6 t267 t268 t269 t260 t261 t262).bind fun bt293=>((laws_lwUnit.f kj6 t260).bind fun bt299=>((laws_lwMatrix.f kj6 bt293.2.1 bt293.2.2.1 bt293.2.2.2 bt299.1 bt299.2.1 bt299.2.2).bind fun t304=>(some t304)))) else (some false)))) = some true:=H
        have A39:=Aside0.mk A390
        clear A390
        replace H:=Option.bind_eq_some_iff.mp H
        obtain ⟨⟨t287,t288,t289⟩,A400,H⟩:=H
        replace H : ((laws_lwMatrix.f kj6 t282 t283 t284 t287 t288 t289).bind fun t292=>(if t292 = true then ((impl_MatMul.f kj6 t267 t268 t269 t260 t261 t262).bind fun bt293=>((laws_lwUnit.f kj6 t260).bind fun bt299=>((laws_lwMatrix.f kj6 bt293.2.1 bt293.2.2.1 bt293.2.2.2 bt299.1 bt299.2.1 bt299.2.2).bind fun t304=>(some t304)))) else (some false))) = some true:=H
        have A40:=Aside0.mk A400
        clear A400
        replace H:=Option.bind_eq_some_iff.mp H
        obtain ⟨t292,A410,H⟩:=H
        replace H : (if t292 = true then ((impl_MatMul.f kj6 t267 t268 t269 t260 t261 t262).bind fun bt293=>((laws_lwUnit.f kj6 t260).bind fun bt299=>((laws_lwMatrix.f kj6 bt293.2.1 bt293.2.2.1 bt293.2.2.2 bt299.1 bt299.2.1 bt299.2.2).bind fun t304=>(some t304)))) else (some false)) = some true:=H
        have A41:=Aside0.mk A410
        clear A410
        by_cases c42 : t292 = true
        ·subst c42
         have H1 : ((impl_MatMul.f kj6 t267 t268 t269 t260 t261 t262).bind fun bt293=>((laws_lwUnit.f kj6 t260).bind fun bt299=>((laws_lwMatrix.f kj6 bt293.2.1 bt293.2.2.1 bt293.2.2.2 bt299.1 bt299.2.1 bt299.2.2).bind fun t304=>(some t304)))) = some true:=by rw [if_pos rfl] at H;exact H
         clear H
         have H:=H1
         clear H1
         replace H:=Option.bind_eq_some_iff.mp H
         obtain ⟨⟨t293,t294,t295,t296⟩,A430,H⟩:=H
         replace H : ((laws_lwUnit.f kj6 t260).bind fun bt299=>((laws_lwMatrix.f kj6 t294 t295 t296 bt299.1 bt299.2.1 bt299.2.2).bind fun t304=>(some t304))) = some true:=H
         have A43:=Aside0.mk A430
         clear A430
         replace H:=Option.bind_eq_some_iff.mp H
         obtain ⟨⟨t299,t300,t301⟩,A440,H⟩:=H
         replace H : ((laws_lwMatrix.f kj6 t294 t295 t296 t299 t300 t301).bind fun t304=>(some t304)) = some true:=H
         have A44:=Aside0.mk A440
         clear A440
         replace H:=Option.bind_eq_some_iff.mp H
         obtain ⟨t304,A450,H⟩:=H
         replace H : (some t304) = some true:=H
         have A45:=Aside0.mk A450
         clear A450
         have hT_:=Option.some.inj H
         clear H
         try go_wp2
         have n0_:=Aside0.mk (Kd.R_drew HO_266002.out)
         have n1_:=Aside0.mk (Kd.R_drew HO_273003.out)
         have n2_:=Aside0.mk (blk_drew BK265.out)
         have n3_:=Aside0.mk (blk_drew BK272.out)
         have n4_:=Aside0.mk (below_drew1 HB.out)
         clear HO_266002 HO_273003 BK265 BK272 HB
         have HO_266002:=n0_
         have HO_273003:=n1_
         have BK265:=n2_
         have BK272:=n3_
         have HB:=n4_
         clear n0_ n1_ n2_ n3_ n4_
         refine start_ (n:=5) (S:=fun w'=>w'.cell? ⟨gb265,0,none⟩ = some (.int .i64 t260) ∧ w'.cell? ⟨gb265,1,none⟩ = some (.int .i64 t261) ∧ w'.cell? ⟨gb265,2,none⟩ = some (.slice Ao11 t262.length co11)) (ds:=[]) #[false,false,false,false,false] (by kernel_rfl) rfl rfl ⟨(blk_cell BK265.out 0).trans rfl,(blk_cell BK265.out 1).trans rfl,(blk_cell BK265.out 2).trans rfl⟩ (fun hHeld=>?_)
         generalize wc.drew = w46 at HO_266002 HO_273003 BK265 BK272 HB hHeld ⊢
         refine pure_ (i:=2) (N:=some 33) (v:=?_) (a':=?_) #[false,false,true,false,false] rfl rfl (by kernel_rfl) (fun _ _ _ h=>h) (Or.inl ⟨by rfl,?_⟩) ?_ ?_
         rotate_left
         ·intro w'
          go_simp
          with_reducible rfl
         rotate_left
         ·simp only [Act.put,List.setIfInBounds_toArray,List.set_cons_zero,List.set_cons_succ,i64_w,i32_w]
          rfl
         refine take_ (i:=0) (N:=some 31) (v:=?_) (a':=?_) #[true,false,true,false,false] rfl rfl (by kernel_rfl) (fun _ _ _ h=>h) (Or.inl ⟨by rfl,?_⟩) hHeld ?_ ?_
         rotate_left
         ·rintro w' ⟨s0,s1,s2⟩
          go_simp
          with_reducible rfl
         rotate_left
         ·simp only [Act.put,List.setIfInBounds_toArray,List.set_cons_zero,List.set_cons_succ,i64_w,i32_w]
          rfl
         refine take_ (i:=3) (N:=some 34) (v:=?_) (a':=?_) #[true,false,true,true,false] rfl rfl (by kernel_rfl) (fun _ _ _ h=>h) (Or.inl ⟨by rfl,?_⟩) hHeld ?_ ?_
         rotate_left
         ·rintro w' ⟨s0,s1,s2⟩
          go_simp
          with_reducible rfl
         rotate_left
         ·simp only [Act.put,List.setIfInBounds_toArray,List.set_cons_zero,List.set_cons_succ,i64_w,i32_w]
          rfl
         refine one_ (i:=1) (N:=some 32) #[true,true,true,true,false] rfl rfl (by kernel_rfl) (by decide) (fun K hK=>?_)
         refine goes_ Try.func15 (by kernel_rfl) rfl #[.agg #[.int .i64 t260,.int .i64 t261,.slice Ao11 t262.length co11]] (by rfl) rfl rfl (by (try simp only [List.map_toArray,List.map_cons,List.map_nil]);first|done|rfl) ?_
         with_reducible refine (impl_MatRank.calls kj6 t260 t261 _ _ t262 t280 _ ?side1 ?side2 A32.out).mono ?_
         (case side1=>repeat (first|exact (Kd.R_reads' HO_266002.out).2.2|(with_reducible refine Kd.C_alloc ?_ _)|(with_reducible refine Kd.C_drewN ?_ _)|(with_reducible refine Kd.C_drew ?_)))
         (case side2=>exact (Kd.R_reads' HO_266002.out).2.1)
         rintro e w47 ⟨rfl,hb⟩
         refine ⟨_,rfl,?_⟩
         have n0_:=Aside0.mk (Kd.R_below (by (with_reducible repeat (first|apply Kd.R_alloc));exact HO_266002.out) hb)
         have n1_:=Aside0.mk (Kd.R_below (by (with_reducible repeat (first|apply Kd.R_alloc));exact HO_273003.out) hb)
         have n2_:=Aside0.mk (blk_below (g:=gb265) (o:=.cells #[.int .i64 t260,.int .i64 t261,.slice Ao11 t262.length co11] 27 (0,0)) (by (with_reducible repeat refine blk_alloc ?_ _);exact BK265.out) hb)
         have n3_:=Aside0.mk (blk_below (g:=gb272) (o:=.cells #[.int .i64 t266,.int .i64 t267,.int .i64 t268,.slice Ao16 t269.length co16] 32 (0,0)) (by (with_reducible repeat refine blk_alloc ?_ _);exact BK272.out) hb)
         have n4_:=Aside0.mk (below_step (by repeat (first|(with_reducible first|exact HB.out|apply below_alloc|refine below_set ?_ GE265.out|refine below_set ?_ GE272.out)|exact HB.out)) hb)
         clear HO_266002 HO_273003 BK265 BK272 HB
         have HO_266002:=n0_
         have HO_273003:=n1_
         have BK265:=n2_
         have BK272:=n3_
         have HB:=n4_
         clear n0_ n1_ n2_ n3_ n4_
         (try clear hb);(try clear hb2);(try clear hk);(try clear hi)
         refine hK.out _ _ ⟨(blk_cell BK265.out 0).trans rfl,(blk_cell BK265.out 1).trans rfl,(blk_cell BK265.out 2).trans rfl⟩ (fun hHeld=>?_)
         clear hK K
         refine norm_ (a':=?_) ?_ ?_
         rotate_left
         ·show Act.put _ (some 32) _ = _
          simp only [Act.put,List.setIfInBounds_toArray,List.set_cons_zero,List.set_cons_succ,i64_w,i32_w]
          rfl
         refine pure_ (i:=4) (N:=some 35) (v:=?_) (a':=?_) #[true,true,true,true,true] rfl rfl (by kernel_rfl) (fun _ _ _ h=>h) (Or.inl ⟨by rfl,?_⟩) ?_ ?_
         rotate_left
         ·intro w'
          go_simp
          with_reducible rfl
         rotate_left
         ·simp only [Act.put,List.setIfInBounds_toArray,List.set_cons_zero,List.set_cons_succ,i64_w,i32_w]
          rfl
         refine done_ (by kernel_rfl) ?_
         try go_wp2
         have n0_:=Aside0.mk (Kd.R_drew HO_266002.out)
         have n1_:=Aside0.mk (Kd.R_drew HO_273003.out)
         have n2_:=Aside0.mk (blk_drew BK265.out)
         have n3_:=Aside0.mk (blk_drew BK272.out)
         have n4_:=Aside0.mk (below_drew1 HB.out)
         clear HO_266002 HO_273003 BK265 BK272 HB
         have HO_266002:=n0_
         have HO_273003:=n1_
         have BK265:=n2_
         have BK272:=n3_
         have HB:=n4_
         clear n0_ n1_ n2_ n3_ n4_
         refine start_ (n:=26) (S:=fun w'=>w'.cell? ⟨gb272,0,none⟩ = some (.int .i64 t266) ∧ w'.cell? ⟨gb272,1,none⟩ = some (.int .i64 t267) ∧ w'.cell? ⟨gb272,2,none⟩ = some (.int .i64 t268) ∧ w'.cell? ⟨gb272,3,none⟩ = some (.slice Ao16 t269.length co16) ∧ w'.cell? ⟨gb265,0,none⟩ = some (.int .i64 t260) ∧ w'.cell? ⟨gb265,1,none⟩ = some (.int .i64 t261) ∧ w'.cell? ⟨gb265,2,none⟩ = some (.slice Ao11 t262.length co11)) (ds:=[]) #[false,false,false,false,false,false,false,false,false,false,false,false,false,false,false,false,false,false,false,false,false,false,false,false,false,false] (by kernel_rfl) rfl rfl ⟨(blk_cell BK272.out 0).trans rfl,(blk_cell BK272.out 1).trans rfl,(blk_cell BK272.out 2).trans rfl,(blk_cell BK272.out 3).trans rfl,(blk_cell BK265.out 0).trans rfl,(blk_cell BK265.out 1).trans rfl,(blk_cell BK265.out 2).trans rfl⟩ (fun hHeld=>?_);refine with_tabW laws_FnInverse.tab11 laws_FnInverse.bits11 (fun HT_ HW_=>?_)
         generalize w47.drew = w48 at HO_266002 HO_273003 BK265 BK272 HB hHeld ⊢
         refine pure_ (i:=0) (N:=some 39) (v:=?_) (a':=?_) #[true,false,false,false,false,false,false,false,false,false,false,false,false,false,false,false,false,false,false,false,false,false,false,false,false,false] rfl rfl (any_of HT_.out (by kernel_rfl)) (fun _ _ _ h=>h) (Or.inl ⟨by rfl,?_⟩) ?_ ?_
         rotate_left
         ·intro w'
          go_simp
          with_reducible rfl
         rotate_left
         ·simp only [Act.put,List.setIfInBounds_toArray,List.set_cons_zero,List.set_cons_succ,i64_w,i32_w]
          rfl
         refine take_ (i:=1) (N:=some 40) (v:=?_) (a':=?_) #[true,true,false,false,false,false,false,false,false,false,false,false,false,false,false,false,false,false,false,false,false,false,false,false,false,false] rfl rfl (take_ofW HT_.out HW_.out (by kernel_rfl)) (fun _ _ _ h=>h) (Or.inl ⟨by rfl,?_⟩) hHeld ?_ ?_
         rotate_left
         ·rintro w' ⟨s0,s1,s2,s3,s4,s5,s6⟩
          go_simp
          with_reducible rfl
         rotate_left
         ·simp only [Act.put,List.setIfInBounds_toArray,List.set_cons_zero,List.set_cons_succ,i64_w,i32_w]
          rfl
         refine pure_ (i:=2) (N:=some 41) (v:=?_) (a':=?_) #[true,true,true,false,false,false,false,false,false,false,false,false,false,false,false,false,false,false,false,false,false,false,false,false,false,false] rfl rfl (any_of HT_.out (by kernel_rfl)) (fun _ _ _ h=>h) (Or.inl ⟨by rfl,?_⟩) ?_ ?_
         rotate_left
         ·intro w'
          go_simp
          with_reducible rfl
         rotate_left
         ·simp only [Act.put,List.setIfInBounds_toArray,List.set_cons_zero,List.set_cons_succ,i64_w,i32_w]
          rfl
         refine pure_ (i:=3) (N:=some 42) (v:=?_) (a':=?_) #[true,true,true,true,false,false,false,false,false,false,false,false,false,false,false,false,false,false,false,false,false,false,false,false,false,false] rfl rfl (any_of HT_.out (by kernel_rfl)) (fun _ _ _ h=>h) (Or.inl ⟨by rfl,?_⟩) ?_ ?_
         rotate_left
         ·intro w'
          go_simp
          with_reducible rfl
         rotate_left
         ·simp only [Act.put,List.setIfInBounds_toArray,List.set_cons_zero,List.set_cons_succ,i64_w,i32_w]
          rfl
         refine pure_ (i:=5) (N:=some 44) (v:=?_) (a':=?_) #[true,true,true,true,false,true,false,false,false,false,false,false,false,false,false,false,false,false,false,false,false,false,false,false,false,false] rfl rfl (any_of HT_.out (by kernel_rfl)) (fun _ _ _ h=>h) (Or.inl ⟨by rfl,?_⟩) ?_ ?_
         rotate_left
         ·intro w'
          go_simp
          with_reducible rfl
         rotate_left
         ·simp only [Act.put,List.setIfInBounds_toArray,List.set_cons_zero,List.set_cons_succ,i64_w,i32_w]
          rfl
         refine pure_ (i:=9) (N:=some 48) (v:=?_) (a':=?_) #[true,true,true,true,false,true,false,false,false,true,false,false,false,false,false,false,false,false,false,false,false,false,false,false,false,false] rfl rfl (any_of HT_.out (by kernel_rfl)) (fun _ _ _ h=>h) (Or.inl ⟨by rfl,?_⟩) ?_ ?_
         rotate_left
         ·intro w'
          go_simp
          with_reducible rfl
         rotate_left
         ·simp only [Act.put,List.setIfInBounds_toArray,List.set_cons_zero,List.set_cons_succ,i64_w,i32_w]
          rfl
         refine take_ (i:=4) (N:=some 43) (v:=?_) (a':=?_) #[true,true,true,true,true,true,false,false,false,true,false,false,false,false,false,false,false,false,false,false,false,false,false,false,false,false] rfl rfl (take_ofW HT_.out HW_.out (by kernel_rfl)) (fun _ _ _ h=>h) (Or.inl ⟨by rfl,?_⟩) hHeld ?_ ?_
         rotate_left
         ·rintro w' ⟨s0,s1,s2,s3,s4,s5,s6⟩
          go_simp
          with_reducible rfl
         rotate_left
         ·simp only [Act.put,List.setIfInBounds_toArray,List.set_cons_zero,List.set_cons_succ,i64_w,i32_w]
          rfl
         refine take_ (i:=6) (N:=some 45) (v:=?_) (a':=?_) #[true,true,true,true,true,true,true,false,false,true,false,false,false,false,false,false,false,false,false,false,false,false,false,false,false,false] rfl rfl (take_ofW HT_.out HW_.out (by kernel_rfl)) (fun _ _ _ h=>h) (Or.inl ⟨by rfl,?_⟩) hHeld ?_ ?_
         rotate_left
         ·rintro w' ⟨s0,s1,s2,s3,s4,s5,s6⟩
          go_simp
          with_reducible rfl
         rotate_left
         ·simp only [Act.put,List.setIfInBounds_toArray,List.set_cons_zero,List.set_cons_succ,i64_w,i32_w]
          rfl
         refine take_ (i:=10) (N:=some 49) (v:=?_) (a':=?_) #[true,true,true,true,true,true,true,false,false,true,true,false,false,false,false,false,false,false,false,false,false,false,false,false,false,false] rfl rfl (take_ofW HT_.out HW_.out (by kernel_rfl)) (fun _ _ _ h=>h) (Or.inl ⟨by rfl,?_⟩) hHeld ?_ ?_
         rotate_left
         ·rintro w' ⟨s0,s1,s2,s3,s4,s5,s6⟩
          go_simp
          with_reducible rfl
         rotate_left
         ·simp only [Act.put,List.setIfInBounds_toArray,List.set_cons_zero,List.set_cons_succ,i64_w,i32_w]
          rfl
         refine one_ (i:=7) (N:=some 46) #[true,true,true,true,true,true,true,true,false,true,true,false,false,false,false,false,false,false,false,false,false,false,false,false,false,false] rfl rfl (one_of HT_.out (by kernel_rfl)) (by decide) (fun K hK=>?_)
         refine goes_ Try.func26 (by kernel_rfl) rfl #[.agg #[.int .i64 t260,.int .i64 t261,.slice Ao11 t262.length co11],.agg #[.int .i64 t267,.int .i64 t268,.slice Ao16 t269.length co16]] (by rfl) rfl rfl (by (try simp only [List.map_toArray,List.map_cons,List.map_nil]);first|done|rfl) ?_
         with_reducible refine (impl_MatMul.calls kj6 t260 t261 _ _ t262 t267 t268 _ _ t269 t281 t282 t283 t284 _ ?side1 ?side2 ?side3 ?side4 A39.out).mono ?_
         (case side1=>repeat (first|exact (Kd.R_reads' HO_266002.out).2.2|(with_reducible refine Kd.C_alloc ?_ _)|(with_reducible refine Kd.C_drewN ?_ _)|(with_reducible refine Kd.C_drew ?_)))
         (case side2=>exact (Kd.R_reads' HO_266002.out).2.1)
         (case side3=>repeat (first|exact (Kd.R_reads' HO_273003.out).2.2|(with_reducible refine Kd.C_alloc ?_ _)|(with_reducible refine Kd.C_drewN ?_ _)|(with_reducible refine Kd.C_drew ?_)))
         (case side4=>exact (Kd.R_reads' HO_273003.out).2.1)
         rintro e w49 ⟨v285,rfl,ho0,hb⟩
         refine ⟨_,rfl,?_⟩
         have n0_:=Aside0.mk (Kd.R_elder' (by (with_reducible repeat (first|apply Kd.R_alloc));exact HO_266002.out) (Kd.R_base ho0) hb)
         have n1_:=Aside0.mk (Kd.R_elder' (by (with_reducible repeat (first|apply Kd.R_alloc));exact HO_273003.out) (Kd.R_base ho0) hb)
         have n2_:=Aside0.mk (Kd.R_lower (Kd.R_new' (Kd.R_new' ho0 (Kd.R_lt (by (with_reducible repeat (first|apply Kd.R_alloc));exact HO_266002.out))) (Kd.R_lt (by (with_reducible repeat (first|apply Kd.R_alloc));exact HO_273003.out))) (below_size (by repeat (first|(with_reducible first|exact HB.out|apply below_alloc|refine below_set ?_ GE265.out|refine below_set ?_ GE272.out)|exact HB.out))))
         have n3_:=Aside0.mk (blk_below (g:=gb265) (o:=.cells #[.int .i64 t260,.int .i64 t261,.slice Ao11 t262.length co11] 27 (0,0)) (by (with_reducible repeat refine blk_alloc ?_ _);exact BK265.out) hb)
         have n4_:=Aside0.mk (blk_below (g:=gb272) (o:=.cells #[.int .i64 t266,.int .i64 t267,.int .i64 t268,.slice Ao16 t269.length co16] 32 (0,0)) (by (with_reducible repeat refine blk_alloc ?_ _);exact BK272.out) hb)
         have n5_:=Aside0.mk (below_step (by repeat (first|(with_reducible first|exact HB.out|apply below_alloc|refine below_set ?_ GE265.out|refine below_set ?_ GE272.out)|exact HB.out)) hb)
         clear HO_266002 HO_273003 BK265 BK272 HB
         have HO_266002:=n0_
         have HO_273003:=n1_
         have HO286:=n2_
         have BK265:=n3_
         have BK272:=n4_
         have HB:=n5_
         clear n0_ n1_ n2_ n3_ n4_ n5_
         (try clear hb);(try clear hb2);(try clear hk);(try clear hi);(try clear ho0)
         refine hK.out _ _ ⟨(blk_cell BK272.out 0).trans rfl,(blk_cell BK272.out 1).trans rfl,(blk_cell BK272.out 2).trans rfl,(blk_cell BK272.out 3).trans rfl,(blk_cell BK265.out 0).trans rfl,(blk_cell BK265.out 1).trans rfl,(blk_cell BK265.out 2).trans rfl⟩ (fun hHeld=>?_)
         clear hK K
         refine norm_ (a':=?_) ?_ ?_
         rotate_left
         ·show Act.put _ (some 46) _ = _
          simp only [Act.put,List.setIfInBounds_toArray,List.set_cons_zero,List.set_cons_succ,i64_w,i32_w]
          rfl
         refine pure_ (i:=8) (N:=some 47) (v:=?_) (a':=?_) #[true,true,true,true,true,true,true,true,true,true,true,false,false,false,false,false,false,false,false,false,false,false,false,false,false,false] rfl rfl (any_of HT_.out (by kernel_rfl)) (fun _ _ _ h=>h) (Or.inl ⟨by rfl,?_⟩) ?_ ?_
         rotate_left
         ·intro w'
          go_simp
          with_reducible rfl
         rotate_left
         ·simp only [Act.put,List.setIfInBounds_toArray,List.set_cons_zero,List.set_cons_succ,i64_w,i32_w]
          rfl
         refine one_ (i:=11) (N:=some 50) #[true,true,true,true,true,true,true,true,true,true,true,true,false,false,false,false,false,false,false,false,false,false,false,false,false,false] rfl rfl (one_of HT_.out (by kernel_rfl)) (by decide) (fun K hK=>?_)
         refine goes_ Try.func27 (by kernel_rfl) rfl #[.int .i64 t260] (by rfl) rfl rfl (by (try simp only [List.map_toArray,List.map_cons,List.map_nil]);first|done|rfl) ?_
         with_reducible refine (laws_lwUnit.calls kj6 t260 t287 t288 t289 _ A40.out).mono ?_
         rintro e w50 ⟨v290,rfl,ho0,hb⟩
         refine ⟨_,rfl,?_⟩
         have n0_:=Aside0.mk (Kd.R_elder' (by (with_reducible repeat (first|apply Kd.R_alloc));exact HO_266002.out) (Kd.R_base ho0) hb)
         have n1_:=Aside0.mk (Kd.R_elder' (by (with_reducible repeat (first|apply Kd.R_alloc));exact HO_273003.out) (Kd.R_base ho0) hb)
         have n2_:=Aside0.mk (Kd.R_elder' (by (with_reducible repeat (first|apply Kd.R_alloc));exact HO286.out) (Kd.R_base ho0) hb)
         have n3_:=Aside0.mk (Kd.R_lower (Kd.R_new' (Kd.R_new' (Kd.R_new' ho0 (Kd.R_lt (by (with_reducible repeat (first|apply Kd.R_alloc));exact HO_266002.out))) (Kd.R_lt (by (with_reducible repeat (first|apply Kd.R_alloc));exact HO_273003.out))) (Kd.R_lt (by (with_reducible repeat (first|apply Kd.R_alloc));exact HO286.out))) (below_size (by repeat (first|(with_reducible first|exact HB.out|apply below_alloc|refine below_set ?_ GE265.out|refine below_set ?_ GE272.out)|exact HB.out))))
         have n4_:=Aside0.mk (blk_below (g:=gb265) (o:=.cells #[.int .i64 t260,.int .i64 t261,.slice Ao11 t262.length co11] 27 (0,0)) (by (with_reducible repeat refine blk_alloc ?_ _);exact BK265.out) hb)
         have n5_:=Aside0.mk (blk_below (g:=gb272) (o:=.cells #[.int .i64 t266,.int .i64 t267,.int .i64 t268,.slice Ao16 t269.length co16] 32 (0,0)) (by (with_reducible repeat refine blk_alloc ?_ _);exact BK272.out) hb)
         have n6_:=Aside0.mk (below_step (by repeat (first|(with_reducible first|exact HB.out|apply below_alloc|refine below_set ?_ GE265.out|refine below_set ?_ GE272.out)|exact HB.out)) hb)
         clear HO_266002 HO_273003 HO286 BK265 BK272 HB
         have HO_266002:=n0_
         have HO_273003:=n1_
         have HO286:=n2_
         have HO291:=n3_
         have BK265:=n4_
         have BK272:=n5_
         have HB:=n6_
         clear n0_ n1_ n2_ n3_ n4_ n5_ n6_
         (try clear hb);(try clear hb2);(try clear hk);(try clear hi);(try clear ho0)
         obtain ⟨Ao51,co51,eo51⟩:=Kd.R_slice HO286.out
         (first|subst eo51|(injection eo51 with f1_ f2_ f3_;have f4_:=f1_.symm;have f5_:=f3_.symm;clear f1_ f2_ f3_;subst f4_;subst f5_))
         obtain ⟨Ao52,co52,eo52⟩:=Kd.R_slice HO291.out
         (first|subst eo52|(injection eo52 with f1_ f2_ f3_;have f4_:=f1_.symm;have f5_:=f3_.symm;clear f1_ f2_ f3_;subst f4_;subst f5_))
         refine hK.out _ _ ⟨(blk_cell BK272.out 0).trans rfl,(blk_cell BK272.out 1).trans rfl,(blk_cell BK272.out 2).trans rfl,(blk_cell BK272.out 3).trans rfl,(blk_cell BK265.out 0).trans rfl,(blk_cell BK265.out 1).trans rfl,(blk_cell BK265.out 2).trans rfl⟩ (fun hHeld=>?_)
         clear hK K
         refine norm_ (a':=?_) ?_ ?_
         rotate_left
         ·show Act.put _ (some 50) _ = _
          simp only [Act.put,List.setIfInBounds_toArray,List.set_cons_zero,List.set_cons_succ,i64_w,i32_w]
          rfl
         refine one_ (i:=12) (N:=some 51) #[true,true,true,true,true,true,true,true,true,true,true,true,true,false,false,false,false,false,false,false,false,false,false,false,false,false] rfl rfl (one_of HT_.out (by kernel_rfl)) (by decide) (fun K hK=>?_)
         refine goes_ Try.func25 (by kernel_rfl) rfl #[.agg #[.int .i64 t282,.int .i64 t283,.slice Ao51 t284.length co51],.agg #[.int .i64 t287,.int .i64 t288,.slice Ao52 t289.length co52]] (by rfl) rfl rfl (by (try simp only [List.map_toArray,List.map_cons,List.map_nil]);first|done|rfl) ?_
         with_reducible refine (laws_lwMatrix.calls kj6 t282 t283 _ _ t284 t287 t288 _ _ t289 true _ ?side1 ?side2 ?side3 ?side4 A41.out).mono ?_
         (case side1=>repeat (first|exact (Kd.R_reads' HO286.out).2.2|(with_reducible refine Kd.C_alloc ?_ _)|(with_reducible refine Kd.C_drewN ?_ _)|(with_reducible refine Kd.C_drew ?_)))
         (case side2=>exact (Kd.R_reads' HO286.out).2.1)
         (case side3=>repeat (first|exact (Kd.R_reads' HO291.out).2.2|(with_reducible refine Kd.C_alloc ?_ _)|(with_reducible refine Kd.C_drewN ?_ _)|(with_reducible refine Kd.C_drew ?_)))
         (case side4=>exact (Kd.R_reads' HO291.out).2.1)
         rintro e w53 ⟨rfl,hb⟩
         refine ⟨_,rfl,?_⟩
         have n0_:=Aside0.mk (Kd.R_below (by (with_reducible repeat (first|apply Kd.R_alloc));exact HO_266002.out) hb)
         have n1_:=Aside0.mk (Kd.R_below (by (with_reducible repeat (first|apply Kd.R_alloc));exact HO_273003.out) hb)
         have n2_:=Aside0.mk (Kd.R_below (by (with_reducible repeat (first|apply Kd.R_alloc));exact HO286.out) hb)
         have n3_:=Aside0.mk (Kd.R_below (by (with_reducible repeat (first|apply Kd.R_alloc));exact HO291.out) hb)
         have n4_:=Aside0.mk (blk_below (g:=gb265) (o:=.cells #[.int .i64 t260,.int .i64 t261,.slice Ao11 t262.length co11] 27 (0,0)) (by (with_reducible repeat refine blk_alloc ?_ _);exact BK265.out) hb)
         have n5_:=Aside0.mk (blk_below (g:=gb272) (o:=.cells #[.int .i64 t266,.int .i64 t267,.int .i64 t268,.slice Ao16 t269.length co16] 32 (0,0)) (by (with_reducible repeat refine blk_alloc ?_ _);exact BK272.out) hb)
         have n6_:=Aside0.mk (below_step (by repeat (first|(with_reducible first|exact HB.out|apply below_alloc|refine below_set ?_ GE265.out|refine below_set ?_ GE272.out)|exact HB.out)) hb)
         clear HO_266002 HO_273003 HO286 HO291 BK265 BK272 HB
         have HO_266002:=n0_
         have HO_273003:=n1_
         have HO286:=n2_
         have HO291:=n3_
         have BK265:=n4_
         have BK272:=n5_
         have HB:=n6_
         clear n0_ n1_ n2_ n3_ n4_ n5_ n6_
         (try clear hb);(try clear hb2);(try clear hk);(try clear hi)
         refine hK.out _ _ ⟨(blk_cell BK272.out 0).trans rfl,(blk_cell BK272.out 1).trans rfl,(blk_cell BK272.out 2).trans rfl,(blk_cell BK272.out 3).trans rfl,(blk_cell BK265.out 0).trans rfl,(blk_cell BK265.out 1).trans rfl,(blk_cell BK265.out 2).trans rfl⟩ (fun hHeld=>?_)
         clear hK K
         refine norm_ (a':=?_) ?_ ?_
         rotate_left
         ·show Act.put _ (some 51) _ = _
          simp only [Act.put,List.setIfInBounds_toArray,List.set_cons_zero,List.set_cons_succ,i64_w,i32_w]
          rfl
         refine pure_ (i:=13) (N:=some 52) (v:=?_) (a':=?_) #[true,true,true,true,true,true,true,true,true,true,true,true,true,true,false,false,false,false,false,false,false,false,false,false,false,false] rfl rfl (any_of HT_.out (by kernel_rfl)) (fun _ _ _ h=>h) (Or.inl ⟨by rfl,?_⟩) ?_ ?_
         rotate_left
         ·intro w'
          go_simp
          with_reducible rfl
         rotate_left
         ·simp only [Act.put,List.setIfInBounds_toArray,List.set_cons_zero,List.set_cons_succ,i64_w,i32_w]
          rfl
         refine pure_ (i:=14) (N:=some 53) (v:=?_) (a':=?_) #[true,true,true,true,true,true,true,true,true,true,true,true,true,true,true,false,false,false,false,false,false,false,false,false,false,false] rfl rfl (any_of HT_.out (by kernel_rfl)) (fun _ _ _ h=>h) (Or.inl ⟨by rfl,?_⟩) ?_ ?_
         rotate_left
         ·intro w'
          go_simp
          with_reducible rfl
         rotate_left
         ·simp only [Act.put,List.setIfInBounds_toArray,List.set_cons_zero,List.set_cons_succ,i64_w,i32_w]
          rfl
         refine pure_ (i:=15) (N:=some 54) (v:=?_) (a':=?_) #[true,true,true,true,true,true,true,true,true,true,true,true,true,true,true,true,false,false,false,false,false,false,false,false,false,false] rfl rfl (any_of HT_.out (by kernel_rfl)) (fun _ _ _ h=>h) (Or.inl ⟨by rfl,?_⟩) ?_ ?_
         rotate_left
         ·intro w'
          go_simp
          with_reducible rfl
         rotate_left
         ·simp only [Act.put,List.setIfInBounds_toArray,List.set_cons_zero,List.set_cons_succ,i64_w,i32_w]
          rfl
         refine pure_ (i:=20) (N:=some 59) (v:=?_) (a':=?_) #[true,true,true,true,true,true,true,true,true,true,true,true,true,true,true,true,false,false,false,false,true,false,false,false,false,false] rfl rfl (any_of HT_.out (by kernel_rfl)) (fun _ _ _ h=>h) (Or.inl ⟨by rfl,?_⟩) ?_ ?_
         rotate_left
         ·intro w'
          go_simp
          with_reducible rfl
         rotate_left
         ·simp only [Act.put,List.setIfInBounds_toArray,List.set_cons_zero,List.set_cons_succ,i64_w,i32_w]
          rfl
         refine take_ (i:=16) (N:=some 55) (v:=?_) (a':=?_) #[true,true,true,true,true,true,true,true,true,true,true,true,true,true,true,true,true,false,false,false,true,false,false,false,false,false] rfl rfl (take_ofW HT_.out HW_.out (by kernel_rfl)) (fun _ _ _ h=>h) (Or.inl ⟨by rfl,?_⟩) hHeld ?_ ?_
         rotate_left
         ·rintro w' ⟨s0,s1,s2,s3,s4,s5,s6⟩
          go_simp
          with_reducible rfl
         rotate_left
         ·simp only [Act.put,List.setIfInBounds_toArray,List.set_cons_zero,List.set_cons_succ,i64_w,i32_w]
          rfl
         refine take_ (i:=17) (N:=some 56) (v:=?_) (a':=?_) #[true,true,true,true,true,true,true,true,true,true,true,true,true,true,true,true,true,true,false,false,true,false,false,false,false,false] rfl rfl (take_ofW HT_.out HW_.out (by kernel_rfl)) (fun _ _ _ h=>h) (Or.inl ⟨by rfl,?_⟩) hHeld ?_ ?_
         rotate_left
         ·rintro w' ⟨s0,s1,s2,s3,s4,s5,s6⟩
          go_simp
          with_reducible rfl
         rotate_left
         ·simp only [Act.put,List.setIfInBounds_toArray,List.set_cons_zero,List.set_cons_succ,i64_w,i32_w]
          rfl
         refine take_ (i:=21) (N:=some 60) (v:=?_) (a':=?_) #[true,true,true,true,true,true,true,true,true,true,true,true,true,true,true,true,true,true,false,false,true,true,false,false,false,false] rfl rfl (take_ofW HT_.out HW_.out (by kernel_rfl)) (fun _ _ _ h=>h) (Or.inl ⟨by rfl,?_⟩) hHeld ?_ ?_
         rotate_left
         ·rintro w' ⟨s0,s1,s2,s3,s4,s5,s6⟩
          go_simp
          with_reducible rfl
         rotate_left
         ·simp only [Act.put,List.setIfInBounds_toArray,List.set_cons_zero,List.set_cons_succ,i64_w,i32_w]
          rfl
         refine one_ (i:=18) (N:=some 57) #[true,true,true,true,true,true,true,true,true,true,true,true,true,true,true,true,true,true,true,false,true,true,false,false,false,false] rfl rfl (one_of HT_.out (by kernel_rfl)) (by decide) (fun K hK=>?_)
         refine goes_ Try.func26 (by kernel_rfl) rfl #[.agg #[.int .i64 t267,.int .i64 t268,.slice Ao16 t269.length co16],.agg #[.int .i64 t260,.int .i64 t261,.slice Ao11 t262.length co11]] (by rfl) rfl rfl (by (try simp only [List.map_toArray,List.map_cons,List.map_nil]);first|done|rfl) ?_
         with_reducible refine (impl_MatMul.calls kj6 t267 t268 _ _ t269 t260 t261 _ _ t262 t293 t294 t295 t296 _ ?side1 ?side2 ?side3 ?side4 A43.out).mono ?_
         (case side1=>repeat (first|exact (Kd.R_reads' HO_273003.out).2.2|(with_reducible refine Kd.C_alloc ?_ _)|(with_reducible refine Kd.C_drewN ?_ _)|(with_reducible refine Kd.C_drew ?_)))
         (case side2=>exact (Kd.R_reads' HO_273003.out).2.1)
         (case side3=>repeat (first|exact (Kd.R_reads' HO_266002.out).2.2|(with_reducible refine Kd.C_alloc ?_ _)|(with_reducible refine Kd.C_drewN ?_ _)|(with_reducible refine Kd.C_drew ?_)))
         (case side4=>exact (Kd.R_reads' HO_266002.out).2.1)
         rintro e w54 ⟨v297,rfl,ho0,hb⟩
         refine ⟨_,rfl,?_⟩
         have n0_:=Aside0.mk (Kd.R_elder' (by (with_reducible repeat (first|apply Kd.R_alloc));exact HO_266002.out) (Kd.R_base ho0) hb)
         have n1_:=Aside0.mk (Kd.R_elder' (by (with_reducible repeat (first|apply Kd.R_alloc));exact HO_273003.out) (Kd.R_base ho0) hb)
         have n2_:=Aside0.mk (Kd.R_elder' (by (with_reducible repeat (first|apply Kd.R_alloc));exact HO286.out) (Kd.R_base ho0) hb)
         have n3_:=Aside0.mk (Kd.R_elder' (by (with_reducible repeat (first|apply Kd.R_alloc));exact HO291.out) (Kd.R_base ho0) hb)
         have n4_:=Aside0.mk (Kd.R_lower (Kd.R_new' (Kd.R_new' (Kd.R_new' (Kd.R_new' ho0 (Kd.R_lt (by (with_reducible repeat (first|apply Kd.R_alloc));exact HO_266002.out))) (Kd.R_lt (by (with_reducible repeat (first|apply Kd.R_alloc));exact HO_273003.out))) (Kd.R_lt (by (with_reducible repeat (first|apply Kd.R_alloc));exact HO286.out))) (Kd.R_lt (by (with_reducible repeat (first|apply Kd.R_alloc));exact HO291.out))) (below_size (by repeat (first|(with_reducible first|exact HB.out|apply below_alloc|refine below_set ?_ GE265.out|refine below_set ?_ GE272.out)|exact HB.out))))
         have n5_:=Aside0.mk (blk_below (g:=gb265) (o:=.cells #[.int .i64 t260,.int .i64 t261,.slice Ao11 t262.length co11] 27 (0,0)) (by (with_reducible repeat refine blk_alloc ?_ _);exact BK265.out) hb)
         have n6_:=Aside0.mk (blk_below (g:=gb272) (o:=.cells #[.int .i64 t266,.int .i64 t267,.int .i64 t268,.slice Ao16 t269.length co16] 32 (0,0)) (by (with_reducible repeat refine blk_alloc ?_ _);exact BK272.out) hb)
         have n7_:=Aside0.mk (below_step (by repeat (first|(with_reducible first|exact HB.out|apply below_alloc|refine below_set ?_ GE265.out|refine below_set ?_ GE272.out)|exact HB.out)) hb)
         clear HO_266002 HO_273003 HO286 HO291 BK265 BK272 HB
         have HO_266002:=n0_
         have HO_273003:=n1_
         have HO286:=n2_
         have HO291:=n3_
         have HO298:=n4_
         have BK265:=n5_
         have BK272:=n6_
         have HB:=n7_
         clear n0_ n1_ n2_ n3_ n4_ n5_ n6_ n7_
         (try clear hb);(try clear hb2);(try clear hk);(try clear hi);(try clear ho0)
         refine hK.out _ _ ⟨(blk_cell BK272.out 0).trans rfl,(blk_cell BK272.out 1).trans rfl,(blk_cell BK272.out 2).trans rfl,(blk_cell BK272.out 3).trans rfl,(blk_cell BK265.out 0).trans rfl,(blk_cell BK265.out 1).trans rfl,(blk_cell BK265.out 2).trans rfl⟩ (fun hHeld=>?_)
         clear hK K
         refine norm_ (a':=?_) ?_ ?_
         rotate_left
         ·show Act.put _ (some 57) _ = _
          simp only [Act.put,List.setIfInBounds_toArray,List.set_cons_zero,List.set_cons_succ,i64_w,i32_w]
          rfl
         refine pure_ (i:=19) (N:=some 58) (v:=?_) (a':=?_) #[true,true,true,true,true,true,true,true,true,true,true,true,true,true,true,true,true,true,true,true,true,true,false,false,false,false] rfl rfl (any_of HT_.out (by kernel_rfl)) (fun _ _ _ h=>h) (Or.inl ⟨by rfl,?_⟩) ?_ ?_
         rotate_left
         ·intro w'
          go_simp
          with_reducible rfl
         rotate_left
         ·simp only [Act.put,List.setIfInBounds_toArray,List.set_cons_zero,List.set_cons_succ,i64_w,i32_w]
          rfl
         refine one_ (i:=22) (N:=some 61) #[true,true,true,true,true,true,true,true,true,true,true,true,true,true,true,true,true,true,true,true,true,true,true,false,false,false] rfl rfl (one_of HT_.out (by kernel_rfl)) (by decide) (fun K hK=>?_)
         refine goes_ Try.func27 (by kernel_rfl) rfl #[.int .i64 t260] (by rfl) rfl rfl (by (try simp only [List.map_toArray,List.map_cons,List.map_nil]);first|done|rfl) ?_
         with_reducible refine (laws_lwUnit.calls kj6 t260 t299 t300 t301 _ A44.out).mono ?_
         rintro e w55 ⟨v302,rfl,ho0,hb⟩
         refine ⟨_,rfl,?_⟩
         have n0_:=Aside0.mk (Kd.R_elder' (by (with_reducible repeat (first|apply Kd.R_alloc));exact HO_266002.out) (Kd.R_base ho0) hb)
         have n1_:=Aside0.mk (Kd.R_elder' (by (with_reducible repeat (first|apply Kd.R_alloc));exact HO_273003.out) (Kd.R_base ho0) hb)
         have n2_:=Aside0.mk (Kd.R_elder' (by (with_reducible repeat (first|apply Kd.R_alloc));exact HO286.out) (Kd.R_base ho0) hb)
         have n3_:=Aside0.mk (Kd.R_elder' (by (with_reducible repeat (first|apply Kd.R_alloc));exact HO291.out) (Kd.R_base ho0) hb)
         have n4_:=Aside0.mk (Kd.R_elder' (by (with_reducible repeat (first|apply Kd.R_alloc));exact HO298.out) (Kd.R_base ho0) hb)
         have n5_:=Aside0.mk (Kd.R_lower (Kd.R_new' (Kd.R_new' (Kd.R_new' (Kd.R_new' (Kd.R_new' ho0 (Kd.R_lt (by (with_reducible repeat (first|apply Kd.R_alloc));exact HO_266002.out))) (Kd.R_lt (by (with_reducible repeat (first|apply Kd.R_alloc));exact HO_273003.out))) (Kd.R_lt (by (with_reducible repeat (first|apply Kd.R_alloc));exact HO286.out))) (Kd.R_lt (by (with_reducible repeat (first|apply Kd.R_alloc));exact HO291.out))) (Kd.R_lt (by (with_reducible repeat (first|apply Kd.R_alloc));exact HO298.out))) (below_size (by repeat (first|(with_reducible first|exact HB.out|apply below_alloc|refine below_set ?_ GE265.out|refine below_set ?_ GE272.out)|exact HB.out))))
         have n6_:=Aside0.mk (blk_below (g:=gb265) (o:=.cells #[.int .i64 t260,.int .i64 t261,.slice Ao11 t262.length co11] 27 (0,0)) (by (with_reducible repeat refine blk_alloc ?_ _);exact BK265.out) hb)
         have n7_:=Aside0.mk (blk_below (g:=gb272) (o:=.cells #[.int .i64 t266,.int .i64 t267,.int .i64 t268,.slice Ao16 t269.length co16] 32 (0,0)) (by (with_reducible repeat refine blk_alloc ?_ _);exact BK272.out) hb)
         have n8_:=Aside0.mk (below_step (by repeat (first|(with_reducible first|exact HB.out|apply below_alloc|refine below_set ?_ GE265.out|refine below_set ?_ GE272.out)|exact HB.out)) hb)
         clear HO_266002 HO_273003 HO286 HO291 HO298 BK265 BK272 HB
         have HO_266002:=n0_
         have HO_273003:=n1_
         have HO286:=n2_
         have HO291:=n3_
         have HO298:=n4_
         have HO303:=n5_
         have BK265:=n6_
         have BK272:=n7_
         have HB:=n8_
         clear n0_ n1_ n2_ n3_ n4_ n5_ n6_ n7_ n8_
         (try clear hb);(try clear hb2);(try clear hk);(try clear hi);(try clear ho0)
         obtain ⟨Ao56,co56,eo56⟩:=Kd.R_slice HO298.out
         (first|subst eo56|(injection eo56 with f1_ f2_ f3_;have f4_:=f1_.symm;have f5_:=f3_.symm;clear f1_ f2_ f3_;subst f4_;subst f5_))
         obtain ⟨Ao57,co57,eo57⟩:=Kd.R_slice HO303.out
         (first|subst eo57|(injection eo57 with f1_ f2_ f3_;have f4_:=f1_.symm;have f5_:=f3_.symm;clear f1_ f2_ f3_;subst f4_;subst f5_))
         refine hK.out _ _ ⟨(blk_cell BK272.out 0).trans rfl,(blk_cell BK272.out 1).trans rfl,(blk_cell BK272.out 2).trans rfl,(blk_cell BK272.out 3).trans rfl,(blk_cell BK265.out 0).trans rfl,(blk_cell BK265.out 1).trans rfl,(blk_cell BK265.out 2).trans rfl⟩ (fun hHeld=>?_)
         clear hK K
         refine norm_ (a':=?_) ?_ ?_
         rotate_left
         ·show Act.put _ (some 61) _ = _
          simp only [Act.put,List.setIfInBounds_toArray,List.set_cons_zero,List.set_cons_succ,i64_w,i32_w]
          rfl
         refine one_ (i:=23) (N:=some 62) #[true,true,true,true,true,true,true,true,true,true,true,true,true,true,true,true,true,true,true,true,true,true,true,true,false,false] rfl rfl (one_of HT_.out (by kernel_rfl)) (by decide) (fun K hK=>?_)
         refine goes_ Try.func25 (by kernel_rfl) rfl #[.agg #[.int .i64 t294,.int .i64 t295,.slice Ao56 t296.length co56],.agg #[.int .i64 t299,.int .i64 t300,.slice Ao57 t301.length co57]] (by rfl) rfl rfl (by (try simp only [List.map_toArray,List.map_cons,List.map_nil]);first|done|rfl) ?_
         with_reducible refine (laws_lwMatrix.calls kj6 t294 t295 _ _ t296 t299 t300 _ _ t301 t304 _ ?side1 ?side2 ?side3 ?side4 A45.out).mono ?_
         (case side1=>repeat (first|exact (Kd.R_reads' HO298.out).2.2|(with_reducible refine Kd.C_alloc ?_ _)|(with_reducible refine Kd.C_drewN ?_ _)|(with_reducible refine Kd.C_drew ?_)))
         (case side2=>exact (Kd.R_reads' HO298.out).2.1)
         (case side3=>repeat (first|exact (Kd.R_reads' HO303.out).2.2|(with_reducible refine Kd.C_alloc ?_ _)|(with_reducible refine Kd.C_drewN ?_ _)|(with_reducible refine Kd.C_drew ?_)))
         (case side4=>exact (Kd.R_reads' HO303.out).2.1)
         rintro e w58 ⟨rfl,hb⟩
         refine ⟨_,rfl,?_⟩
         have n0_:=Aside0.mk (Kd.R_below (by (with_reducible repeat (first|apply Kd.R_alloc));exact HO_266002.out) hb)
         have n1_:=Aside0.mk (Kd.R_below (by (with_reducible repeat (first|apply Kd.R_alloc));exact HO_273003.out) hb)
         have n2_:=Aside0.mk (Kd.R_below (by (with_reducible repeat (first|apply Kd.R_alloc));exact HO286.out) hb)
         have n3_:=Aside0.mk (Kd.R_below (by (with_reducible repeat (first|apply Kd.R_alloc));exact HO291.out) hb)
         have n4_:=Aside0.mk (Kd.R_below (by (with_reducible repeat (first|apply Kd.R_alloc));exact HO298.out) hb)
         have n5_:=Aside0.mk (Kd.R_below (by (with_reducible repeat (first|apply Kd.R_alloc));exact HO303.out) hb)
         have n6_:=Aside0.mk (blk_below (g:=gb265) (o:=.cells #[.int .i64 t260,.int .i64 t261,.slice Ao11 t262.length co11] 27 (0,0)) (by (with_reducible repeat refine blk_alloc ?_ _);exact BK265.out) hb)
         have n7_:=Aside0.mk (blk_below (g:=gb272) (o:=.cells #[.int .i64 t266,.int .i64 t267,.int .i64 t268,.slice Ao16 t269.length co16] 32 (0,0)) (by (with_reducible repeat refine blk_alloc ?_ _);exact BK272.out) hb)
         have n8_:=Aside0.mk (below_step (by repeat (first|(with_reducible first|exact HB.out|apply below_alloc|refine below_set ?_ GE265.out|refine below_set ?_ GE272.out)|exact HB.out)) hb)
         clear HO_266002 HO_273003 HO286 HO291 HO298 HO303 BK265 BK272 HB
         have HO_266002:=n0_
         have HO_273003:=n1_
         have HO286:=n2_
         have HO291:=n3_
         have HO298:=n4_
         have HO303:=n5_
         have BK265:=n6_
         have BK272:=n7_
         have HB:=n8_
         clear n0_ n1_ n2_ n3_ n4_ n5_ n6_ n7_ n8_
         (try clear hb);(try clear hb2);(try clear hk);(try clear hi)
         refine hK.out _ _ ⟨(blk_cell BK272.out 0).trans rfl,(blk_cell BK272.out 1).trans rfl,(blk_cell BK272.out 2).trans rfl,(blk_cell BK272.out 3).trans rfl,(blk_cell BK265.out 0).trans rfl,(blk_cell BK265.out 1).trans rfl,(blk_cell BK265.out 2).trans rfl⟩ (fun hHeld=>?_)
         clear hK K
         refine norm_ (a':=?_) ?_ ?_
         rotate_left
         ·show Act.put _ (some 62) _ = _
          simp only [Act.put,List.setIfInBounds_toArray,List.set_cons_zero,List.set_cons_succ,i64_w,i32_w]
          rfl
         refine pure_ (i:=24) (N:=some 63) (v:=?_) (a':=?_) #[true,true,true,true,true,true,true,true,true,true,true,true,true,true,true,true,true,true,true,true,true,true,true,true,true,false] rfl rfl (any_of HT_.out (by kernel_rfl)) (fun _ _ _ h=>h) (Or.inl ⟨by rfl,?_⟩) ?_ ?_
         rotate_left
         ·intro w'
          go_simp
          with_reducible rfl
         rotate_left
         ·simp only [Act.put,List.setIfInBounds_toArray,List.set_cons_zero,List.set_cons_succ,i64_w,i32_w]
          rfl
         refine pure_ (i:=25) (N:=some 2) (v:=?_) (a':=?_) #[true,true,true,true,true,true,true,true,true,true,true,true,true,true,true,true,true,true,true,true,true,true,true,true,true,true] rfl rfl (any_of HT_.out (by kernel_rfl)) (fun _ _ _ h=>h) (Or.inl ⟨by rfl,?_⟩) ?_ ?_
         rotate_left
         ·intro w'
          go_simp
          with_reducible rfl
         rotate_left
         ·simp only [Act.put,List.setIfInBounds_toArray,List.set_cons_zero,List.set_cons_succ,i64_w,i32_w]
          rfl
         refine done_ (done_of HT_.out (by kernel_rfl)) ?_
         try go_wp2
         go_ret
         exact ⟨by first|rfl|(simp [errW_none,errW_some] <;> rfl)|(simp [*,errW_none,errW_some] <;> rfl),by repeat (first|(with_reducible first|exact HB.out|apply below_alloc|refine below_set ?_ GE265.out|refine below_set ?_ GE272.out)|exact HB.out)⟩
        ·replace c42:=Bool.eq_false_iff.mpr c42
         subst c42
         have H1 : (some false) = some true:=by rw [if_neg (show ¬ (false = true) by decide)] at H;exact H
         clear H
         have H:=H1
         clear H1
         exact absurd (Option.some.inj H) (by decide)
       ·rw [if_neg c38] at H
        have c38b0 : (t266 == 0) = false:=beq_eq_false_iff_ne.mpr c38
        have c38b1 : (t266 != 0) = true:=bne_iff_ne.mpr c38
        exact absurd (Option.some.inj H) (by decide)
  ·rw [if_neg c6] at H
   have c6b0 : (t266 == t273) = false:=beq_eq_false_iff_ne.mpr c6
   have c6b1 : (t266 != t273) = true:=bne_iff_ne.mpr c6
   exact absurd (Option.some.inj H) (by decide)
end Go.Proofs.Ytffhbpepppodeaa.PFnInverse
