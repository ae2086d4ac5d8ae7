import Derived.Test.YtffhbpepppodeaaPFnJoinedx0
import Derived.Test.YtffhbpepppodeaaPFnJoinedx2
import Derived.Test.YtffhbpepppodeaaPFnJoinedx5
namespace Go.Proofs.Ytffhbpepppodeaa.PFnJoined
open Go.RowKit Go.Proofs.YtffhbpepppodeaaW.PrintWords Go.Proofs.YtffhbpepppodeaaW.PrintLast Go.Proofs.YtffhbpepppodeaaW.PrintMore
attribute [local go_sem] max2_int min2_int max_two min_two max_three min_three max_four min_four   -- for this text's walks alone
set_option linter.unusedVariables false
set_option linter.unusedSimpArgs false

/-! ### impl_JoinObject: function 33 -/
mutual
def impl_JoinObject.j0 : Nat → Int → Int → List (S55) → Bool → Int → Int → Int → Option (Int × ByteArray)
 | 0,_,_,_,_,_,_,_=>none
 | k + 1,x1,x2,x3,x27,x235000,x235001,x235002=>if x27 = true then (some (1,(⟨#[]⟩ : ByteArray))) else (impl_JoinObject.l0 k x1 x2 (([] : List Int)) x3 (x3.length : Int) 0 x235000 x235001 x235002)
def impl_JoinObject.l0 : Nat → Int → Int → List Int → List (S55) → Int → Int → Int → Int → Int → Option (Int × ByteArray)
 | 0,_,_,_,_,_,_,_,_,_=>none
 | k + 1,x1,x2,x10,x30,x31,x32,x235000,x235001,x235002=>if x32 < x31 then (if 0 ≤ x32 then (if x32 < (x30.length : Int) then ((impl_DecodeShards.f k x235000 x235001 x235002 ((rd_T55 x30 x32).f0)).bind fun bt246=>(if bt246.1 = 0 then (if 0 < (bt246.2.length : Int) then (if ((rdOf ByteArray.empty bt246.2 0).size : Int) = x1 then (if 0 ≤ x235000 then (if x235000 ≤ (bt246.2.length : Int) then ((some (bt246.2.take (x235000 : Int).toNat : List ByteArray)).bind fun y252=>(impl_JoinObject.l1 k x1 x2 x10 x30 x31 x32 y252 (y252.length : Int) 0 x235000 x235001 x235002)) else (none)) else (none)) else (some (2,(⟨#[]⟩ : ByteArray)))) else (none)) else (some (bt246.1,(⟨#[]⟩ : ByteArray))))) else (none)) else (none)) else (if 0 ≤ x2 then (if x2 ≤ (x10.length : Int) then (some (0,strOfNums (x10.take (x2 : Int).toNat))) else (none)) else (none))
def impl_JoinObject.l1 : Nat → Int → Int → List Int → List (S55) → Int → Int → List ByteArray → Int → Int → Int → Int → Int → Option (Int × ByteArray)
 | 0,_,_,_,_,_,_,_,_,_,_,_,_=>none
 | k + 1,x1,x2,x10,x30,x31,x32,x58,x59,x60,x235000,x235001,x235002=>if x60 < x59 then (if 0 ≤ x60 then (if x60 < (x58.length : Int) then (if x10.length + (rdOf ByteArray.empty x58 x60).size < 140737488355328 then (impl_JoinObject.l1 k x1 x2 (x10 ++ bytesOf (rdOf ByteArray.empty x58 x60)) x30 x31 x32 x58 x59 (wrap64 (x60 + 1)) x235000 x235001 x235002) else (none)) else (none)) else (none)) else (impl_JoinObject.l0 k x1 x2 x10 x30 x31 (wrap64 (x32 + 1)) x235000 x235001 x235002)
end
def impl_JoinObject.f (k : Nat) (a0_0 : Int) (a0_1 : Int) (a0_2 : Int) (a1 : Int) (a2 : Int) (l3 : List (S55)) : Option (Int × ByteArray):=(impl_StripeCount.f k a0_0 a0_1 a0_2 a1 a2).bind fun t236=>(if t236 < 0 then (impl_JoinObject.j0 k a1 a2 l3 true a0_0 a0_1 a0_2) else (impl_JoinObject.j0 k a1 a2 l3 ((l3.length : Int) != t236) a0_0 a0_1 a0_2))
theorem impl_JoinObject.mono_l : ∀ k,(∀ y0 y1 y2 y3 y4 y5 y6,LeO (impl_JoinObject.j0 k y0 y1 y2 y3 y4 y5 y6) (impl_JoinObject.j0 (k + 1) y0 y1 y2 y3 y4 y5 y6)) ∧ (∀ y0 y1 y2 y3 y4 y5 y6 y7 y8,LeO (impl_JoinObject.l0 k y0 y1 y2 y3 y4 y5 y6 y7 y8) (impl_JoinObject.l0 (k + 1) y0 y1 y2 y3 y4 y5 y6 y7 y8)) ∧ (∀ y0 y1 y2 y3 y4 y5 y6 y7 y8 y9 y10 y11,LeO (impl_JoinObject.l1 k y0 y1 y2 y3 y4 y5 y6 y7 y8 y9 y10 y11) (impl_JoinObject.l1 (k + 1) y0 y1 y2 y3 y4 y5 y6 y7 y8 y9 y10 y11))
 | 0=>⟨fun _ _ _ _ _ _ _ r h=>by simp [impl_JoinObject.j0] at h,fun _ _ _ _ _ _ _ _ _ r h=>by simp [impl_JoinObject.l0] at h,fun _ _ _ _ _ _ _ _ _ _ _ _ r h=>by simp [impl_JoinObject.l1] at h⟩
 | k + 1=>by
  obtain ⟨ih0,ih1,ih2⟩:=impl_JoinObject.mono_l k
  refine ⟨?_,?_,?_⟩
  ·intro y0 y1 y2 y3 y4 y5 y6
   unfold impl_JoinObject.j0
   repeat' first
   | (with_reducible exact ih0 _ _ _ _ _ _ _)
   | (with_reducible exact ih1 _ _ _ _ _ _ _ _ _)
   | (with_reducible exact ih2 _ _ _ _ _ _ _ _ _ _ _ _)
   | (with_reducible exact impl_DecodeShards.mono _ _ _ _ _)
   | (with_reducible exact impl_StripeCount.mono _ _ _ _ _ _)
   | (with_reducible exact LeO.refl _)
   | (with_reducible exact LeO.none _)
   | (with_reducible refine LeO.ite ?_ ?_)
   | (with_reducible refine LeO.bind ?_ (fun _=>?_))
   | exact ih0 _ _ _ _ _ _ _
   | exact ih1 _ _ _ _ _ _ _ _ _
   | exact ih2 _ _ _ _ _ _ _ _ _ _ _ _
   | exact impl_DecodeShards.mono _ _ _ _ _
   | exact impl_StripeCount.mono _ _ _ _ _ _
   | exact LeO.none _
   | refine LeO.ite ?_ ?_
   | refine LeO.bind ?_ (fun _=>?_)
  ·intro y0 y1 y2 y3 y4 y5 y6 y7 y8
   unfold impl_JoinObject.l0
   repeat' first
   | (with_reducible exact ih0 _ _ _ _ _ _ _)
   | (with_reducible exact ih1 _ _ _ _ _ _ _ _ _)
   | (with_reducible exact ih2 _ _ _ _ _ _ _ _ _ _ _ _)
   | (with_reducible exact impl_DecodeShards.mono _ _ _ _ _)
   | (with_reducible exact impl_StripeCount.mono _ _ _ _ _ _)
   | (with_reducible exact LeO.refl _)
   | (with_reducible exact LeO.none _)
   | (with_reducible refine LeO.ite ?_ ?_)
   | (with_reducible refine LeO.bind ?_ (fun _=>?_))
   | exact ih0 _ _ _ _ _ _ _
   | exact ih1 _ _ _ _ _ _ _ _ _
   | exact ih2 _ _ _ _ _ _ _ _ _ _ _ _
   | exact impl_DecodeShards.mono _ _ _ _ _
   | exact impl_StripeCount.mono _ _ _ _ _ _
   | exact LeO.none _
   | refine LeO.ite ?_ ?_
   | refine LeO.bind ?_ (fun _=>?_)
  ·intro y0 y1 y2 y3 y4 y5 y6 y7 y8 y9 y10 y11
   unfold impl_JoinObject.l1
   repeat' first
   | (with_reducible exact ih0 _ _ _ _ _ _ _)
   | (with_reducible exact ih1 _ _ _ _ _ _ _ _ _)
   | (with_reducible exact ih2 _ _ _ _ _ _ _ _ _ _ _ _)
   | (with_reducible exact impl_DecodeShards.mono _ _ _ _ _)
   | (with_reducible exact impl_StripeCount.mono _ _ _ _ _ _)
   | (with_reducible exact LeO.refl _)
   | (with_reducible exact LeO.none _)
   | (with_reducible refine LeO.ite ?_ ?_)
   | (with_reducible refine LeO.bind ?_ (fun _=>?_))
   | exact ih0 _ _ _ _ _ _ _
   | exact ih1 _ _ _ _ _ _ _ _ _
   | exact ih2 _ _ _ _ _ _ _ _ _ _ _ _
   | exact impl_DecodeShards.mono _ _ _ _ _
   | exact impl_StripeCount.mono _ _ _ _ _ _
   | exact LeO.none _
   | refine LeO.ite ?_ ?_
   | refine LeO.bind ?_ (fun _=>?_)
theorem impl_JoinObject.mono : ∀ a0 a1 a2 a3 a4 a5 k,LeO (impl_JoinObject.f k a0 a1 a2 a3 a4 a5) (impl_JoinObject.f (k + 1) a0 a1 a2 a3 a4 a5):=by
 intro a0 a1 a2 a3 a4 a5 k
 obtain ⟨ih0,ih1,ih2⟩:=impl_JoinObject.mono_l k
 unfold impl_JoinObject.f
 repeat' first
   | (with_reducible exact ih0 _ _ _ _ _ _ _)
   | (with_reducible exact ih1 _ _ _ _ _ _ _ _ _)
   | (with_reducible exact ih2 _ _ _ _ _ _ _ _ _ _ _ _)
   | (with_reducible exact impl_DecodeShards.mono _ _ _ _ _)
   | (with_reducible exact impl_StripeCount.mono _ _ _ _ _ _)
   | (with_reducible exact LeO.refl _)
   | (with_reducible exact LeO.none _)
   | (with_reducible refine LeO.ite ?_ ?_)
   | (with_reducible refine LeO.bind ?_ (fun _=>?_))
   | exact ih0 _ _ _ _ _ _ _
   | exact ih1 _ _ _ _ _ _ _ _ _
   | exact ih2 _ _ _ _ _ _ _ _ _ _ _ _
   | exact impl_DecodeShards.mono _ _ _ _ _
   | exact impl_StripeCount.mono _ _ _ _ _ _
   | exact LeO.none _
   | refine LeO.ite ?_ ?_
   | refine LeO.bind ?_ (fun _=>?_)
set_option maxHeartbeats 8000000 in
set_option maxRecDepth 100000 in
theorem impl_JoinObject.calls (k : Nat) (a0_0 : Int) (a0_1 : Int) (a0_2 : Int) (a1 : Int) (a2 : Int) (A3 : Option Addr) (c3 : Nat) (l3 : List (S55)) (r1 : Int) (r2 : ByteArray) (w : World) (hr3 : Kd.C k55 w A3 l3.length l3) (hc3 : l3.length ≤ c3) (h : impl_JoinObject.f k a0_0 a0_1 a0_2 a1 a2 l3 = some (r1,r2)) :
  Calls Try.prog 33 #[.agg #[.int .i64 a0_0,.int .i64 a0_1,.int .i64 a0_2],.int .i64 a1,.int .i64 a2,.slice A3 l3.length c3] w fun e w'=>e = .returned (.agg #[.int .i64 r1,.string r2]) ∧ Below w.heap.size w w':=by
 have hu43:=Try.underlying43
 have hu63:=Try.underlying63
 have hu55:=Try.underlying55
 have hu68:=Try.underlying68
 have HR3:=Aside0.mk hr3
 have HC3:=Aside0.mk hc3
 clear hr3 hc3
 have HB:=Aside0.mk (Below.refl w.heap.size w)
 have H : ((impl_StripeCount.f k a0_0 a0_1 a0_2 a1 a2).bind fun t236=>(if t236 < 0 then (impl_JoinObject.j0 k a1 a2 l3 true a0_0 a0_1 a0_2) else (impl_JoinObject.j0 k a1 a2 l3 ((l3.length : Int) != t236) a0_0 a0_1 a0_2))) = some (r1,r2):=h
 clear h
 replace H:=Option.bind_eq_some_iff.mp H
 obtain ⟨t236,A50,H⟩:=H
 replace H : (if t236 < 0 then (impl_JoinObject.j0 k a1 a2 l3 true a0_0 a0_1 a0_2) else (impl_JoinObject.j0 k a1 a2 l3 ((l3.length : Int) != t236) a0_0 a0_1 a0_2)) = some (r1,r2):=H
 have A5:=Aside0.mk A50
 clear A50
 have HC6:=Aside0.mk H
 clear H
 go_enter Try.func33,Try.ntmps33
 go_upto_region 2 with (first|((with_reducible refine gate_dst (N:=4) rfl ?_);(try (refine gate_guard (by rfl) ?_;dsimp only));refine box_event ?hg (N:=4) ?hd (cs:=#[.int .i64 a0_0,.int .i64 a0_1,.int .i64 a0_2]) (t:=43) ?hr ?_;(case hd=>rfl);(case hg=>rfl);(case hr=>first|(go_simp;done)|(go_simp;rfl));intro gb234 hg w7 hbox hb;have n0_:=Aside0.mk (below_step (by repeat (first|(with_reducible first|exact HB.out|apply below_alloc|apply pw_below_drewN|apply below_drew1)|exact HB.out)) hb);have n1_:=Aside0.mk (hbox);have n2_:=Aside0.mk ((by rw [hg];exact (below_size (by repeat (first|(with_reducible first|exact HB.out|apply below_alloc|apply pw_below_drewN|apply below_drew1)|exact HB.out))) : w.heap.size ≤ gb234));have n3_:=Aside0.mk ((by rw [hg];exact (below_size (by repeat (first|(with_reducible first|exact HB.out|apply below_alloc|apply pw_below_drewN|apply below_drew1)|exact HB.out))) : w.heap.size ≤ gb234));clear HB;have HB:=n0_;have BK234:=n1_;have GW234:=n2_;have GE234:=n3_;clear n0_ n1_ n2_ n3_ hb hbox hg)|((with_reducible refine gate_dst (N:=8) rfl ?_);(try (refine gate_guard (by rfl) ?_;dsimp only));refine box_event ?hg (N:=8) ?hd (cs:=#[.int .i64 0,.string (⟨#[]⟩ : ByteArray)]) (t:=63) ?hr ?_;(case hd=>rfl);(case hg=>rfl);(case hr=>first|(go_simp;done)|(go_simp;rfl));intro gb235 hg w8 hbox hb;have n0_:=Aside0.mk (blk_below (g:=gb234) (o:=.cells #[.int .i64 a0_0,.int .i64 a0_1,.int .i64 a0_2] 43 (0,0)) (by (with_reducible repeat first|refine blk_drewN ?_ _|refine blk_alloc ?_ _);exact BK234.out) hb);have n1_:=Aside0.mk (below_step (by repeat (first|(with_reducible first|exact HB.out|apply below_alloc|apply pw_below_drewN|apply below_drew1|refine below_set ?_ GE234.out)|exact HB.out)) hb);have n2_:=Aside0.mk (hbox);have n3_:=Aside0.mk ((by rw [hg];exact (below_size (by repeat (first|(with_reducible first|exact HB.out|apply below_alloc|apply pw_below_drewN|apply below_drew1|refine below_set ?_ GE234.out)|exact HB.out))) : w.heap.size ≤ gb235));have n4_:=Aside0.mk ((by rw [hg];exact (below_size (by repeat (first|(with_reducible first|exact HB.out|apply below_alloc|apply pw_below_drewN|apply below_drew1|refine below_set ?_ GE234.out)|exact HB.out))) : w.heap.size ≤ gb235));have n5_:=Aside0.mk ((by rw [hg];exact Nat.ne_of_lt (blk_lt (g:=gb234) (o:=.cells #[.int .i64 a0_0,.int .i64 a0_1,.int .i64 a0_2] 43 (0,0)) (by (with_reducible repeat first|refine blk_drewN ?_ _|refine blk_alloc ?_ _);exact BK234.out)) : gb234 ≠ gb235));have n6_:=Aside0.mk ((by rw [hg];exact Nat.ne_of_gt (blk_lt (g:=gb234) (o:=.cells #[.int .i64 a0_0,.int .i64 a0_1,.int .i64 a0_2] 43 (0,0)) (by (with_reducible repeat first|refine blk_drewN ?_ _|refine blk_alloc ?_ _);exact BK234.out)) : gb235 ≠ gb234));clear BK234 HB;have BK234:=n0_;have HB:=n1_;have BK235:=n2_;have GW235:=n3_;have GE235:=n4_;have NB234_235:=n5_;have NB235_234:=n6_;clear n0_ n1_ n2_ n3_ n4_ n5_ n6_ hb hbox hg;have hnb9:=NB234_235.out;have hnc9:=NB235_234.out;have hcz10_0 : w8.cell? ⟨gb234,0,none⟩ = some (.int .i64 a0_0):=(blk_cell BK234.out 0).trans rfl;have hcz10_1 : w8.cell? ⟨gb234,1,none⟩ = some (.int .i64 a0_1):=(blk_cell BK234.out 1).trans rfl;have hcz10_2 : w8.cell? ⟨gb234,2,none⟩ = some (.int .i64 a0_2):=(blk_cell BK234.out 2).trans rfl;have hfz10_0:=blk_frozen BK234.out 0;have hfz10_1:=blk_frozen BK234.out 1;have hfz10_2:=blk_frozen BK234.out 2)|((with_reducible refine gate_callee (f:=31) rfl ?_);refine goesL_ (some 19) rfl rfl Try.func31 (by kernel_rfl) rfl #[.agg #[.int .i64 a0_0,.int .i64 a0_1,.int .i64 a0_2],.int .i64 a1,.int .i64 a2] rfl (by (try simp only [List.map_toArray,List.map_cons,List.map_nil]);first|done|rfl) ?_;(with_reducible refine (impl_StripeCount.calls k a0_0 a0_1 a0_2 a1 a2 t236 _ A5.out).mono ?_);rintro e w11 ⟨rfl,hb⟩;refine ⟨_,rfl,?_⟩;have n0_:=Aside0.mk (blk_below (g:=gb234) (o:=.cells #[.int .i64 a0_0,.int .i64 a0_1,.int .i64 a0_2] 43 (0,0)) (by (with_reducible repeat first|refine blk_drewN ?_ _|refine blk_alloc ?_ _);exact BK234.out) hb);have n1_:=Aside0.mk (blk_below (g:=gb235) (o:=.cells #[.int .i64 0,.string (⟨#[]⟩ : ByteArray)] 63 (0,0)) (by (with_reducible repeat first|refine blk_drewN ?_ _|refine blk_alloc ?_ _);exact BK235.out) hb);have n2_:=Aside0.mk (below_step (by repeat (first|(with_reducible first|exact HB.out|apply below_alloc|apply pw_below_drewN|apply below_drew1|refine below_set ?_ GE234.out|refine below_set ?_ GE235.out)|exact HB.out)) hb);clear BK234 BK235 HB;have BK234:=n0_;have BK235:=n1_;have HB:=n2_;clear n0_ n1_ n2_;(try clear hb);(try clear hb2);(try clear hk);(try clear hi)))
 (try simp only [Act.put,List.setIfInBounds_toArray,List.set_cons_zero,List.set_cons_succ])
 go_cut [27] (fun v27 wc=>∃ (kq : Nat) (x27_5 : Bool),v27 = .bool x27_5 ∧ Aside0 (impl_JoinObject.j0 kq a1 a2 l3 x27_5 a0_0 a0_1 a0_2 = some (r1,r2)) ∧ Aside0 (kq ≤ k) ∧ Aside0 (wc.heap[gb234]? = some (.cells #[.int .i64 a0_0,.int .i64 a0_1,.int .i64 a0_2] 43 (0,0))) ∧ Aside0 (wc.heap[gb235]? = some (.cells #[.int .i64 0,.string (⟨#[]⟩ : ByteArray)] 63 (0,0))) ∧ Aside0 (Below w.heap.size w wc))
 case first=>
  have H:=HC6.out
  clear HC6
  by_cases c12 : t236 < 0
  ·rw [if_pos c12] at H
   have c12b0 : decide (t236 < 0) = true:=decide_eq_true c12
   clear c12
   (first|rw [c12b0]|(simp only [i64_w,i32_w];rw [c12b0])|skip)
   have H':=Aside0.mk H
   clear H
   go_wp2
   go_meet
   case rel=>exact ⟨_,(true),(by first|rfl|(simp;done)|(simp [*];done)),H',⟨by first|omega|exact Nat.le_refl _⟩,⟨by (with_reducible repeat first|refine blk_drewN ?_ _|refine blk_alloc ?_ _);exact BK234.out⟩,⟨by (with_reducible repeat first|refine blk_drewN ?_ _|refine blk_alloc ?_ _);exact BK235.out⟩,⟨by repeat (first|(with_reducible first|exact HB.out|apply below_alloc|apply pw_below_drewN|apply below_drew1|refine below_set ?_ GE234.out|refine below_set ?_ GE235.out)|exact HB.out)⟩⟩
  ·rw [if_neg c12] at H
   have c12b0 : decide (t236 < 0) = false:=decide_eq_false c12
   clear c12
   (first|rw [c12b0]|(simp only [i64_w,i32_w];rw [c12b0])|skip)
   have H':=Aside0.mk H
   clear H
   go_wp2
   go_meet
   case rel=>exact ⟨_,(((l3.length : Int) != t236)),(by first|rfl|(simp;done)|(simp [*];done)),H',⟨by first|omega|exact Nat.le_refl _⟩,⟨by (with_reducible repeat first|refine blk_drewN ?_ _|refine blk_alloc ?_ _);exact BK234.out⟩,⟨by (with_reducible repeat first|refine blk_drewN ?_ _|refine blk_alloc ?_ _);exact BK235.out⟩,⟨by repeat (first|(with_reducible first|exact HB.out|apply below_alloc|apply pw_below_drewN|apply below_drew1|refine below_set ?_ GE234.out|refine below_set ?_ GE235.out)|exact HB.out)⟩⟩
 case rest=>
  clear HC6
  (try clear c1);(try clear p2);(try clear c3);(try clear c9);(try clear c12);(try clear c12b0);(try clear hcz10_0);(try clear hcz10_1);(try clear hcz10_2);(try clear hfz10_0);(try clear hfz10_1);(try clear hfz10_2)
  obtain ⟨kq,x27_5,rfl,HA,HJ5,BK234,BK235,HB⟩:=hcut
  cases kq with
  | zero=>exact absurd HA.out (by simp [impl_JoinObject.j0])
  | succ kj5=>
   have H:=HA.out
   clear HA
   simp only [impl_JoinObject.j0] at H
   by_cases c13 : x27_5 = true
   ·subst c13
    have H1 : (some (1,(⟨#[]⟩ : ByteArray))) = some (r1,r2):=by rw [if_pos rfl] at H;exact H
    clear H
    have H:=H1
    clear H1
    simp only [Option.some.injEq,Prod.mk.injEq] at H
    obtain ⟨rfl,rfl⟩:=H
    have hnb14:=NB235_234.out
    have hnc14:=NB234_235.out
    have hcz15_0 : wc.cell? ⟨gb235,0,none⟩ = some (.int .i64 0):=(blk_cell BK235.out 0).trans rfl
    have hcz15_1 : wc.cell? ⟨gb235,1,none⟩ = some (.string (⟨#[]⟩ : ByteArray)):=(blk_cell BK235.out 1).trans rfl
    have hfz15_0:=blk_frozen BK235.out 0
    have hfz15_1:=blk_frozen BK235.out 1
    go_wp2
    refine bodyPost_ret (results_cell_row rfl _ _ gb235 63 #[.int .i64 1,.string (⟨#[]⟩ : ByteArray)] (0,0) _ rfl (by (with_reducible repeat first|refine blk_drewN ?_ _|refine blk_alloc ?_ _);refine blk_put (cs:=#[.int .i64 1,.string (⟨#[]⟩ : ByteArray)]) ?_ 1 _ rfl;(with_reducible repeat first|refine blk_drewN ?_ _|refine blk_alloc ?_ _);refine blk_put (cs:=#[.int .i64 0,.string (⟨#[]⟩ : ByteArray)]) ?_ 0 _ rfl;(with_reducible repeat first|refine blk_drewN ?_ _|refine blk_alloc ?_ _);exact BK235.out) Try.underlying63 rfl (by kernel_rfl)) rfl ?_
    exact ⟨by first|rfl|(simp [errW_none,errW_some] <;> rfl)|(simp [*,errW_none,errW_some] <;> rfl),by repeat (first|(with_reducible first|exact HB.out|apply below_alloc|apply pw_below_drewN|apply below_drew1|refine below_set ?_ GE234.out|refine below_set ?_ GE235.out)|exact HB.out)⟩
   ·replace c13:=Bool.eq_false_iff.mpr c13
    subst c13
    have H1 : (impl_JoinObject.l0 kj5 a1 a2 (([] : List Int)) l3 (l3.length : Int) 0 a0_0 a0_1 a0_2) = some (r1,r2):=by rw [if_neg (show ¬ (false = true) by decide)] at H;exact H
    clear H
    have H:=H1
    clear H1
    obtain ⟨y237,hy237⟩ : ∃ y_ : List Int,y_ = (([] : List Int)):=⟨_,rfl⟩
    replace H : (impl_JoinObject.l0 kj5 a1 a2 y237 l3 (l3.length : Int) 0 a0_0 a0_1 a0_2) = some (r1,r2):=by first|(rw [hy237];with_reducible exact H)|(have H2_:=(Option.bind_some _ _).symm.trans H;rw [hy237];with_reducible exact H2_)|(have H2_:=(Option.bind_some _ _).symm.trans H;with_reducible exact H2_)|with_reducible exact H|(rw [hy237];exact H)|exact H
    have Ny237:=Aside0.mk hy237
    clear hy237
    have H':=Aside0.mk H
    clear H
    go_wp2_with (first|((with_reducible refine gate_dst (N:=29) rfl ?_);(try (refine gate_guard (by rfl) ?_;dsimp only));refine Kd.R_lit (Kd.int .u8) _ 5 ?hg (N:=29) ?hd (xs:=([] : List Int)) (inner:=[]) (ok:=fun _=>True) (okp:=fun _=>True) ?hr ?hp (fun _ hk=>hk) trivial (Below.refl _ _) (Nat.le_refl _) (by simp) ?_;(case hd=>rfl);(case hg=>rfl);(case hr=>first|(go_simp;done)|(go_simp;rfl));(case hp=>exact (Reps.none _ _));intro v238 w16 ho17 hb hg_ hnew_;clear hg_ hnew_;(first|rw [← Ny237.out] at ho17|(simp only [Int.reduceToNat] at ho17;rw [← Ny237.out] at ho17));have n0_:=Aside0.mk (Kd.R_lower ho17 (below_size (by repeat (first|(with_reducible first|exact HB.out|apply below_alloc|apply pw_below_drewN|apply below_drew1|refine below_set ?_ GE234.out|refine below_set ?_ GE235.out)|exact HB.out))));have n1_:=Aside0.mk (blk_below (g:=gb234) (o:=.cells #[.int .i64 a0_0,.int .i64 a0_1,.int .i64 a0_2] 43 (0,0)) (by (with_reducible repeat first|refine blk_drewN ?_ _|refine blk_alloc ?_ _);exact BK234.out) hb);have n2_:=Aside0.mk (blk_below (g:=gb235) (o:=.cells #[.int .i64 0,.string (⟨#[]⟩ : ByteArray)] 63 (0,0)) (by (with_reducible repeat first|refine blk_drewN ?_ _|refine blk_alloc ?_ _);exact BK235.out) hb);have n3_:=Aside0.mk (below_step (by repeat (first|(with_reducible first|exact HB.out|apply below_alloc|apply pw_below_drewN|apply below_drew1|refine below_set ?_ GE234.out|refine below_set ?_ GE235.out)|exact HB.out)) hb);clear BK234 BK235 HB;have HO239:=n0_;have BK234:=n1_;have BK235:=n2_;have HB:=n3_;clear n0_ n1_ n2_ n3_ hb ho17))
    go_loopg [10,32] kj5 (fun kq v10 v32 w'=>∃ (x10_2 : List Int) (x32_2 : Int) (x236000_2 : Int) (x236001_2 : ByteArray),v32 = .int .i64 x32_2 ∧ Aside0 (impl_JoinObject.l0 kq a1 a2 x10_2 l3 (l3.length : Int) x32_2 a0_0 a0_1 a0_2 = some (r1,r2)) ∧ Aside0 (kq ≤ kj5) ∧ Aside0 (Kd.R (Kd.int .u8) 5 w' w.heap.size (fun _=>True) v10 x10_2) ∧ Aside0 (w'.heap[gb234]? = some (.cells #[.int .i64 a0_0,.int .i64 a0_1,.int .i64 a0_2] 43 (0,0))) ∧ Aside0 (w'.heap[gb235]? = some (.cells #[.int .i64 x236000_2,.string x236001_2] 63 (0,0))) ∧ Aside0 (Below w.heap.size w w'))
    case atStart=>exact ⟨(y237),(0),(0),((⟨#[]⟩ : ByteArray)),(by first|rfl|(simp;done)|(simp [*];done)),H',⟨Nat.le_refl _⟩,⟨by (with_reducible repeat (first|apply Kd.R_alloc|apply Kd.R_drewN));exact HO239.out⟩,⟨by (with_reducible repeat first|refine blk_drewN ?_ _|refine blk_alloc ?_ _);exact BK234.out⟩,⟨by (with_reducible repeat first|refine blk_drewN ?_ _|refine blk_alloc ?_ _);exact BK235.out⟩,⟨by repeat (first|(with_reducible first|exact HB.out|apply below_alloc|apply pw_below_drewN|apply below_drew1|refine below_set ?_ GE234.out|refine below_set ?_ GE235.out)|exact HB.out)⟩⟩
    case round=>
     clear H'
     (try clear c1);(try clear p2);(try clear c3);(try clear c9);(try clear c12);(try clear c12b0);(try clear c13);(try clear c14);(try clear hcz10_0);(try clear hcz10_1);(try clear hcz10_2);(try clear hcz15_0);(try clear hcz15_1);(try clear hfz10_0);(try clear hfz10_1);(try clear hfz10_2);(try clear hfz15_0);(try clear hfz15_1);(try clear p2)
     obtain ⟨x10_2,x32_2,x236000_2,x236001_2,rfl,HA,HK2,HO_10,BK234,BK235,HB⟩:=hrel
     cases gk with
     | zero=>exact absurd HA.out (by simp [impl_JoinObject.l0])
     | succ k2=>
      have H:=HA.out
      clear HA
      simp only [impl_JoinObject.l0] at H
      by_cases c18 : x32_2 < (l3.length : Int)
      ·rw [if_pos c18] at H
       have c18b0 : decide (x32_2 < (l3.length : Int)) = true:=decide_eq_true c18
       clear c18
       by_cases c19 : 0 ≤ x32_2
       ·rw [if_pos c19] at H
        have c19b0 : decide (0 ≤ x32_2) = true:=decide_eq_true c19
        clear c19
        by_cases c20 : x32_2 < (l3.length : Int)
        ·rw [if_pos c20] at H
         have c20b0 : decide (x32_2 < (l3.length : Int)) = true:=decide_eq_true c20
         clear c20
         replace H:=Option.bind_eq_some_iff.mp H
         obtain ⟨⟨t246,t247⟩,A210,H⟩:=H
         replace H : (if t246 = 0 then (if 0 < (t247.length : Int) then (if ((rdOf ByteArray.empty t247 0).size : Int) = a1 then (if 0 ≤ a0_0 then (if a0_0 ≤ (t247.length : Int) then ((some (t247.take (a0_0 : Int).toNat : List ByteArray)).bind fun y252=>(impl_JoinObject.l1 k2 a1 a2 x10_2 l3 (l3.length : Int) x32_2 y252 (y252.length : Int) 0 a0_0 a0_1 a0_2)) else (none)) else (none)) else (some (2,(⟨#[]⟩ : ByteArray)))) else (none)) else (some (t246,(⟨#[]⟩ : ByteArray)))) = some (r1,r2):=H
         have A21:=Aside0.mk A210
         clear A210
         by_cases c22 : t246 = 0
         ·rw [if_pos c22] at H
          have c22b0 : (t246 == 0) = true:=beq_iff_eq.mpr c22
          have c22b1 : (t246 != 0) = false:=bne_eq_false_iff_eq.mpr c22
          clear c22
          by_cases c23 : 0 < (t247.length : Int)
          ·rw [if_pos c23] at H
           have c23b0 : decide (0 < (t247.length : Int)) = true:=decide_eq_true c23
           have c23b1 : decide (0 < t247.length) = true:=decide_eq_true (by omega)
           clear c23
           by_cases c24 : ((rdOf ByteArray.empty t247 0).size : Int) = a1
           ·rw [if_pos c24] at H
            have c24b0 : (((rdOf ByteArray.empty t247 0).size : Int) == a1) = true:=beq_iff_eq.mpr c24
            have c24b1 : (((rdOf ByteArray.empty t247 0).size : Int) != a1) = false:=bne_eq_false_iff_eq.mpr c24
            clear c24
            by_cases c25 : 0 ≤ a0_0
            ·rw [if_pos c25] at H
             have c25b0:=eq_true c25
             have c25b1 : decide (0 ≤ a0_0) = true:=decide_eq_true c25
             clear c25
             by_cases c26 : a0_0 ≤ (t247.length : Int)
             ·rw [if_pos c26] at H
              have c26b0:=eq_true c26
              have c26b1 : decide (a0_0 ≤ (t247.length : Int)) = true:=decide_eq_true c26
              clear c26
              obtain ⟨y252,hy252⟩ : ∃ y_ : List ByteArray,y_ = (t247.take (a0_0 : Int).toNat):=⟨_,rfl⟩
              replace H : (impl_JoinObject.l1 k2 a1 a2 x10_2 l3 (l3.length : Int) x32_2 y252 (y252.length : Int) 0 a0_0 a0_1 a0_2) = some (r1,r2):=by first|(rw [hy252];with_reducible exact H)|(have H2_:=(Option.bind_some _ _).symm.trans H;rw [hy252];with_reducible exact H2_)|(have H2_:=(Option.bind_some _ _).symm.trans H;with_reducible exact H2_)|with_reducible exact H|(rw [hy252];exact H)|exact H
              have Ny252:=Aside0.mk hy252
              clear hy252
              have H':=Aside0.mk H
              clear H
              have p244 : 0 ≤ (x32_2 : Int):=of_decide_eq_true (by first|(with_reducible assumption)|assumption)
              have q244 : x32_2 < (l3.length : Int):=of_decide_eq_true (by first|(with_reducible assumption)|assumption)
              obtain ⟨ad244,A244_0,c244_0,e244,hx244_0,hl244_0,hi244_0⟩:=at_T55 HR3.out x32_2 p244 q244
              cases e244
              replace hx244_0:=(HB.out.cell (World.block_lt_of_cell? w _ hx244_0)).trans hx244_0
              have HR244_0:=Aside0.mk hi244_0
              have HC244_0:=Aside0.mk hl244_0
              clear hi244_0 hl244_0
              replace p244:=eq_true p244
              replace q244:=eq_true q244
              go_wp2_with (first|((with_reducible refine gate_dst (N:=12) rfl ?_);(try (refine gate_guard (by rfl) ?_;dsimp only));refine box_event ?hg (N:=12) ?hd (cs:=#[.slice none 0 0]) (t:=55) ?hr ?_;(case hd=>rfl);(case hg=>rfl);(case hr=>first|(go_simp;done)|(go_simp;rfl));intro gb245 hg w27 hbox hb;have n0_:=Aside0.mk (Kd.R_below (by (with_reducible repeat (first|apply Kd.R_alloc|apply Kd.R_drewN));exact HO_10.out) hb);have n1_:=Aside0.mk (blk_below (g:=gb234) (o:=.cells #[.int .i64 a0_0,.int .i64 a0_1,.int .i64 a0_2] 43 (0,0)) (by (with_reducible repeat first|refine blk_drewN ?_ _|refine blk_alloc ?_ _);exact BK234.out) hb);have n2_:=Aside0.mk (blk_below (g:=gb235) (o:=.cells #[.int .i64 x236000_2,.string x236001_2] 63 (0,0)) (by (with_reducible repeat first|refine blk_drewN ?_ _|refine blk_alloc ?_ _);exact BK235.out) hb);have n3_:=Aside0.mk (below_step (by repeat (first|(with_reducible first|exact HB.out|apply below_alloc|apply pw_below_drewN|apply below_drew1|refine below_set ?_ GE234.out|refine below_set ?_ GE235.out)|exact HB.out)) hb);have n4_:=Aside0.mk (hbox);have n5_:=Aside0.mk ((by rw [hg];exact (below_size (by repeat (first|(with_reducible first|exact HB.out|apply below_alloc|apply pw_below_drewN|apply below_drew1|refine below_set ?_ GE234.out|refine below_set ?_ GE235.out)|exact HB.out))) : w.heap.size ≤ gb245));have n6_:=Aside0.mk ((by rw [hg];exact (below_size (by repeat (first|(with_reducible first|exact HB.out|apply below_alloc|apply pw_below_drewN|apply below_drew1|refine below_set ?_ GE234.out|refine below_set ?_ GE235.out)|exact HB.out))) : w.heap.size ≤ gb245));have n7_:=Aside0.mk ((by rw [hg];exact Nat.ne_of_lt (blk_lt (g:=gb234) (o:=.cells #[.int .i64 a0_0,.int .i64 a0_1,.int .i64 a0_2] 43 (0,0)) (by (with_reducible repeat first|refine blk_drewN ?_ _|refine blk_alloc ?_ _);exact BK234.out)) : gb234 ≠ gb245));have n8_:=Aside0.mk ((by rw [hg];exact Nat.ne_of_gt (blk_lt (g:=gb234) (o:=.cells #[.int .i64 a0_0,.int .i64 a0_1,.int .i64 a0_2] 43 (0,0)) (by (with_reducible repeat first|refine blk_drewN ?_ _|refine blk_alloc ?_ _);exact BK234.out)) : gb245 ≠ gb234));have n9_:=Aside0.mk ((by rw [hg];exact Nat.ne_of_lt (blk_lt (g:=gb235) (o:=.cells #[.int .i64 x236000_2,.string x236001_2] 63 (0,0)) (by (with_reducible repeat first|refine blk_drewN ?_ _|refine blk_alloc ?_ _);exact BK235.out)) : gb235 ≠ gb245));have n10_:=Aside0.mk ((by rw [hg];exact Nat.ne_of_gt (blk_lt (g:=gb235) (o:=.cells #[.int .i64 x236000_2,.string x236001_2] 63 (0,0)) (by (with_reducible repeat first|refine blk_drewN ?_ _|refine blk_alloc ?_ _);exact BK235.out)) : gb245 ≠ gb235));clear HO_10 BK234 BK235 HB;have HO_10:=n0_;have BK234:=n1_;have BK235:=n2_;have HB:=n3_;have BK245:=n4_;have GW245:=n5_;have GE245:=n6_;have NB234_245:=n7_;have NB245_234:=n8_;have NB235_245:=n9_;have NB245_235:=n10_;clear n0_ n1_ n2_ n3_ n4_ n5_ n6_ n7_ n8_ n9_ n10_ hb hbox hg;have hnb28:=NB245_234.out;have hnc28:=NB234_245.out;have hnb29:=NB245_235.out;have hnc29:=NB235_245.out;have hcz30_0 : w27.cell? ⟨gb245,0,none⟩ = some (.slice none 0 0):=(blk_cell BK245.out 0).trans rfl;have hfz30_0:=blk_frozen BK245.out 0;have hnb31:=NB234_235.out;have hnc31:=NB235_234.out;have hcz32_0 : w27.cell? ⟨gb234,0,none⟩ = some (.int .i64 a0_0):=(blk_cell BK234.out 0).trans rfl;have hcz32_1 : w27.cell? ⟨gb234,1,none⟩ = some (.int .i64 a0_1):=(blk_cell BK234.out 1).trans rfl;have hcz32_2 : w27.cell? ⟨gb234,2,none⟩ = some (.int .i64 a0_2):=(blk_cell BK234.out 2).trans rfl;have hfz32_0:=blk_frozen BK234.out 0;have hfz32_1:=blk_frozen BK234.out 1;have hfz32_2:=blk_frozen BK234.out 2)|((with_reducible refine gate_callee (f:=38) rfl ?_);refine goesL_ (some 39) rfl rfl Try.func38 (by kernel_rfl) rfl #[.agg #[.int .i64 a0_0,.int .i64 a0_1,.int .i64 a0_2],.slice A244_0 ((rd_T55 l3 x32_2).f0).length c244_0] rfl (by (try simp only [List.map_toArray,List.map_cons,List.map_nil]);first|done|rfl) ?_;(with_reducible refine (impl_DecodeShards.calls k2 a0_0 a0_1 a0_2 _ _ ((rd_T55 l3 x32_2).f0) t246 t247 _ ?side1 ?side2 A21.out).mono ?_);(case side1=>exact Kd.C_below HR244_0.out (by repeat (first|(with_reducible first|exact HB.out|apply below_alloc|apply pw_below_drewN|apply below_drew1|refine below_set ?_ GE234.out|refine below_set ?_ GE235.out|refine below_set ?_ GE245.out)|exact HB.out)));(case side2=>exact HC244_0.out);rintro e w33 ⟨v248,rfl,ho0,hb⟩;refine ⟨_,rfl,?_⟩;have n0_:=Aside0.mk (Kd.R_below (by (with_reducible repeat (first|apply Kd.R_alloc|apply Kd.R_drewN));exact (Kd.R_mono (Kd.R_far (p:=⟨gb245,0,none⟩) (Kd.R_types HO_10.out BK245.out (by decide)) (fun _ hk=>hk.2) (.slice A244_0 ((rd_T55 l3 x32_2).f0).length c244_0)) (fun _ h_=>h_.1))) hb);have n1_:=Aside0.mk (Kd.R_lower ho0 (below_size (by repeat (first|(with_reducible first|exact HB.out|apply below_alloc|apply pw_below_drewN|apply below_drew1|refine below_set ?_ GE234.out|refine below_set ?_ GE235.out|refine below_set ?_ GE245.out)|exact HB.out))));have n2_:=Aside0.mk (blk_below (g:=gb234) (o:=.cells #[.int .i64 a0_0,.int .i64 a0_1,.int .i64 a0_2] 43 (0,0)) (by (with_reducible repeat first|refine blk_drewN ?_ _|refine blk_alloc ?_ _);refine blk_far ?_ NB234_245.out _;(with_reducible repeat first|refine blk_drewN ?_ _|refine blk_alloc ?_ _);exact BK234.out) hb);have n3_:=Aside0.mk (blk_below (g:=gb235) (o:=.cells #[.int .i64 x236000_2,.string x236001_2] 63 (0,0)) (by (with_reducible repeat first|refine blk_drewN ?_ _|refine blk_alloc ?_ _);refine blk_far ?_ NB235_245.out _;(with_reducible repeat first|refine blk_drewN ?_ _|refine blk_alloc ?_ _);exact BK235.out) hb);have n4_:=Aside0.mk (blk_below (g:=gb245) (o:=.cells #[.slice A244_0 ((rd_T55 l3 x32_2).f0).length c244_0] 55 (0,0)) (by (with_reducible repeat first|refine blk_drewN ?_ _|refine blk_alloc ?_ _);refine blk_put (cs:=#[.slice none 0 0]) ?_ 0 _ rfl;(with_reducible repeat first|refine blk_drewN ?_ _|refine blk_alloc ?_ _);exact BK245.out) hb);have n5_:=Aside0.mk (below_step (by repeat (first|(with_reducible first|exact HB.out|apply below_alloc|apply pw_below_drewN|apply below_drew1|refine below_set ?_ GE234.out|refine below_set ?_ GE235.out|refine below_set ?_ GE245.out)|exact HB.out)) hb);clear HO_10 BK234 BK235 BK245 HB;have HO_10:=n0_;have HO249:=n1_;have BK234:=n2_;have BK235:=n3_;have BK245:=n4_;have HB:=n5_;clear n0_ n1_ n2_ n3_ n4_ n5_;(try clear hb);(try clear hb2);(try clear hk);(try clear hi);(try clear ho0))|((with_reducible refine gate_dst (N:=13) rfl ?_);(try (refine gate_guard (by rfl) ?_;dsimp only));refine box_event ?hg (N:=13) ?hd (cs:=#[.int .i64 0,.slice none 0 0]) (t:=68) ?hr ?_;(case hd=>rfl);(case hg=>rfl);(case hr=>first|(go_simp;done)|(go_simp;rfl));intro gb250 hg w34 hbox hb;have n0_:=Aside0.mk (Kd.R_below (by (with_reducible repeat (first|apply Kd.R_alloc|apply Kd.R_drewN));exact HO_10.out) hb);have n1_:=Aside0.mk (Kd.R_below (by (with_reducible repeat (first|apply Kd.R_alloc|apply Kd.R_drewN));exact HO249.out) hb);have n2_:=Aside0.mk (blk_below (g:=gb234) (o:=.cells #[.int .i64 a0_0,.int .i64 a0_1,.int .i64 a0_2] 43 (0,0)) (by (with_reducible repeat first|refine blk_drewN ?_ _|refine blk_alloc ?_ _);exact BK234.out) hb);have n3_:=Aside0.mk (blk_below (g:=gb235) (o:=.cells #[.int .i64 x236000_2,.string x236001_2] 63 (0,0)) (by (with_reducible repeat first|refine blk_drewN ?_ _|refine blk_alloc ?_ _);exact BK235.out) hb);have n4_:=Aside0.mk (blk_below (g:=gb245) (o:=.cells #[.slice A244_0 ((rd_T55 l3 x32_2).f0).length c244_0] 55 (0,0)) (by (with_reducible repeat first|refine blk_drewN ?_ _|refine blk_alloc ?_ _);exact BK245.out) hb);have n5_:=Aside0.mk (below_step (by repeat (first|(with_reducible first|exact HB.out|apply below_alloc|apply pw_below_drewN|apply below_drew1|refine below_set ?_ GE234.out|refine below_set ?_ GE235.out|refine below_set ?_ GE245.out)|exact HB.out)) hb);have n6_:=Aside0.mk (hbox);have n7_:=Aside0.mk ((by rw [hg];exact (below_size (by repeat (first|(with_reducible first|exact HB.out|apply below_alloc|apply pw_below_drewN|apply below_drew1|refine below_set ?_ GE234.out|refine below_set ?_ GE235.out|refine below_set ?_ GE245.out)|exact HB.out))) : w.heap.size ≤ gb250));have n8_:=Aside0.mk ((by rw [hg];exact (below_size (by repeat (first|(with_reducible first|exact HB.out|apply below_alloc|apply pw_below_drewN|apply below_drew1|refine below_set ?_ GE234.out|refine below_set ?_ GE235.out|refine below_set ?_ GE245.out)|exact HB.out))) : w.heap.size ≤ gb250));have n9_:=Aside0.mk ((by rw [hg];exact Nat.ne_of_lt (blk_lt (g:=gb234) (o:=.cells #[.int .i64 a0_0,.int .i64 a0_1,.int .i64 a0_2] 43 (0,0)) (by (with_reducible repeat first|refine blk_drewN ?_ _|refine blk_alloc ?_ _);exact BK234.out)) : gb234 ≠ gb250));have n10_:=Aside0.mk ((by rw [hg];exact Nat.ne_of_gt (blk_lt (g:=gb234) (o:=.cells #[.int .i64 a0_0,.int .i64 a0_1,.int .i64 a0_2] 43 (0,0)) (by (with_reducible repeat first|refine blk_drewN ?_ _|refine blk_alloc ?_ _);exact BK234.out)) : gb250 ≠ gb234));have n11_:=Aside0.mk ((by rw [hg];exact Nat.ne_of_lt (blk_lt (g:=gb235) (o:=.cells #[.int .i64 x236000_2,.string x236001_2] 63 (0,0)) (by (with_reducible repeat first|refine blk_drewN ?_ _|refine blk_alloc ?_ _);exact BK235.out)) : gb235 ≠ gb250));have n12_:=Aside0.mk ((by rw [hg];exact Nat.ne_of_gt (blk_lt (g:=gb235) (o:=.cells #[.int .i64 x236000_2,.string x236001_2] 63 (0,0)) (by (with_reducible repeat first|refine blk_drewN ?_ _|refine blk_alloc ?_ _);exact BK235.out)) : gb250 ≠ gb235));have n13_:=Aside0.mk ((by rw [hg];exact Nat.ne_of_lt (blk_lt (g:=gb245) (o:=.cells #[.slice A244_0 ((rd_T55 l3 x32_2).f0).length c244_0] 55 (0,0)) (by (with_reducible repeat first|refine blk_drewN ?_ _|refine blk_alloc ?_ _);exact BK245.out)) : gb245 ≠ gb250));have n14_:=Aside0.mk ((by rw [hg];exact Nat.ne_of_gt (blk_lt (g:=gb245) (o:=.cells #[.slice A244_0 ((rd_T55 l3 x32_2).f0).length c244_0] 55 (0,0)) (by (with_reducible repeat first|refine blk_drewN ?_ _|refine blk_alloc ?_ _);exact BK245.out)) : gb250 ≠ gb245));clear HO_10 HO249 BK234 BK235 BK245 HB;have HO_10:=n0_;have HO249:=n1_;have BK234:=n2_;have BK235:=n3_;have BK245:=n4_;have HB:=n5_;have BK250:=n6_;have GW250:=n7_;have GE250:=n8_;have NB234_250:=n9_;have NB250_234:=n10_;have NB235_250:=n11_;have NB250_235:=n12_;have NB245_250:=n13_;have NB250_245:=n14_;clear n0_ n1_ n2_ n3_ n4_ n5_ n6_ n7_ n8_ n9_ n10_ n11_ n12_ n13_ n14_ hb hbox hg;have hnb35:=NB250_234.out;have hnc35:=NB234_250.out;have hnb36:=NB250_235.out;have hnc36:=NB235_250.out;have hnb37:=NB250_245.out;have hnc37:=NB245_250.out;have hcz38_0 : w34.cell? ⟨gb250,0,none⟩ = some (.int .i64 0):=(blk_cell BK250.out 0).trans rfl;have hcz38_1 : w34.cell? ⟨gb250,1,none⟩ = some (.slice none 0 0):=(blk_cell BK250.out 1).trans rfl;have hfz38_0:=blk_frozen BK250.out 0;have hfz38_1:=blk_frozen BK250.out 1;obtain ⟨Ao39,co39,eo39⟩:=Kd.R_slice HO249.out;subst eo39)|((with_reducible refine gate_store (t:=68) (p:=13) rfl ?_);refine store_event (t:=68) (p:=13) (v:=?vo_w40) (w1:=((w34.setCell ⟨gb250,0,none⟩ (.int .i64 t246)).setCell ⟨gb250,1,none⟩ (.slice Ao39 t247.length co39))) ?hg ?ho ?hn ?hr ?_;(case ho=>rfl);(case hg=>rfl);(case hn=>rfl);(case hr=>first|(go_simp;done)|(go_simp;rfl));intro w40 hw;have n0_ : Aside0 (Kd.R (Kd.int .u8) 5 w40 w.heap.size (fun _=>True) u10 x10_2):=⟨(by rw [hw];exact (by (with_reducible repeat (first|apply Kd.R_alloc|apply Kd.R_drewN));exact Kd.R_mono (Kd.R_far (p:=⟨gb250,1,none⟩) (Kd.R_far (p:=⟨gb250,0,none⟩) (Kd.R_types HO_10.out BK250.out (by decide)) (fun _ hk=>hk.2) (.int .i64 t246)) (fun _ hk=>hk.2) (.slice Ao39 t247.length co39)) (fun _ hk=>trivial)))⟩;have n1_ : Aside0 (Kd.R Kd.string 9 w40 w.heap.size (fun _=>True) (.slice Ao39 t247.length co39) t247):=⟨(by rw [hw];exact (by (with_reducible repeat (first|apply Kd.R_alloc|apply Kd.R_drewN));exact Kd.R_mono (Kd.R_far (p:=⟨gb250,1,none⟩) (Kd.R_far (p:=⟨gb250,0,none⟩) (Kd.R_types HO249.out BK250.out (by decide)) (fun _ hk=>hk.2) (.int .i64 t246)) (fun _ hk=>hk.2) (.slice Ao39 t247.length co39)) (fun _ hk=>trivial)))⟩;have n2_ : Aside0 (w40.heap[gb234]? = some (.cells #[.int .i64 a0_0,.int .i64 a0_1,.int .i64 a0_2] 43 (0,0))):=⟨(by rw [hw];exact (by (with_reducible repeat first|refine blk_drewN ?_ _|refine blk_alloc ?_ _);refine blk_far ?_ NB234_250.out _;(with_reducible repeat first|refine blk_drewN ?_ _|refine blk_alloc ?_ _);refine blk_far ?_ NB234_250.out _;(with_reducible repeat first|refine blk_drewN ?_ _|refine blk_alloc ?_ _);exact BK234.out))⟩;have n3_ : Aside0 (w40.heap[gb235]? = some (.cells #[.int .i64 x236000_2,.string x236001_2] 63 (0,0))):=⟨(by rw [hw];exact (by (with_reducible repeat first|refine blk_drewN ?_ _|refine blk_alloc ?_ _);refine blk_far ?_ NB235_250.out _;(with_reducible repeat first|refine blk_drewN ?_ _|refine blk_alloc ?_ _);refine blk_far ?_ NB235_250.out _;(with_reducible repeat first|refine blk_drewN ?_ _|refine blk_alloc ?_ _);exact BK235.out))⟩;have n4_ : Aside0 (w40.heap[gb245]? = some (.cells #[.slice A244_0 ((rd_T55 l3 x32_2).f0).length c244_0] 55 (0,0))):=⟨(by rw [hw];exact (by (with_reducible repeat first|refine blk_drewN ?_ _|refine blk_alloc ?_ _);refine blk_far ?_ NB245_250.out _;(with_reducible repeat first|refine blk_drewN ?_ _|refine blk_alloc ?_ _);refine blk_far ?_ NB245_250.out _;(with_reducible repeat first|refine blk_drewN ?_ _|refine blk_alloc ?_ _);exact BK245.out))⟩;have n5_ : Aside0 (w40.heap[gb250]? = some (.cells #[.int .i64 t246,.slice Ao39 t247.length co39] 68 (0,0))):=⟨(by rw [hw];exact (by (with_reducible repeat first|refine blk_drewN ?_ _|refine blk_alloc ?_ _);refine blk_put (cs:=#[.int .i64 t246,.slice none 0 0]) ?_ 1 _ rfl;(with_reducible repeat first|refine blk_drewN ?_ _|refine blk_alloc ?_ _);refine blk_put (cs:=#[.int .i64 0,.slice none 0 0]) ?_ 0 _ rfl;(with_reducible repeat first|refine blk_drewN ?_ _|refine blk_alloc ?_ _);exact BK250.out))⟩;have n6_ : Aside0 (Below w.heap.size w w40):=⟨(by rw [hw];exact (by repeat (first|(with_reducible first|exact HB.out|apply below_alloc|apply pw_below_drewN|apply below_drew1|refine below_set ?_ GE234.out|refine below_set ?_ GE235.out|refine below_set ?_ GE245.out|refine below_set ?_ GE250.out)|exact HB.out)))⟩;clear hw HO_10 HO249 BK234 BK235 BK245 BK250 HB;have HO_10:=n0_;have HO249:=n1_;have BK234:=n2_;have BK235:=n3_;have BK245:=n4_;have BK250:=n5_;have HB:=n6_;clear n0_ n1_ n2_ n3_ n4_ n5_ n6_;have hcz41_0 : w40.cell? ⟨gb250,0,none⟩ = some (.int .i64 t246):=(blk_cell BK250.out 0).trans rfl;have hcz41_1 : w40.cell? ⟨gb250,1,none⟩ = some (.slice Ao39 t247.length co39):=(blk_cell BK250.out 1).trans rfl;have hfz41_0:=blk_frozen BK250.out 0;have hfz41_1:=blk_frozen BK250.out 1;have p251 : 0 ≤ (0 : Int):=(by omega);have q251 : 0 < (t247.length : Int):=of_decide_eq_true (by first|(with_reducible assumption)|assumption);obtain ⟨ad251,e251,hx251_0⟩:=Kd.at_string (Kd.R_reads' HO249.out).2.2 0 p251 q251;cases e251;have qi251 : (0 < t247.length) = True:=eq_true (by omega);(try rw [show ((0 : Int)).toNat = 0 from rfl] at hx251_0);(try rw [Addr.add_zero'] at hx251_0);replace p251:=eq_true p251;replace q251:=eq_true q251;have hcz42_0 : w40.cell? ⟨gb234,0,none⟩ = some (.int .i64 a0_0):=(blk_cell BK234.out 0).trans rfl;have hcz42_1 : w40.cell? ⟨gb234,1,none⟩ = some (.int .i64 a0_1):=(blk_cell BK234.out 1).trans rfl;have hcz42_2 : w40.cell? ⟨gb234,2,none⟩ = some (.int .i64 a0_2):=(blk_cell BK234.out 2).trans rfl;have hfz42_0:=blk_frozen BK234.out 0;have hfz42_1:=blk_frozen BK234.out 1;have hfz42_2:=blk_frozen BK234.out 2;have q43 : (a0_0 : Int) ≤ ((t247.length : Int) : Int):=of_decide_eq_true (by first|(with_reducible assumption)|assumption);obtain ⟨i043,hi043,_,hsz43,_⟩:=info_parts info9;have hroom43 : t247.length ≤ co39:=(Kd.R_reads' HO249.out).2.1;have hC43 : Kd.C Kd.string _ (some ad251) t247.length t247:=(Kd.R_reads' HO249.out).2.2;have hcut43:=cut_to (P:=Try.prog) 56 9 .i64 Try.underlying56 hi043 (some ad251) t247.length co39 a0_0 (of_decide_eq_true (by first|(with_reducible assumption)|assumption)) q43 hroom43;have hr43:=Kd.C_take (m:=(a0_0 : Int).toNat) hC43 (by omega);have hy43 : y252.length = (a0_0 : Int).toNat:=(by rw [Ny252.out,List.length_take];omega);rw [← Ny252.out] at hr43;rw [← hy43] at hcut43;have HR255:=Aside0.mk hr43;have HC255:=Aside0.mk (show y252.length ≤ co39 from by omega);clear hr43 hC43 hroom43 hi043 hsz43;have KY43:=Aside0.mk hy43;clear hy43;have KL43:=Aside0.mk (show (a0_0 : Int).toNat ≤ t247.length from by omega);replace q43:=eq_true q43))
              go_loopg [10,60] k2 (fun kq v10 v60 w'=>∃ (x10_3 : List Int) (x60_3 : Int),v60 = .int .i64 x60_3 ∧ Aside0 (impl_JoinObject.l1 kq a1 a2 x10_3 l3 (l3.length : Int) x32_2 y252 (y252.length : Int) x60_3 a0_0 a0_1 a0_2 = some (r1,r2)) ∧ Aside0 (kq ≤ k2) ∧ Aside0 (Kd.R (Kd.int .u8) 5 w' w.heap.size (fun _=>True) v10 x10_3) ∧ Aside0 (Kd.R Kd.string 9 w' w.heap.size (fun _=>True) (.slice (some ad251) t247.length co39) t247) ∧ Aside0 (w'.heap[gb234]? = some (.cells #[.int .i64 a0_0,.int .i64 a0_1,.int .i64 a0_2] 43 (0,0))) ∧ Aside0 (w'.heap[gb235]? = some (.cells #[.int .i64 x236000_2,.string x236001_2] 63 (0,0))) ∧ Aside0 (w'.heap[gb245]? = some (.cells #[(.slice A244_0 ((rd_T55 l3 x32_2).f0).length c244_0)] 55 (0,0))) ∧ Aside0 (w'.heap[gb250]? = some (.cells #[.int .i64 t246,(.slice (some ad251) t247.length co39)] 68 (0,0))) ∧ Aside0 (Below w.heap.size w w'))
              case atStart=>exact ⟨(x10_2),(0),(by first|rfl|(simp;done)|(simp [*];done)),H',⟨Nat.le_refl _⟩,⟨by (with_reducible repeat (first|apply Kd.R_alloc|apply Kd.R_drewN));exact HO_10.out⟩,⟨by (with_reducible repeat (first|apply Kd.R_alloc|apply Kd.R_drewN));exact HO249.out⟩,⟨by (with_reducible repeat first|refine blk_drewN ?_ _|refine blk_alloc ?_ _);exact BK234.out⟩,⟨by (with_reducible repeat first|refine blk_drewN ?_ _|refine blk_alloc ?_ _);exact BK235.out⟩,⟨by (with_reducible repeat first|refine blk_drewN ?_ _|refine blk_alloc ?_ _);exact BK245.out⟩,⟨by (with_reducible repeat first|refine blk_drewN ?_ _|refine blk_alloc ?_ _);exact BK250.out⟩,⟨by repeat (first|(with_reducible first|exact HB.out|apply below_alloc|apply pw_below_drewN|apply below_drew1|refine below_set ?_ GE234.out|refine below_set ?_ GE235.out|refine below_set ?_ GE245.out|refine below_set ?_ GE250.out)|exact HB.out)⟩⟩
              case round=>
               clear H'
               (try clear c1);(try clear c2);(try clear p2);(try clear q2);(try clear hx2);(try clear qi2);(try clear c3);(try clear q4);(try clear c9);(try clear c12);(try clear c12b0);(try clear c13);(try clear c14);(try clear c18);(try clear c18b0);(try clear c19);(try clear c19b0);(try clear c20);(try clear c20b0);(try clear c22);(try clear c22b0);(try clear c22b1);(try clear c23);(try clear c23b0);(try clear c23b1);(try clear c24);(try clear c24b0);(try clear c24b1);(try clear p24);(try clear q24);(try clear hx24);(try clear c25);(try clear c25b0);(try clear c25b1);(try clear p25);(try clear q25);(try clear hx25);(try clear qi25);(try clear c26);(try clear c26b0);(try clear c26b1);(try clear c28);(try clear c29);(try clear c31);(try clear c33);(try clear c35);(try clear c36);(try clear c37);(try clear c38);(try clear q43);(try clear hcz10_0);(try clear hcz10_1);(try clear hcz10_2);(try clear hcz15_0);(try clear hcz15_1);(try clear hcz30_0);(try clear hcz32_0);(try clear hcz32_1);(try clear hcz32_2);(try clear hcz38_0);(try clear hcz38_1);(try clear hcz41_0);(try clear hcz41_1);(try clear hcz42_0);(try clear hcz42_1);(try clear hcz42_2);(try clear hfz10_0);(try clear hfz10_1);(try clear hfz10_2);(try clear hfz15_0);(try clear hfz15_1);(try clear hfz30_0);(try clear hfz32_0);(try clear hfz32_1);(try clear hfz32_2);(try clear hfz38_0);(try clear hfz38_1);(try clear hfz41_0);(try clear hfz41_1);(try clear hfz42_0);(try clear hfz42_1);(try clear hfz42_2);(try clear hx244_0);(try clear hx251_0);(try clear p2);(try clear p244);(try clear p251);(try clear q244);(try clear q251);(try clear q43)
               obtain ⟨x10_3,x60_3,rfl,HA,HK3,HO_10,HO_251001,BK234,BK235,BK245,BK250,HB⟩:=hrel
               cases gk with
               | zero=>exact absurd HA.out (by simp [impl_JoinObject.l1])
               | succ k3=>
                have H:=HA.out
                clear HA
                simp only [impl_JoinObject.l1] at H
                by_cases c44 : x60_3 < (y252.length : Int)
                ·rw [if_pos c44] at H
                 have c44b0 : decide (x60_3 < (y252.length : Int)) = true:=decide_eq_true c44
                 clear c44
                 by_cases c45 : 0 ≤ x60_3
                 ·rw [if_pos c45] at H
                  have c45b0 : decide (0 ≤ x60_3) = true:=decide_eq_true c45
                  clear c45
                  by_cases c46 : x60_3 < (y252.length : Int)
                  ·rw [if_pos c46] at H
                   have c46b0 : decide (x60_3 < (y252.length : Int)) = true:=decide_eq_true c46
                   clear c46
                   by_cases c47 : x10_3.length + (rdOf ByteArray.empty y252 x60_3).size < 140737488355328
                   ·rw [if_pos c47] at H
                    have LMc47:=Aside0.mk c47
                    clear c47
                    obtain ⟨y257,hy257⟩ : ∃ y_ : List Int,y_ = (x10_3 ++ bytesOf (rdOf ByteArray.empty y252 x60_3)):=⟨_,rfl⟩
                    replace H : (impl_JoinObject.l1 k3 a1 a2 y257 l3 (l3.length : Int) x32_2 y252 (y252.length : Int) (wrap64 (x60_3 + 1)) a0_0 a0_1 a0_2) = some (r1,r2):=by first|(rw [hy257];with_reducible exact H)|(have H2_:=(Option.bind_some _ _).symm.trans H;rw [hy257];with_reducible exact H2_)|(have H2_:=(Option.bind_some _ _).symm.trans H;with_reducible exact H2_)|with_reducible exact H|(rw [hy257];exact H)|exact H
                    have Ny257:=Aside0.mk hy257
                    clear hy257
                    have H':=Aside0.mk H
                    clear H
                    have p256 : 0 ≤ (x60_3 : Int):=of_decide_eq_true (by first|(with_reducible assumption)|assumption)
                    have q256 : x60_3 < (y252.length : Int):=of_decide_eq_true (by first|(with_reducible assumption)|assumption)
                    have hq_ : x60_3 < (t247.length : Int):=by have h_:=q256;rw [Ny252.out,List.length_take] at h_;omega
                    obtain ⟨ad256,e256,hx256_0⟩:=Kd.at_string (Kd.R_reads' HO_251001.out).2.2 x60_3 p256 hq_
                    obtain rfl : ad251 = ad256:=(by injection e256)
                    have er_ : rdOf ByteArray.empty t247 x60_3 = rdOf ByteArray.empty y252 x60_3:=by have h_:=q256;rw [Ny252.out,List.length_take] at h_;unfold rdOf;rw [Ny252.out,List.getD_eq_getElem?_getD,List.getD_eq_getElem?_getD,List.getElem?_take,if_pos (by omega)]
                    rw [er_] at hx256_0
                    clear er_ hq_
                    replace p256:=eq_true p256
                    replace q256:=eq_true q256
                    go_wp2_with (first|(at_builtin;refine print_append_str (w0:=w) w.heap.size rfl (.tmp 64) _ 37 9 5 rfl Try.underlying37 Try.underlying9 info5 u10 x10_3 (rdOf ByteArray.empty y252 x60_3) rfl rfl ?aO ?aB ?aS ?aL ?_;(case aB=>exact (by repeat (first|(with_reducible first|exact HB.out|apply below_alloc|apply pw_below_drewN|apply below_drew1|refine below_set ?_ GE234.out|refine below_set ?_ GE235.out|refine below_set ?_ GE245.out|refine below_set ?_ GE250.out)|exact HB.out)));(case aO=>exact (Kd.own_of_R (by (with_reducible repeat (first|apply Kd.R_alloc|apply Kd.R_drewN));exact HO_10.out)));(case aS=>exact (below_size (by repeat (first|(with_reducible first|exact HB.out|apply below_alloc|apply pw_below_drewN|apply below_drew1|refine below_set ?_ GE234.out|refine below_set ?_ GE235.out|refine below_set ?_ GE245.out|refine below_set ?_ GE250.out)|exact HB.out))));(case aL=>have:=LMc47.out;omega);intro v258 w48 ho0 hb hg;have ho:=Kd.R_of_own (h1:=fun _=>rfl) (ok:=fun _=>True) ho0 (fun _ _=>trivial);clear ho0;have hat:=True.intro;rw [← Ny257.out] at ho;change Kd.R (Kd.int .u8) 5 w48 w.heap.size (fun _=>True) v258 y257 at ho;have n0_:=Aside0.mk (Kd.R_over' (by (with_reducible repeat (first|apply Kd.R_alloc|apply Kd.R_drewN));exact HO_251001.out) (Kd.R_typed (by (with_reducible repeat (first|apply Kd.R_alloc|apply Kd.R_drewN));exact HO_10.out)) (by decide) hg);have n1_:=Aside0.mk (blk_grown (g:=gb234) (o:=.cells #[.int .i64 a0_0,.int .i64 a0_1,.int .i64 a0_2] 43 (0,0)) (by (with_reducible repeat first|refine blk_drewN ?_ _|refine blk_alloc ?_ _);exact BK234.out) hg (Kd.R_ne HO_10.out BK234.out (by decide)));have n2_:=Aside0.mk (blk_grown (g:=gb235) (o:=.cells #[.int .i64 x236000_2,.string x236001_2] 63 (0,0)) (by (with_reducible repeat first|refine blk_drewN ?_ _|refine blk_alloc ?_ _);exact BK235.out) hg (Kd.R_ne HO_10.out BK235.out (by decide)));have n3_:=Aside0.mk (blk_grown (g:=gb245) (o:=.cells #[.slice A244_0 ((rd_T55 l3 x32_2).f0).length c244_0] 55 (0,0)) (by (with_reducible repeat first|refine blk_drewN ?_ _|refine blk_alloc ?_ _);exact BK245.out) hg (Kd.R_ne HO_10.out BK245.out (by decide)));have n4_:=Aside0.mk (blk_grown (g:=gb250) (o:=.cells #[.int .i64 t246,.slice (some ad251) t247.length co39] 68 (0,0)) (by (with_reducible repeat first|refine blk_drewN ?_ _|refine blk_alloc ?_ _);exact BK250.out) hg (Kd.R_ne HO_10.out BK250.out (by decide)));have n5_:=Aside0.mk (hb);have n6_:=Aside0.mk (ho);clear HO_251001 BK234 BK235 BK245 BK250 HB HO_10;have HO_251001:=n0_;have BK234:=n1_;have BK235:=n2_;have BK245:=n3_;have BK250:=n4_;have HB:=n5_;have HO259:=n6_;clear n0_ n1_ n2_ n3_ n4_ n5_ n6_ ho hb hg hat))
                    go_roundg k3
                    case measure=>have:=HJ5.out;have:=HK2.out;have:=HK3.out;omega
                    case rel=>exact ⟨(y257),(wrap64 (x60_3 + 1)),(by first|rfl|(simp;done)|(simp [*];done)),H',⟨by have:=HJ5.out;have:=HK2.out;have:=HK3.out;omega⟩,⟨by (with_reducible repeat (first|apply Kd.R_alloc|apply Kd.R_drewN));exact HO259.out⟩,⟨by (with_reducible repeat (first|apply Kd.R_alloc|apply Kd.R_drewN));exact HO_251001.out⟩,⟨by (with_reducible repeat first|refine blk_drewN ?_ _|refine blk_alloc ?_ _);exact BK234.out⟩,⟨by (with_reducible repeat first|refine blk_drewN ?_ _|refine blk_alloc ?_ _);exact BK235.out⟩,⟨by (with_reducible repeat first|refine blk_drewN ?_ _|refine blk_alloc ?_ _);exact BK245.out⟩,⟨by (with_reducible repeat first|refine blk_drewN ?_ _|refine blk_alloc ?_ _);exact BK250.out⟩,⟨by repeat (first|(with_reducible first|exact HB.out|apply below_alloc|apply pw_below_drewN|apply below_drew1|refine below_set ?_ GE234.out|refine below_set ?_ GE235.out|refine below_set ?_ GE245.out|refine below_set ?_ GE250.out)|exact HB.out)⟩⟩
                   ·rw [if_neg c47] at H
                    exact absurd H (by simp)
                  ·rw [if_neg c46] at H
                   exact absurd H (by simp)
                 ·rw [if_neg c45] at H
                  exact absurd H (by simp)
                ·rw [if_neg c44] at H
                 have c44b0 : decide (x60_3 < (y252.length : Int)) = false:=decide_eq_false c44
                 clear c44
                 have H':=Aside0.mk H
                 clear H
                 go_wp2
                 go_roundg k3
                 case measure=>have:=HJ5.out;have:=HK2.out;have:=HK3.out;omega
                 case rel=>exact ⟨(x10_3),(wrap64 (x32_2 + 1)),(x236000_2),(x236001_2),(by first|rfl|(simp;done)|(simp [*];done)),H',⟨by have:=HJ5.out;have:=HK2.out;have:=HK3.out;omega⟩,⟨by (with_reducible repeat (first|apply Kd.R_alloc|apply Kd.R_drewN));exact HO_10.out⟩,⟨by (with_reducible repeat first|refine blk_drewN ?_ _|refine blk_alloc ?_ _);exact BK234.out⟩,⟨by (with_reducible repeat first|refine blk_drewN ?_ _|refine blk_alloc ?_ _);exact BK235.out⟩,⟨by repeat (first|(with_reducible first|exact HB.out|apply below_alloc|apply pw_below_drewN|apply below_drew1|refine below_set ?_ GE234.out|refine below_set ?_ GE235.out|refine below_set ?_ GE245.out|refine below_set ?_ GE250.out)|exact HB.out)⟩⟩
             ·rw [if_neg c26] at H
              exact absurd H (by simp)
            ·rw [if_neg c25] at H
             exact absurd H (by simp)
           ·rw [if_neg c24] at H
            have c24b0 : (((rdOf ByteArray.empty t247 0).size : Int) == a1) = false:=beq_eq_false_iff_ne.mpr c24
            have c24b1 : (((rdOf ByteArray.empty t247 0).size : Int) != a1) = true:=bne_iff_ne.mpr c24
            simp only [Option.some.injEq,Prod.mk.injEq] at H
            obtain ⟨rfl,rfl⟩:=H
            have p244 : 0 ≤ (x32_2 : Int):=of_decide_eq_true (by first|(with_reducible assumption)|assumption)
            have q244 : x32_2 < (l3.length : Int):=of_decide_eq_true (by first|(with_reducible assumption)|assumption)
            obtain ⟨ad244,A244_0,c244_0,e244,hx244_0,hl244_0,hi244_0⟩:=at_T55 HR3.out x32_2 p244 q244
            cases e244
            replace hx244_0:=(HB.out.cell (World.block_lt_of_cell? w _ hx244_0)).trans hx244_0
            have HR244_0:=Aside0.mk hi244_0
            have HC244_0:=Aside0.mk hl244_0
            clear hi244_0 hl244_0
            replace p244:=eq_true p244
            replace q244:=eq_true q244
            go_wp2_with (first|((with_reducible refine gate_dst (N:=12) rfl ?_);(try (refine gate_guard (by rfl) ?_;dsimp only));refine box_event ?hg (N:=12) ?hd (cs:=#[.slice none 0 0]) (t:=55) ?hr ?_;(case hd=>rfl);(case hg=>rfl);(case hr=>first|(go_simp;done)|(go_simp;rfl));intro gb245 hg w49 hbox hb;have n0_:=Aside0.mk (Kd.R_below (by (with_reducible repeat (first|apply Kd.R_alloc|apply Kd.R_drewN));exact HO_10.out) hb);have n1_:=Aside0.mk (blk_below (g:=gb234) (o:=.cells #[.int .i64 a0_0,.int .i64 a0_1,.int .i64 a0_2] 43 (0,0)) (by (with_reducible repeat first|refine blk_drewN ?_ _|refine blk_alloc ?_ _);exact BK234.out) hb);have n2_:=Aside0.mk (blk_below (g:=gb235) (o:=.cells #[.int .i64 x236000_2,.string x236001_2] 63 (0,0)) (by (with_reducible repeat first|refine blk_drewN ?_ _|refine blk_alloc ?_ _);exact BK235.out) hb);have n3_:=Aside0.mk (below_step (by repeat (first|(with_reducible first|exact HB.out|apply below_alloc|apply pw_below_drewN|apply below_drew1|refine below_set ?_ GE234.out|refine below_set ?_ GE235.out)|exact HB.out)) hb);have n4_:=Aside0.mk (hbox);have n5_:=Aside0.mk ((by rw [hg];exact (below_size (by repeat (first|(with_reducible first|exact HB.out|apply below_alloc|apply pw_below_drewN|apply below_drew1|refine below_set ?_ GE234.out|refine below_set ?_ GE235.out)|exact HB.out))) : w.heap.size ≤ gb245));have n6_:=Aside0.mk ((by rw [hg];exact (below_size (by repeat (first|(with_reducible first|exact HB.out|apply below_alloc|apply pw_below_drewN|apply below_drew1|refine below_set ?_ GE234.out|refine below_set ?_ GE235.out)|exact HB.out))) : w.heap.size ≤ gb245));have n7_:=Aside0.mk ((by rw [hg];exact Nat.ne_of_lt (blk_lt (g:=gb234) (o:=.cells #[.int .i64 a0_0,.int .i64 a0_1,.int .i64 a0_2] 43 (0,0)) (by (with_reducible repeat first|refine blk_drewN ?_ _|refine blk_alloc ?_ _);exact BK234.out)) : gb234 ≠ gb245));have n8_:=Aside0.mk ((by rw [hg];exact Nat.ne_of_gt (blk_lt (g:=gb234) (o:=.cells #[.int .i64 a0_0,.int .i64 a0_1,.int .i64 a0_2] 43 (0,0)) (by (with_reducible repeat first|refine blk_drewN ?_ _|refine blk_alloc ?_ _);exact BK234.out)) : gb245 ≠ gb234));have n9_:=Aside0.mk ((by rw [hg];exact Nat.ne_of_lt (blk_lt (g:=gb235) (o:=.cells #[.int .i64 x236000_2,.string x236001_2] 63 (0,0)) (by (with_reducible repeat first|refine blk_drewN ?_ _|refine blk_alloc ?_ _);exact BK235.out)) : gb235 ≠ gb245));have n10_:=Aside0.mk ((by rw [hg];exact Nat.ne_of_gt (blk_lt (g:=gb235) (o:=.cells #[.int .i64 x236000_2,.string x236001_2] 63 (0,0)) (by (with_reducible repeat first|refine blk_drewN ?_ _|refine blk_alloc ?_ _);exact BK235.out)) : gb245 ≠ gb235));clear HO_10 BK234 BK235 HB;have HO_10:=n0_;have BK234:=n1_;have BK235:=n2_;have HB:=n3_;have BK245:=n4_;have GW245:=n5_;have GE245:=n6_;have NB234_245:=n7_;have NB245_234:=n8_;have NB235_245:=n9_;have NB245_235:=n10_;clear n0_ n1_ n2_ n3_ n4_ n5_ n6_ n7_ n8_ n9_ n10_ hb hbox hg;have hnb50:=NB245_234.out;have hnc50:=NB234_245.out;have hnb51:=NB245_235.out;have hnc51:=NB235_245.out;have hcz52_0 : w49.cell? ⟨gb245,0,none⟩ = some (.slice none 0 0):=(blk_cell BK245.out 0).trans rfl;have hfz52_0:=blk_frozen BK245.out 0;have hnb53:=NB234_235.out;have hnc53:=NB235_234.out;have hcz54_0 : w49.cell? ⟨gb234,0,none⟩ = some (.int .i64 a0_0):=(blk_cell BK234.out 0).trans rfl;have hcz54_1 : w49.cell? ⟨gb234,1,none⟩ = some (.int .i64 a0_1):=(blk_cell BK234.out 1).trans rfl;have hcz54_2 : w49.cell? ⟨gb234,2,none⟩ = some (.int .i64 a0_2):=(blk_cell BK234.out 2).trans rfl;have hfz54_0:=blk_frozen BK234.out 0;have hfz54_1:=blk_frozen BK234.out 1;have hfz54_2:=blk_frozen BK234.out 2)|((with_reducible refine gate_callee (f:=38) rfl ?_);refine goesL_ (some 39) rfl rfl Try.func38 (by kernel_rfl) rfl #[.agg #[.int .i64 a0_0,.int .i64 a0_1,.int .i64 a0_2],.slice A244_0 ((rd_T55 l3 x32_2).f0).length c244_0] rfl (by (try simp only [List.map_toArray,List.map_cons,List.map_nil]);first|done|rfl) ?_;(with_reducible refine (impl_DecodeShards.calls k2 a0_0 a0_1 a0_2 _ _ ((rd_T55 l3 x32_2).f0) t246 t247 _ ?side1 ?side2 A21.out).mono ?_);(case side1=>exact Kd.C_below HR244_0.out (by repeat (first|(with_reducible first|exact HB.out|apply below_alloc|apply pw_below_drewN|apply below_drew1|refine below_set ?_ GE234.out|refine below_set ?_ GE235.out|refine below_set ?_ GE245.out)|exact HB.out)));(case side2=>exact HC244_0.out);rintro e w55 ⟨v248,rfl,ho0,hb⟩;refine ⟨_,rfl,?_⟩;have n0_:=Aside0.mk (Kd.R_below (by (with_reducible repeat (first|apply Kd.R_alloc|apply Kd.R_drewN));exact (Kd.R_mono (Kd.R_far (p:=⟨gb245,0,none⟩) (Kd.R_types HO_10.out BK245.out (by decide)) (fun _ hk=>hk.2) (.slice A244_0 ((rd_T55 l3 x32_2).f0).length c244_0)) (fun _ h_=>h_.1))) hb);have n1_:=Aside0.mk (Kd.R_lower ho0 (below_size (by repeat (first|(with_reducible first|exact HB.out|apply below_alloc|apply pw_below_drewN|apply below_drew1|refine below_set ?_ GE234.out|refine below_set ?_ GE235.out|refine below_set ?_ GE245.out)|exact HB.out))));have n2_:=Aside0.mk (blk_below (g:=gb234) (o:=.cells #[.int .i64 a0_0,.int .i64 a0_1,.int .i64 a0_2] 43 (0,0)) (by (with_reducible repeat first|refine blk_drewN ?_ _|refine blk_alloc ?_ _);refine blk_far ?_ NB234_245.out _;(with_reducible repeat first|refine blk_drewN ?_ _|refine blk_alloc ?_ _);exact BK234.out) hb);have n3_:=Aside0.mk (blk_below (g:=gb235) (o:=.cells #[.int .i64 x236000_2,.string x236001_2] 63 (0,0)) (by (with_reducible repeat first|refine blk_drewN ?_ _|refine blk_alloc ?_ _);refine blk_far ?_ NB235_245.out _;(with_reducible repeat first|refine blk_drewN ?_ _|refine blk_alloc ?_ _);exact BK235.out) hb);have n4_:=Aside0.mk (blk_below (g:=gb245) (o:=.cells #[.slice A244_0 ((rd_T55 l3 x32_2).f0).length c244_0] 55 (0,0)) (by (with_reducible repeat first|refine blk_drewN ?_ _|refine blk_alloc ?_ _);refine blk_put (cs:=#[.slice none 0 0]) ?_ 0 _ rfl;(with_reducible repeat first|refine blk_drewN ?_ _|refine blk_alloc ?_ _);exact BK245.out) hb);have n5_:=Aside0.mk (below_step (by repeat (first|(with_reducible first|exact HB.out|apply below_alloc|apply pw_below_drewN|apply below_drew1|refine below_set ?_ GE234.out|refine below_set ?_ GE235.out|refine below_set ?_ GE245.out)|exact HB.out)) hb);clear HO_10 BK234 BK235 BK245 HB;have HO_10:=n0_;have HO249:=n1_;have BK234:=n2_;have BK235:=n3_;have BK245:=n4_;have HB:=n5_;clear n0_ n1_ n2_ n3_ n4_ n5_;(try clear hb);(try clear hb2);(try clear hk);(try clear hi);(try clear ho0))|((with_reducible refine gate_dst (N:=13) rfl ?_);(try (refine gate_guard (by rfl) ?_;dsimp only));refine box_event ?hg (N:=13) ?hd (cs:=#[.int .i64 0,.slice none 0 0]) (t:=68) ?hr ?_;(case hd=>rfl);(case hg=>rfl);(case hr=>first|(go_simp;done)|(go_simp;rfl));intro gb250 hg w56 hbox hb;have n0_:=Aside0.mk (Kd.R_below (by (with_reducible repeat (first|apply Kd.R_alloc|apply Kd.R_drewN));exact HO_10.out) hb);have n1_:=Aside0.mk (Kd.R_below (by (with_reducible repeat (first|apply Kd.R_alloc|apply Kd.R_drewN));exact HO249.out) hb);have n2_:=Aside0.mk (blk_below (g:=gb234) (o:=.cells #[.int .i64 a0_0,.int .i64 a0_1,.int .i64 a0_2] 43 (0,0)) (by (with_reducible repeat first|refine blk_drewN ?_ _|refine blk_alloc ?_ _);exact BK234.out) hb);have n3_:=Aside0.mk (blk_below (g:=gb235) (o:=.cells #[.int .i64 x236000_2,.string x236001_2] 63 (0,0)) (by (with_reducible repeat first|refine blk_drewN ?_ _|refine blk_alloc ?_ _);exact BK235.out) hb);have n4_:=Aside0.mk (blk_below (g:=gb245) (o:=.cells #[.slice A244_0 ((rd_T55 l3 x32_2).f0).length c244_0] 55 (0,0)) (by (with_reducible repeat first|refine blk_drewN ?_ _|refine blk_alloc ?_ _);exact BK245.out) hb);have n5_:=Aside0.mk (below_step (by repeat (first|(with_reducible first|exact HB.out|apply below_alloc|apply pw_below_drewN|apply below_drew1|refine below_set ?_ GE234.out|refine below_set ?_ GE235.out|refine below_set ?_ GE245.out)|exact HB.out)) hb);have n6_:=Aside0.mk (hbox);have n7_:=Aside0.mk ((by rw [hg];exact (below_size (by repeat (first|(with_reducible first|exact HB.out|apply below_alloc|apply pw_below_drewN|apply below_drew1|refine below_set ?_ GE234.out|refine below_set ?_ GE235.out|refine below_set ?_ GE245.out)|exact HB.out))) : w.heap.size ≤ gb250));have n8_:=Aside0.mk ((by rw [hg];exact (below_size (by repeat (first|(with_reducible first|exact HB.out|apply below_alloc|apply pw_below_drewN|apply below_drew1|refine below_set ?_ GE234.out|refine below_set ?_ GE235.out|refine below_set ?_ GE245.out)|exact HB.out))) : w.heap.size ≤ gb250));have n9_:=Aside0.mk ((by rw [hg];exact Nat.ne_of_lt (blk_lt (g:=gb234) (o:=.cells #[.int .i64 a0_0,.int .i64 a0_1,.int .i64 a0_2] 43 (0,0)) (by (with_reducible repeat first|refine blk_drewN ?_ _|refine blk_alloc ?_ _);exact BK234.out)) : gb234 ≠ gb250));have n10_:=Aside0.mk ((by rw [hg];exact Nat.ne_of_gt (blk_lt (g:=gb234) (o:=.cells #[.int .i64 a0_0,.int .i64 a0_1,.int .i64 a0_2] 43 (0,0)) (by (with_reducible repeat first|refine blk_drewN ?_ _|refine blk_alloc ?_ _);exact BK234.out)) : gb250 ≠ gb234));have n11_:=Aside0.mk ((by rw [hg];exact Nat.ne_of_lt (blk_lt (g:=gb235) (o:=.cells #[.int .i64 x236000_2,.string x236001_2] 63 (0,0)) (by (with_reducible repeat first|refine blk_drewN ?_ _|refine blk_alloc ?_ _);exact BK235.out)) : gb235 ≠ gb250));have n12_:=Aside0.mk ((by rw [hg];exact Nat.ne_of_gt (blk_lt (g:=gb235) (o:=.cells #[.int .i64 x236000_2,.string x236001_2] 63 (0,0)) (by (with_reducible repeat first|refine blk_drewN ?_ _|refine blk_alloc ?_ _);exact BK235.out)) : gb250 ≠ gb235));have n13_:=Aside0.mk ((by rw [hg];exact Nat.ne_of_lt (blk_lt (g:=gb245) (o:=.cells #[.slice A244_0 ((rd_T55 l3 x32_2).f0).length c244_0] 55 (0,0)) (by (with_reducible repeat first|refine blk_drewN ?_ _|refine blk_alloc ?_ _);exact BK245.out)) : gb245 ≠ gb250));have n14_:=Aside0.mk ((by rw [hg];exact Nat.ne_of_gt (blk_lt (g:=gb245) (o:=.cells #[.slice A244_0 ((rd_T55 l3 x32_2).f0).length c244_0] 55 (0,0)) (by (with_reducible repeat first|refine blk_drewN ?_ _|refine blk_alloc ?_ _);exact BK245.out)) : gb250 ≠ gb245));clear HO_10 HO249 BK234 BK235 BK245 HB;have HO_10:=n0_;have HO249:=n1_;have BK234:=n2_;have BK235:=n3_;have BK245:=n4_;have HB:=n5_;have BK250:=n6_;have GW250:=n7_;have GE250:=n8_;have NB234_250:=n9_;have NB250_234:=n10_;have NB235_250:=n11_;have NB250_235:=n12_;have NB245_250:=n13_;have NB250_245:=n14_;clear n0_ n1_ n2_ n3_ n4_ n5_ n6_ n7_ n8_ n9_ n10_ n11_ n12_ n13_ n14_ hb hbox hg;have hnb57:=NB250_234.out;have hnc57:=NB234_250.out;have hnb58:=NB250_235.out;have hnc58:=NB235_250.out;have hnb59:=NB250_245.out;have hnc59:=NB245_250.out;have hcz60_0 : w56.cell? ⟨gb250,0,none⟩ = some (.int .i64 0):=(blk_cell BK250.out 0).trans rfl;have hcz60_1 : w56.cell? ⟨gb250,1,none⟩ = some (.slice none 0 0):=(blk_cell BK250.out 1).trans rfl;have hfz60_0:=blk_frozen BK250.out 0;have hfz60_1:=blk_frozen BK250.out 1;obtain ⟨Ao61,co61,eo61⟩:=Kd.R_slice HO249.out;subst eo61;have p251 : 0 ≤ (0 : Int):=(by omega);have q251 : 0 < (t247.length : Int):=of_decide_eq_true (by first|(with_reducible assumption)|assumption);obtain ⟨ad251,e251,hx251_0⟩:=Kd.at_string (Kd.R_reads' HO249.out).2.2 0 p251 q251;cases e251;have qi251 : (0 < t247.length) = True:=eq_true (by omega);(try rw [show ((0 : Int)).toNat = 0 from rfl] at hx251_0);(try rw [Addr.add_zero'] at hx251_0);have hn251_0 : ad251.block ≠ gb250:=Kd.own_blk (Kd.R_ne HO249.out BK250.out (by decide));have hn251_1 : ad251.block ≠ gb250:=Kd.own_blk (Kd.R_ne HO249.out BK250.out (by decide));replace hx251_0:=(cell_far (p:=⟨gb250,0,none⟩) (by first|(rw [add_block];exact hn251_0)|(show (Addr.add _ _).block ≠ _;rw [add_block];exact hn251_0)|exact hn251_0) (.int .i64 t246)).trans hx251_0;replace hx251_0:=(cell_far (p:=⟨gb250,1,none⟩) (by first|(rw [add_block];exact hn251_1)|(show (Addr.add _ _).block ≠ _;rw [add_block];exact hn251_1)|exact hn251_1) (.slice (some ad251) t247.length co61)).trans hx251_0;clear hn251_0 hn251_1;replace p251:=eq_true p251;replace q251:=eq_true q251;have hcz62_0 : w56.cell? ⟨gb235,0,none⟩ = some (.int .i64 x236000_2):=(blk_cell BK235.out 0).trans rfl;have hcz62_1 : w56.cell? ⟨gb235,1,none⟩ = some (.string x236001_2):=(blk_cell BK235.out 1).trans rfl;have hfz62_0:=blk_frozen BK235.out 0;have hfz62_1:=blk_frozen BK235.out 1))
            refine bodyPost_ret (results_cell_row rfl _ _ gb235 63 #[.int .i64 2,.string (⟨#[]⟩ : ByteArray)] (0,0) _ rfl (by (with_reducible repeat first|refine blk_drewN ?_ _|refine blk_alloc ?_ _);refine blk_put (cs:=#[.int .i64 2,.string x236001_2]) ?_ 1 _ rfl;(with_reducible repeat first|refine blk_drewN ?_ _|refine blk_alloc ?_ _);refine blk_put (cs:=#[.int .i64 x236000_2,.string x236001_2]) ?_ 0 _ rfl;(with_reducible repeat first|refine blk_drewN ?_ _|refine blk_alloc ?_ _);refine blk_far ?_ NB235_250.out _;(with_reducible repeat first|refine blk_drewN ?_ _|refine blk_alloc ?_ _);refine blk_far ?_ NB235_250.out _;(with_reducible repeat first|refine blk_drewN ?_ _|refine blk_alloc ?_ _);exact BK235.out) Try.underlying63 rfl (by kernel_rfl)) rfl ?_
            exact ⟨by first|rfl|(simp [errW_none,errW_some] <;> rfl)|(simp [*,errW_none,errW_some] <;> rfl),by repeat (first|(with_reducible first|exact HB.out|apply below_alloc|apply pw_below_drewN|apply below_drew1|refine below_set ?_ GE234.out|refine below_set ?_ GE235.out|refine below_set ?_ GE245.out|refine below_set ?_ GE250.out)|exact HB.out)⟩
          ·rw [if_neg c23] at H
           exact absurd H (by simp)
         ·rw [if_neg c22] at H
          have c22b0 : (t246 == 0) = false:=beq_eq_false_iff_ne.mpr c22
          have c22b1 : (t246 != 0) = true:=bne_iff_ne.mpr c22
          simp only [Option.some.injEq,Prod.mk.injEq] at H
          obtain ⟨rfl,rfl⟩:=H
          have p244 : 0 ≤ (x32_2 : Int):=of_decide_eq_true (by first|(with_reducible assumption)|assumption)
          have q244 : x32_2 < (l3.length : Int):=of_decide_eq_true (by first|(with_reducible assumption)|assumption)
          obtain ⟨ad244,A244_0,c244_0,e244,hx244_0,hl244_0,hi244_0⟩:=at_T55 HR3.out x32_2 p244 q244
          cases e244
          replace hx244_0:=(HB.out.cell (World.block_lt_of_cell? w _ hx244_0)).trans hx244_0
          have HR244_0:=Aside0.mk hi244_0
          have HC244_0:=Aside0.mk hl244_0
          clear hi244_0 hl244_0
          replace p244:=eq_true p244
          replace q244:=eq_true q244
          go_wp2_with (first|((with_reducible refine gate_dst (N:=12) rfl ?_);(try (refine gate_guard (by rfl) ?_;dsimp only));refine box_event ?hg (N:=12) ?hd (cs:=#[.slice none 0 0]) (t:=55) ?hr ?_;(case hd=>rfl);(case hg=>rfl);(case hr=>first|(go_simp;done)|(go_simp;rfl));intro gb245 hg w63 hbox hb;have n0_:=Aside0.mk (Kd.R_below (by (with_reducible repeat (first|apply Kd.R_alloc|apply Kd.R_drewN));exact HO_10.out) hb);have n1_:=Aside0.mk (blk_below (g:=gb234) (o:=.cells #[.int .i64 a0_0,.int .i64 a0_1,.int .i64 a0_2] 43 (0,0)) (by (with_reducible repeat first|refine blk_drewN ?_ _|refine blk_alloc ?_ _);exact BK234.out) hb);have n2_:=Aside0.mk (blk_below (g:=gb235) (o:=.cells #[.int .i64 x236000_2,.string x236001_2] 63 (0,0)) (by (with_reducible repeat first|refine blk_drewN ?_ _|refine blk_alloc ?_ _);exact BK235.out) hb);have n3_:=Aside0.mk (below_step (by repeat (first|(with_reducible first|exact HB.out|apply below_alloc|apply pw_below_drewN|apply below_drew1|refine below_set ?_ GE234.out|refine below_set ?_ GE235.out)|exact HB.out)) hb);have n4_:=Aside0.mk (hbox);have n5_:=Aside0.mk ((by rw [hg];exact (below_size (by repeat (first|(with_reducible first|exact HB.out|apply below_alloc|apply pw_below_drewN|apply below_drew1|refine below_set ?_ GE234.out|refine below_set ?_ GE235.out)|exact HB.out))) : w.heap.size ≤ gb245));have n6_:=Aside0.mk ((by rw [hg];exact (below_size (by repeat (first|(with_reducible first|exact HB.out|apply below_alloc|apply pw_below_drewN|apply below_drew1|refine below_set ?_ GE234.out|refine below_set ?_ GE235.out)|exact HB.out))) : w.heap.size ≤ gb245));have n7_:=Aside0.mk ((by rw [hg];exact Nat.ne_of_lt (blk_lt (g:=gb234) (o:=.cells #[.int .i64 a0_0,.int .i64 a0_1,.int .i64 a0_2] 43 (0,0)) (by (with_reducible repeat first|refine blk_drewN ?_ _|refine blk_alloc ?_ _);exact BK234.out)) : gb234 ≠ gb245));have n8_:=Aside0.mk ((by rw [hg];exact Nat.ne_of_gt (blk_lt (g:=gb234) (o:=.cells #[.int .i64 a0_0,.int .i64 a0_1,.int .i64 a0_2] 43 (0,0)) (by (with_reducible repeat first|refine blk_drewN ?_ _|refine blk_alloc ?_ _);exact BK234.out)) : gb245 ≠ gb234));have n9_:=Aside0.mk ((by rw [hg];exact Nat.ne_of_lt (blk_lt (g:=gb235) (o:=.cells #[.int .i64 x236000_2,.string x236001_2] 63 (0,0)) (by (with_reducible repeat first|refine blk_drewN ?_ _|refine blk_alloc ?_ _);exact BK235.out)) : gb235 ≠ gb245));have n10_:=Aside0.mk ((by rw [hg];exact Nat.ne_of_gt (blk_lt (g:=gb235) (o:=.cells #[.int .i64 x236000_2,.string x236001_2] 63 (0,0)) (by (with_reducible repeat first|refine blk_drewN ?_ _|refine blk_alloc ?_ _);exact BK235.out)) : gb245 ≠ gb235));clear HO_10 BK234 BK235 HB;have HO_10:=n0_;have BK234:=n1_;have BK235:=n2_;have HB:=n3_;have BK245:=n4_;have GW245:=n5_;have GE245:=n6_;have NB234_245:=n7_;have NB245_234:=n8_;have NB235_245:=n9_;have NB245_235:=n10_;clear n0_ n1_ n2_ n3_ n4_ n5_ n6_ n7_ n8_ n9_ n10_ hb hbox hg;have hnb64:=NB245_234.out;have hnc64:=NB234_245.out;have hnb65:=NB245_235.out;have hnc65:=NB235_245.out;have hcz66_0 : w63.cell? ⟨gb245,0,none⟩ = some (.slice none 0 0):=(blk_cell BK245.out 0).trans rfl;have hfz66_0:=blk_frozen BK245.out 0;have hnb67:=NB234_235.out;have hnc67:=NB235_234.out;have hcz68_0 : w63.cell? ⟨gb234,0,none⟩ = some (.int .i64 a0_0):=(blk_cell BK234.out 0).trans rfl;have hcz68_1 : w63.cell? ⟨gb234,1,none⟩ = some (.int .i64 a0_1):=(blk_cell BK234.out 1).trans rfl;have hcz68_2 : w63.cell? ⟨gb234,2,none⟩ = some (.int .i64 a0_2):=(blk_cell BK234.out 2).trans rfl;have hfz68_0:=blk_frozen BK234.out 0;have hfz68_1:=blk_frozen BK234.out 1;have hfz68_2:=blk_frozen BK234.out 2)|((with_reducible refine gate_callee (f:=38) rfl ?_);refine goesL_ (some 39) rfl rfl Try.func38 (by kernel_rfl) rfl #[.agg #[.int .i64 a0_0,.int .i64 a0_1,.int .i64 a0_2],.slice A244_0 ((rd_T55 l3 x32_2).f0).length c244_0] rfl (by (try simp only [List.map_toArray,List.map_cons,List.map_nil]);first|done|rfl) ?_;(with_reducible refine (impl_DecodeShards.calls k2 a0_0 a0_1 a0_2 _ _ ((rd_T55 l3 x32_2).f0) t246 t247 _ ?side1 ?side2 A21.out).mono ?_);(case side1=>exact Kd.C_below HR244_0.out (by repeat (first|(with_reducible first|exact HB.out|apply below_alloc|apply pw_below_drewN|apply below_drew1|refine below_set ?_ GE234.out|refine below_set ?_ GE235.out|refine below_set ?_ GE245.out)|exact HB.out)));(case side2=>exact HC244_0.out);rintro e w69 ⟨v248,rfl,ho0,hb⟩;refine ⟨_,rfl,?_⟩;have n0_:=Aside0.mk (Kd.R_below (by (with_reducible repeat (first|apply Kd.R_alloc|apply Kd.R_drewN));exact (Kd.R_mono (Kd.R_far (p:=⟨gb245,0,none⟩) (Kd.R_types HO_10.out BK245.out (by decide)) (fun _ hk=>hk.2) (.slice A244_0 ((rd_T55 l3 x32_2).f0).length c244_0)) (fun _ h_=>h_.1))) hb);have n1_:=Aside0.mk (Kd.R_lower ho0 (below_size (by repeat (first|(with_reducible first|exact HB.out|apply below_alloc|apply pw_below_drewN|apply below_drew1|refine below_set ?_ GE234.out|refine below_set ?_ GE235.out|refine below_set ?_ GE245.out)|exact HB.out))));have n2_:=Aside0.mk (blk_below (g:=gb234) (o:=.cells #[.int .i64 a0_0,.int .i64 a0_1,.int .i64 a0_2] 43 (0,0)) (by (with_reducible repeat first|refine blk_drewN ?_ _|refine blk_alloc ?_ _);refine blk_far ?_ NB234_245.out _;(with_reducible repeat first|refine blk_drewN ?_ _|refine blk_alloc ?_ _);exact BK234.out) hb);have n3_:=Aside0.mk (blk_below (g:=gb235) (o:=.cells #[.int .i64 x236000_2,.string x236001_2] 63 (0,0)) (by (with_reducible repeat first|refine blk_drewN ?_ _|refine blk_alloc ?_ _);refine blk_far ?_ NB235_245.out _;(with_reducible repeat first|refine blk_drewN ?_ _|refine blk_alloc ?_ _);exact BK235.out) hb);have n4_:=Aside0.mk (blk_below (g:=gb245) (o:=.cells #[.slice A244_0 ((rd_T55 l3 x32_2).f0).length c244_0] 55 (0,0)) (by (with_reducible repeat first|refine blk_drewN ?_ _|refine blk_alloc ?_ _);refine blk_put (cs:=#[.slice none 0 0]) ?_ 0 _ rfl;(with_reducible repeat first|refine blk_drewN ?_ _|refine blk_alloc ?_ _);exact BK245.out) hb);have n5_:=Aside0.mk (below_step (by repeat (first|(with_reducible first|exact HB.out|apply below_alloc|apply pw_below_drewN|apply below_drew1|refine below_set ?_ GE234.out|refine below_set ?_ GE235.out|refine below_set ?_ GE245.out)|exact HB.out)) hb);clear HO_10 BK234 BK235 BK245 HB;have HO_10:=n0_;have HO249:=n1_;have BK234:=n2_;have BK235:=n3_;have BK245:=n4_;have HB:=n5_;clear n0_ n1_ n2_ n3_ n4_ n5_;(try clear hb);(try clear hb2);(try clear hk);(try clear hi);(try clear ho0))|((with_reducible refine gate_dst (N:=13) rfl ?_);(try (refine gate_guard (by rfl) ?_;dsimp only));refine box_event ?hg (N:=13) ?hd (cs:=#[.int .i64 0,.slice none 0 0]) (t:=68) ?hr ?_;(case hd=>rfl);(case hg=>rfl);(case hr=>first|(go_simp;done)|(go_simp;rfl));intro gb250 hg w70 hbox hb;have n0_:=Aside0.mk (Kd.R_below (by (with_reducible repeat (first|apply Kd.R_alloc|apply Kd.R_drewN));exact HO_10.out) hb);have n1_:=Aside0.mk (Kd.R_below (by (with_reducible repeat (first|apply Kd.R_alloc|apply Kd.R_drewN));exact HO249.out) hb);have n2_:=Aside0.mk (blk_below (g:=gb234) (o:=.cells #[.int .i64 a0_0,.int .i64 a0_1,.int .i64 a0_2] 43 (0,0)) (by (with_reducible repeat first|refine blk_drewN ?_ _|refine blk_alloc ?_ _);exact BK234.out) hb);have n3_:=Aside0.mk (blk_below (g:=gb235) (o:=.cells #[.int .i64 x236000_2,.string x236001_2] 63 (0,0)) (by (with_reducible repeat first|refine blk_drewN ?_ _|refine blk_alloc ?_ _);exact BK235.out) hb);have n4_:=Aside0.mk (blk_below (g:=gb245) (o:=.cells #[.slice A244_0 ((rd_T55 l3 x32_2).f0).length c244_0] 55 (0,0)) (by (with_reducible repeat first|refine blk_drewN ?_ _|refine blk_alloc ?_ _);exact BK245.out) hb);have n5_:=Aside0.mk (below_step (by repeat (first|(with_reducible first|exact HB.out|apply below_alloc|apply pw_below_drewN|apply below_drew1|refine below_set ?_ GE234.out|refine below_set ?_ GE235.out|refine below_set ?_ GE245.out)|exact HB.out)) hb);have n6_:=Aside0.mk (hbox);have n7_:=Aside0.mk ((by rw [hg];exact (below_size (by repeat (first|(with_reducible first|exact HB.out|apply below_alloc|apply pw_below_drewN|apply below_drew1|refine below_set ?_ GE234.out|refine below_set ?_ GE235.out|refine below_set ?_ GE245.out)|exact HB.out))) : w.heap.size ≤ gb250));have n8_:=Aside0.mk ((by rw [hg];exact (below_size (by repeat (first|(with_reducible first|exact HB.out|apply below_alloc|apply pw_below_drewN|apply below_drew1|refine below_set ?_ GE234.out|refine below_set ?_ GE235.out|refine below_set ?_ GE245.out)|exact HB.out))) : w.heap.size ≤ gb250));have n9_:=Aside0.mk ((by rw [hg];exact Nat.ne_of_lt (blk_lt (g:=gb234) (o:=.cells #[.int .i64 a0_0,.int .i64 a0_1,.int .i64 a0_2] 43 (0,0)) (by (with_reducible repeat first|refine blk_drewN ?_ _|refine blk_alloc ?_ _);exact BK234.out)) : gb234 ≠ gb250));have n10_:=Aside0.mk ((by rw [hg];exact Nat.ne_of_gt (blk_lt (g:=gb234) (o:=.cells #[.int .i64 a0_0,.int .i64 a0_1,.int .i64 a0_2] 43 (0,0)) (by (with_reducible repeat first|refine blk_drewN ?_ _|refine blk_alloc ?_ _);exact BK234.out)) : gb250 ≠ gb234));have n11_:=Aside0.mk ((by rw [hg];exact Nat.ne_of_lt (blk_lt (g:=gb235) (o:=.cells #[.int .i64 x236000_2,.string x236001_2] 63 (0,0)) (by (with_reducible repeat first|refine blk_drewN ?_ _|refine blk_alloc ?_ _);exact BK235.out)) : gb235 ≠ gb250));have n12_:=Aside0.mk ((by rw [hg];exact Nat.ne_of_gt (blk_lt (g:=gb235) (o:=.cells #[.int .i64 x236000_2,.string x236001_2] 63 (0,0)) (by (with_reducible repeat first|refine blk_drewN ?_ _|refine blk_alloc ?_ _);exact BK235.out)) : gb250 ≠ gb235));have n13_:=Aside0.mk ((by rw [hg];exact Nat.ne_of_lt (blk_lt (g:=gb245) (o:=.cells #[.slice A244_0 ((rd_T55 l3 x32_2).f0).length c244_0] 55 (0,0)) (by (with_reducible repeat first|refine blk_drewN ?_ _|refine blk_alloc ?_ _);exact BK245.out)) : gb245 ≠ gb250));have n14_:=Aside0.mk ((by rw [hg];exact Nat.ne_of_gt (blk_lt (g:=gb245) (o:=.cells #[.slice A244_0 ((rd_T55 l3 x32_2).f0).length c244_0] 55 (0,0)) (by (with_reducible repeat first|refine blk_drewN ?_ _|refine blk_alloc ?_ _);exact BK245.out)) : gb250 ≠ gb245));clear HO_10 HO249 BK234 BK235 BK245 HB;have HO_10:=n0_;have HO249:=n1_;have BK234:=n2_;have BK235:=n3_;have BK245:=n4_;have HB:=n5_;have BK250:=n6_;have GW250:=n7_;have GE250:=n8_;have NB234_250:=n9_;have NB250_234:=n10_;have NB235_250:=n11_;have NB250_235:=n12_;have NB245_250:=n13_;have NB250_245:=n14_;clear n0_ n1_ n2_ n3_ n4_ n5_ n6_ n7_ n8_ n9_ n10_ n11_ n12_ n13_ n14_ hb hbox hg;have hnb71:=NB250_234.out;have hnc71:=NB234_250.out;have hnb72:=NB250_235.out;have hnc72:=NB235_250.out;have hnb73:=NB250_245.out;have hnc73:=NB245_250.out;have hcz74_0 : w70.cell? ⟨gb250,0,none⟩ = some (.int .i64 0):=(blk_cell BK250.out 0).trans rfl;have hcz74_1 : w70.cell? ⟨gb250,1,none⟩ = some (.slice none 0 0):=(blk_cell BK250.out 1).trans rfl;have hfz74_0:=blk_frozen BK250.out 0;have hfz74_1:=blk_frozen BK250.out 1;obtain ⟨Ao75,co75,eo75⟩:=Kd.R_slice HO249.out;subst eo75;have hcz76_0 : w70.cell? ⟨gb235,0,none⟩ = some (.int .i64 x236000_2):=(blk_cell BK235.out 0).trans rfl;have hcz76_1 : w70.cell? ⟨gb235,1,none⟩ = some (.string x236001_2):=(blk_cell BK235.out 1).trans rfl;have hfz76_0:=blk_frozen BK235.out 0;have hfz76_1:=blk_frozen BK235.out 1))
          refine bodyPost_ret (results_cell_row rfl _ _ gb235 63 #[.int .i64 t246,.string (⟨#[]⟩ : ByteArray)] (0,0) _ rfl (by (with_reducible repeat first|refine blk_drewN ?_ _|refine blk_alloc ?_ _);refine blk_put (cs:=#[.int .i64 t246,.string x236001_2]) ?_ 1 _ rfl;(with_reducible repeat first|refine blk_drewN ?_ _|refine blk_alloc ?_ _);refine blk_put (cs:=#[.int .i64 x236000_2,.string x236001_2]) ?_ 0 _ rfl;(with_reducible repeat first|refine blk_drewN ?_ _|refine blk_alloc ?_ _);refine blk_far ?_ NB235_250.out _;(with_reducible repeat first|refine blk_drewN ?_ _|refine blk_alloc ?_ _);refine blk_far ?_ NB235_250.out _;(with_reducible repeat first|refine blk_drewN ?_ _|refine blk_alloc ?_ _);exact BK235.out) Try.underlying63 rfl (by kernel_rfl)) rfl ?_
          exact ⟨by first|rfl|(simp [errW_none,errW_some] <;> rfl)|(simp [*,errW_none,errW_some] <;> rfl),by repeat (first|(with_reducible first|exact HB.out|apply below_alloc|apply pw_below_drewN|apply below_drew1|refine below_set ?_ GE234.out|refine below_set ?_ GE235.out|refine below_set ?_ GE245.out|refine below_set ?_ GE250.out)|exact HB.out)⟩
        ·rw [if_neg c20] at H
         exact absurd H (by simp)
       ·rw [if_neg c19] at H
        exact absurd H (by simp)
      ·rw [if_neg c18] at H
       have c18b0 : decide (x32_2 < (l3.length : Int)) = false:=decide_eq_false c18
       clear c18
       by_cases c77 : 0 ≤ a2
       ·rw [if_pos c77] at H
        have c77b0:=eq_true c77
        have c77b1 : decide (0 ≤ a2) = true:=decide_eq_true c77
        clear c77
        by_cases c78 : a2 ≤ (x10_2.length : Int)
        ·rw [if_pos c78] at H
         have c78b0:=eq_true c78
         have c78b1 : decide (a2 ≤ (x10_2.length : Int)) = true:=decide_eq_true c78
         clear c78
         obtain ⟨y240,hy240⟩ : ∃ y_ : List Int,y_ = (x10_2.take (a2 : Int).toNat):=⟨_,rfl⟩
         replace H : (some (0,strOfNums y240)) = some (r1,r2):=by first|(rw [hy240];with_reducible exact H)|(have H2_:=(Option.bind_some _ _).symm.trans H;rw [hy240];with_reducible exact H2_)|(have H2_:=(Option.bind_some _ _).symm.trans H;with_reducible exact H2_)|with_reducible exact H|(rw [hy240];exact H)|exact H
         have Ny240:=Aside0.mk hy240
         clear hy240
         simp only [Option.some.injEq,Prod.mk.injEq] at H
         obtain ⟨rfl,rfl⟩:=H
         obtain ⟨Ao80,co80,eo80⟩:=Kd.R_slice HO_10.out
         subst eo80
         have q79 : (a2 : Int) ≤ ((x10_2.length : Int) : Int):=of_decide_eq_true (by first|(with_reducible assumption)|assumption)
         obtain ⟨i079,hi079,_,hsz79,_⟩:=info_parts info5
         have hroom79 : x10_2.length ≤ co80:=(Kd.R_reads' HO_10.out).2.1
         have hC79 : Kd.C (Kd.int .u8) _ Ao80 x10_2.length x10_2:=(Kd.R_reads' HO_10.out).2.2
         have hcut79:=cut_to (P:=Try.prog) 37 5 .i64 Try.underlying37 hi079 Ao80 x10_2.length co80 a2 (of_decide_eq_true (by first|(with_reducible assumption)|assumption)) q79 hroom79
         have hr79:=Kd.C_take (m:=(a2 : Int).toNat) hC79 (by omega)
         have hy79 : y240.length = (a2 : Int).toNat:=(by rw [Ny240.out,List.length_take];omega)
         rw [← Ny240.out] at hr79
         rw [← hy79] at hcut79
         have HR243:=Aside0.mk hr79
         have HC243:=Aside0.mk (show y240.length ≤ co80 from by omega)
         clear hr79 hC79 hroom79 hi079 hsz79
         have KY79:=Aside0.mk hy79
         clear hy79
         have KL79:=Aside0.mk (show (a2 : Int).toNat ≤ x10_2.length from by omega)
         replace q79:=eq_true q79
         have hcv81:=Kd.C_string (P:=Try.prog) (A:=Ao80) (c:=co80) Try.underlying37 Try.underlying5 Try.underlying9 (by repeat (first|(with_reducible exact HR243.out)|(with_reducible refine Kd.C_alloc ?_ _)|(with_reducible refine Kd.C_drewN ?_ _)|(with_reducible refine Kd.C_drew ?_)|exact HR243.out))
         have hnb82:=NB235_234.out
         have hnc82:=NB234_235.out
         have hcz83_0 : wr.cell? ⟨gb235,0,none⟩ = some (.int .i64 x236000_2):=(blk_cell BK235.out 0).trans rfl
         have hcz83_1 : wr.cell? ⟨gb235,1,none⟩ = some (.string x236001_2):=(blk_cell BK235.out 1).trans rfl
         have hfz83_0:=blk_frozen BK235.out 0
         have hfz83_1:=blk_frozen BK235.out 1
         go_wp2
         refine bodyPost_ret (results_cell_row rfl _ _ gb235 63 #[.int .i64 0,.string (strOfNums y240)] (0,0) _ rfl (by (with_reducible repeat first|refine blk_drewN ?_ _|refine blk_alloc ?_ _);refine blk_put (cs:=#[.int .i64 0,.string x236001_2]) ?_ 1 _ rfl;(with_reducible repeat first|refine blk_drewN ?_ _|refine blk_alloc ?_ _);refine blk_put (cs:=#[.int .i64 x236000_2,.string x236001_2]) ?_ 0 _ rfl;(with_reducible repeat first|refine blk_drewN ?_ _|refine blk_alloc ?_ _);exact BK235.out) Try.underlying63 rfl (by kernel_rfl)) rfl ?_
         exact ⟨by first|rfl|(simp [errW_none,errW_some] <;> rfl)|(simp [*,errW_none,errW_some] <;> rfl),by repeat (first|(with_reducible first|exact HB.out|apply below_alloc|apply pw_below_drewN|apply below_drew1|refine below_set ?_ GE234.out|refine below_set ?_ GE235.out)|exact HB.out)⟩
        ·rw [if_neg c78] at H
         exact absurd H (by simp)
       ·rw [if_neg c77] at H
        exact absurd H (by simp)

end Go.Proofs.Ytffhbpepppodeaa.PFnJoined
