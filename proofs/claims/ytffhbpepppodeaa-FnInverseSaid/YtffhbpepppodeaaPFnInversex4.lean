import Derived.Test.YtffhbpepppodeaaPFnInversex0
import Derived.Test.YtffhbpepppodeaaPFnInversex3
namespace Go.Proofs.Ytffhbpepppodeaa.PFnInverse
open Go.RowKit Go.Proofs.YtffhbpepppodeaaW.PrintWords Go.Proofs.YtffhbpepppodeaaW.PrintLast Go.Proofs.YtffhbpepppodeaaW.PrintMore
attribute [local go_sem] max2_int min2_int max_two min_two max_three min_three max_four min_four   -- for this text's walks alone
set_option linter.unusedVariables false
set_option linter.unusedSimpArgs false

/-! ### spec_l03Clear: function 69 -/
mutual
def spec_l03Clear.l0 : Nat → Int → Int → Int → Int → Int → Int → List Int → Option (List Int)
 | 0,_,_,_,_,_,_,_=>none
 | k + 1,x1,x2,x6,x7,x122000,x122001,x122002=>if x7 < x122001 then ((spec_l03At.f x122000 x122001 x122002 x1 x7).bind fun t124=>((spec_Mul8.f k x6 t124).bind fun t125=>(if 0 ≤ (wrap64 ((wrap64 (x1 * x122001)) + x7)) then (if (wrap64 ((wrap64 (x1 * x122001)) + x7)) < (x122002.length : Int) then (spec_l03Clear.l0 k x1 x2 x6 (wrap64 (x7 + 1)) x122000 x122001 (x122002.set ((wrap64 ((wrap64 (x1 * x122001)) + x7)) : Int).toNat t125)) else (none)) else (none)))) else (spec_l03Clear.l1 k x1 x2 0 x122000 x122001 x122002)
def spec_l03Clear.l1 : Nat → Int → Int → Int → Int → Int → List Int → Option (List Int)
 | 0,_,_,_,_,_,_=>none
 | k + 1,x1,x2,x8,x122000,x122001,x122002=>if x8 < x122000 then ((spec_l03At.f x122000 x122001 x122002 x8 x2).bind fun t127=>(if x8 = x1 then (spec_l03Clear.j2 k x1 x2 x8 t127 true x122000 x122001 x122002) else (spec_l03Clear.j2 k x1 x2 x8 t127 (t127 == 0) x122000 x122001 x122002))) else (some x122002)
def spec_l03Clear.j2 : Nat → Int → Int → Int → Int → Bool → Int → Int → List Int → Option (List Int)
 | 0,_,_,_,_,_,_,_,_=>none
 | k + 1,x1,x2,x8,x9,x53,x122000,x122001,x122002=>if x53 = true then (spec_l03Clear.l1 k x1 x2 (wrap64 (x8 + 1)) x122000 x122001 x122002) else (spec_l03Clear.l2 k x1 x2 x8 x9 0 x122000 x122001 x122002)
def spec_l03Clear.l2 : Nat → Int → Int → Int → Int → Int → Int → Int → List Int → Option (List Int)
 | 0,_,_,_,_,_,_,_,_=>none
 | k + 1,x1,x2,x8,x9,x10,x122000,x122001,x122002=>if x10 < x122001 then ((spec_l03At.f x122000 x122001 x122002 x8 x10).bind fun t128=>((spec_l03At.f x122000 x122001 x122002 x1 x10).bind fun t129=>((spec_Mul8.f k x9 t129).bind fun t130=>(if 0 ≤ (wrap64 ((wrap64 (x8 * x122001)) + x10)) then (if (wrap64 ((wrap64 (x8 * x122001)) + x10)) < (x122002.length : Int) then (spec_l03Clear.l2 k x1 x2 x8 x9 (wrap64 (x10 + 1)) x122000 x122001 (x122002.set ((wrap64 ((wrap64 (x8 * x122001)) + x10)) : Int).toNat (Go.bits .xor .i64 t128 t130))) else (none)) else (none))))) else (spec_l03Clear.l1 k x1 x2 (wrap64 (x8 + 1)) x122000 x122001 x122002)
end
def spec_l03Clear.f (k : Nat) (a0_0 : Int) (a0_1 : Int) (l0_2 : List Int) (a1 : Int) (a2 : Int) : Option (List Int):=(spec_l03At.f a0_0 a0_1 l0_2 a1 a2).bind fun t122=>((spec_Inv8.f k t122).bind fun t123=>(spec_l03Clear.l0 k a1 a2 t123 0 a0_0 a0_1 l0_2))
theorem spec_l03Clear.mono_l : ∀ k,(∀ y0 y1 y2 y3 y4 y5 y6,LeO (spec_l03Clear.l0 k y0 y1 y2 y3 y4 y5 y6) (spec_l03Clear.l0 (k + 1) y0 y1 y2 y3 y4 y5 y6)) ∧ (∀ y0 y1 y2 y3 y4 y5,LeO (spec_l03Clear.l1 k y0 y1 y2 y3 y4 y5) (spec_l03Clear.l1 (k + 1) y0 y1 y2 y3 y4 y5)) ∧ (∀ y0 y1 y2 y3 y4 y5 y6 y7,LeO (spec_l03Clear.j2 k y0 y1 y2 y3 y4 y5 y6 y7) (spec_l03Clear.j2 (k + 1) y0 y1 y2 y3 y4 y5 y6 y7)) ∧ (∀ y0 y1 y2 y3 y4 y5 y6 y7,LeO (spec_l03Clear.l2 k y0 y1 y2 y3 y4 y5 y6 y7) (spec_l03Clear.l2 (k + 1) y0 y1 y2 y3 y4 y5 y6 y7))
 | 0=>⟨fun _ _ _ _ _ _ _ r h=>by simp [spec_l03Clear.l0] at h,fun _ _ _ _ _ _ r h=>by simp [spec_l03Clear.l1] at h,fun _ _ _ _ _ _ _ _ r h=>by simp [spec_l03Clear.j2] at h,fun _ _ _ _ _ _ _ _ r h=>by simp [spec_l03Clear.l2] at h⟩
 | k + 1=>by
  obtain ⟨ih0,ih1,ih2,ih3⟩:=spec_l03Clear.mono_l k
  refine ⟨?_,?_,?_,?_⟩
  ·intro y0 y1 y2 y3 y4 y5 y6
   unfold spec_l03Clear.l0
   repeat' first
   | (with_reducible exact ih0 _ _ _ _ _ _ _)
   | (with_reducible exact ih1 _ _ _ _ _ _)
   | (with_reducible exact ih2 _ _ _ _ _ _ _ _)
   | (with_reducible exact ih3 _ _ _ _ _ _ _ _)
   | (with_reducible exact spec_Inv8.mono _ _)
   | (with_reducible exact spec_Mul8.mono _ _ _)
   | (with_reducible exact LeO.refl _)
   | (with_reducible exact LeO.none _)
   | (with_reducible refine LeO.ite ?_ ?_)
   | (with_reducible refine LeO.bind ?_ (fun _=>?_))
   | exact ih0 _ _ _ _ _ _ _
   | exact ih1 _ _ _ _ _ _
   | exact ih2 _ _ _ _ _ _ _ _
   | exact ih3 _ _ _ _ _ _ _ _
   | exact spec_Inv8.mono _ _
   | exact spec_Mul8.mono _ _ _
   | exact LeO.none _
   | refine LeO.ite ?_ ?_
   | refine LeO.bind ?_ (fun _=>?_)
  ·intro y0 y1 y2 y3 y4 y5
   unfold spec_l03Clear.l1
   repeat' first
   | (with_reducible exact ih0 _ _ _ _ _ _ _)
   | (with_reducible exact ih1 _ _ _ _ _ _)
   | (with_reducible exact ih2 _ _ _ _ _ _ _ _)
   | (with_reducible exact ih3 _ _ _ _ _ _ _ _)
   | (with_reducible exact spec_Inv8.mono _ _)
   | (with_reducible exact spec_Mul8.mono _ _ _)
   | (with_reducible exact LeO.refl _)
   | (with_reducible exact LeO.none _)
   | (with_reducible refine LeO.ite ?_ ?_)
   | (with_reducible refine LeO.bind ?_ (fun _=>?_))
   | exact ih0 _ _ _ _ _ _ _
   | exact ih1 _ _ _ _ _ _
   | exact ih2 _ _ _ _ _ _ _ _
   | exact ih3 _ _ _ _ _ _ _ _
   | exact spec_Inv8.mono _ _
   | exact spec_Mul8.mono _ _ _
   | exact LeO.none _
   | refine LeO.ite ?_ ?_
   | refine LeO.bind ?_ (fun _=>?_)
  ·intro y0 y1 y2 y3 y4 y5 y6 y7
   unfold spec_l03Clear.j2
   repeat' first
   | (with_reducible exact ih0 _ _ _ _ _ _ _)
   | (with_reducible exact ih1 _ _ _ _ _ _)
   | (with_reducible exact ih2 _ _ _ _ _ _ _ _)
   | (with_reducible exact ih3 _ _ _ _ _ _ _ _)
   | (with_reducible exact spec_Inv8.mono _ _)
   | (with_reducible exact spec_Mul8.mono _ _ _)
   | (with_reducible exact LeO.refl _)
   | (with_reducible exact LeO.none _)
   | (with_reducible refine LeO.ite ?_ ?_)
   | (with_reducible refine LeO.bind ?_ (fun _=>?_))
   | exact ih0 _ _ _ _ _ _ _
   | exact ih1 _ _ _ _ _ _
   | exact ih2 _ _ _ _ _ _ _ _
   | exact ih3 _ _ _ _ _ _ _ _
   | exact spec_Inv8.mono _ _
   | exact spec_Mul8.mono _ _ _
   | exact LeO.none _
   | refine LeO.ite ?_ ?_
   | refine LeO.bind ?_ (fun _=>?_)
  ·intro y0 y1 y2 y3 y4 y5 y6 y7
   unfold spec_l03Clear.l2
   repeat' first
   | (with_reducible exact ih0 _ _ _ _ _ _ _)
   | (with_reducible exact ih1 _ _ _ _ _ _)
   | (with_reducible exact ih2 _ _ _ _ _ _ _ _)
   | (with_reducible exact ih3 _ _ _ _ _ _ _ _)
   | (with_reducible exact spec_Inv8.mono _ _)
   | (with_reducible exact spec_Mul8.mono _ _ _)
   | (with_reducible exact LeO.refl _)
   | (with_reducible exact LeO.none _)
   | (with_reducible refine LeO.ite ?_ ?_)
   | (with_reducible refine LeO.bind ?_ (fun _=>?_))
   | exact ih0 _ _ _ _ _ _ _
   | exact ih1 _ _ _ _ _ _
   | exact ih2 _ _ _ _ _ _ _ _
   | exact ih3 _ _ _ _ _ _ _ _
   | exact spec_Inv8.mono _ _
   | exact spec_Mul8.mono _ _ _
   | exact LeO.none _
   | refine LeO.ite ?_ ?_
   | refine LeO.bind ?_ (fun _=>?_)
theorem spec_l03Clear.mono : ∀ a0 a1 a2 a3 a4 k,LeO (spec_l03Clear.f k a0 a1 a2 a3 a4) (spec_l03Clear.f (k + 1) a0 a1 a2 a3 a4):=by
 intro a0 a1 a2 a3 a4 k
 obtain ⟨ih0,ih1,ih2,ih3⟩:=spec_l03Clear.mono_l k
 unfold spec_l03Clear.f
 repeat' first
   | (with_reducible exact ih0 _ _ _ _ _ _ _)
   | (with_reducible exact ih1 _ _ _ _ _ _)
   | (with_reducible exact ih2 _ _ _ _ _ _ _ _)
   | (with_reducible exact ih3 _ _ _ _ _ _ _ _)
   | (with_reducible exact spec_Inv8.mono _ _)
   | (with_reducible exact spec_Mul8.mono _ _ _)
   | (with_reducible exact LeO.refl _)
   | (with_reducible exact LeO.none _)
   | (with_reducible refine LeO.ite ?_ ?_)
   | (with_reducible refine LeO.bind ?_ (fun _=>?_))
   | exact ih0 _ _ _ _ _ _ _
   | exact ih1 _ _ _ _ _ _
   | exact ih2 _ _ _ _ _ _ _ _
   | exact ih3 _ _ _ _ _ _ _ _
   | exact spec_Inv8.mono _ _
   | exact spec_Mul8.mono _ _ _
   | exact LeO.none _
   | refine LeO.ite ?_ ?_
   | refine LeO.bind ?_ (fun _=>?_)
def spec_l03Clear.T5 : Bool × List (List Nat × List Nat):=(true,[([],[]),([0],[0]),([],[]),([],[]),([3],[3]),([2,4],[2,4]),([],[]),([5,6],[5,6]),([],[]),([],[]),([],[]),([],[]),([9,10,11],[9,10,11]),([8,12,12],[8,12]),([1,7,0,1,2,3,4,5,6,7,8,9,10,11,12,13],[1,7]),([14,13,13,0,1,2,3,4,5,6,7,8,9,10,11,12,13],[13,14])])
def spec_l03Clear.B5 : List Nat:=[0,1,0,0,8,28,0,124,0,0,0,0,3584,7936,16383,32767]
theorem spec_l03Clear.tab5 : rtab .any (opsOf Try.f69 5) = spec_l03Clear.T5:=by kernel_rfl
theorem spec_l03Clear.bits5 : waitsOk spec_l03Clear.T5.2 spec_l03Clear.B5 = true:=by kernel_rfl
def spec_l03Clear.T14 : Bool × List (List Nat × List Nat):=(true,[([],[]),([0],[0]),([],[]),([],[]),([3],[3]),([2,4],[2,4]),([],[]),([5,6],[5,6]),([],[]),([],[]),([],[]),([8,9,10],[8,9,10]),([],[]),([],[]),([],[]),([],[]),([13,14,15,11],[13,14,15]),([12,16,16],[12,16]),([11,17],[11,17]),([1,7,0,1,2,3,4,5,6,7,8,9,10,11,12,13,14,15,16,17,18],[1,7]),([19,18,17,0,1,2,3,4,5,6,7,8,9,10,11,12,13,14,15,16,17,18],[18,19])])
def spec_l03Clear.B14 : List Nat:=[0,1,0,0,8,28,0,124,0,0,0,1792,0,0,0,0,61184,130816,261888,524287,1048575]
theorem spec_l03Clear.tab14 : rtab .any (opsOf Try.f69 14) = spec_l03Clear.T14:=by kernel_rfl
theorem spec_l03Clear.bits14 : waitsOk spec_l03Clear.T14.2 spec_l03Clear.B14 = true:=by kernel_rfl
set_option maxHeartbeats 8000000 in
set_option maxRecDepth 100000 in
theorem spec_l03Clear.calls (k : Nat) (a0_0 : Int) (a0_1 : Int) (P0_2_ : Nat → Prop) (u9000_ : Value) (l0_2 : List Int) (a1 : Int) (a2 : Int) (r : List Int) (w0 w : World) (hB : Below w0.heap.size w0 w) (ho0_2 : Kd.R (Kd.int .i64) 2 w w0.heap.size P0_2_ u9000_ l0_2) (h : spec_l03Clear.f k a0_0 a0_1 l0_2 a1 a2 = some r) :
  Calls Try.prog 69 #[.agg #[.int .i64 a0_0,.int .i64 a0_1,u9000_],.int .i64 a1,.int .i64 a2] w fun e w'=>e = .returned (.tuple #[]) ∧ Kd.R (Kd.int .i64) 2 w' w0.heap.size (fun k_=>(P0_2_ k_ ∨ w.heap.size ≤ k_)) u9000_ r ∧ Below w0.heap.size w0 w' ∧ Kept w w' (fun k_=>P0_2_ k_):=by
 have hu27:=Try.underlying27
 have HO0_2:=Aside0.mk (show Kd.R (Kd.int .i64) 2 w w0.heap.size (fun k_=>(P0_2_ k_ ∨ w.heap.size ≤ k_)) u9000_ l0_2 from Kd.R_mono ho0_2 (fun k_ hk=>(.inl hk)))
 have HK:=Aside0.mk (Kept.refl w (fun k_=>P0_2_ k_))
 have HW0:=Aside0.mk hB.size
 have HB:=Aside0.mk hB
 clear hB
 have H : ((spec_l03At.f a0_0 a0_1 l0_2 a1 a2).bind fun t122=>((spec_Inv8.f k t122).bind fun t123=>(spec_l03Clear.l0 k a1 a2 t123 0 a0_0 a0_1 l0_2))) = some r:=h
 clear h
 replace H:=Option.bind_eq_some_iff.mp H
 obtain ⟨t122,A40,H⟩:=H
 replace H : ((spec_Inv8.f k t122).bind fun t123=>(spec_l03Clear.l0 k a1 a2 t123 0 a0_0 a0_1 l0_2)) = some r:=H
 have A4:=Aside0.mk A40
 clear A40
 replace H:=Option.bind_eq_some_iff.mp H
 obtain ⟨t123,A50,H⟩:=H
 replace H : (spec_l03Clear.l0 k a1 a2 t123 0 a0_0 a0_1 l0_2) = some r:=H
 have A5:=Aside0.mk A50
 clear A50
 have H':=Aside0.mk H
 clear H
 obtain ⟨Ao6,co6,eo6⟩:=Kd.R_slice HO0_2.out
 subst eo6
 go_enter Try.func69,Try.ntmps69
 go_wp2_with (first|((with_reducible refine gate_dst (N:=3) rfl ?_);refine box_event ?hg (N:=3) ?hd (cs:=#[.int .i64 a0_0,.int .i64 a0_1,.slice Ao6 l0_2.length co6]) (t:=27) ?hr ?_;(case hd=>rfl);(case hg=>rfl);(case hr=>first|(go_simp;done)|(go_simp;rfl));intro gb121 hg w7 hbox hb;have n0_:=Aside0.mk (Kd.R_below (by (with_reducible repeat (first|apply Kd.R_alloc|apply Kd.R_drewN));exact HO0_2.out) hb);have n1_:=Aside0.mk (Kept.below (S:=(fun k_=>P0_2_ k_)) (by repeat (first|(with_reducible first|exact HK.out|apply Kept.alloc|apply Kept.drewN)|exact HK.out)) hb);have n2_:=Aside0.mk (below_step (by repeat (first|(with_reducible first|exact HB.out|apply below_alloc|apply pw_below_drewN|apply below_drew1)|exact HB.out)) hb);have n3_:=Aside0.mk (hbox);have n4_:=Aside0.mk ((by rw [hg];exact (by first|exact HK.out.1|exact (show Kept w _ (fun k_=>P0_2_ k_) from by repeat (first|(with_reducible first|exact HK.out|apply Kept.alloc|apply Kept.drewN)|exact HK.out)).1) : w.heap.size ≤ gb121));have n5_:=Aside0.mk ((by rw [hg];exact (below_size (by repeat (first|(with_reducible first|exact HB.out|apply below_alloc|apply pw_below_drewN|apply below_drew1)|exact HB.out))) : w0.heap.size ≤ gb121));clear HO0_2 HK HB;have HO0_2:=n0_;have HK:=n1_;have HB:=n2_;have BK121:=n3_;have GW121:=n4_;have GE121:=n5_;clear n0_ n1_ n2_ n3_ n4_ n5_ hb hbox hg;have hcz8_0 : w7.cell? ⟨gb121,0,none⟩ = some (.int .i64 a0_0):=(blk_cell BK121.out 0).trans rfl;have hcz8_1 : w7.cell? ⟨gb121,1,none⟩ = some (.int .i64 a0_1):=(blk_cell BK121.out 1).trans rfl;have hcz8_2 : w7.cell? ⟨gb121,2,none⟩ = some (.slice Ao6 l0_2.length co6):=(blk_cell BK121.out 2).trans rfl;have hfz8_0:=blk_frozen BK121.out 0;have hfz8_1:=blk_frozen BK121.out 1;have hfz8_2:=blk_frozen BK121.out 2)|((with_reducible refine gate_callee (f:=67) rfl ?_);refine goesL_ (some 14) rfl rfl Try.func67 (by kernel_rfl) rfl #[.agg #[.int .i64 a0_0,.int .i64 a0_1,.slice Ao6 l0_2.length co6],.int .i64 a1,.int .i64 a2] rfl (by (try simp only [List.map_toArray,List.map_cons,List.map_nil]);first|done|rfl) ?_;(with_reducible refine (spec_l03At.calls a0_0 a0_1 _ _ l0_2 a1 a2 t122 _ ?side1 ?side2 A4.out).mono ?_);(case side1=>repeat (first|exact (Kd.R_reads' HO0_2.out).2.2|(with_reducible refine Kd.C_alloc ?_ _)|(with_reducible refine Kd.C_drewN ?_ _)|(with_reducible refine Kd.C_drew ?_)));(case side2=>exact (Kd.R_reads' HO0_2.out).2.1);rintro e w9 ⟨rfl,hb⟩;refine ⟨_,rfl,?_⟩;have n0_:=Aside0.mk (Kd.R_below (by (with_reducible repeat (first|apply Kd.R_alloc|apply Kd.R_drewN));exact HO0_2.out) hb);have n1_:=Aside0.mk (blk_below (g:=gb121) (o:=.cells #[.int .i64 a0_0,.int .i64 a0_1,.slice Ao6 l0_2.length co6] 27 (0,0)) (by (with_reducible repeat first|refine blk_drewN ?_ _|refine blk_alloc ?_ _);exact BK121.out) hb);have n2_:=Aside0.mk (Kept.below (S:=(fun k_=>P0_2_ k_)) (by repeat (first|(with_reducible first|exact HK.out|apply Kept.alloc|apply Kept.drewN|refine Kept.setCell ?_ (.inr GW121.out) _)|exact HK.out)) hb);have n3_:=Aside0.mk (below_step (by repeat (first|(with_reducible first|exact HB.out|apply below_alloc|apply pw_below_drewN|apply below_drew1|refine below_set ?_ GE121.out)|exact HB.out)) hb);clear HO0_2 BK121 HK HB;have HO0_2:=n0_;have BK121:=n1_;have HK:=n2_;have HB:=n3_;clear n0_ n1_ n2_ n3_;(try clear hb);(try clear hb2);(try clear hk);(try clear hi))|((with_reducible refine gate_callee (f:=123) rfl ?_);refine goesL_ (some 15) rfl rfl Try.func123 (by kernel_rfl) rfl #[.int .i64 t122] rfl (by (try simp only [List.map_toArray,List.map_cons,List.map_nil]);first|done|rfl) ?_;(with_reducible refine (spec_Inv8.calls k t122 t123 _ A5.out).mono ?_);rintro e w' ⟨rfl,⟨nd,rfl⟩⟩;refine ⟨_,rfl,?_⟩))
 go_loopg [7] k (fun kq v7 w'=>∃ (x7_1 : Int) (x122002_1 : List Int),v7 = .int .i64 x7_1 ∧ Aside0 (spec_l03Clear.l0 kq a1 a2 t123 x7_1 a0_0 a0_1 x122002_1 = some r) ∧ Aside0 (kq ≤ k) ∧ Aside0 (Kd.R (Kd.int .i64) 2 w' w0.heap.size (fun k_=>(P0_2_ k_ ∨ w.heap.size ≤ k_)) (.slice Ao6 l0_2.length co6) x122002_1) ∧ Aside0 (w'.heap[gb121]? = some (.cells #[.int .i64 a0_0,.int .i64 a0_1,(.slice Ao6 l0_2.length co6)] 27 (0,0))) ∧ Aside0 (Kept w w' (fun k_=>P0_2_ k_)) ∧ Aside0 (Below w0.heap.size w0 w'))
 case atStart=>exact ⟨(0),(l0_2),(by first|rfl|(simp;done)|(simp [*];done)),H',⟨Nat.le_refl _⟩,⟨by (with_reducible repeat (first|apply Kd.R_alloc|apply Kd.R_drewN));exact HO0_2.out⟩,⟨by (with_reducible repeat first|refine blk_drewN ?_ _|refine blk_alloc ?_ _);exact BK121.out⟩,⟨by repeat (first|(with_reducible first|exact HK.out|apply Kept.alloc|apply Kept.drewN|refine Kept.setCell ?_ (.inr GW121.out) _)|exact HK.out)⟩,⟨by repeat (first|(with_reducible first|exact HB.out|apply below_alloc|apply pw_below_drewN|apply below_drew1|refine below_set ?_ GE121.out)|exact HB.out)⟩⟩
 case round=>
  clear H'
  (try clear c1);(try clear p2);(try clear c6);(try clear hcz8_0);(try clear hcz8_1);(try clear hcz8_2);(try clear hfz8_0);(try clear hfz8_1);(try clear hfz8_2)
  obtain ⟨x7_1,x122002_1,rfl,HA,HK1,HO_122002,BK121,HK,HB⟩:=hrel
  have hl122002_1:=(Kd.R_reads' HO_122002.out).1
  rw [hl122002_1] at HO_122002
  (try simp only [hl122002_1])
  (try simp only [hl122002_1] at BK121)
  cases gk with
  | zero=>exact absurd HA.out (by simp [spec_l03Clear.l0])
  | succ k1=>
   have H:=HA.out
   clear HA
   simp only [spec_l03Clear.l0] at H
   by_cases c10 : x7_1 < a0_1
   ·rw [if_pos c10] at H
    have c10b0 : decide (x7_1 < a0_1) = true:=decide_eq_true c10
    clear c10
    replace H:=Option.bind_eq_some_iff.mp H
    obtain ⟨t124,A110,H⟩:=H
    replace H : ((spec_Mul8.f k1 t123 t124).bind fun t125=>(if 0 ≤ (wrap64 ((wrap64 (a1 * a0_1)) + x7_1)) then (if (wrap64 ((wrap64 (a1 * a0_1)) + x7_1)) < (x122002_1.length : Int) then (spec_l03Clear.l0 k1 a1 a2 t123 (wrap64 (x7_1 + 1)) a0_0 a0_1 (x122002_1.set ((wrap64 ((wrap64 (a1 * a0_1)) + x7_1)) : Int).toNat t125)) else (none)) else (none))) = some r:=H
    have A11:=Aside0.mk A110
    clear A110
    replace H:=Option.bind_eq_some_iff.mp H
    obtain ⟨t125,A120,H⟩:=H
    replace H : (if 0 ≤ (wrap64 ((wrap64 (a1 * a0_1)) + x7_1)) then (if (wrap64 ((wrap64 (a1 * a0_1)) + x7_1)) < (x122002_1.length : Int) then (spec_l03Clear.l0 k1 a1 a2 t123 (wrap64 (x7_1 + 1)) a0_0 a0_1 (x122002_1.set ((wrap64 ((wrap64 (a1 * a0_1)) + x7_1)) : Int).toNat t125)) else (none)) else (none)) = some r:=H
    have A12:=Aside0.mk A120
    clear A120
    obtain ⟨ji13,hji13⟩ : ∃ j_ : Int,(wrap64 ((wrap64 (a1 * a0_1)) + x7_1)) = j_:=⟨_,rfl⟩
    replace H : (if 0 ≤ (ji13) then (if (ji13) < (x122002_1.length : Int) then (spec_l03Clear.l0 k1 a1 a2 t123 (wrap64 (x7_1 + 1)) a0_0 a0_1 (x122002_1.set ((ji13) : Int).toNat t125)) else (none)) else (none)) = some r:=by first|(rw [hji13] at H;exact H)|(simp only [hji13] at H ⊢;exact H)
    (try rw [hji13] at A11)
    (try rw [hji13] at A12)
    have hji13w : (IntKind.i64.wrap ((wrap64 (a1 * a0_1)) + x7_1)) = ji13:=(i64_w _).trans hji13
    by_cases c14 : 0 ≤ (ji13)
    ·rw [if_pos c14] at H
     have c14b0 : decide (0 ≤ (ji13)) = true:=decide_eq_true c14
     clear c14
     by_cases c15 : (ji13) < (x122002_1.length : Int)
     ·rw [if_pos c15] at H
      have c15b0 : decide ((ji13) < (x122002_1.length : Int)) = true:=decide_eq_true c15
      clear c15
      obtain ⟨y126,hy126⟩ : ∃ y_ : List Int,y_ = (x122002_1.set ((ji13) : Int).toNat t125):=⟨_,rfl⟩
      replace H : (spec_l03Clear.l0 k1 a1 a2 t123 (wrap64 (x7_1 + 1)) a0_0 a0_1 y126) = some r:=by first|(rw [hy126];with_reducible exact H)|(have H2_:=(Option.bind_some _ _).symm.trans H;rw [hy126];with_reducible exact H2_)|(have H2_:=(Option.bind_some _ _).symm.trans H;with_reducible exact H2_)|with_reducible exact H|(rw [hy126];exact H)|exact H
      have Ny126:=Aside0.mk hy126
      clear hy126
      have H':=Aside0.mk H
      clear H
      have hcz17_0 : wr.cell? ⟨gb121,0,none⟩ = some (.int .i64 a0_0):=(blk_cell BK121.out 0).trans rfl
      have hcz17_1 : wr.cell? ⟨gb121,1,none⟩ = some (.int .i64 a0_1):=(blk_cell BK121.out 1).trans rfl
      have hcz17_2 : wr.cell? ⟨gb121,2,none⟩ = some (.slice Ao6 x122002_1.length co6):=(blk_cell BK121.out 2).trans rfl
      have hfz17_0:=blk_frozen BK121.out 0
      have hfz17_1:=blk_frozen BK121.out 1
      have hfz17_2:=blk_frozen BK121.out 2
      try go_wp2
      have n0_:=Aside0.mk (Kd.R_drew HO_122002.out)
      have n1_:=Aside0.mk (blk_drew BK121.out)
      have n2_:=Aside0.mk (Kept.drew HK.out)
      have n3_:=Aside0.mk (below_drew1 HB.out)
      clear HO_122002 BK121 HK HB
      have HO_122002:=n0_
      have BK121:=n1_
      have HK:=n2_
      have HB:=n3_
      clear n0_ n1_ n2_ n3_
      refine start_ (n:=16) (S:=fun w'=>w'.cell? ⟨gb121,0,none⟩ = some (.int .i64 a0_0) ∧ w'.cell? ⟨gb121,1,none⟩ = some (.int .i64 a0_1) ∧ w'.cell? ⟨gb121,2,none⟩ = some (.slice Ao6 x122002_1.length co6)) (ds:=[15]) #[false,false,false,false,false,false,false,false,false,false,false,false,false,false,false,false] (by kernel_rfl) rfl rfl ⟨(blk_cell BK121.out 0).trans rfl,(blk_cell BK121.out 1).trans rfl,(blk_cell BK121.out 2).trans rfl⟩ (fun hHeld=>?_);refine with_tabW spec_l03Clear.tab5 spec_l03Clear.bits5 (fun HT_ HW_=>?_)
      generalize wr.drew = w18 at HO_122002 BK121 HK HB hHeld ⊢
      refine pure_ (i:=0) (N:=some 22) (v:=?_) (a':=?_) #[true,false,false,false,false,false,false,false,false,false,false,false,false,false,false,false] rfl rfl (any_of HT_.out (by kernel_rfl)) (fun _ _ _ h=>h) (Or.inl ⟨by rfl,?_⟩) ?_ ?_
      rotate_left
      ·intro w'
       go_simp
       with_reducible rfl
      rotate_left
      ·simp only [Act.put,List.setIfInBounds_toArray,List.set_cons_zero,List.set_cons_succ,i64_w,i32_w]
       rfl
      refine pure_ (i:=2) (N:=some 24) (v:=?_) (a':=?_) #[true,false,true,false,false,false,false,false,false,false,false,false,false,false,false,false] rfl rfl (any_of HT_.out (by kernel_rfl)) (fun _ _ _ h=>h) (Or.inl ⟨by rfl,?_⟩) ?_ ?_
      rotate_left
      ·intro w'
       go_simp
       with_reducible rfl
      rotate_left
      ·simp only [Act.put,List.setIfInBounds_toArray,List.set_cons_zero,List.set_cons_succ,i64_w,i32_w]
       rfl
      refine pure_ (i:=3) (N:=some 25) (v:=?_) (a':=?_) #[true,false,true,true,false,false,false,false,false,false,false,false,false,false,false,false] rfl rfl (any_of HT_.out (by kernel_rfl)) (fun _ _ _ h=>h) (Or.inl ⟨by rfl,?_⟩) ?_ ?_
      rotate_left
      ·intro w'
       go_simp
       with_reducible rfl
      rotate_left
      ·simp only [Act.put,List.setIfInBounds_toArray,List.set_cons_zero,List.set_cons_succ,i64_w,i32_w]
       rfl
      refine pure_ (i:=6) (N:=some 28) (v:=?_) (a':=?_) #[true,false,true,true,false,false,true,false,false,false,false,false,false,false,false,false] rfl rfl (any_of HT_.out (by kernel_rfl)) (fun _ _ _ h=>h) (Or.inl ⟨by rfl,?_⟩) ?_ ?_
      rotate_left
      ·intro w'
       go_simp
       with_reducible rfl
      rotate_left
      ·simp only [Act.put,List.setIfInBounds_toArray,List.set_cons_zero,List.set_cons_succ,i64_w,i32_w]
       rfl
      refine pure_ (i:=8) (N:=some 30) (v:=?_) (a':=?_) #[true,false,true,true,false,false,true,false,true,false,false,false,false,false,false,false] rfl rfl (any_of HT_.out (by kernel_rfl)) (fun _ _ _ h=>h) (Or.inl ⟨by rfl,?_⟩) ?_ ?_
      rotate_left
      ·intro w'
       go_simp
       with_reducible rfl
      rotate_left
      ·simp only [Act.put,List.setIfInBounds_toArray,List.set_cons_zero,List.set_cons_succ,i64_w,i32_w]
       rfl
      refine pure_ (i:=10) (N:=some 32) (v:=?_) (a':=?_) #[true,false,true,true,false,false,true,false,true,false,true,false,false,false,false,false] rfl rfl (any_of HT_.out (by kernel_rfl)) (fun _ _ _ h=>h) (Or.inl ⟨by rfl,?_⟩) ?_ ?_
      rotate_left
      ·intro w'
       go_simp
       with_reducible rfl
      rotate_left
      ·simp only [Act.put,List.setIfInBounds_toArray,List.set_cons_zero,List.set_cons_succ,i64_w,i32_w]
       rfl
      refine pure_ (i:=11) (N:=some 33) (v:=?_) (a':=?_) #[true,false,true,true,false,false,true,false,true,false,true,true,false,false,false,false] rfl rfl (any_of HT_.out (by kernel_rfl)) (fun _ _ _ h=>h) (Or.inl ⟨by rfl,?_⟩) ?_ ?_
      rotate_left
      ·intro w'
       go_simp
       with_reducible rfl
      rotate_left
      ·simp only [Act.put,List.setIfInBounds_toArray,List.set_cons_zero,List.set_cons_succ,i64_w,i32_w]
       rfl
      refine take_ (i:=1) (N:=some 23) (v:=?_) (a':=?_) #[true,true,true,true,false,false,true,false,true,false,true,true,false,false,false,false] rfl rfl (take_ofW HT_.out HW_.out (by kernel_rfl)) (fun _ _ _ h=>h) (Or.inl ⟨by rfl,?_⟩) hHeld ?_ ?_
      rotate_left
      ·rintro w' ⟨s0,s1,s2⟩
       go_simp
       with_reducible rfl
      rotate_left
      ·simp only [Act.put,List.setIfInBounds_toArray,List.set_cons_zero,List.set_cons_succ,i64_w,i32_w]
       rfl
      refine take_ (i:=4) (N:=some 26) (v:=?_) (a':=?_) #[true,true,true,true,true,false,true,false,true,false,true,true,false,false,false,false] rfl rfl (take_ofW HT_.out HW_.out (by kernel_rfl)) (fun _ _ _ h=>h) (Or.inl ⟨by rfl,?_⟩) hHeld ?_ ?_
      rotate_left
      ·rintro w' ⟨s0,s1,s2⟩
       go_simp
       with_reducible rfl
      rotate_left
      ·simp only [Act.put,List.setIfInBounds_toArray,List.set_cons_zero,List.set_cons_succ,i64_w,i32_w]
       rfl
      refine pure_ (i:=5) (N:=some 27) (v:=?_) (a':=?_) #[true,true,true,true,true,true,true,false,true,false,true,true,false,false,false,false] rfl rfl (any_of HT_.out (by kernel_rfl)) (fun _ _ _ h=>h) (Or.inl ⟨by rfl,?_⟩) ?_ ?_
      rotate_left
      ·intro w'
       go_simp
       with_reducible rfl
      rotate_left
      ·simp only [Act.put,List.setIfInBounds_toArray,List.set_cons_zero,List.set_cons_succ,i64_w,i32_w]
       rfl
      refine pure_ (i:=7) (N:=some 29) (v:=?_) (a':=?_) #[true,true,true,true,true,true,true,true,true,false,true,true,false,false,false,false] rfl rfl (any_of HT_.out (by kernel_rfl)) (fun _ _ _ h=>h) (Or.inl ⟨by rfl,?_⟩) ?_ ?_
      rotate_left
      ·intro w'
       go_simp
       with_reducible rfl
      rotate_left
      ·simp only [Act.put,List.setIfInBounds_toArray,List.set_cons_zero,List.set_cons_succ,i64_w,i32_w]
       rfl
      refine take_ (i:=9) (N:=some 31) (v:=?_) (a':=?_) #[true,true,true,true,true,true,true,true,true,true,true,true,false,false,false,false] rfl rfl (take_ofW HT_.out HW_.out (by kernel_rfl)) (fun _ _ _ h=>h) (Or.inl ⟨by rfl,?_⟩) hHeld ?_ ?_
      rotate_left
      ·rintro w' ⟨s0,s1,s2⟩
       go_simp
       with_reducible rfl
      rotate_left
      ·simp only [Act.put,List.setIfInBounds_toArray,List.set_cons_zero,List.set_cons_succ,i64_w,i32_w]
       rfl
      refine one_ (i:=12) (N:=some 34) #[true,true,true,true,true,true,true,true,true,true,true,true,true,false,false,false] rfl rfl (one_of HT_.out (by kernel_rfl)) (by decide) (fun K hK=>?_)
      refine goes_ Try.func67 (by kernel_rfl) rfl #[.agg #[.int .i64 a0_0,.int .i64 a0_1,.slice Ao6 x122002_1.length co6],.int .i64 a1,.int .i64 x7_1] (by rfl) rfl rfl (by (try simp only [List.map_toArray,List.map_cons,List.map_nil]);first|done|rfl) ?_
      with_reducible refine (spec_l03At.calls a0_0 a0_1 _ _ x122002_1 a1 x7_1 t124 _ ?side1 ?side2 A11.out).mono ?_
      (case side1=>repeat (first|exact (Kd.R_reads' HO_122002.out).2.2|(with_reducible refine Kd.C_alloc ?_ _)|(with_reducible refine Kd.C_drewN ?_ _)|(with_reducible refine Kd.C_drew ?_)))
      (case side2=>exact (Kd.R_reads' HO_122002.out).2.1)
      rintro e w19 ⟨rfl,hb⟩
      refine ⟨_,rfl,?_⟩
      have n0_:=Aside0.mk (Kd.R_below (by (with_reducible repeat (first|apply Kd.R_alloc|apply Kd.R_drewN));exact HO_122002.out) hb)
      have n1_:=Aside0.mk (blk_below (g:=gb121) (o:=.cells #[.int .i64 a0_0,.int .i64 a0_1,.slice Ao6 x122002_1.length co6] 27 (0,0)) (by (with_reducible repeat first|refine blk_drewN ?_ _|refine blk_alloc ?_ _);exact BK121.out) hb)
      have n2_:=Aside0.mk (Kept.below (S:=(fun k_=>P0_2_ k_)) (by repeat (first|(with_reducible first|exact HK.out|apply Kept.alloc|apply Kept.drewN|refine Kept.setCell ?_ (.inr GW121.out) _)|exact HK.out)) hb)
      have n3_:=Aside0.mk (below_step (by repeat (first|(with_reducible first|exact HB.out|apply below_alloc|apply pw_below_drewN|apply below_drew1|refine below_set ?_ GE121.out)|exact HB.out)) hb)
      clear HO_122002 BK121 HK HB
      have HO_122002:=n0_
      have BK121:=n1_
      have HK:=n2_
      have HB:=n3_
      clear n0_ n1_ n2_ n3_
      (try clear hb);(try clear hb2);(try clear hk);(try clear hi)
      refine hK.out _ _ ⟨(blk_cell BK121.out 0).trans rfl,(blk_cell BK121.out 1).trans rfl,(blk_cell BK121.out 2).trans rfl⟩ (fun hHeld=>?_)
      clear hK K
      refine norm_ (a':=?_) ?_ ?_
      rotate_left
      ·show Act.put _ (some 34) _ = _
       simp only [Act.put,List.setIfInBounds_toArray,List.set_cons_zero,List.set_cons_succ,i64_w,i32_w]
       rfl
      refine one_ (i:=13) (N:=some 35) #[true,true,true,true,true,true,true,true,true,true,true,true,true,true,false,false] rfl rfl (one_of HT_.out (by kernel_rfl)) (by decide) (fun K hK=>?_)
      refine goes_ Try.func124 (by kernel_rfl) rfl #[.int .i64 t123,.int .i64 t124] (by rfl) rfl rfl (by (try simp only [List.map_toArray,List.map_cons,List.map_nil]);first|done|rfl) ?_
      with_reducible refine (spec_Mul8.calls k1 t123 t124 t125 _ A12.out).mono ?_
      rintro e w' ⟨rfl,⟨nd,rfl⟩⟩
      refine ⟨_,rfl,?_⟩
      have p16 : 0 ≤ ((ji13) : Int):=of_decide_eq_true (by first|(with_reducible assumption)|assumption)
      have q16 : ((ji13) : Int) < ((x122002_1.length : Int) : Int):=of_decide_eq_true (by first|(with_reducible assumption)|assumption)
      obtain ⟨go16,co16,eo16,gb16,gl16,cl16,HG16⟩:=Kd.R_form HO_122002.out (by omega)
      (first|cases eo16|(injection eo16 with ea_ en_ ec_;(first|subst ea_|(injection ea_ with ea_;subst ea_));subst ec_;clear en_))
      have GB16:=Aside0.mk gb16
      have GG16:=Aside0.mk HG16
      clear gb16 gl16 HG16
      have HMgo16:=Aside0.mk (show (P0_2_ go16 ∨ w.heap.size ≤ go16) from (HO_122002.out.1 _ rfl))
      obtain ⟨hx16_0,hf16_0⟩:=Kd.R_celln 0 HO_122002.out ((ji13) : Int) p16 q16
      replace p16:=eq_true p16
      replace q16:=eq_true q16
      have HP20:=Kd.R_putn HO_122002.out ((ji13) : Int) t125
      rw [← Ny126.out] at HP20
      have HQ20:=Aside0.mk HP20
      clear HP20
      refine hK.out _ _ ⟨(blk_cell BK121.out 0).trans rfl,(blk_cell BK121.out 1).trans rfl,(blk_cell BK121.out 2).trans rfl⟩ (fun hHeld=>?_)
      clear hK K
      refine norm_ (a':=?_) ?_ ?_
      rotate_left
      ·show Act.put _ (some 35) _ = _
       simp only [Act.put,List.setIfInBounds_toArray,List.set_cons_zero,List.set_cons_succ,i64_w,i32_w]
       rfl
      refine pure_ (i:=14) (N:=some 36) (v:=?_) (a':=?_) #[true,true,true,true,true,true,true,true,true,true,true,true,true,true,true,false] rfl rfl (any_of HT_.out (by kernel_rfl)) (fun _ _ _ h=>h) (Or.inl ⟨by rfl,?_⟩) ?_ ?_
      rotate_left
      ·intro w'
       go_simp
       with_reducible rfl
      rotate_left
      ·simp only [Act.put,List.setIfInBounds_toArray,List.set_cons_zero,List.set_cons_succ,i64_w,i32_w]
       rfl
      refine last_ (i:=15) (N:=none) #[true,true,true,true,true,true,true,true,true,true,true,true,true,true,true,true] rfl rfl (one_of HT_.out (by kernel_rfl)) (by decide) (fun K hK=>?_)
      refine skip_ (w1:=?_) (by rfl) rfl ?_ ?_
      rotate_left
      ·go_simp
       rfl
      refine hK.out _ _ ?_
      clear hK K
      refine done_ (done_of HT_.out (by kernel_rfl)) ?_
      try go_wp2
      (try simp only [← hl122002_1])
      go_roundg k1
      case measure=>have:=HK1.out;omega
      case rel=>exact ⟨(wrap64 (x7_1 + 1)),(y126),(by first|rfl|(simp;done)|(simp [*];done)),H',⟨by have:=HK1.out;omega⟩,⟨by (try simp only [hl122002_1]);(with_reducible repeat (first|apply Kd.R_alloc|apply Kd.R_drewN));exact HQ20.out⟩,⟨by (try simp only [hl122002_1]);(with_reducible repeat first|refine blk_drewN ?_ _|refine blk_alloc ?_ _);refine blk_far ?_ (by have h_:=Kd.R_ne HO_122002.out BK121.out (by decide);intro e_;exact h_ (by rw [e_];rfl)) _;(with_reducible repeat first|refine blk_drewN ?_ _|refine blk_alloc ?_ _);exact BK121.out⟩,⟨by repeat (first|(with_reducible first|exact HK.out|apply Kept.alloc|apply Kept.drewN|refine Kept.setCell ?_ HMgo16.out _|refine Kept.setCell ?_ (.inr GW121.out) _)|exact HK.out)⟩,⟨by repeat (first|(with_reducible first|exact HB.out|apply below_alloc|apply pw_below_drewN|apply below_drew1|refine below_set ?_ GB16.out|refine below_set ?_ GE121.out)|exact HB.out)⟩⟩
     ·rw [if_neg c15] at H
      exact absurd H (by simp)
    ·rw [if_neg c14] at H
     exact absurd H (by simp)
   ·rw [if_neg c10] at H
    have c10b0 : decide (x7_1 < a0_1) = false:=decide_eq_false c10
    clear c10
    have H':=Aside0.mk H
    clear H
    have hcz21_0 : wr.cell? ⟨gb121,0,none⟩ = some (.int .i64 a0_0):=(blk_cell BK121.out 0).trans rfl
    have hcz21_1 : wr.cell? ⟨gb121,1,none⟩ = some (.int .i64 a0_1):=(blk_cell BK121.out 1).trans rfl
    have hcz21_2 : wr.cell? ⟨gb121,2,none⟩ = some (.slice Ao6 x122002_1.length co6):=(blk_cell BK121.out 2).trans rfl
    have hfz21_0:=blk_frozen BK121.out 0
    have hfz21_1:=blk_frozen BK121.out 1
    have hfz21_2:=blk_frozen BK121.out 2
    go_wp2
    go_loopg [8] k1 (fun kq v8 w'=>∃ (x8_2 : Int) (x122002_2 : List Int),v8 = .int .i64 x8_2 ∧ Aside0 (spec_l03Clear.l1 kq a1 a2 x8_2 a0_0 a0_1 x122002_2 = some r) ∧ Aside0 (kq ≤ k1) ∧ Aside0 (Kd.R (Kd.int .i64) 2 w' w0.heap.size (fun k_=>(P0_2_ k_ ∨ w.heap.size ≤ k_)) (.slice Ao6 x122002_1.length co6) x122002_2) ∧ Aside0 (w'.heap[gb121]? = some (.cells #[.int .i64 a0_0,.int .i64 a0_1,(.slice Ao6 x122002_1.length co6)] 27 (0,0))) ∧ Aside0 (Kept w w' (fun k_=>P0_2_ k_)) ∧ Aside0 (Below w0.heap.size w0 w'))
    case atStart=>exact ⟨(0),(x122002_1),(by first|rfl|(simp;done)|(simp [*];done)),H',⟨Nat.le_refl _⟩,⟨by (try simp only [hl122002_1]);(with_reducible repeat (first|apply Kd.R_alloc|apply Kd.R_drewN));exact HO_122002.out⟩,⟨by (try simp only [hl122002_1]);(with_reducible repeat first|refine blk_drewN ?_ _|refine blk_alloc ?_ _);exact BK121.out⟩,⟨by repeat (first|(with_reducible first|exact HK.out|apply Kept.alloc|apply Kept.drewN|refine Kept.setCell ?_ (.inr GW121.out) _)|exact HK.out)⟩,⟨by repeat (first|(with_reducible first|exact HB.out|apply below_alloc|apply pw_below_drewN|apply below_drew1|refine below_set ?_ GE121.out)|exact HB.out)⟩⟩
    case round=>
     clear H'
     (try clear c1);(try clear p1);(try clear q1);(try clear hx1);(try clear p2);(try clear c6);(try clear p6);(try clear c10);(try clear c10b0);(try clear c12);(try clear c14);(try clear c14b0);(try clear c15);(try clear c15b0);(try clear p16);(try clear q16);(try clear hx16);(try clear hf16);(try clear hcz17_0);(try clear hcz17_1);(try clear hcz17_2);(try clear hcz21_0);(try clear hcz21_1);(try clear hcz21_2);(try clear hcz8_0);(try clear hcz8_1);(try clear hcz8_2);(try clear hfz17_0);(try clear hfz17_1);(try clear hfz17_2);(try clear hfz21_0);(try clear hfz21_1);(try clear hfz21_2);(try clear hfz8_0);(try clear hfz8_1);(try clear hfz8_2);(try clear hx16_0);(try clear p16);(try clear p2);(try clear q16)
     obtain ⟨x8_2,x122002_2,rfl,HA,HK2,HO_122002,BK121,HK,HB⟩:=hrel
     have hl122002_2:=(Kd.R_reads' HO_122002.out).1
     rw [hl122002_2] at HO_122002
     (try simp only [hl122002_2])
     (try simp only [hl122002_2] at BK121)
     cases gk with
     | zero=>exact absurd HA.out (by simp [spec_l03Clear.l1])
     | succ k2=>
      have H:=HA.out
      clear HA
      simp only [spec_l03Clear.l1] at H
      by_cases c22 : x8_2 < a0_0
      ·rw [if_pos c22] at H
       have c22b0 : decide (x8_2 < a0_0) = true:=decide_eq_true c22
       clear c22
       replace H:=Option.bind_eq_some_iff.mp H
       obtain ⟨t127,A230,H⟩:=H
       replace H : (if x8_2 = a1 then (spec_l03Clear.j2 k2 a1 a2 x8_2 t127 true a0_0 a0_1 x122002_2) else (spec_l03Clear.j2 k2 a1 a2 x8_2 t127 (t127 == 0) a0_0 a0_1 x122002_2)) = some r:=H
       have A23:=Aside0.mk A230
       clear A230
       have HC24:=Aside0.mk H
       clear H
       have hcz25_0 : wr.cell? ⟨gb121,0,none⟩ = some (.int .i64 a0_0):=(blk_cell BK121.out 0).trans rfl
       have hcz25_1 : wr.cell? ⟨gb121,1,none⟩ = some (.int .i64 a0_1):=(blk_cell BK121.out 1).trans rfl
       have hcz25_2 : wr.cell? ⟨gb121,2,none⟩ = some (.slice Ao6 x122002_2.length co6):=(blk_cell BK121.out 2).trans rfl
       have hfz25_0:=blk_frozen BK121.out 0
       have hfz25_1:=blk_frozen BK121.out 1
       have hfz25_2:=blk_frozen BK121.out 2
       go_upto_region 10 with (first|((with_reducible refine gate_callee (f:=67) rfl ?_);refine goesL_ (some 46) rfl rfl Try.func67 (by kernel_rfl) rfl #[.agg #[.int .i64 a0_0,.int .i64 a0_1,.slice Ao6 x122002_2.length co6],.int .i64 x8_2,.int .i64 a2] rfl (by (try simp only [List.map_toArray,List.map_cons,List.map_nil]);first|done|rfl) ?_;(with_reducible refine (spec_l03At.calls a0_0 a0_1 _ _ x122002_2 x8_2 a2 t127 _ ?side1 ?side2 A23.out).mono ?_);(case side1=>repeat (first|exact (Kd.R_reads' HO_122002.out).2.2|(with_reducible refine Kd.C_alloc ?_ _)|(with_reducible refine Kd.C_drewN ?_ _)|(with_reducible refine Kd.C_drew ?_)));(case side2=>exact (Kd.R_reads' HO_122002.out).2.1);rintro e w26 ⟨rfl,hb⟩;refine ⟨_,rfl,?_⟩;have n0_:=Aside0.mk (Kd.R_below (by (with_reducible repeat (first|apply Kd.R_alloc|apply Kd.R_drewN));exact HO_122002.out) hb);have n1_:=Aside0.mk (blk_below (g:=gb121) (o:=.cells #[.int .i64 a0_0,.int .i64 a0_1,.slice Ao6 x122002_2.length co6] 27 (0,0)) (by (with_reducible repeat first|refine blk_drewN ?_ _|refine blk_alloc ?_ _);exact BK121.out) hb);have n2_:=Aside0.mk (Kept.below (S:=(fun k_=>P0_2_ k_)) (by repeat (first|(with_reducible first|exact HK.out|apply Kept.alloc|apply Kept.drewN|refine Kept.setCell ?_ (.inr GW121.out) _)|exact HK.out)) hb);have n3_:=Aside0.mk (below_step (by repeat (first|(with_reducible first|exact HB.out|apply below_alloc|apply pw_below_drewN|apply below_drew1|refine below_set ?_ GE121.out)|exact HB.out)) hb);clear HO_122002 BK121 HK HB;have HO_122002:=n0_;have BK121:=n1_;have HK:=n2_;have HB:=n3_;clear n0_ n1_ n2_ n3_;(try clear hb);(try clear hb2);(try clear hk);(try clear hi)))
       (try simp only [Act.put,List.setIfInBounds_toArray,List.set_cons_zero,List.set_cons_succ])
       go_cut [53] (fun v53 wc=>∃ (kq : Nat) (x53_23 : Bool),v53 = .bool x53_23 ∧ Aside0 (spec_l03Clear.j2 kq a1 a2 x8_2 t127 x53_23 a0_0 a0_1 x122002_2 = some r) ∧ Aside0 (kq ≤ k2) ∧ Aside0 (Kd.R (Kd.int .i64) 2 wc w0.heap.size (fun k_=>(P0_2_ k_ ∨ w.heap.size ≤ k_)) (.slice Ao6 x122002_2.length co6) x122002_2) ∧ Aside0 (wc.heap[gb121]? = some (.cells #[.int .i64 a0_0,.int .i64 a0_1,(.slice Ao6 x122002_2.length co6)] 27 (0,0))) ∧ Aside0 (Kept w wc (fun k_=>P0_2_ k_)) ∧ Aside0 (Below w0.heap.size w0 wc))
       case first=>
        have H:=HC24.out
        clear HC24
        by_cases c27 : x8_2 = a1
        ·rw [if_pos c27] at H
         have c27b0 : (x8_2 == a1) = true:=beq_iff_eq.mpr c27
         have c27b1 : (x8_2 != a1) = false:=bne_eq_false_iff_eq.mpr c27
         clear c27
         (first|rw [c27b0]|(simp only [i64_w,i32_w];rw [c27b0])|skip)
         have H':=Aside0.mk H
         clear H
         go_wp2
         go_meet
         case rel=>exact ⟨_,(true),(by first|rfl|(simp;done)|(simp [*];done)),H',⟨by have:=HK1.out;have:=HK2.out;first|omega|exact Nat.le_refl _⟩,⟨by (try simp only [hl122002_1]);(try simp only [hl122002_2]);(with_reducible repeat (first|apply Kd.R_alloc|apply Kd.R_drewN));exact HO_122002.out⟩,⟨by (try simp only [hl122002_1]);(try simp only [hl122002_2]);(with_reducible repeat first|refine blk_drewN ?_ _|refine blk_alloc ?_ _);exact BK121.out⟩,⟨by repeat (first|(with_reducible first|exact HK.out|apply Kept.alloc|apply Kept.drewN|refine Kept.setCell ?_ (.inr GW121.out) _)|exact HK.out)⟩,⟨by repeat (first|(with_reducible first|exact HB.out|apply below_alloc|apply pw_below_drewN|apply below_drew1|refine below_set ?_ GE121.out)|exact HB.out)⟩⟩
        ·rw [if_neg c27] at H
         have c27b0 : (x8_2 == a1) = false:=beq_eq_false_iff_ne.mpr c27
         have c27b1 : (x8_2 != a1) = true:=bne_iff_ne.mpr c27
         (first|rw [c27b0]|(simp only [i64_w,i32_w];rw [c27b0])|skip)
         have H':=Aside0.mk H
         clear H
         go_wp2
         go_meet
         case rel=>exact ⟨_,((t127 == 0)),(by first|rfl|(simp;done)|(simp [*];done)),H',⟨by have:=HK1.out;have:=HK2.out;first|omega|exact Nat.le_refl _⟩,⟨by (try simp only [hl122002_1]);(try simp only [hl122002_2]);(with_reducible repeat (first|apply Kd.R_alloc|apply Kd.R_drewN));exact HO_122002.out⟩,⟨by (try simp only [hl122002_1]);(try simp only [hl122002_2]);(with_reducible repeat first|refine blk_drewN ?_ _|refine blk_alloc ?_ _);exact BK121.out⟩,⟨by repeat (first|(with_reducible first|exact HK.out|apply Kept.alloc|apply Kept.drewN|refine Kept.setCell ?_ (.inr GW121.out) _)|exact HK.out)⟩,⟨by repeat (first|(with_reducible first|exact HB.out|apply below_alloc|apply pw_below_drewN|apply below_drew1|refine below_set ?_ GE121.out)|exact HB.out)⟩⟩
       case rest=>
        clear HC24
        (try clear c1);(try clear p1);(try clear q1);(try clear hx1);(try clear c2);(try clear p2);(try clear c6);(try clear p6);(try clear c10);(try clear c10b0);(try clear c12);(try clear c14);(try clear c14b0);(try clear c15);(try clear c15b0);(try clear p16);(try clear q16);(try clear hx16);(try clear hf16);(try clear c22);(try clear c22b0);(try clear c27);(try clear c27b0);(try clear c27b1);(try clear hcz17_0);(try clear hcz17_1);(try clear hcz17_2);(try clear hcz21_0);(try clear hcz21_1);(try clear hcz21_2);(try clear hcz25_0);(try clear hcz25_1);(try clear hcz25_2);(try clear hcz8_0);(try clear hcz8_1);(try clear hcz8_2);(try clear hfz17_0);(try clear hfz17_1);(try clear hfz17_2);(try clear hfz21_0);(try clear hfz21_1);(try clear hfz21_2);(try clear hfz25_0);(try clear hfz25_1);(try clear hfz25_2);(try clear hfz8_0);(try clear hfz8_1);(try clear hfz8_2);(try clear hx16_0);(try clear p1);(try clear p16);(try clear p2);(try clear p6);(try clear q1);(try clear q16)
        obtain ⟨kq,x53_23,rfl,HA,HJ23,HO_122002,BK121,HK,HB⟩:=hcut
        cases kq with
        | zero=>exact absurd HA.out (by simp [spec_l03Clear.j2])
        | succ kj23=>
         have H:=HA.out
         clear HA
         simp only [spec_l03Clear.j2] at H
         by_cases c28 : x53_23 = true
         ·subst c28
          have H1 : (spec_l03Clear.l1 kj23 a1 a2 (wrap64 (x8_2 + 1)) a0_0 a0_1 x122002_2) = some r:=by rw [if_pos rfl] at H;exact H
          clear H
          have H:=H1
          clear H1
          have H':=Aside0.mk H
          clear H
          go_wp2
          (try simp only [← hl122002_2])
          go_roundg kj23
          case measure=>have:=HK1.out;have:=HK2.out;have:=HJ23.out;omega
          case rel=>exact ⟨(wrap64 (x8_2 + 1)),(x122002_2),(by first|rfl|(simp;done)|(simp [*];done)),H',⟨by have:=HK1.out;have:=HK2.out;have:=HJ23.out;omega⟩,⟨by (try simp only [hl122002_1]);(try simp only [hl122002_2]);(with_reducible repeat (first|apply Kd.R_alloc|apply Kd.R_drewN));exact HO_122002.out⟩,⟨by (try simp only [hl122002_1]);(try simp only [hl122002_2]);(with_reducible repeat first|refine blk_drewN ?_ _|refine blk_alloc ?_ _);exact BK121.out⟩,⟨by repeat (first|(with_reducible first|exact HK.out|apply Kept.alloc|apply Kept.drewN|refine Kept.setCell ?_ (.inr GW121.out) _)|exact HK.out)⟩,⟨by repeat (first|(with_reducible first|exact HB.out|apply below_alloc|apply pw_below_drewN|apply below_drew1|refine below_set ?_ GE121.out)|exact HB.out)⟩⟩
         ·replace c28:=Bool.eq_false_iff.mpr c28
          subst c28
          have H1 : (spec_l03Clear.l2 kj23 a1 a2 x8_2 t127 0 a0_0 a0_1 x122002_2) = some r:=by rw [if_neg (show ¬ (false = true) by decide)] at H;exact H
          clear H
          have H:=H1
          clear H1
          have H':=Aside0.mk H
          clear H
          go_wp2
          go_loopg [10] kj23 (fun kq v10 w'=>∃ (x10_4 : Int) (x122002_4 : List Int),v10 = .int .i64 x10_4 ∧ Aside0 (spec_l03Clear.l2 kq a1 a2 x8_2 t127 x10_4 a0_0 a0_1 x122002_4 = some r) ∧ Aside0 (kq ≤ kj23) ∧ Aside0 (Kd.R (Kd.int .i64) 2 w' w0.heap.size (fun k_=>(P0_2_ k_ ∨ w.heap.size ≤ k_)) (.slice Ao6 x122002_2.length co6) x122002_4) ∧ Aside0 (w'.heap[gb121]? = some (.cells #[.int .i64 a0_0,.int .i64 a0_1,(.slice Ao6 x122002_2.length co6)] 27 (0,0))) ∧ Aside0 (Kept w w' (fun k_=>P0_2_ k_)) ∧ Aside0 (Below w0.heap.size w0 w'))
          case atStart=>exact ⟨(0),(x122002_2),(by first|rfl|(simp;done)|(simp [*];done)),H',⟨Nat.le_refl _⟩,⟨by (try simp only [hl122002_1]);(try simp only [hl122002_2]);(with_reducible repeat (first|apply Kd.R_alloc|apply Kd.R_drewN));exact HO_122002.out⟩,⟨by (try simp only [hl122002_1]);(try simp only [hl122002_2]);(with_reducible repeat first|refine blk_drewN ?_ _|refine blk_alloc ?_ _);exact BK121.out⟩,⟨by repeat (first|(with_reducible first|exact HK.out|apply Kept.alloc|apply Kept.drewN|refine Kept.setCell ?_ (.inr GW121.out) _)|exact HK.out)⟩,⟨by repeat (first|(with_reducible first|exact HB.out|apply below_alloc|apply pw_below_drewN|apply below_drew1|refine below_set ?_ GE121.out)|exact HB.out)⟩⟩
          case round=>
           clear H'
           (try clear c1);(try clear p1);(try clear q1);(try clear hx1);(try clear c2);(try clear p2);(try clear c6);(try clear p6);(try clear c10);(try clear c10b0);(try clear c12);(try clear c14);(try clear c14b0);(try clear c15);(try clear c15b0);(try clear p16);(try clear q16);(try clear hx16);(try clear hf16);(try clear c22);(try clear c22b0);(try clear c27);(try clear c27b0);(try clear c27b1);(try clear c28);(try clear hcz17_0);(try clear hcz17_1);(try clear hcz17_2);(try clear hcz21_0);(try clear hcz21_1);(try clear hcz21_2);(try clear hcz25_0);(try clear hcz25_1);(try clear hcz25_2);(try clear hcz8_0);(try clear hcz8_1);(try clear hcz8_2);(try clear hfz17_0);(try clear hfz17_1);(try clear hfz17_2);(try clear hfz21_0);(try clear hfz21_1);(try clear hfz21_2);(try clear hfz25_0);(try clear hfz25_1);(try clear hfz25_2);(try clear hfz8_0);(try clear hfz8_1);(try clear hfz8_2);(try clear hx16_0);(try clear p1);(try clear p16);(try clear p2);(try clear p6);(try clear q1);(try clear q16)
           obtain ⟨x10_4,x122002_4,rfl,HA,HK4,HO_122002,BK121,HK,HB⟩:=hrel
           have hl122002_4:=(Kd.R_reads' HO_122002.out).1
           rw [hl122002_4] at HO_122002
           (try simp only [hl122002_4])
           (try simp only [hl122002_4] at BK121)
           cases gk with
           | zero=>exact absurd HA.out (by simp [spec_l03Clear.l2])
           | succ k4=>
            have H:=HA.out
            clear HA
            simp only [spec_l03Clear.l2] at H
            by_cases c29 : x10_4 < a0_1
            ·rw [if_pos c29] at H
             have c29b0 : decide (x10_4 < a0_1) = true:=decide_eq_true c29
             clear c29
             replace H:=Option.bind_eq_some_iff.mp H
             obtain ⟨t128,A300,H⟩:=H
             replace H : ((spec_l03At.f a0_0 a0_1 x122002_4 a1 x10_4).bind fun t129=>((spec_Mul8.f k4 t127 t129).bind fun t130=>(if 0 ≤ (wrap64 ((wrap64 (x8_2 * a0_1)) + x10_4)) then (if (wrap64 ((wrap64 (x8_2 * a0_1)) + x10_4)) < (x122002_4.length : Int) then (spec_l03Clear.l2 k4 a1 a2 x8_2 t127 (wrap64 (x10_4 + 1)) a0_0 a0_1 (x122002_4.set ((wrap64 ((wrap64 (x8_2 * a0_1)) + x10_4)) : Int).toNat (Go.bits .xor .i64 t128 t130))) else (none)) else (none)))) = some r:=H
             have A30:=Aside0.mk A300
             clear A300
             replace H:=Option.bind_eq_some_iff.mp H
             obtain ⟨t129,A310,H⟩:=H
             replace H : ((spec_Mul8.f k4 t127 t129).bind fun t130=>(if 0 ≤ (wrap64 ((wrap64 (x8_2 * a0_1)) + x10_4)) then (if (wrap64 ((wrap64 (x8_2 * a0_1)) + x10_4)) < (x122002_4.length : Int) then (spec_l03Clear.l2 k4 a1 a2 x8_2 t127 (wrap64 (x10_4 + 1)) a0_0 a0_1 (x122002_4.set ((wrap64 ((wrap64 (x8_2 * a0_1)) + x10_4)) : Int).toNat (Go.bits .xor .i64 t128 t130))) else (none)) else (none))) = some r:=H
             have A31:=Aside0.mk A310
             clear A310
             replace H:=Option.bind_eq_some_iff.mp H
             obtain ⟨t130,A320,H⟩:=H
             replace H : (if 0 ≤ (wrap64 ((wrap64 (x8_2 * a0_1)) + x10_4)) then (if (wrap64 ((wrap64 (x8_2 * a0_1)) + x10_4)) < (x122002_4.length : Int) then (spec_l03Clear.l2 k4 a1 a2 x8_2 t127 (wrap64 (x10_4 + 1)) a0_0 a0_1 (x122002_4.set ((wrap64 ((wrap64 (x8_2 * a0_1)) + x10_4)) : Int).toNat (Go.bits .xor .i64 t128 t130))) else (none)) else (none)) = some r:=H
             have A32:=Aside0.mk A320
             clear A320
             obtain ⟨ji33,hji33⟩ : ∃ j_ : Int,(wrap64 ((wrap64 (x8_2 * a0_1)) + x10_4)) = j_:=⟨_,rfl⟩
             replace H : (if 0 ≤ (ji33) then (if (ji33) < (x122002_4.length : Int) then (spec_l03Clear.l2 k4 a1 a2 x8_2 t127 (wrap64 (x10_4 + 1)) a0_0 a0_1 (x122002_4.set ((ji33) : Int).toNat (Go.bits .xor .i64 t128 t130))) else (none)) else (none)) = some r:=by first|(rw [hji33] at H;exact H)|(simp only [hji33] at H ⊢;exact H)
             (try rw [hji33] at A30)
             (try rw [hji33] at A31)
             (try rw [hji33] at A32)
             have hji33w : (IntKind.i64.wrap ((wrap64 (x8_2 * a0_1)) + x10_4)) = ji33:=(i64_w _).trans hji33
             by_cases c34 : 0 ≤ (ji33)
             ·rw [if_pos c34] at H
              have c34b0 : decide (0 ≤ (ji33)) = true:=decide_eq_true c34
              clear c34
              by_cases c35 : (ji33) < (x122002_4.length : Int)
              ·rw [if_pos c35] at H
               have c35b0 : decide ((ji33) < (x122002_4.length : Int)) = true:=decide_eq_true c35
               clear c35
               obtain ⟨y131,hy131⟩ : ∃ y_ : List Int,y_ = (x122002_4.set ((ji33) : Int).toNat (Go.bits .xor .i64 t128 t130)):=⟨_,rfl⟩
               replace H : (spec_l03Clear.l2 k4 a1 a2 x8_2 t127 (wrap64 (x10_4 + 1)) a0_0 a0_1 y131) = some r:=by first|(rw [hy131];with_reducible exact H)|(have H2_:=(Option.bind_some _ _).symm.trans H;rw [hy131];with_reducible exact H2_)|(have H2_:=(Option.bind_some _ _).symm.trans H;with_reducible exact H2_)|with_reducible exact H|(rw [hy131];exact H)|exact H
               have Ny131:=Aside0.mk hy131
               clear hy131
               have H':=Aside0.mk H
               clear H
               have hcz37_0 : wr.cell? ⟨gb121,0,none⟩ = some (.int .i64 a0_0):=(blk_cell BK121.out 0).trans rfl
               have hcz37_1 : wr.cell? ⟨gb121,1,none⟩ = some (.int .i64 a0_1):=(blk_cell BK121.out 1).trans rfl
               have hcz37_2 : wr.cell? ⟨gb121,2,none⟩ = some (.slice Ao6 x122002_4.length co6):=(blk_cell BK121.out 2).trans rfl
               have hfz37_0:=blk_frozen BK121.out 0
               have hfz37_1:=blk_frozen BK121.out 1
               have hfz37_2:=blk_frozen BK121.out 2
               try go_wp2
               have n0_:=Aside0.mk (Kd.R_drew HO_122002.out)
               have n1_:=Aside0.mk (blk_drew BK121.out)
               have n2_:=Aside0.mk (Kept.drew HK.out)
               have n3_:=Aside0.mk (below_drew1 HB.out)
               clear HO_122002 BK121 HK HB
               have HO_122002:=n0_
               have BK121:=n1_
               have HK:=n2_
               have HB:=n3_
               clear n0_ n1_ n2_ n3_
               refine start_ (n:=21) (S:=fun w'=>w'.cell? ⟨gb121,0,none⟩ = some (.int .i64 a0_0) ∧ w'.cell? ⟨gb121,1,none⟩ = some (.int .i64 a0_1) ∧ w'.cell? ⟨gb121,2,none⟩ = some (.slice Ao6 x122002_4.length co6)) (ds:=[20]) #[false,false,false,false,false,false,false,false,false,false,false,false,false,false,false,false,false,false,false,false,false] (by kernel_rfl) rfl rfl ⟨(blk_cell BK121.out 0).trans rfl,(blk_cell BK121.out 1).trans rfl,(blk_cell BK121.out 2).trans rfl⟩ (fun hHeld=>?_);refine with_tabW spec_l03Clear.tab14 spec_l03Clear.bits14 (fun HT_ HW_=>?_)
               generalize wr.drew = w38 at HO_122002 BK121 HK HB hHeld ⊢
               refine pure_ (i:=0) (N:=some 60) (v:=?_) (a':=?_) #[true,false,false,false,false,false,false,false,false,false,false,false,false,false,false,false,false,false,false,false,false] rfl rfl (any_of HT_.out (by kernel_rfl)) (fun _ _ _ h=>h) (Or.inl ⟨by rfl,?_⟩) ?_ ?_
               rotate_left
               ·intro w'
                go_simp
                with_reducible rfl
               rotate_left
               ·simp only [Act.put,List.setIfInBounds_toArray,List.set_cons_zero,List.set_cons_succ,i64_w,i32_w]
                rfl
               refine pure_ (i:=2) (N:=some 62) (v:=?_) (a':=?_) #[true,false,true,false,false,false,false,false,false,false,false,false,false,false,false,false,false,false,false,false,false] rfl rfl (any_of HT_.out (by kernel_rfl)) (fun _ _ _ h=>h) (Or.inl ⟨by rfl,?_⟩) ?_ ?_
               rotate_left
               ·intro w'
                go_simp
                with_reducible rfl
               rotate_left
               ·simp only [Act.put,List.setIfInBounds_toArray,List.set_cons_zero,List.set_cons_succ,i64_w,i32_w]
                rfl
               refine pure_ (i:=3) (N:=some 63) (v:=?_) (a':=?_) #[true,false,true,true,false,false,false,false,false,false,false,false,false,false,false,false,false,false,false,false,false] rfl rfl (any_of HT_.out (by kernel_rfl)) (fun _ _ _ h=>h) (Or.inl ⟨by rfl,?_⟩) ?_ ?_
               rotate_left
               ·intro w'
                go_simp
                with_reducible rfl
               rotate_left
               ·simp only [Act.put,List.setIfInBounds_toArray,List.set_cons_zero,List.set_cons_succ,i64_w,i32_w]
                rfl
               refine pure_ (i:=6) (N:=some 66) (v:=?_) (a':=?_) #[true,false,true,true,false,false,true,false,false,false,false,false,false,false,false,false,false,false,false,false,false] rfl rfl (any_of HT_.out (by kernel_rfl)) (fun _ _ _ h=>h) (Or.inl ⟨by rfl,?_⟩) ?_ ?_
               rotate_left
               ·intro w'
                go_simp
                with_reducible rfl
               rotate_left
               ·simp only [Act.put,List.setIfInBounds_toArray,List.set_cons_zero,List.set_cons_succ,i64_w,i32_w]
                rfl
               refine pure_ (i:=9) (N:=some 69) (v:=?_) (a':=?_) #[true,false,true,true,false,false,true,false,false,true,false,false,false,false,false,false,false,false,false,false,false] rfl rfl (any_of HT_.out (by kernel_rfl)) (fun _ _ _ h=>h) (Or.inl ⟨by rfl,?_⟩) ?_ ?_
               rotate_left
               ·intro w'
                go_simp
                with_reducible rfl
               rotate_left
               ·simp only [Act.put,List.setIfInBounds_toArray,List.set_cons_zero,List.set_cons_succ,i64_w,i32_w]
                rfl
               refine pure_ (i:=10) (N:=some 70) (v:=?_) (a':=?_) #[true,false,true,true,false,false,true,false,false,true,true,false,false,false,false,false,false,false,false,false,false] rfl rfl (any_of HT_.out (by kernel_rfl)) (fun _ _ _ h=>h) (Or.inl ⟨by rfl,?_⟩) ?_ ?_
               rotate_left
               ·intro w'
                go_simp
                with_reducible rfl
               rotate_left
               ·simp only [Act.put,List.setIfInBounds_toArray,List.set_cons_zero,List.set_cons_succ,i64_w,i32_w]
                rfl
               refine pure_ (i:=12) (N:=some 72) (v:=?_) (a':=?_) #[true,false,true,true,false,false,true,false,false,true,true,false,true,false,false,false,false,false,false,false,false] rfl rfl (any_of HT_.out (by kernel_rfl)) (fun _ _ _ h=>h) (Or.inl ⟨by rfl,?_⟩) ?_ ?_
               rotate_left
               ·intro w'
                go_simp
                with_reducible rfl
               rotate_left
               ·simp only [Act.put,List.setIfInBounds_toArray,List.set_cons_zero,List.set_cons_succ,i64_w,i32_w]
                rfl
               refine pure_ (i:=14) (N:=some 74) (v:=?_) (a':=?_) #[true,false,true,true,false,false,true,false,false,true,true,false,true,false,true,false,false,false,false,false,false] rfl rfl (any_of HT_.out (by kernel_rfl)) (fun _ _ _ h=>h) (Or.inl ⟨by rfl,?_⟩) ?_ ?_
               rotate_left
               ·intro w'
                go_simp
                with_reducible rfl
               rotate_left
               ·simp only [Act.put,List.setIfInBounds_toArray,List.set_cons_zero,List.set_cons_succ,i64_w,i32_w]
                rfl
               refine pure_ (i:=15) (N:=some 75) (v:=?_) (a':=?_) #[true,false,true,true,false,false,true,false,false,true,true,false,true,false,true,true,false,false,false,false,false] rfl rfl (any_of HT_.out (by kernel_rfl)) (fun _ _ _ h=>h) (Or.inl ⟨by rfl,?_⟩) ?_ ?_
               rotate_left
               ·intro w'
                go_simp
                with_reducible rfl
               rotate_left
               ·simp only [Act.put,List.setIfInBounds_toArray,List.set_cons_zero,List.set_cons_succ,i64_w,i32_w]
                rfl
               refine take_ (i:=1) (N:=some 61) (v:=?_) (a':=?_) #[true,true,true,true,false,false,true,false,false,true,true,false,true,false,true,true,false,false,false,false,false] rfl rfl (take_ofW HT_.out HW_.out (by kernel_rfl)) (fun _ _ _ h=>h) (Or.inl ⟨by rfl,?_⟩) hHeld ?_ ?_
               rotate_left
               ·rintro w' ⟨s0,s1,s2⟩
                go_simp
                with_reducible rfl
               rotate_left
               ·simp only [Act.put,List.setIfInBounds_toArray,List.set_cons_zero,List.set_cons_succ,i64_w,i32_w]
                rfl
               refine take_ (i:=4) (N:=some 64) (v:=?_) (a':=?_) #[true,true,true,true,true,false,true,false,false,true,true,false,true,false,true,true,false,false,false,false,false] rfl rfl (take_ofW HT_.out HW_.out (by kernel_rfl)) (fun _ _ _ h=>h) (Or.inl ⟨by rfl,?_⟩) hHeld ?_ ?_
               rotate_left
               ·rintro w' ⟨s0,s1,s2⟩
                go_simp
                with_reducible rfl
               rotate_left
               ·simp only [Act.put,List.setIfInBounds_toArray,List.set_cons_zero,List.set_cons_succ,i64_w,i32_w]
                rfl
               refine pure_ (i:=5) (N:=some 65) (v:=?_) (a':=?_) #[true,true,true,true,true,true,true,false,false,true,true,false,true,false,true,true,false,false,false,false,false] rfl rfl (any_of HT_.out (by kernel_rfl)) (fun _ _ _ h=>h) (Or.inl ⟨by rfl,?_⟩) ?_ ?_
               rotate_left
               ·intro w'
                go_simp
                with_reducible rfl
               rotate_left
               ·simp only [Act.put,List.setIfInBounds_toArray,List.set_cons_zero,List.set_cons_succ,i64_w,i32_w]
                rfl
               refine pure_ (i:=7) (N:=some 67) (v:=?_) (a':=?_) #[true,true,true,true,true,true,true,true,false,true,true,false,true,false,true,true,false,false,false,false,false] rfl rfl (any_of HT_.out (by kernel_rfl)) (fun _ _ _ h=>h) (Or.inl ⟨by rfl,?_⟩) ?_ ?_
               rotate_left
               ·intro w'
                go_simp
                with_reducible rfl
               rotate_left
               ·simp only [Act.put,List.setIfInBounds_toArray,List.set_cons_zero,List.set_cons_succ,i64_w,i32_w]
                rfl
               refine take_ (i:=8) (N:=some 68) (v:=?_) (a':=?_) #[true,true,true,true,true,true,true,true,true,true,true,false,true,false,true,true,false,false,false,false,false] rfl rfl (take_ofW HT_.out HW_.out (by kernel_rfl)) (fun _ _ _ h=>h) (Or.inl ⟨by rfl,?_⟩) hHeld ?_ ?_
               rotate_left
               ·rintro w' ⟨s0,s1,s2⟩
                go_simp
                with_reducible rfl
               rotate_left
               ·simp only [Act.put,List.setIfInBounds_toArray,List.set_cons_zero,List.set_cons_succ,i64_w,i32_w]
                rfl
               refine take_ (i:=13) (N:=some 73) (v:=?_) (a':=?_) #[true,true,true,true,true,true,true,true,true,true,true,false,true,true,true,true,false,false,false,false,false] rfl rfl (take_ofW HT_.out HW_.out (by kernel_rfl)) (fun _ _ _ h=>h) (Or.inl ⟨by rfl,?_⟩) hHeld ?_ ?_
               rotate_left
               ·rintro w' ⟨s0,s1,s2⟩
                go_simp
                with_reducible rfl
               rotate_left
               ·simp only [Act.put,List.setIfInBounds_toArray,List.set_cons_zero,List.set_cons_succ,i64_w,i32_w]
                rfl
               refine one_ (i:=11) (N:=some 71) #[true,true,true,true,true,true,true,true,true,true,true,true,true,true,true,true,false,false,false,false,false] rfl rfl (one_of HT_.out (by kernel_rfl)) (by decide) (fun K hK=>?_)
               refine goes_ Try.func67 (by kernel_rfl) rfl #[.agg #[.int .i64 a0_0,.int .i64 a0_1,.slice Ao6 x122002_4.length co6],.int .i64 x8_2,.int .i64 x10_4] (by rfl) rfl rfl (by (try simp only [List.map_toArray,List.map_cons,List.map_nil]);first|done|rfl) ?_
               with_reducible refine (spec_l03At.calls a0_0 a0_1 _ _ x122002_4 x8_2 x10_4 t128 _ ?side1 ?side2 A30.out).mono ?_
               (case side1=>repeat (first|exact (Kd.R_reads' HO_122002.out).2.2|(with_reducible refine Kd.C_alloc ?_ _)|(with_reducible refine Kd.C_drewN ?_ _)|(with_reducible refine Kd.C_drew ?_)))
               (case side2=>exact (Kd.R_reads' HO_122002.out).2.1)
               rintro e w39 ⟨rfl,hb⟩
               refine ⟨_,rfl,?_⟩
               have n0_:=Aside0.mk (Kd.R_below (by (with_reducible repeat (first|apply Kd.R_alloc|apply Kd.R_drewN));exact HO_122002.out) hb)
               have n1_:=Aside0.mk (blk_below (g:=gb121) (o:=.cells #[.int .i64 a0_0,.int .i64 a0_1,.slice Ao6 x122002_4.length co6] 27 (0,0)) (by (with_reducible repeat first|refine blk_drewN ?_ _|refine blk_alloc ?_ _);exact BK121.out) hb)
               have n2_:=Aside0.mk (Kept.below (S:=(fun k_=>P0_2_ k_)) (by repeat (first|(with_reducible first|exact HK.out|apply Kept.alloc|apply Kept.drewN|refine Kept.setCell ?_ (.inr GW121.out) _)|exact HK.out)) hb)
               have n3_:=Aside0.mk (below_step (by repeat (first|(with_reducible first|exact HB.out|apply below_alloc|apply pw_below_drewN|apply below_drew1|refine below_set ?_ GE121.out)|exact HB.out)) hb)
               clear HO_122002 BK121 HK HB
               have HO_122002:=n0_
               have BK121:=n1_
               have HK:=n2_
               have HB:=n3_
               clear n0_ n1_ n2_ n3_
               (try clear hb);(try clear hb2);(try clear hk);(try clear hi)
               refine hK.out _ _ ⟨(blk_cell BK121.out 0).trans rfl,(blk_cell BK121.out 1).trans rfl,(blk_cell BK121.out 2).trans rfl⟩ (fun hHeld=>?_)
               clear hK K
               refine norm_ (a':=?_) ?_ ?_
               rotate_left
               ·show Act.put _ (some 71) _ = _
                simp only [Act.put,List.setIfInBounds_toArray,List.set_cons_zero,List.set_cons_succ,i64_w,i32_w]
                rfl
               refine one_ (i:=16) (N:=some 76) #[true,true,true,true,true,true,true,true,true,true,true,true,true,true,true,true,true,false,false,false,false] rfl rfl (one_of HT_.out (by kernel_rfl)) (by decide) (fun K hK=>?_)
               refine goes_ Try.func67 (by kernel_rfl) rfl #[.agg #[.int .i64 a0_0,.int .i64 a0_1,.slice Ao6 x122002_4.length co6],.int .i64 a1,.int .i64 x10_4] (by rfl) rfl rfl (by (try simp only [List.map_toArray,List.map_cons,List.map_nil]);first|done|rfl) ?_
               with_reducible refine (spec_l03At.calls a0_0 a0_1 _ _ x122002_4 a1 x10_4 t129 _ ?side1 ?side2 A31.out).mono ?_
               (case side1=>repeat (first|exact (Kd.R_reads' HO_122002.out).2.2|(with_reducible refine Kd.C_alloc ?_ _)|(with_reducible refine Kd.C_drewN ?_ _)|(with_reducible refine Kd.C_drew ?_)))
               (case side2=>exact (Kd.R_reads' HO_122002.out).2.1)
               rintro e w40 ⟨rfl,hb⟩
               refine ⟨_,rfl,?_⟩
               have n0_:=Aside0.mk (Kd.R_below (by (with_reducible repeat (first|apply Kd.R_alloc|apply Kd.R_drewN));exact HO_122002.out) hb)
               have n1_:=Aside0.mk (blk_below (g:=gb121) (o:=.cells #[.int .i64 a0_0,.int .i64 a0_1,.slice Ao6 x122002_4.length co6] 27 (0,0)) (by (with_reducible repeat first|refine blk_drewN ?_ _|refine blk_alloc ?_ _);exact BK121.out) hb)
               have n2_:=Aside0.mk (Kept.below (S:=(fun k_=>P0_2_ k_)) (by repeat (first|(with_reducible first|exact HK.out|apply Kept.alloc|apply Kept.drewN|refine Kept.setCell ?_ (.inr GW121.out) _)|exact HK.out)) hb)
               have n3_:=Aside0.mk (below_step (by repeat (first|(with_reducible first|exact HB.out|apply below_alloc|apply pw_below_drewN|apply below_drew1|refine below_set ?_ GE121.out)|exact HB.out)) hb)
               clear HO_122002 BK121 HK HB
               have HO_122002:=n0_
               have BK121:=n1_
               have HK:=n2_
               have HB:=n3_
               clear n0_ n1_ n2_ n3_
               (try clear hb);(try clear hb2);(try clear hk);(try clear hi)
               refine hK.out _ _ ⟨(blk_cell BK121.out 0).trans rfl,(blk_cell BK121.out 1).trans rfl,(blk_cell BK121.out 2).trans rfl⟩ (fun hHeld=>?_)
               clear hK K
               refine norm_ (a':=?_) ?_ ?_
               rotate_left
               ·show Act.put _ (some 76) _ = _
                simp only [Act.put,List.setIfInBounds_toArray,List.set_cons_zero,List.set_cons_succ,i64_w,i32_w]
                rfl
               refine one_ (i:=17) (N:=some 77) #[true,true,true,true,true,true,true,true,true,true,true,true,true,true,true,true,true,true,false,false,false] rfl rfl (one_of HT_.out (by kernel_rfl)) (by decide) (fun K hK=>?_)
               refine goes_ Try.func124 (by kernel_rfl) rfl #[.int .i64 t127,.int .i64 t129] (by rfl) rfl rfl (by (try simp only [List.map_toArray,List.map_cons,List.map_nil]);first|done|rfl) ?_
               with_reducible refine (spec_Mul8.calls k4 t127 t129 t130 _ A32.out).mono ?_
               rintro e w' ⟨rfl,⟨nd,rfl⟩⟩
               refine ⟨_,rfl,?_⟩
               have p36 : 0 ≤ ((ji33) : Int):=of_decide_eq_true (by first|(with_reducible assumption)|assumption)
               have q36 : ((ji33) : Int) < ((x122002_4.length : Int) : Int):=of_decide_eq_true (by first|(with_reducible assumption)|assumption)
               obtain ⟨go36,co36,eo36,gb36,gl36,cl36,HG36⟩:=Kd.R_form HO_122002.out (by omega)
               (first|cases eo36|(injection eo36 with ea_ en_ ec_;(first|subst ea_|(injection ea_ with ea_;subst ea_));subst ec_;clear en_))
               have GB36:=Aside0.mk gb36
               have GG36:=Aside0.mk HG36
               clear gb36 gl36 HG36
               have HMgo36:=Aside0.mk (show (P0_2_ go36 ∨ w.heap.size ≤ go36) from (HO_122002.out.1 _ rfl))
               obtain ⟨hx36_0,hf36_0⟩:=Kd.R_celln 0 HO_122002.out ((ji33) : Int) p36 q36
               replace p36:=eq_true p36
               replace q36:=eq_true q36
               have HP41:=Kd.R_putn HO_122002.out ((ji33) : Int) (Go.bits .xor .i64 t128 t130)
               rw [← Ny131.out] at HP41
               have HQ41:=Aside0.mk HP41
               clear HP41
               refine hK.out _ _ ⟨(blk_cell BK121.out 0).trans rfl,(blk_cell BK121.out 1).trans rfl,(blk_cell BK121.out 2).trans rfl⟩ (fun hHeld=>?_)
               clear hK K
               refine norm_ (a':=?_) ?_ ?_
               rotate_left
               ·show Act.put _ (some 77) _ = _
                simp only [Act.put,List.setIfInBounds_toArray,List.set_cons_zero,List.set_cons_succ,i64_w,i32_w]
                rfl
               refine pure_ (i:=18) (N:=some 78) (v:=?_) (a':=?_) #[true,true,true,true,true,true,true,true,true,true,true,true,true,true,true,true,true,true,true,false,false] rfl rfl (any_of HT_.out (by kernel_rfl)) (fun _ _ _ h=>h) (Or.inl ⟨by rfl,?_⟩) ?_ ?_
               rotate_left
               ·intro w'
                go_simp
                with_reducible rfl
               rotate_left
               ·simp only [Act.put,List.setIfInBounds_toArray,List.set_cons_zero,List.set_cons_succ,i64_w,i32_w]
                rfl
               refine pure_ (i:=19) (N:=some 79) (v:=?_) (a':=?_) #[true,true,true,true,true,true,true,true,true,true,true,true,true,true,true,true,true,true,true,true,false] rfl rfl (any_of HT_.out (by kernel_rfl)) (fun _ _ _ h=>h) (Or.inl ⟨by rfl,?_⟩) ?_ ?_
               rotate_left
               ·intro w'
                go_simp
                with_reducible rfl
               rotate_left
               ·simp only [Act.put,List.setIfInBounds_toArray,List.set_cons_zero,List.set_cons_succ,i64_w,i32_w]
                rfl
               refine last_ (i:=20) (N:=none) #[true,true,true,true,true,true,true,true,true,true,true,true,true,true,true,true,true,true,true,true,true] rfl rfl (one_of HT_.out (by kernel_rfl)) (by decide) (fun K hK=>?_)
               refine skip_ (w1:=?_) (by rfl) rfl ?_ ?_
               rotate_left
               ·go_simp
                rfl
               refine hK.out _ _ ?_
               clear hK K
               refine done_ (done_of HT_.out (by kernel_rfl)) ?_
               try go_wp2
               (try simp only [← hl122002_4])
               go_roundg k4
               case measure=>have:=HK1.out;have:=HK2.out;have:=HJ23.out;have:=HK4.out;omega
               case rel=>exact ⟨(wrap64 (x10_4 + 1)),(y131),(by first|rfl|(simp;done)|(simp [*];done)),H',⟨by have:=HK1.out;have:=HK2.out;have:=HJ23.out;have:=HK4.out;omega⟩,⟨by (try simp only [hl122002_1]);(try simp only [hl122002_2]);(try simp only [hl122002_4]);(with_reducible repeat (first|apply Kd.R_alloc|apply Kd.R_drewN));exact HQ41.out⟩,⟨by (try simp only [hl122002_1]);(try simp only [hl122002_2]);(try simp only [hl122002_4]);(with_reducible repeat first|refine blk_drewN ?_ _|refine blk_alloc ?_ _);refine blk_far ?_ (by have h_:=Kd.R_ne HO_122002.out BK121.out (by decide);intro e_;exact h_ (by rw [e_];rfl)) _;(with_reducible repeat first|refine blk_drewN ?_ _|refine blk_alloc ?_ _);exact BK121.out⟩,⟨by repeat (first|(with_reducible first|exact HK.out|apply Kept.alloc|apply Kept.drewN|refine Kept.setCell ?_ HMgo36.out _|refine Kept.setCell ?_ (.inr GW121.out) _)|exact HK.out)⟩,⟨by repeat (first|(with_reducible first|exact HB.out|apply below_alloc|apply pw_below_drewN|apply below_drew1|refine below_set ?_ GB36.out|refine below_set ?_ GE121.out)|exact HB.out)⟩⟩
              ·rw [if_neg c35] at H
               exact absurd H (by simp)
             ·rw [if_neg c34] at H
              exact absurd H (by simp)
            ·rw [if_neg c29] at H
             have c29b0 : decide (x10_4 < a0_1) = false:=decide_eq_false c29
             clear c29
             have H':=Aside0.mk H
             clear H
             have hcz42_0 : wr.cell? ⟨gb121,0,none⟩ = some (.int .i64 a0_0):=(blk_cell BK121.out 0).trans rfl
             have hcz42_1 : wr.cell? ⟨gb121,1,none⟩ = some (.int .i64 a0_1):=(blk_cell BK121.out 1).trans rfl
             have hcz42_2 : wr.cell? ⟨gb121,2,none⟩ = some (.slice Ao6 x122002_4.length co6):=(blk_cell BK121.out 2).trans rfl
             have hfz42_0:=blk_frozen BK121.out 0
             have hfz42_1:=blk_frozen BK121.out 1
             have hfz42_2:=blk_frozen BK121.out 2
             go_wp2
             (try simp only [← hl122002_2,← hl122002_4])
             go_roundg k4
             case measure=>have:=HK1.out;have:=HK2.out;have:=HJ23.out;have:=HK4.out;omega
             case rel=>exact ⟨(wrap64 (x8_2 + 1)),(x122002_4),(by first|rfl|(simp;done)|(simp [*];done)),H',⟨by have:=HK1.out;have:=HK2.out;have:=HJ23.out;have:=HK4.out;omega⟩,⟨by (try simp only [hl122002_1]);(try simp only [hl122002_2]);(try simp only [hl122002_4]);(with_reducible repeat (first|apply Kd.R_alloc|apply Kd.R_drewN));exact HO_122002.out⟩,⟨by (try simp only [hl122002_1]);(try simp only [hl122002_2]);(try simp only [hl122002_4]);(with_reducible repeat first|refine blk_drewN ?_ _|refine blk_alloc ?_ _);exact BK121.out⟩,⟨by repeat (first|(with_reducible first|exact HK.out|apply Kept.alloc|apply Kept.drewN|refine Kept.setCell ?_ (.inr GW121.out) _)|exact HK.out)⟩,⟨by repeat (first|(with_reducible first|exact HB.out|apply below_alloc|apply pw_below_drewN|apply below_drew1|refine below_set ?_ GE121.out)|exact HB.out)⟩⟩
      ·rw [if_neg c22] at H
       have c22b0 : decide (x8_2 < a0_0) = false:=decide_eq_false c22
       clear c22
       obtain rfl:=Option.some.inj H
       have hcz43_0 : wr.cell? ⟨gb121,0,none⟩ = some (.int .i64 a0_0):=(blk_cell BK121.out 0).trans rfl
       have hcz43_1 : wr.cell? ⟨gb121,1,none⟩ = some (.int .i64 a0_1):=(blk_cell BK121.out 1).trans rfl
       have hcz43_2 : wr.cell? ⟨gb121,2,none⟩ = some (.slice Ao6 x122002_2.length co6):=(blk_cell BK121.out 2).trans rfl
       have hfz43_0:=blk_frozen BK121.out 0
       have hfz43_1:=blk_frozen BK121.out 1
       have hfz43_2:=blk_frozen BK121.out 2
       go_wp2
       first|go_end0|((try simp only [Exit.inBlock,Exit.then]);refine bodyPost_ret (results_none rfl _ _ _) rfl ?_)
       exact ⟨by first|rfl|(simp [errW_none,errW_some] <;> rfl)|(simp [*,errW_none,errW_some] <;> rfl),(by first|exact (by (with_reducible repeat (first|apply Kd.R_alloc|apply Kd.R_drewN));exact HO_122002.out)|(simp only [hl122002_1,hl122002_2];exact (by (with_reducible repeat (first|apply Kd.R_alloc|apply Kd.R_drewN));exact HO_122002.out))),by repeat (first|(with_reducible first|exact HB.out|apply below_alloc|apply pw_below_drewN|apply below_drew1|refine below_set ?_ GE121.out)|exact HB.out),by repeat (first|(with_reducible first|exact HK.out|apply Kept.alloc|apply Kept.drewN|refine Kept.setCell ?_ (.inr GW121.out) _)|exact HK.out)⟩

end Go.Proofs.Ytffhbpepppodeaa.PFnInverse
