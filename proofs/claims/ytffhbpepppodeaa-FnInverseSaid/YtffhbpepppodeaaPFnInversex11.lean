import Derived.Test.YtffhbpepppodeaaPFnInversex0
import Derived.Test.YtffhbpepppodeaaPFnInversex9
import Derived.Test.YtffhbpepppodeaaPFnInversex10
namespace Go.Proofs.Ytffhbpepppodeaa.PFnInverse
open Go.RowKit Go.Proofs.YtffhbpepppodeaaW.PrintWords Go.Proofs.YtffhbpepppodeaaW.PrintLast Go.Proofs.YtffhbpepppodeaaW.PrintMore
attribute [local go_sem] max2_int min2_int max_two min_two max_three min_three max_four min_four   -- for this text's walks alone
set_option linter.unusedVariables false
set_option linter.unusedSimpArgs false

/-! ### spec_l01Src_spoilMatrix: function 78 -/
def spec_l01Src_spoilMatrix.f (s0_0 : List Int) (s0_1 : Int) (s0_2 : Int) (a1_0 : Int) (a1_1 : Int) (l1_2 : List Int) : Option (Int × Int × List Int × Int × Int):=(spec_l01Src_n.f s0_0 s0_1 s0_2 10).bind fun bt212=>(if bt212.1 = 0 then (some (wrap64 (a1_0 + 1),a1_1,l1_2,bt212.2.1,bt212.2.2)) else (if bt212.1 = 1 then ((some (([(-1),256] : List Int) : List Int)).bind fun y215=>((spec_l01Src_n.f s0_0 bt212.2.1 bt212.2.2 2).bind fun bt218=>(if 0 ≤ bt218.1 then (if bt218.1 < (y215.length : Int) then (if 0 < (l1_2.length : Int) then (some (a1_0,a1_1,(l1_2.set (0 : Int).toNat (rd y215 bt218.1)),bt218.2.1,bt218.2.2)) else (none)) else (none)) else (none)))) else (if bt212.1 = 2 then (some (a1_0,0,l1_2,bt212.2.1,bt212.2.2)) else (some (a1_0,a1_1,l1_2,bt212.2.1,bt212.2.2)))))
def spec_l01Src_spoilMatrix.T5 : Bool × List (List Nat × List Nat):=(true,[([],[]),([0],[0]),([],[]),([],[]),([3],[3]),([2,4],[2,4]),([5],[5]),([1,0,1,2,3,4,5,6],[1]),([7,6,4,0,1,2,3,4,5,6],[6,7])])
def spec_l01Src_spoilMatrix.B5 : List Nat:=[0,1,0,0,8,28,60,127,255]
theorem spec_l01Src_spoilMatrix.tab5 : rtab .any (opsOf Try.f78 5) = spec_l01Src_spoilMatrix.T5:=by kernel_rfl
theorem spec_l01Src_spoilMatrix.bits5 : waitsOk spec_l01Src_spoilMatrix.T5.2 spec_l01Src_spoilMatrix.B5 = true:=by kernel_rfl
set_option maxHeartbeats 8000000 in
set_option maxRecDepth 100000 in
theorem spec_l01Src_spoilMatrix.calls (g : Nat) (s0_0 : List Int) (s0_1 : Int) (s0_2 : Int) (a1_0 : Int) (a1_1 : Int) (P1_2_ : Nat → Prop) (u9000_ : Value) (l1_2 : List Int) (r1 : Int) (r2 : Int) (r3 : List Int) (r4 : Int) (r5 : Int) (w0 w : World) (hI : IsS171 w0 w g s0_0 s0_1 s0_2) (hB : Below w0.heap.size w0 w) (ho1_2 : Kd.R (Kd.int .i64) 2 w w0.heap.size P1_2_ u9000_ l1_2) (h : spec_l01Src_spoilMatrix.f s0_0 s0_1 s0_2 a1_0 a1_1 l1_2 = some (r1,r2,r3,r4,r5)) :
  Calls Try.prog 78 #[.pointer (some ⟨g,0,none⟩),.agg #[.int .i64 a1_0,.int .i64 a1_1,u9000_]] w fun e w'=>∃ v2_ : Value,e = .returned (.agg #[.int .i64 r1,.int .i64 r2,v2_]) ∧ Kd.R (Kd.int .i64) 2 w' w0.heap.size (fun k_=>(P1_2_ k_ ∨ w.heap.size ≤ k_)) v2_ r3 ∧ IsS171 w0 w' g s0_0 r4 r5 ∧ Below w0.heap.size w0 w' ∧ Kept w w' (fun k_=>(P1_2_ k_) ∨ k_ = g):=by
 have hu27:=Try.underlying27
 have HO1_2:=Aside0.mk (show Kd.R (Kd.int .i64) 2 w w0.heap.size (fun k_=>(P1_2_ k_ ∨ w.heap.size ≤ k_)) u9000_ l1_2 from Kd.R_mono ho1_2 (fun k_ hk=>(.inl hk)))
 have HI0:=Aside0.mk hI
 have HL:=Aside0.mk hB.size
 clear hI
 have HK:=Aside0.mk (Kept.refl w (fun k_=>(P1_2_ k_) ∨ k_ = g))
 have HW0:=Aside0.mk hB.size
 have HB:=Aside0.mk hB
 clear hB
 have H : ((spec_l01Src_n.f s0_0 s0_1 s0_2 10).bind fun bt212=>(if bt212.1 = 0 then (some (wrap64 (a1_0 + 1),a1_1,l1_2,bt212.2.1,bt212.2.2)) else (if bt212.1 = 1 then ((some (([(-1),256] : List Int) : List Int)).bind fun y215=>((spec_l01Src_n.f s0_0 bt212.2.1 bt212.2.2 2).bind fun bt218=>(if 0 ≤ bt218.1 then (if bt218.1 < (y215.length : Int) then (if 0 < (l1_2.length : Int) then (some (a1_0,a1_1,(l1_2.set (0 : Int).toNat (rd y215 bt218.1)),bt218.2.1,bt218.2.2)) else (none)) else (none)) else (none)))) else (if bt212.1 = 2 then (some (a1_0,0,l1_2,bt212.2.1,bt212.2.2)) else (some (a1_0,a1_1,l1_2,bt212.2.1,bt212.2.2)))))) = some (r1,r2,r3,r4,r5):=h
 clear h
 replace H:=Option.bind_eq_some_iff.mp H
 obtain ⟨⟨t212,t213,t214⟩,A30,H⟩:=H
 replace H : (if t212 = 0 then (some (wrap64 (a1_0 + 1),a1_1,l1_2,t213,t214)) else (if t212 = 1 then ((some (([(-1),256] : List Int) : List Int)).bind fun y215=>((spec_l01Src_n.f s0_0 t213 t214 2).bind fun bt218=>(if 0 ≤ bt218.1 then (if bt218.1 < (y215.length : Int) then (if 0 < (l1_2.length : Int) then (some (a1_0,a1_1,(l1_2.set (0 : Int).toNat (rd y215 bt218.1)),bt218.2.1,bt218.2.2)) else (none)) else (none)) else (none)))) else (if t212 = 2 then (some (a1_0,0,l1_2,t213,t214)) else (some (a1_0,a1_1,l1_2,t213,t214))))) = some (r1,r2,r3,r4,r5):=H
 have A3:=Aside0.mk A30
 clear A30
 by_cases c4 : t212 = 0
 ·rw [if_pos c4] at H
  have c4b0 : (t212 == 0) = true:=beq_iff_eq.mpr c4
  have c4b1 : (t212 != 0) = false:=bne_eq_false_iff_eq.mpr c4
  clear c4
  simp only [Option.some.injEq,Prod.mk.injEq] at H
  obtain ⟨rfl,rfl,rfl,rfl,rfl⟩:=H
  obtain ⟨Ao5,co5,eo5⟩:=Kd.R_slice HO1_2.out
  subst eo5
  go_enter Try.func78,Try.ntmps78
  go_wp2_with (first|((with_reducible refine gate_dst (N:=3) rfl ?_);refine box_event ?hg (N:=3) ?hd (cs:=#[.int .i64 a1_0,.int .i64 a1_1,.slice Ao5 l1_2.length co5]) (t:=27) ?hr ?_;(case hd=>rfl);(case hg=>rfl);(case hr=>first|(go_simp;done)|(go_simp;rfl));intro gb210 hg w6 hbox hb;have n0_:=Aside0.mk (Kd.R_below (by (with_reducible repeat (first|apply Kd.R_alloc|apply Kd.R_drewN));exact HO1_2.out) hb);have n1_:=Aside0.mk (IsS171.below (by repeat (first|(with_reducible first|exact HI0.out|apply IsS171.alloc|apply IsS171.drewN|apply IsS171.set_1|apply IsS171.set_2)|exact HI0.out)) hb);have n2_:=Aside0.mk (Kept.below (S:=(fun k_=>(P1_2_ k_) ∨ k_ = g)) (by repeat (first|(with_reducible first|exact HK.out|apply Kept.alloc|apply Kept.drewN|refine Kept.setCell ?_ (.inl (.inr rfl)) _)|exact HK.out)) hb);have n3_:=Aside0.mk (below_step (by repeat (first|(with_reducible first|exact HB.out|apply below_alloc|apply pw_below_drewN|apply below_drew1|refine below_set ?_ (IsS171.ge HI0.out))|exact HB.out)) hb);have n4_:=Aside0.mk (hbox);have n5_:=Aside0.mk ((by rw [hg];exact (by first|exact HK.out.1|exact (show Kept w _ (fun k_=>(P1_2_ k_) ∨ k_ = g) from by repeat (first|(with_reducible first|exact HK.out|apply Kept.alloc|apply Kept.drewN|refine Kept.setCell ?_ (.inl (.inr rfl)) _)|exact HK.out)).1) : w.heap.size ≤ gb210));have n6_:=Aside0.mk ((by rw [hg];exact (below_size (by repeat (first|(with_reducible first|exact HB.out|apply below_alloc|apply pw_below_drewN|apply below_drew1|refine below_set ?_ (IsS171.ge HI0.out))|exact HB.out))) : w0.heap.size ≤ gb210));have n7_:=Aside0.mk ((by rw [hg];exact Nat.ne_of_lt (IsS171.lt (show IsS171 w0 _ g s0_0 s0_1 s0_2 from by repeat (first|(with_reducible first|exact HI0.out|apply IsS171.alloc|apply IsS171.drewN|apply IsS171.set_1|apply IsS171.set_2)|exact HI0.out))) : g ≠ gb210));have n8_:=Aside0.mk ((by rw [hg];exact Nat.ne_of_gt (IsS171.lt (show IsS171 w0 _ g s0_0 s0_1 s0_2 from by repeat (first|(with_reducible first|exact HI0.out|apply IsS171.alloc|apply IsS171.drewN|apply IsS171.set_1|apply IsS171.set_2)|exact HI0.out))) : gb210 ≠ g));clear HO1_2 HI0 HK HB;have HO1_2:=n0_;have HI0:=n1_;have HK:=n2_;have HB:=n3_;have BK210:=n4_;have GW210:=n5_;have GE210:=n6_;have NB0_210:=n7_;have NB210_0:=n8_;clear n0_ n1_ n2_ n3_ n4_ n5_ n6_ n7_ n8_ hb hbox hg)|((with_reducible refine gate_dst (N:=4) rfl ?_);refine box_event ?hg (N:=4) ?hd (cs:=#[.int .i64 0,.int .i64 0,.slice none 0 0]) (t:=27) ?hr ?_;(case hd=>rfl);(case hg=>rfl);(case hr=>first|(go_simp;done)|(go_simp;rfl));intro gb211 hg w7 hbox hb;have n0_:=Aside0.mk (Kd.R_below (by (with_reducible repeat (first|apply Kd.R_alloc|apply Kd.R_drewN));exact HO1_2.out) hb);have n1_:=Aside0.mk (IsS171.below (by repeat (first|(with_reducible first|exact HI0.out|apply IsS171.alloc|apply IsS171.drewN|apply IsS171.set_1|apply IsS171.set_2|refine IsS171.far ?_ NB0_210.out _)|exact HI0.out)) hb);have n2_:=Aside0.mk (blk_below (g:=gb210) (o:=.cells #[.int .i64 a1_0,.int .i64 a1_1,.slice Ao5 l1_2.length co5] 27 (0,0)) (by (with_reducible repeat first|refine blk_drewN ?_ _|refine blk_alloc ?_ _);exact BK210.out) hb);have n3_:=Aside0.mk (Kept.below (S:=(fun k_=>(P1_2_ k_) ∨ k_ = g)) (by repeat (first|(with_reducible first|exact HK.out|apply Kept.alloc|apply Kept.drewN|refine Kept.setCell ?_ (.inl (.inr rfl)) _|refine Kept.setCell ?_ (.inr GW210.out) _)|exact HK.out)) hb);have n4_:=Aside0.mk (below_step (by repeat (first|(with_reducible first|exact HB.out|apply below_alloc|apply pw_below_drewN|apply below_drew1|refine below_set ?_ (IsS171.ge HI0.out)|refine below_set ?_ GE210.out)|exact HB.out)) hb);have n5_:=Aside0.mk (hbox);have n6_:=Aside0.mk ((by rw [hg];exact (by first|exact HK.out.1|exact (show Kept w _ (fun k_=>(P1_2_ k_) ∨ k_ = g) from by repeat (first|(with_reducible first|exact HK.out|apply Kept.alloc|apply Kept.drewN|refine Kept.setCell ?_ (.inl (.inr rfl)) _|refine Kept.setCell ?_ (.inr GW210.out) _)|exact HK.out)).1) : w.heap.size ≤ gb211));have n7_:=Aside0.mk ((by rw [hg];exact (below_size (by repeat (first|(with_reducible first|exact HB.out|apply below_alloc|apply pw_below_drewN|apply below_drew1|refine below_set ?_ (IsS171.ge HI0.out)|refine below_set ?_ GE210.out)|exact HB.out))) : w0.heap.size ≤ gb211));have n8_:=Aside0.mk ((by rw [hg];exact Nat.ne_of_lt (blk_lt (g:=gb210) (o:=.cells #[.int .i64 a1_0,.int .i64 a1_1,.slice Ao5 l1_2.length co5] 27 (0,0)) (by (with_reducible repeat first|refine blk_drewN ?_ _|refine blk_alloc ?_ _);exact BK210.out)) : gb210 ≠ gb211));have n9_:=Aside0.mk ((by rw [hg];exact Nat.ne_of_gt (blk_lt (g:=gb210) (o:=.cells #[.int .i64 a1_0,.int .i64 a1_1,.slice Ao5 l1_2.length co5] 27 (0,0)) (by (with_reducible repeat first|refine blk_drewN ?_ _|refine blk_alloc ?_ _);exact BK210.out)) : gb211 ≠ gb210));have n10_:=Aside0.mk ((by rw [hg];exact Nat.ne_of_lt (IsS171.lt (show IsS171 w0 _ g s0_0 s0_1 s0_2 from by repeat (first|(with_reducible first|exact HI0.out|apply IsS171.alloc|apply IsS171.drewN|apply IsS171.set_1|apply IsS171.set_2|refine IsS171.far ?_ NB0_210.out _)|exact HI0.out))) : g ≠ gb211));have n11_:=Aside0.mk ((by rw [hg];exact Nat.ne_of_gt (IsS171.lt (show IsS171 w0 _ g s0_0 s0_1 s0_2 from by repeat (first|(with_reducible first|exact HI0.out|apply IsS171.alloc|apply IsS171.drewN|apply IsS171.set_1|apply IsS171.set_2|refine IsS171.far ?_ NB0_210.out _)|exact HI0.out))) : gb211 ≠ g));clear HO1_2 HI0 BK210 HK HB;have HO1_2:=n0_;have HI0:=n1_;have BK210:=n2_;have HK:=n3_;have HB:=n4_;have BK211:=n5_;have GW211:=n6_;have GE211:=n7_;have NB210_211:=n8_;have NB211_210:=n9_;have NB0_211:=n10_;have NB211_0:=n11_;clear n0_ n1_ n2_ n3_ n4_ n5_ n6_ n7_ n8_ n9_ n10_ n11_ hb hbox hg)|((with_reducible refine gate_callee (f:=75) rfl ?_);refine goesL_ (some 6) rfl rfl Try.func75 (by kernel_rfl) rfl #[.pointer (some ⟨g,0,none⟩),.int .i64 10] rfl (by (try simp only [List.map_toArray,List.map_cons,List.map_nil]);first|done|rfl) ?_;(with_reducible refine (spec_l01Src_n.calls g s0_0 s0_1 s0_2 10 t212 t213 t214 w0 _ ?side1 ?side2 A3.out).mono ?_);(case side1=>repeat (first|(with_reducible first|exact HI0.out|apply IsS171.alloc|apply IsS171.drewN|apply IsS171.set_1|apply IsS171.set_2|refine IsS171.far ?_ NB0_210.out _|refine IsS171.far ?_ NB0_211.out _)|exact HI0.out));(case side2=>repeat (first|(with_reducible first|exact HB.out|apply below_alloc|apply pw_below_drewN|apply below_drew1|refine below_set ?_ (IsS171.ge HI0.out)|refine below_set ?_ GE210.out|refine below_set ?_ GE211.out)|exact HB.out));rintro e w8 ⟨rfl,hi,hb,hk⟩;refine ⟨_,rfl,?_⟩;have n0_:=Aside0.mk (Kd.R_mono (Kd.R_keep (IsS171.apart (show IsS171 w0 _ g s0_0 s0_1 s0_2 from by repeat (first|(with_reducible first|exact HI0.out|apply IsS171.alloc|apply IsS171.drewN|apply IsS171.set_1|apply IsS171.set_2|refine IsS171.far ?_ NB0_210.out _|refine IsS171.far ?_ NB0_211.out _)|exact HI0.out)) (by (with_reducible repeat (first|apply Kd.R_alloc|apply Kd.R_drewN));exact HO1_2.out) (by decide)) hk (fun _ h=>h.2)) (fun _ h=>h.1));have n1_:=Aside0.mk (KeepBut.blk hk (g':=gb210) (o:=.cells #[.int .i64 a1_0,.int .i64 a1_1,.slice Ao5 l1_2.length co5] 27 (0,0)) (by (with_reducible repeat first|refine blk_drewN ?_ _|refine blk_alloc ?_ _);exact BK210.out) NB210_0.out (by simp));have n2_:=Aside0.mk (KeepBut.blk hk (g':=gb211) (o:=.cells #[.int .i64 0,.int .i64 0,.slice none 0 0] 27 (0,0)) (by (with_reducible repeat first|refine blk_drewN ?_ _|refine blk_alloc ?_ _);exact BK211.out) NB211_0.out (by simp));have n3_:=Aside0.mk (Kept.of_keep (S:=(fun k_=>(P1_2_ k_) ∨ k_ = g)) (by repeat (first|(with_reducible first|exact HK.out|apply Kept.alloc|apply Kept.drewN|refine Kept.setCell ?_ (.inl (.inr rfl)) _|refine Kept.setCell ?_ (.inr GW210.out) _|refine Kept.setCell ?_ (.inr GW211.out) _)|exact HK.out)) hk (.inl (.inr rfl)));have n4_:=Aside0.mk (hb);have n5_:=Aside0.mk (hi);clear HO1_2 BK210 BK211 HK HB HI0;have HO1_2:=n0_;have BK210:=n1_;have BK211:=n2_;have HK:=n3_;have HB:=n4_;have HI0:=n5_;clear n0_ n1_ n2_ n3_ n4_ n5_;(try clear hb);(try clear hb2);(try clear hk);(try clear hi);have hnb9:=NB210_211.out;have hnc9:=NB211_210.out;have hnb10:=NB210_0.out;have hnc10:=NB0_210.out;have hcz11_0 : w8.cell? ⟨gb210,0,none⟩ = some (.int .i64 a1_0):=(blk_cell BK210.out 0).trans rfl;have hcz11_1 : w8.cell? ⟨gb210,1,none⟩ = some (.int .i64 a1_1):=(blk_cell BK210.out 1).trans rfl;have hcz11_2 : w8.cell? ⟨gb210,2,none⟩ = some (.slice Ao5 l1_2.length co5):=(blk_cell BK210.out 2).trans rfl;have hfz11_0:=blk_frozen BK210.out 0;have hfz11_1:=blk_frozen BK210.out 1;have hfz11_2:=blk_frozen BK210.out 2;have hnb12:=NB211_0.out;have hnc12:=NB0_211.out;have hcz13_0 : w8.cell? ⟨gb211,0,none⟩ = some (.int .i64 0):=(blk_cell BK211.out 0).trans rfl;have hcz13_1 : w8.cell? ⟨gb211,1,none⟩ = some (.int .i64 0):=(blk_cell BK211.out 1).trans rfl;have hcz13_2 : w8.cell? ⟨gb211,2,none⟩ = some (.slice none 0 0):=(blk_cell BK211.out 2).trans rfl;have hfz13_0:=blk_frozen BK211.out 0;have hfz13_1:=blk_frozen BK211.out 1;have hfz13_2:=blk_frozen BK211.out 2))
  refine bodyPost_ret (results_cell_row rfl _ _ gb211 27 #[.int .i64 (wrap64 (a1_0 + 1)),.int .i64 a1_1,.slice Ao5 l1_2.length co5] (0,0) _ rfl (by (with_reducible repeat first|refine blk_drewN ?_ _|refine blk_alloc ?_ _);refine blk_put (cs:=#[.int .i64 (wrap64 (a1_0 + 1)),.int .i64 a1_1,.slice none 0 0]) ?_ 2 _ rfl;(with_reducible repeat first|refine blk_drewN ?_ _|refine blk_alloc ?_ _);refine blk_put (cs:=#[.int .i64 (wrap64 (a1_0 + 1)),.int .i64 0,.slice none 0 0]) ?_ 1 _ rfl;(with_reducible repeat first|refine blk_drewN ?_ _|refine blk_alloc ?_ _);refine blk_put (cs:=#[.int .i64 0,.int .i64 0,.slice none 0 0]) ?_ 0 _ rfl;(with_reducible repeat first|refine blk_drewN ?_ _|refine blk_alloc ?_ _);refine blk_far ?_ NB211_210.out _;(with_reducible repeat first|refine blk_drewN ?_ _|refine blk_alloc ?_ _);exact BK211.out) Try.underlying27 rfl (by kernel_rfl)) rfl ?_
  exact ⟨_,by first|rfl|(simp [errW_none,errW_some] <;> rfl)|(simp [*,errW_none,errW_some] <;> rfl),by (with_reducible repeat (first|apply Kd.R_alloc|apply Kd.R_drewN));exact Kd.R_mono (Kd.R_far (p:=⟨gb211,2,none⟩) (Kd.R_far (p:=⟨gb211,1,none⟩) (Kd.R_far (p:=⟨gb211,0,none⟩) (Kd.R_far (p:=⟨gb210,0,none⟩) (Kd.R_types (Kd.R_types HO1_2.out BK210.out (by decide)) BK211.out (by decide)) (fun _ hk=>hk.1.2) (.int .i64 (wrap64 (a1_0 + 1)))) (fun _ hk=>hk.2) (.int .i64 (wrap64 (a1_0 + 1)))) (fun _ hk=>hk.2) (.int .i64 a1_1)) (fun _ hk=>hk.2) (.slice Ao5 l1_2.length co5)) (fun _ hk=>hk.1.1),by repeat (first|(with_reducible first|exact HI0.out|apply IsS171.alloc|apply IsS171.drewN|apply IsS171.set_1|apply IsS171.set_2|refine IsS171.far ?_ NB0_210.out _|refine IsS171.far ?_ NB0_211.out _)|exact HI0.out),by repeat (first|(with_reducible first|exact HB.out|apply below_alloc|apply pw_below_drewN|apply below_drew1|refine below_set ?_ (IsS171.ge HI0.out)|refine below_set ?_ GE210.out|refine below_set ?_ GE211.out)|exact HB.out),by repeat (first|(with_reducible first|exact HK.out|apply Kept.alloc|apply Kept.drewN|refine Kept.setCell ?_ (.inl (.inr rfl)) _|refine Kept.setCell ?_ (.inr GW210.out) _|refine Kept.setCell ?_ (.inr GW211.out) _)|exact HK.out)⟩
 ·rw [if_neg c4] at H
  have c4b0 : (t212 == 0) = false:=beq_eq_false_iff_ne.mpr c4
  have c4b1 : (t212 != 0) = true:=bne_iff_ne.mpr c4
  by_cases c14 : t212 = 1
  ·rw [if_pos c14] at H
   have c14b0 : (t212 == 1) = true:=beq_iff_eq.mpr c14
   have c14b1 : (t212 != 1) = false:=bne_eq_false_iff_eq.mpr c14
   clear c14
   obtain ⟨y215,hy215⟩ : ∃ y_ : List Int,y_ = (([(-1),256] : List Int)):=⟨_,rfl⟩
   replace H : ((spec_l01Src_n.f s0_0 t213 t214 2).bind fun bt218=>(if 0 ≤ bt218.1 then (if bt218.1 < (y215.length : Int) then (if 0 < (l1_2.length : Int) then (some (a1_0,a1_1,(l1_2.set (0 : Int).toNat (rd y215 bt218.1)),bt218.2.1,bt218.2.2)) else (none)) else (none)) else (none))) = some (r1,r2,r3,r4,r5):=by first|(rw [hy215];with_reducible exact H)|(have H2_:=(Option.bind_some _ _).symm.trans H;rw [hy215];with_reducible exact H2_)|(have H2_:=(Option.bind_some _ _).symm.trans H;with_reducible exact H2_)|with_reducible exact H|(rw [hy215];exact H)|exact H
   have Ny215:=Aside0.mk hy215
   clear hy215
   replace H:=Option.bind_eq_some_iff.mp H
   obtain ⟨⟨t218,t219,t220⟩,A150,H⟩:=H
   replace H : (if 0 ≤ t218 then (if t218 < (y215.length : Int) then (if 0 < (l1_2.length : Int) then (some (a1_0,a1_1,(l1_2.set (0 : Int).toNat (rd y215 t218)),t219,t220)) else (none)) else (none)) else (none)) = some (r1,r2,r3,r4,r5):=H
   have A15:=Aside0.mk A150
   clear A150
   by_cases c16 : 0 ≤ t218
   ·rw [if_pos c16] at H
    have c16b0 : decide (0 ≤ t218) = true:=decide_eq_true c16
    clear c16
    by_cases c17 : t218 < (y215.length : Int)
    ·rw [if_pos c17] at H
     have c17b0 : decide (t218 < (y215.length : Int)) = true:=decide_eq_true c17
     clear c17
     by_cases c18 : 0 < (l1_2.length : Int)
     ·rw [if_pos c18] at H
      have c18b0 : decide (0 < (l1_2.length : Int)) = true:=decide_eq_true c18
      have c18b1 : decide (0 < l1_2.length) = true:=decide_eq_true (by omega)
      clear c18
      obtain ⟨y222,hy222⟩ : ∃ y_ : List Int,y_ = (l1_2.set (0 : Int).toNat (rd y215 t218)):=⟨_,rfl⟩
      replace H : (some (a1_0,a1_1,y222,t219,t220)) = some (r1,r2,r3,r4,r5):=by first|(rw [hy222];with_reducible exact H)|(have H2_:=(Option.bind_some _ _).symm.trans H;rw [hy222];with_reducible exact H2_)|(have H2_:=(Option.bind_some _ _).symm.trans H;with_reducible exact H2_)|with_reducible exact H|(rw [hy222];exact H)|exact H
      have Ny222:=Aside0.mk hy222
      clear hy222
      simp only [Option.some.injEq,Prod.mk.injEq] at H
      obtain ⟨rfl,rfl,rfl,rfl,rfl⟩:=H
      obtain ⟨Ao20,co20,eo20⟩:=Kd.R_slice HO1_2.out
      subst eo20
      go_enter Try.func78,Try.ntmps78
      try go_wp2_with (first|((with_reducible refine gate_dst (N:=3) rfl ?_);refine box_event ?hg (N:=3) ?hd (cs:=#[.int .i64 a1_0,.int .i64 a1_1,.slice Ao20 l1_2.length co20]) (t:=27) ?hr ?_;(case hd=>rfl);(case hg=>rfl);(case hr=>first|(go_simp;done)|(go_simp;rfl));intro gb210 hg w21 hbox hb;have n0_:=Aside0.mk (Kd.R_below (by (with_reducible repeat (first|apply Kd.R_alloc|apply Kd.R_drewN));exact HO1_2.out) hb);have n1_:=Aside0.mk (IsS171.below (by repeat (first|(with_reducible first|exact HI0.out|apply IsS171.alloc|apply IsS171.drewN|apply IsS171.set_1|apply IsS171.set_2)|exact HI0.out)) hb);have n2_:=Aside0.mk (Kept.below (S:=(fun k_=>(P1_2_ k_) ∨ k_ = g)) (by repeat (first|(with_reducible first|exact HK.out|apply Kept.alloc|apply Kept.drewN|refine Kept.setCell ?_ (.inl (.inr rfl)) _)|exact HK.out)) hb);have n3_:=Aside0.mk (below_step (by repeat (first|(with_reducible first|exact HB.out|apply below_alloc|apply pw_below_drewN|apply below_drew1|refine below_set ?_ (IsS171.ge HI0.out))|exact HB.out)) hb);have n4_:=Aside0.mk (hbox);have n5_:=Aside0.mk ((by rw [hg];exact (by first|exact HK.out.1|exact (show Kept w _ (fun k_=>(P1_2_ k_) ∨ k_ = g) from by repeat (first|(with_reducible first|exact HK.out|apply Kept.alloc|apply Kept.drewN|refine Kept.setCell ?_ (.inl (.inr rfl)) _)|exact HK.out)).1) : w.heap.size ≤ gb210));have n6_:=Aside0.mk ((by rw [hg];exact (below_size (by repeat (first|(with_reducible first|exact HB.out|apply below_alloc|apply pw_below_drewN|apply below_drew1|refine below_set ?_ (IsS171.ge HI0.out))|exact HB.out))) : w0.heap.size ≤ gb210));have n7_:=Aside0.mk ((by rw [hg];exact Nat.ne_of_lt (IsS171.lt (show IsS171 w0 _ g s0_0 s0_1 s0_2 from by repeat (first|(with_reducible first|exact HI0.out|apply IsS171.alloc|apply IsS171.drewN|apply IsS171.set_1|apply IsS171.set_2)|exact HI0.out))) : g ≠ gb210));have n8_:=Aside0.mk ((by rw [hg];exact Nat.ne_of_gt (IsS171.lt (show IsS171 w0 _ g s0_0 s0_1 s0_2 from by repeat (first|(with_reducible first|exact HI0.out|apply IsS171.alloc|apply IsS171.drewN|apply IsS171.set_1|apply IsS171.set_2)|exact HI0.out))) : gb210 ≠ g));clear HO1_2 HI0 HK HB;have HO1_2:=n0_;have HI0:=n1_;have HK:=n2_;have HB:=n3_;have BK210:=n4_;have GW210:=n5_;have GE210:=n6_;have NB0_210:=n7_;have NB210_0:=n8_;clear n0_ n1_ n2_ n3_ n4_ n5_ n6_ n7_ n8_ hb hbox hg)|((with_reducible refine gate_dst (N:=4) rfl ?_);refine box_event ?hg (N:=4) ?hd (cs:=#[.int .i64 0,.int .i64 0,.slice none 0 0]) (t:=27) ?hr ?_;(case hd=>rfl);(case hg=>rfl);(case hr=>first|(go_simp;done)|(go_simp;rfl));intro gb211 hg w22 hbox hb;have n0_:=Aside0.mk (Kd.R_below (by (with_reducible repeat (first|apply Kd.R_alloc|apply Kd.R_drewN));exact HO1_2.out) hb);have n1_:=Aside0.mk (IsS171.below (by repeat (first|(with_reducible first|exact HI0.out|apply IsS171.alloc|apply IsS171.drewN|apply IsS171.set_1|apply IsS171.set_2|refine IsS171.far ?_ NB0_210.out _)|exact HI0.out)) hb);have n2_:=Aside0.mk (blk_below (g:=gb210) (o:=.cells #[.int .i64 a1_0,.int .i64 a1_1,.slice Ao20 l1_2.length co20] 27 (0,0)) (by (with_reducible repeat first|refine blk_drewN ?_ _|refine blk_alloc ?_ _);exact BK210.out) hb);have n3_:=Aside0.mk (Kept.below (S:=(fun k_=>(P1_2_ k_) ∨ k_ = g)) (by repeat (first|(with_reducible first|exact HK.out|apply Kept.alloc|apply Kept.drewN|refine Kept.setCell ?_ (.inl (.inr rfl)) _|refine Kept.setCell ?_ (.inr GW210.out) _)|exact HK.out)) hb);have n4_:=Aside0.mk (below_step (by repeat (first|(with_reducible first|exact HB.out|apply below_alloc|apply pw_below_drewN|apply below_drew1|refine below_set ?_ (IsS171.ge HI0.out)|refine below_set ?_ GE210.out)|exact HB.out)) hb);have n5_:=Aside0.mk (hbox);have n6_:=Aside0.mk ((by rw [hg];exact (by first|exact HK.out.1|exact (show Kept w _ (fun k_=>(P1_2_ k_) ∨ k_ = g) from by repeat (first|(with_reducible first|exact HK.out|apply Kept.alloc|apply Kept.drewN|refine Kept.setCell ?_ (.inl (.inr rfl)) _|refine Kept.setCell ?_ (.inr GW210.out) _)|exact HK.out)).1) : w.heap.size ≤ gb211));have n7_:=Aside0.mk ((by rw [hg];exact (below_size (by repeat (first|(with_reducible first|exact HB.out|apply below_alloc|apply pw_below_drewN|apply below_drew1|refine below_set ?_ (IsS171.ge HI0.out)|refine below_set ?_ GE210.out)|exact HB.out))) : w0.heap.size ≤ gb211));have n8_:=Aside0.mk ((by rw [hg];exact Nat.ne_of_lt (blk_lt (g:=gb210) (o:=.cells #[.int .i64 a1_0,.int .i64 a1_1,.slice Ao20 l1_2.length co20] 27 (0,0)) (by (with_reducible repeat first|refine blk_drewN ?_ _|refine blk_alloc ?_ _);exact BK210.out)) : gb210 ≠ gb211));have n9_:=Aside0.mk ((by rw [hg];exact Nat.ne_of_gt (blk_lt (g:=gb210) (o:=.cells #[.int .i64 a1_0,.int .i64 a1_1,.slice Ao20 l1_2.length co20] 27 (0,0)) (by (with_reducible repeat first|refine blk_drewN ?_ _|refine blk_alloc ?_ _);exact BK210.out)) : gb211 ≠ gb210));have n10_:=Aside0.mk ((by rw [hg];exact Nat.ne_of_lt (IsS171.lt (show IsS171 w0 _ g s0_0 s0_1 s0_2 from by repeat (first|(with_reducible first|exact HI0.out|apply IsS171.alloc|apply IsS171.drewN|apply IsS171.set_1|apply IsS171.set_2|refine IsS171.far ?_ NB0_210.out _)|exact HI0.out))) : g ≠ gb211));have n11_:=Aside0.mk ((by rw [hg];exact Nat.ne_of_gt (IsS171.lt (show IsS171 w0 _ g s0_0 s0_1 s0_2 from by repeat (first|(with_reducible first|exact HI0.out|apply IsS171.alloc|apply IsS171.drewN|apply IsS171.set_1|apply IsS171.set_2|refine IsS171.far ?_ NB0_210.out _)|exact HI0.out))) : gb211 ≠ g));clear HO1_2 HI0 BK210 HK HB;have HO1_2:=n0_;have HI0:=n1_;have BK210:=n2_;have HK:=n3_;have HB:=n4_;have BK211:=n5_;have GW211:=n6_;have GE211:=n7_;have NB210_211:=n8_;have NB211_210:=n9_;have NB0_211:=n10_;have NB211_0:=n11_;clear n0_ n1_ n2_ n3_ n4_ n5_ n6_ n7_ n8_ n9_ n10_ n11_ hb hbox hg)|((with_reducible refine gate_callee (f:=75) rfl ?_);refine goesL_ (some 6) rfl rfl Try.func75 (by kernel_rfl) rfl #[.pointer (some ⟨g,0,none⟩),.int .i64 10] rfl (by (try simp only [List.map_toArray,List.map_cons,List.map_nil]);first|done|rfl) ?_;(with_reducible refine (spec_l01Src_n.calls g s0_0 s0_1 s0_2 10 t212 t213 t214 w0 _ ?side1 ?side2 A3.out).mono ?_);(case side1=>repeat (first|(with_reducible first|exact HI0.out|apply IsS171.alloc|apply IsS171.drewN|apply IsS171.set_1|apply IsS171.set_2|refine IsS171.far ?_ NB0_210.out _|refine IsS171.far ?_ NB0_211.out _)|exact HI0.out));(case side2=>repeat (first|(with_reducible first|exact HB.out|apply below_alloc|apply pw_below_drewN|apply below_drew1|refine below_set ?_ (IsS171.ge HI0.out)|refine below_set ?_ GE210.out|refine below_set ?_ GE211.out)|exact HB.out));rintro e w23 ⟨rfl,hi,hb,hk⟩;refine ⟨_,rfl,?_⟩;have n0_:=Aside0.mk (Kd.R_mono (Kd.R_keep (IsS171.apart (show IsS171 w0 _ g s0_0 s0_1 s0_2 from by repeat (first|(with_reducible first|exact HI0.out|apply IsS171.alloc|apply IsS171.drewN|apply IsS171.set_1|apply IsS171.set_2|refine IsS171.far ?_ NB0_210.out _|refine IsS171.far ?_ NB0_211.out _)|exact HI0.out)) (by (with_reducible repeat (first|apply Kd.R_alloc|apply Kd.R_drewN));exact HO1_2.out) (by decide)) hk (fun _ h=>h.2)) (fun _ h=>h.1));have n1_:=Aside0.mk (KeepBut.blk hk (g':=gb210) (o:=.cells #[.int .i64 a1_0,.int .i64 a1_1,.slice Ao20 l1_2.length co20] 27 (0,0)) (by (with_reducible repeat first|refine blk_drewN ?_ _|refine blk_alloc ?_ _);exact BK210.out) NB210_0.out (by simp));have n2_:=Aside0.mk (KeepBut.blk hk (g':=gb211) (o:=.cells #[.int .i64 0,.int .i64 0,.slice none 0 0] 27 (0,0)) (by (with_reducible repeat first|refine blk_drewN ?_ _|refine blk_alloc ?_ _);exact BK211.out) NB211_0.out (by simp));have n3_:=Aside0.mk (Kept.of_keep (S:=(fun k_=>(P1_2_ k_) ∨ k_ = g)) (by repeat (first|(with_reducible first|exact HK.out|apply Kept.alloc|apply Kept.drewN|refine Kept.setCell ?_ (.inl (.inr rfl)) _|refine Kept.setCell ?_ (.inr GW210.out) _|refine Kept.setCell ?_ (.inr GW211.out) _)|exact HK.out)) hk (.inl (.inr rfl)));have n4_:=Aside0.mk (hb);have n5_:=Aside0.mk (hi);clear HO1_2 BK210 BK211 HK HB HI0;have HO1_2:=n0_;have BK210:=n1_;have BK211:=n2_;have HK:=n3_;have HB:=n4_;have HI0:=n5_;clear n0_ n1_ n2_ n3_ n4_ n5_;(try clear hb);(try clear hb2);(try clear hk);(try clear hi)))
      have pi221 : (0 ≤ (t218 : Int)) = True:=eq_true (of_decide_eq_true (by first|(with_reducible assumption)|assumption))
      have qi221 : (t218 < (y215.length : Int)) = True:=eq_true (of_decide_eq_true (by first|(with_reducible assumption)|assumption))
      have n0_:=Aside0.mk (Kd.R_drew HO1_2.out)
      have n1_:=Aside0.mk (blk_drew BK210.out)
      have n2_:=Aside0.mk (blk_drew BK211.out)
      have n3_:=Aside0.mk (IsS171.drew HI0.out)
      have n4_:=Aside0.mk (Kept.drew HK.out)
      have n5_:=Aside0.mk (below_drew1 HB.out)
      clear HO1_2 BK210 BK211 HI0 HK HB
      have HO1_2:=n0_
      have BK210:=n1_
      have BK211:=n2_
      have HI0:=n3_
      have HK:=n4_
      have HB:=n5_
      clear n0_ n1_ n2_ n3_ n4_ n5_
      refine start_ (n:=9) (S:=fun w'=>w'.cell? ⟨gb210,0,none⟩ = some (.int .i64 a1_0) ∧ w'.cell? ⟨gb210,1,none⟩ = some (.int .i64 a1_1) ∧ w'.cell? ⟨gb210,2,none⟩ = some (.slice Ao20 l1_2.length co20)) (ds:=[8]) #[false,false,false,false,false,false,false,false,false] (by kernel_rfl) rfl rfl ⟨(blk_cell BK210.out 0).trans rfl,(blk_cell BK210.out 1).trans rfl,(blk_cell BK210.out 2).trans rfl⟩ (fun hHeld=>?_);refine with_tabW spec_l01Src_spoilMatrix.tab5 spec_l01Src_spoilMatrix.bits5 (fun HT_ HW_=>?_)
      generalize w23.drew = w24 at HO1_2 BK210 BK211 HI0 HK HB hHeld ⊢
      refine pure_ (i:=0) (N:=some 15) (v:=?_) (a':=?_) #[true,false,false,false,false,false,false,false,false] rfl rfl (any_of HT_.out (by kernel_rfl)) (fun _ _ _ h=>h) (Or.inl ⟨by rfl,?_⟩) ?_ ?_
      rotate_left
      ·intro w'
       go_simp
       with_reducible rfl
      rotate_left
      ·simp only [Act.put,List.setIfInBounds_toArray,List.set_cons_zero,List.set_cons_succ,i64_w,i32_w]
       rfl
      refine pure_ (i:=3) (N:=some 18) (v:=?_) (a':=?_) #[true,false,false,true,false,false,false,false,false] rfl rfl (any_of HT_.out (by kernel_rfl)) (fun _ _ _ h=>h) (Or.inl ⟨by rfl,?_⟩) ?_ ?_
      rotate_left
      ·intro w'
       go_simp
       with_reducible rfl
      rotate_left
      ·simp only [Act.put,List.setIfInBounds_toArray,List.set_cons_zero,List.set_cons_succ,i64_w,i32_w]
       rfl
      refine take_ (i:=1) (N:=some 16) (v:=?_) (a':=?_) #[true,true,false,true,false,false,false,false,false] rfl rfl (take_ofW HT_.out HW_.out (by kernel_rfl)) (fun _ _ _ h=>h) (Or.inl ⟨by rfl,?_⟩) hHeld ?_ ?_
      rotate_left
      ·rintro w' ⟨s0,s1,s2⟩
       go_simp
       with_reducible rfl
      rotate_left
      ·simp only [Act.put,List.setIfInBounds_toArray,List.set_cons_zero,List.set_cons_succ,i64_w,i32_w]
       rfl
      refine join_ (σ:=Value × Addr) 4 #[true,true,true,true,true,false,false,false,false] (fun s_=>[(17,s_.1),(19,.int .i64 t218)]) (fun s_ w'=>(w'.cell? ⟨gb210,0,none⟩ = some (.int .i64 a1_0) ∧ w'.cell? ⟨gb210,1,none⟩ = some (.int .i64 a1_1) ∧ w'.cell? ⟨gb210,2,none⟩ = some (.slice Ao20 l1_2.length co20)) ∧ (Kd.R (Kd.int .i64) 2 w' w0.heap.size (fun k_=>(P1_2_ k_ ∨ w.heap.size ≤ k_) ∧ some k_ ≠ (s_.1 : Value).ownBlock) (.slice Ao20 l1_2.length co20) l1_2) ∧ (Kd.R (Kd.int .i64) 2 w' w0.heap.size (fun k_=>(P1_2_ k_ ∨ w.heap.size ≤ k_) ∧ some k_ ≠ (.slice Ao20 l1_2.length co20 : Value).ownBlock) s_.1 y215) ∧ (∃ c_,(s_.1 : Value) = .slice (some s_.2) y215.length c_) ∧ (w'.heap[gb210]? = some (.cells #[.int .i64 a1_0,.int .i64 a1_1,.slice Ao20 l1_2.length co20] 27 (0,0))) ∧ (w'.heap[gb211]? = some (.cells #[.int .i64 0,.int .i64 0,.slice none 0 0] 27 (0,0))) ∧ (IsS171 w0 w' g s0_0 t219 t220) ∧ (Kept w w' (fun k_=>(P1_2_ k_) ∨ k_ = g)) ∧ (Below w0.heap.size w0 w')) ?_ ?_
      rotate_left
      ·intro hCont
       refine two_ (i:=2) (j:=4) (Ni:=some 17) (Nj:=some 19) #[true,true,true,true,false,false,false,false,false] #[true,true,false,true,true,false,false,false,false] rfl rfl rfl rfl (two_of HT_.out (by kernel_rfl)) (by decide) (by decide) (fun K hK=>?_) (fun K hK=>?_)
       ·skip
        refine Kd.R_lit_step (Kd.int .i64) _ 2 ?hg (N:=17) ?hd (xs:=([(-1),256] : List Int)) (inner:=[.int .i64 (-1),.int .i64 256]) (ok:=fun _=>True) (okp:=fun _=>True) ?hr ?hp (fun _ hk=>hk) trivial (Below.refl _ _) (Nat.le_refl _) (by simp) ?_;(case hd=>rfl);(case hg=>rfl);(case hr=>first|(go_simp;done)|(go_simp;rfl));(case hp=>exact (Reps.one (show Kd.M (Kd.int .i64) _ _ _ (-1) [.int .i64 (-1)] from rfl) (Reps.one (show Kd.M (Kd.int .i64) _ _ _ 256 [.int .i64 256] from rfl) (Reps.none _ _))))
        intro v216 w25 ho26 hb hg_ hnew_
        clear hg_ hnew_
        (first|rw [← Ny215.out] at ho26|(simp only [Int.reduceToNat] at ho26;rw [← Ny215.out] at ho26))
        have n0_:=Aside0.mk (Kd.R_elder' (by (with_reducible repeat (first|apply Kd.R_alloc|apply Kd.R_drewN));exact HO1_2.out) (Kd.R_base ho26) hb)
        have n1_:=Aside0.mk (Kd.R_lower (Kd.R_new' (Kd.R_newM (M:=fun k_=>(P1_2_ k_ ∨ w.heap.size ≤ k_)) ho26 (by first|exact HK.out.1|exact (show Kept w _ (fun k_=>(P1_2_ k_) ∨ k_ = g) from by repeat (first|(with_reducible first|exact HK.out|apply Kept.alloc|apply Kept.drewN|refine Kept.setCell ?_ (.inl (.inr rfl)) _|refine Kept.setCell ?_ (.inr GW210.out) _|refine Kept.setCell ?_ (.inr GW211.out) _)|exact HK.out)).1) (fun k_ h_=>.inr h_)) (Kd.R_lt (by (with_reducible repeat (first|apply Kd.R_alloc|apply Kd.R_drewN));exact HO1_2.out))) (below_size (by repeat (first|(with_reducible first|exact HB.out|apply below_alloc|apply pw_below_drewN|apply below_drew1|refine below_set ?_ (IsS171.ge HI0.out)|refine below_set ?_ GE210.out|refine below_set ?_ GE211.out)|exact HB.out))))
        have n2_:=Aside0.mk (IsS171.below (by repeat (first|(with_reducible first|exact HI0.out|apply IsS171.alloc|apply IsS171.drewN|apply IsS171.set_1|apply IsS171.set_2|refine IsS171.far ?_ NB0_210.out _|refine IsS171.far ?_ NB0_211.out _)|exact HI0.out)) hb)
        have n3_:=Aside0.mk (blk_below (g:=gb210) (o:=.cells #[.int .i64 a1_0,.int .i64 a1_1,.slice Ao20 l1_2.length co20] 27 (0,0)) (by (with_reducible repeat first|refine blk_drewN ?_ _|refine blk_alloc ?_ _);exact BK210.out) hb)
        have n4_:=Aside0.mk (blk_below (g:=gb211) (o:=.cells #[.int .i64 0,.int .i64 0,.slice none 0 0] 27 (0,0)) (by (with_reducible repeat first|refine blk_drewN ?_ _|refine blk_alloc ?_ _);exact BK211.out) hb)
        have n5_:=Aside0.mk (Kept.below (S:=(fun k_=>(P1_2_ k_) ∨ k_ = g)) (by repeat (first|(with_reducible first|exact HK.out|apply Kept.alloc|apply Kept.drewN|refine Kept.setCell ?_ (.inl (.inr rfl)) _|refine Kept.setCell ?_ (.inr GW210.out) _|refine Kept.setCell ?_ (.inr GW211.out) _)|exact HK.out)) hb)
        have n6_:=Aside0.mk (below_step (by repeat (first|(with_reducible first|exact HB.out|apply below_alloc|apply pw_below_drewN|apply below_drew1|refine below_set ?_ (IsS171.ge HI0.out)|refine below_set ?_ GE210.out|refine below_set ?_ GE211.out)|exact HB.out)) hb)
        clear HO1_2 HI0 BK210 BK211 HK HB
        have HO1_2:=n0_
        have HO217:=n1_
        have HI0:=n2_
        have BK210:=n3_
        have BK211:=n4_
        have HK:=n5_
        have HB:=n6_
        clear n0_ n1_ n2_ n3_ n4_ n5_ n6_ hb ho26
        obtain ⟨Ao27,co27,eo27⟩:=Kd.R_slice HO217.out
        subst eo27
        obtain ⟨ado27,fo27,_⟩:=Kd.at_int (Kd.R_reads' HO217.out).2.2 0 (by decide) (by rw [Ny215.out];simp)
        cases fo27
        refine hK.out _ _ ⟨(blk_cell BK210.out 0).trans rfl,(blk_cell BK210.out 1).trans rfl,(blk_cell BK210.out 2).trans rfl⟩ (fun hHeld=>?_)
        clear hK K
        refine norm_ (a':=?_) ?_ ?_
        rotate_left
        ·show Act.put _ (some 17) _ = _
         simp only [Act.put,List.setIfInBounds_toArray,List.set_cons_zero,List.set_cons_succ,i64_w,i32_w]
         rfl
        refine one_ (i:=4) (N:=some 19) #[true,true,true,true,true,false,false,false,false] rfl rfl (one_of HT_.out (by kernel_rfl)) (by decide) (fun K hK=>?_)
        refine goes_ Try.func75 (by kernel_rfl) rfl #[.pointer (some ⟨g,0,none⟩),.int .i64 2] (by rfl) rfl rfl (by (try simp only [List.map_toArray,List.map_cons,List.map_nil]);first|done|rfl) ?_
        with_reducible refine (spec_l01Src_n.calls g s0_0 t213 t214 2 t218 t219 t220 w0 _ ?side1 ?side2 A15.out).mono ?_
        (case side1=>repeat (first|(with_reducible first|exact HI0.out|apply IsS171.alloc|apply IsS171.drewN|apply IsS171.set_1|apply IsS171.set_2|refine IsS171.far ?_ NB0_210.out _|refine IsS171.far ?_ NB0_211.out _)|exact HI0.out))
        (case side2=>repeat (first|(with_reducible first|exact HB.out|apply below_alloc|apply pw_below_drewN|apply below_drew1|refine below_set ?_ (IsS171.ge HI0.out)|refine below_set ?_ GE210.out|refine below_set ?_ GE211.out)|exact HB.out))
        rintro e w28 ⟨rfl,hi,hb,hk⟩
        refine ⟨_,rfl,?_⟩
        have n0_:=Aside0.mk (Kd.R_mono (Kd.R_keep (IsS171.apart (show IsS171 w0 _ g s0_0 t213 t214 from by repeat (first|(with_reducible first|exact HI0.out|apply IsS171.alloc|apply IsS171.drewN|apply IsS171.set_1|apply IsS171.set_2|refine IsS171.far ?_ NB0_210.out _|refine IsS171.far ?_ NB0_211.out _)|exact HI0.out)) (by (with_reducible repeat (first|apply Kd.R_alloc|apply Kd.R_drewN));exact HO1_2.out) (by decide)) hk (fun _ h=>h.2)) (fun _ h=>h.1))
        have n1_:=Aside0.mk (KeepBut.blk hk (g':=gb210) (o:=.cells #[.int .i64 a1_0,.int .i64 a1_1,.slice Ao20 l1_2.length co20] 27 (0,0)) (by (with_reducible repeat first|refine blk_drewN ?_ _|refine blk_alloc ?_ _);exact BK210.out) NB210_0.out (by simp))
        have n2_:=Aside0.mk (KeepBut.blk hk (g':=gb211) (o:=.cells #[.int .i64 0,.int .i64 0,.slice none 0 0] 27 (0,0)) (by (with_reducible repeat first|refine blk_drewN ?_ _|refine blk_alloc ?_ _);exact BK211.out) NB211_0.out (by simp))
        have n3_:=Aside0.mk (Kd.R_mono (Kd.R_keep (IsS171.apart (show IsS171 w0 _ g s0_0 t213 t214 from by repeat (first|(with_reducible first|exact HI0.out|apply IsS171.alloc|apply IsS171.drewN|apply IsS171.set_1|apply IsS171.set_2|refine IsS171.far ?_ NB0_210.out _|refine IsS171.far ?_ NB0_211.out _)|exact HI0.out)) (by (with_reducible repeat (first|apply Kd.R_alloc|apply Kd.R_drewN));exact HO217.out) (by decide)) hk (fun _ h=>h.2)) (fun _ h=>h.1))
        have n4_:=Aside0.mk (Kept.of_keep (S:=(fun k_=>(P1_2_ k_) ∨ k_ = g)) (by repeat (first|(with_reducible first|exact HK.out|apply Kept.alloc|apply Kept.drewN|refine Kept.setCell ?_ (.inl (.inr rfl)) _|refine Kept.setCell ?_ (.inr GW210.out) _|refine Kept.setCell ?_ (.inr GW211.out) _)|exact HK.out)) hk (.inl (.inr rfl)))
        have n5_:=Aside0.mk (hb)
        have n6_:=Aside0.mk (hi)
        clear HO1_2 BK210 BK211 HO217 HK HB HI0
        have HO1_2:=n0_
        have BK210:=n1_
        have BK211:=n2_
        have HO217:=n3_
        have HK:=n4_
        have HB:=n5_
        have HI0:=n6_
        clear n0_ n1_ n2_ n3_ n4_ n5_ n6_
        (try clear hb);(try clear hb2);(try clear hk);(try clear hi)
        refine hK.out _ _ ⟨(blk_cell BK210.out 0).trans rfl,(blk_cell BK210.out 1).trans rfl,(blk_cell BK210.out 2).trans rfl⟩ (fun hHeld=>?_)
        clear hK K
        refine norm_ (a':=?_) ?_ ?_
        rotate_left
        ·show Act.put _ (some 19) _ = _
         simp only [Act.put,List.setIfInBounds_toArray,List.set_cons_zero,List.set_cons_succ,i64_w,i32_w]
         rfl
        exact norm_ (by simp only [putAll,Act.put,List.setIfInBounds_toArray,List.set_cons_zero,List.set_cons_succ]) (hCont (.slice (some ado27) y215.length co27,ado27) _ ⟨hHeld,(by (with_reducible repeat (first|apply Kd.R_alloc|apply Kd.R_drewN));exact HO1_2.out),(by (with_reducible repeat (first|apply Kd.R_alloc|apply Kd.R_drewN));exact Kd.R_mono HO217.out (fun _ hk=>⟨hk.1.1,hk.2⟩)),⟨_,rfl⟩,(by (with_reducible repeat first|refine blk_drewN ?_ _|refine blk_alloc ?_ _);exact BK210.out),(by (with_reducible repeat first|refine blk_drewN ?_ _|refine blk_alloc ?_ _);exact BK211.out),(by repeat (first|(with_reducible first|exact HI0.out|apply IsS171.alloc|apply IsS171.drewN|apply IsS171.set_1|apply IsS171.set_2|refine IsS171.far ?_ NB0_210.out _|refine IsS171.far ?_ NB0_211.out _)|exact HI0.out)),(by repeat (first|(with_reducible first|exact HK.out|apply Kept.alloc|apply Kept.drewN|refine Kept.setCell ?_ (.inl (.inr rfl)) _|refine Kept.setCell ?_ (.inr GW210.out) _|refine Kept.setCell ?_ (.inr GW211.out) _)|exact HK.out)),(by repeat (first|(with_reducible first|exact HB.out|apply below_alloc|apply pw_below_drewN|apply below_drew1|refine below_set ?_ (IsS171.ge HI0.out)|refine below_set ?_ GE210.out|refine below_set ?_ GE211.out)|exact HB.out))⟩)
       ·skip
        refine goes_ Try.func75 (by kernel_rfl) rfl #[.pointer (some ⟨g,0,none⟩),.int .i64 2] (by rfl) rfl rfl (by (try simp only [List.map_toArray,List.map_cons,List.map_nil]);first|done|rfl) ?_
        with_reducible refine (spec_l01Src_n.calls g s0_0 t213 t214 2 t218 t219 t220 w0 _ ?side1 ?side2 A15.out).mono ?_
        (case side1=>repeat (first|(with_reducible first|exact HI0.out|apply IsS171.alloc|apply IsS171.drewN|apply IsS171.set_1|apply IsS171.set_2|refine IsS171.far ?_ NB0_210.out _|refine IsS171.far ?_ NB0_211.out _)|exact HI0.out))
        (case side2=>repeat (first|(with_reducible first|exact HB.out|apply below_alloc|apply pw_below_drewN|apply below_drew1|refine below_set ?_ (IsS171.ge HI0.out)|refine below_set ?_ GE210.out|refine below_set ?_ GE211.out)|exact HB.out))
        rintro e w25 ⟨rfl,hi,hb,hk⟩
        refine ⟨_,rfl,?_⟩
        have n0_:=Aside0.mk (Kd.R_mono (Kd.R_keep (IsS171.apart (show IsS171 w0 _ g s0_0 t213 t214 from by repeat (first|(with_reducible first|exact HI0.out|apply IsS171.alloc|apply IsS171.drewN|apply IsS171.set_1|apply IsS171.set_2|refine IsS171.far ?_ NB0_210.out _|refine IsS171.far ?_ NB0_211.out _)|exact HI0.out)) (by (with_reducible repeat (first|apply Kd.R_alloc|apply Kd.R_drewN));exact HO1_2.out) (by decide)) hk (fun _ h=>h.2)) (fun _ h=>h.1))
        have n1_:=Aside0.mk (KeepBut.blk hk (g':=gb210) (o:=.cells #[.int .i64 a1_0,.int .i64 a1_1,.slice Ao20 l1_2.length co20] 27 (0,0)) (by (with_reducible repeat first|refine blk_drewN ?_ _|refine blk_alloc ?_ _);exact BK210.out) NB210_0.out (by simp))
        have n2_:=Aside0.mk (KeepBut.blk hk (g':=gb211) (o:=.cells #[.int .i64 0,.int .i64 0,.slice none 0 0] 27 (0,0)) (by (with_reducible repeat first|refine blk_drewN ?_ _|refine blk_alloc ?_ _);exact BK211.out) NB211_0.out (by simp))
        have n3_:=Aside0.mk (Kept.of_keep (S:=(fun k_=>(P1_2_ k_) ∨ k_ = g)) (by repeat (first|(with_reducible first|exact HK.out|apply Kept.alloc|apply Kept.drewN|refine Kept.setCell ?_ (.inl (.inr rfl)) _|refine Kept.setCell ?_ (.inr GW210.out) _|refine Kept.setCell ?_ (.inr GW211.out) _)|exact HK.out)) hk (.inl (.inr rfl)))
        have n4_:=Aside0.mk (hb)
        have n5_:=Aside0.mk (hi)
        clear HO1_2 BK210 BK211 HK HB HI0
        have HO1_2:=n0_
        have BK210:=n1_
        have BK211:=n2_
        have HK:=n3_
        have HB:=n4_
        have HI0:=n5_
        clear n0_ n1_ n2_ n3_ n4_ n5_
        (try clear hb);(try clear hb2);(try clear hk);(try clear hi)
        refine hK.out _ _ ⟨(blk_cell BK210.out 0).trans rfl,(blk_cell BK210.out 1).trans rfl,(blk_cell BK210.out 2).trans rfl⟩ (fun hHeld=>?_)
        clear hK K
        refine norm_ (a':=?_) ?_ ?_
        rotate_left
        ·show Act.put _ (some 19) _ = _
         simp only [Act.put,List.setIfInBounds_toArray,List.set_cons_zero,List.set_cons_succ,i64_w,i32_w]
         rfl
        refine one_ (i:=2) (N:=some 17) #[true,true,true,true,true,false,false,false,false] rfl rfl (one_of HT_.out (by kernel_rfl)) (by decide) (fun K hK=>?_)
        refine Kd.R_lit_step (Kd.int .i64) _ 2 ?hg (N:=17) ?hd (xs:=([(-1),256] : List Int)) (inner:=[.int .i64 (-1),.int .i64 256]) (ok:=fun _=>True) (okp:=fun _=>True) ?hr ?hp (fun _ hk=>hk) trivial (Below.refl _ _) (Nat.le_refl _) (by simp) ?_;(case hd=>rfl);(case hg=>rfl);(case hr=>first|(go_simp;done)|(go_simp;rfl));(case hp=>exact (Reps.one (show Kd.M (Kd.int .i64) _ _ _ (-1) [.int .i64 (-1)] from rfl) (Reps.one (show Kd.M (Kd.int .i64) _ _ _ 256 [.int .i64 256] from rfl) (Reps.none _ _))))
        intro v216 w26 ho27 hb hg_ hnew_
        clear hg_ hnew_
        (first|rw [← Ny215.out] at ho27|(simp only [Int.reduceToNat] at ho27;rw [← Ny215.out] at ho27))
        have n0_:=Aside0.mk (Kd.R_elder' (by (with_reducible repeat (first|apply Kd.R_alloc|apply Kd.R_drewN));exact HO1_2.out) (Kd.R_base ho27) hb)
        have n1_:=Aside0.mk (Kd.R_lower (Kd.R_new' (Kd.R_newM (M:=fun k_=>(P1_2_ k_ ∨ w.heap.size ≤ k_)) ho27 (by first|exact HK.out.1|exact (show Kept w _ (fun k_=>(P1_2_ k_) ∨ k_ = g) from by repeat (first|(with_reducible first|exact HK.out|apply Kept.alloc|apply Kept.drewN|refine Kept.setCell ?_ (.inl (.inr rfl)) _|refine Kept.setCell ?_ (.inr GW210.out) _|refine Kept.setCell ?_ (.inr GW211.out) _)|exact HK.out)).1) (fun k_ h_=>.inr h_)) (Kd.R_lt (by (with_reducible repeat (first|apply Kd.R_alloc|apply Kd.R_drewN));exact HO1_2.out))) (below_size (by repeat (first|(with_reducible first|exact HB.out|apply below_alloc|apply pw_below_drewN|apply below_drew1|refine below_set ?_ (IsS171.ge HI0.out)|refine below_set ?_ GE210.out|refine below_set ?_ GE211.out)|exact HB.out))))
        have n2_:=Aside0.mk (IsS171.below (by repeat (first|(with_reducible first|exact HI0.out|apply IsS171.alloc|apply IsS171.drewN|apply IsS171.set_1|apply IsS171.set_2|refine IsS171.far ?_ NB0_210.out _|refine IsS171.far ?_ NB0_211.out _)|exact HI0.out)) hb)
        have n3_:=Aside0.mk (blk_below (g:=gb210) (o:=.cells #[.int .i64 a1_0,.int .i64 a1_1,.slice Ao20 l1_2.length co20] 27 (0,0)) (by (with_reducible repeat first|refine blk_drewN ?_ _|refine blk_alloc ?_ _);exact BK210.out) hb)
        have n4_:=Aside0.mk (blk_below (g:=gb211) (o:=.cells #[.int .i64 0,.int .i64 0,.slice none 0 0] 27 (0,0)) (by (with_reducible repeat first|refine blk_drewN ?_ _|refine blk_alloc ?_ _);exact BK211.out) hb)
        have n5_:=Aside0.mk (Kept.below (S:=(fun k_=>(P1_2_ k_) ∨ k_ = g)) (by repeat (first|(with_reducible first|exact HK.out|apply Kept.alloc|apply Kept.drewN|refine Kept.setCell ?_ (.inl (.inr rfl)) _|refine Kept.setCell ?_ (.inr GW210.out) _|refine Kept.setCell ?_ (.inr GW211.out) _)|exact HK.out)) hb)
        have n6_:=Aside0.mk (below_step (by repeat (first|(with_reducible first|exact HB.out|apply below_alloc|apply pw_below_drewN|apply below_drew1|refine below_set ?_ (IsS171.ge HI0.out)|refine below_set ?_ GE210.out|refine below_set ?_ GE211.out)|exact HB.out)) hb)
        clear HO1_2 HI0 BK210 BK211 HK HB
        have HO1_2:=n0_
        have HO217:=n1_
        have HI0:=n2_
        have BK210:=n3_
        have BK211:=n4_
        have HK:=n5_
        have HB:=n6_
        clear n0_ n1_ n2_ n3_ n4_ n5_ n6_ hb ho27
        obtain ⟨Ao28,co28,eo28⟩:=Kd.R_slice HO217.out
        subst eo28
        obtain ⟨ado28,fo28,_⟩:=Kd.at_int (Kd.R_reads' HO217.out).2.2 0 (by decide) (by rw [Ny215.out];simp)
        cases fo28
        refine hK.out _ _ ⟨(blk_cell BK210.out 0).trans rfl,(blk_cell BK210.out 1).trans rfl,(blk_cell BK210.out 2).trans rfl⟩ (fun hHeld=>?_)
        clear hK K
        refine norm_ (a':=?_) ?_ ?_
        rotate_left
        ·show Act.put _ (some 17) _ = _
         simp only [Act.put,List.setIfInBounds_toArray,List.set_cons_zero,List.set_cons_succ,i64_w,i32_w]
         rfl
        exact norm_ (by simp only [putAll,Act.put,List.setIfInBounds_toArray,List.set_cons_zero,List.set_cons_succ]) (hCont (.slice (some ado28) y215.length co28,ado28) _ ⟨hHeld,(by (with_reducible repeat (first|apply Kd.R_alloc|apply Kd.R_drewN));exact HO1_2.out),(by (with_reducible repeat (first|apply Kd.R_alloc|apply Kd.R_drewN));exact Kd.R_mono HO217.out (fun _ hk=>⟨hk.1.1,hk.2⟩)),⟨_,rfl⟩,(by (with_reducible repeat first|refine blk_drewN ?_ _|refine blk_alloc ?_ _);exact BK210.out),(by (with_reducible repeat first|refine blk_drewN ?_ _|refine blk_alloc ?_ _);exact BK211.out),(by repeat (first|(with_reducible first|exact HI0.out|apply IsS171.alloc|apply IsS171.drewN|apply IsS171.set_1|apply IsS171.set_2|refine IsS171.far ?_ NB0_210.out _|refine IsS171.far ?_ NB0_211.out _)|exact HI0.out)),(by repeat (first|(with_reducible first|exact HK.out|apply Kept.alloc|apply Kept.drewN|refine Kept.setCell ?_ (.inl (.inr rfl)) _|refine Kept.setCell ?_ (.inr GW210.out) _|refine Kept.setCell ?_ (.inr GW211.out) _)|exact HK.out)),(by repeat (first|(with_reducible first|exact HB.out|apply below_alloc|apply pw_below_drewN|apply below_drew1|refine below_set ?_ (IsS171.ge HI0.out)|refine below_set ?_ GE210.out|refine below_set ?_ GE211.out)|exact HB.out))⟩)
      rintro ⟨v216,adz_v216⟩ w29 ⟨hS_,h0_,h1_,h2_,h3_,h4_,h5_,h6_,h7_⟩
      have n0_ : Aside0 (Kd.R (Kd.int .i64) 2 w29 w0.heap.size (fun k_=>(P1_2_ k_ ∨ w.heap.size ≤ k_) ∧ some k_ ≠ (v216 : Value).ownBlock) (.slice Ao20 l1_2.length co20) l1_2):=⟨h0_⟩
      have n1_ : Aside0 (Kd.R (Kd.int .i64) 2 w29 w0.heap.size (fun k_=>(P1_2_ k_ ∨ w.heap.size ≤ k_) ∧ some k_ ≠ (.slice Ao20 l1_2.length co20 : Value).ownBlock) v216 y215):=⟨h1_⟩
      have n2_ : Aside0 (∃ c_,(v216 : Value) = .slice (some adz_v216) y215.length c_):=⟨h2_⟩
      have n3_ : Aside0 (w29.heap[gb210]? = some (.cells #[.int .i64 a1_0,.int .i64 a1_1,.slice Ao20 l1_2.length co20] 27 (0,0))):=⟨h3_⟩
      have n4_ : Aside0 (w29.heap[gb211]? = some (.cells #[.int .i64 0,.int .i64 0,.slice none 0 0] 27 (0,0))):=⟨h4_⟩
      have n5_ : Aside0 (IsS171 w0 w29 g s0_0 t219 t220):=⟨h5_⟩
      have n6_ : Aside0 (Kept w w29 (fun k_=>(P1_2_ k_) ∨ k_ = g)):=⟨h6_⟩
      have n7_ : Aside0 (Below w0.heap.size w0 w29):=⟨h7_⟩
      clear HO1_2 BK210 BK211 HI0 HK HB h0_ h1_ h2_ h3_ h4_ h5_ h6_ h7_
      have HO1_2:=n0_
      have HO217:=n1_
      have HA_HO217:=n2_
      have BK210:=n3_
      have BK211:=n4_
      have HI0:=n5_
      have HK:=n6_
      have HB:=n7_
      clear n0_ n1_ n2_ n3_ n4_ n5_ n6_ n7_
      have hHeld : w29.cell? ⟨gb210,0,none⟩ = some (.int .i64 a1_0) ∧ w29.cell? ⟨gb210,1,none⟩ = some (.int .i64 a1_1) ∧ w29.cell? ⟨gb210,2,none⟩ = some (.slice Ao20 l1_2.length co20):=hS_
      obtain ⟨co30,eo30⟩:=HA_HO217.out
      clear HA_HO217
      subst eo30
      have p19 : 0 ≤ (0 : Int):=(by omega)
      have q19 : (0 : Int) < ((l1_2.length : Int) : Int):=of_decide_eq_true (by first|(with_reducible assumption)|assumption)
      have qi19 : (0 < l1_2.length) = True:=eq_true (by omega)
      obtain ⟨go19,co19,eo19,gb19,gl19,cl19,HG19⟩:=Kd.R_form HO1_2.out (by omega)
      (first|cases eo19|(injection eo19 with ea_ en_ ec_;(first|subst ea_|(injection ea_ with ea_;subst ea_));subst ec_;clear en_))
      have GB19:=Aside0.mk gb19
      have GG19:=Aside0.mk HG19
      clear gb19 gl19 HG19
      have HMgo19:=Aside0.mk (show (P1_2_ go19 ∨ w.heap.size ≤ go19) from (HO1_2.out.1 _ rfl).1)
      obtain ⟨hx19_0,hf19_0⟩:=Kd.R_celln 0 HO1_2.out (0 : Int) p19 q19
      (try rw [show ((0 : Int)).toNat = 0 from rfl] at hx19_0)
      (try simp only [Nat.reduceMul,Nat.zero_mul,Nat.zero_add,Nat.reduceAdd] at hx19_0)
      (try rw [show ((0 : Int)).toNat = 0 from rfl] at hf19_0)
      (try simp only [Nat.reduceMul,Nat.zero_mul,Nat.zero_add,Nat.reduceAdd] at hf19_0)
      replace p19:=eq_true p19
      replace q19:=eq_true q19
      have HN0_go19:=Aside0.mk (show g ≠ go19 from by have h_:=IsS171.own_ne HI0.out HO1_2.out (by decide);intro e_;exact h_ (by rw [e_];rfl))
      have HP31:=Kd.R_putn HO1_2.out (0 : Int) (rd y215 t218)
      rw [← Ny222.out] at HP31
      have HQ31:=Aside0.mk HP31
      clear HP31
      refine norm_ (a':=?_) ?_ ?_
      rotate_left
      ·simp only [putAll,Act.put,List.setIfInBounds_toArray,List.set_cons_zero,List.set_cons_succ]
       rfl
      refine pure_ (i:=5) (N:=some 20) (v:=?_) (a':=?_) #[true,true,true,true,true,true,false,false,false] rfl rfl (any_of HT_.out (by kernel_rfl)) (fun _ _ _ h=>h) (Or.inl ⟨by rfl,?_⟩) ?_ ?_
      rotate_left
      ·intro w'
       go_simp
       with_reducible rfl
      rotate_left
      ·simp only [Act.put,List.setIfInBounds_toArray,List.set_cons_zero,List.set_cons_succ,i64_w,i32_w]
       rfl
      refine one_ (i:=6) (N:=some 21) #[true,true,true,true,true,true,true,false,false] rfl rfl (one_of HT_.out (by kernel_rfl)) (by decide) (fun K hK=>?_)
      (have p221 : 0 ≤ (t218 : Int):=of_decide_eq_true (by first|(with_reducible assumption)|assumption);have q221 : t218 < (y215.length : Int):=of_decide_eq_true (by first|(with_reducible assumption)|assumption);obtain ⟨ad221,e221,hx221_0⟩:=Kd.at_int (Kd.R_reads' HO217.out).2.2 t218 p221 q221;obtain rfl : adz_v216 = ad221:=(by injection e221))
      refine value_ (w1:=?_) (v:=?_) (by rfl) rfl ?_ ?_
      rotate_left 2
      ·go_simp
       constructor
       ·rfl
       ·rfl
      clear hx221_0
      refine hK.out _ _ ⟨(blk_cell BK210.out 0).trans rfl,(blk_cell BK210.out 1).trans rfl,(blk_cell BK210.out 2).trans rfl⟩ (fun hHeld=>?_)
      clear hK K
      refine norm_ (a':=?_) ?_ ?_
      rotate_left
      ·show Act.put _ (some 21) _ = _
       simp only [Act.put,List.setIfInBounds_toArray,List.set_cons_zero,List.set_cons_succ,i64_w,i32_w]
       rfl
      refine pure_ (i:=7) (N:=some 22) (v:=?_) (a':=?_) #[true,true,true,true,true,true,true,true,false] rfl rfl (any_of HT_.out (by kernel_rfl)) (fun _ _ _ h=>h) (Or.inl ⟨by rfl,?_⟩) ?_ ?_
      rotate_left
      ·intro w'
       go_simp
       with_reducible rfl
      rotate_left
      ·simp only [Act.put,List.setIfInBounds_toArray,List.set_cons_zero,List.set_cons_succ,i64_w,i32_w]
       rfl
      refine last_ (i:=8) (N:=none) #[true,true,true,true,true,true,true,true,true] rfl rfl (one_of HT_.out (by kernel_rfl)) (by decide) (fun K hK=>?_)
      refine skip_ (w1:=?_) (by rfl) rfl ?_ ?_
      rotate_left
      ·go_simp
       rfl
      refine hK.out _ _ ?_
      clear hK K
      refine done_ (done_of HT_.out (by kernel_rfl)) ?_
      have n0_ : Aside0 (Kd.R (Kd.int .i64) 2 (w29.setCell ⟨go19,0,none⟩ (.int .i64 (rd y215 t218))) w0.heap.size (fun k_=>(P1_2_ k_ ∨ w.heap.size ≤ k_) ∧ some k_ ≠ (.slice (some adz_v216) y215.length co30 : Value).ownBlock) (.slice (some ⟨go19,0,none⟩) l1_2.length co20) y222):=⟨by (with_reducible repeat (first|apply Kd.R_alloc|apply Kd.R_drewN));exact HQ31.out⟩
      have n1_ : Aside0 (Kd.R (Kd.int .i64) 2 (w29.setCell ⟨go19,0,none⟩ (.int .i64 (rd y215 t218))) w0.heap.size (fun k_=>(P1_2_ k_ ∨ w.heap.size ≤ k_) ∧ some k_ ≠ (.slice (some ⟨go19,0,none⟩) l1_2.length co20 : Value).ownBlock) (.slice (some adz_v216) y215.length co30) y215):=⟨by (with_reducible repeat (first|apply Kd.R_alloc|apply Kd.R_drewN));exact Kd.R_mono (Kd.R_far (p:=⟨go19,0,none⟩) (Kd.R_mono HO217.out (fun k_ hk=>(⟨hk,fun e_=>hk.2 (by rw [e_];rfl)⟩ : _ ∧ k_ ≠ go19))) (fun _ hk=>hk.2) (.int .i64 (rd y215 t218))) (fun _ hk=>⟨hk.1.1,hk.1.2⟩)⟩
      have n2_ : Aside0 ((w29.setCell ⟨go19,0,none⟩ (.int .i64 (rd y215 t218))).heap[gb210]? = some (.cells #[.int .i64 a1_0,.int .i64 a1_1,.slice (some ⟨go19,0,none⟩) l1_2.length co20] 27 (0,0))):=⟨by (with_reducible repeat first|refine blk_drewN ?_ _|refine blk_alloc ?_ _);refine blk_far ?_ (by have h_:=Kd.R_ne HO1_2.out BK210.out (by decide);intro e_;exact h_ (by rw [e_];rfl)) _;(with_reducible repeat first|refine blk_drewN ?_ _|refine blk_alloc ?_ _);exact BK210.out⟩
      have n3_ : Aside0 ((w29.setCell ⟨go19,0,none⟩ (.int .i64 (rd y215 t218))).heap[gb211]? = some (.cells #[.int .i64 0,.int .i64 0,.slice none 0 0] 27 (0,0))):=⟨by (with_reducible repeat first|refine blk_drewN ?_ _|refine blk_alloc ?_ _);refine blk_far ?_ (by have h_:=Kd.R_ne HO1_2.out BK211.out (by decide);intro e_;exact h_ (by rw [e_];rfl)) _;(with_reducible repeat first|refine blk_drewN ?_ _|refine blk_alloc ?_ _);exact BK211.out⟩
      have n4_ : Aside0 (IsS171 w0 (w29.setCell ⟨go19,0,none⟩ (.int .i64 (rd y215 t218))) g s0_0 t219 t220):=⟨by repeat (first|(with_reducible first|exact HI0.out|apply IsS171.alloc|apply IsS171.drewN|apply IsS171.set_1|apply IsS171.set_2|refine IsS171.far ?_ HN0_go19.out _|refine IsS171.far ?_ NB0_210.out _|refine IsS171.far ?_ NB0_211.out _)|exact HI0.out)⟩
      have n5_ : Aside0 (Kept w (w29.setCell ⟨go19,0,none⟩ (.int .i64 (rd y215 t218))) (fun k_=>(P1_2_ k_) ∨ k_ = g)):=⟨by repeat (first|(with_reducible first|exact HK.out|apply Kept.alloc|apply Kept.drewN|refine Kept.setCell ?_ (Or.imp_left Or.inl HMgo19.out) _|refine Kept.setCell ?_ (.inl (.inr rfl)) _|refine Kept.setCell ?_ (.inr GW210.out) _|refine Kept.setCell ?_ (.inr GW211.out) _)|exact HK.out)⟩
      have n6_ : Aside0 (Below w0.heap.size w0 (w29.setCell ⟨go19,0,none⟩ (.int .i64 (rd y215 t218)))):=⟨by repeat (first|(with_reducible first|exact HB.out|apply below_alloc|apply pw_below_drewN|apply below_drew1|refine below_set ?_ GB19.out|refine below_set ?_ (IsS171.ge HI0.out)|refine below_set ?_ GE210.out|refine below_set ?_ GE211.out)|exact HB.out)⟩
      (try clear HO1_2);(try clear HO217);(try clear BK210);(try clear BK211);(try clear HI0);(try clear HK);(try clear HB)
      generalize (w29.setCell ⟨go19,0,none⟩ (.int .i64 (rd y215 t218))) = w32 at n0_ n1_ n2_ n3_ n4_ n5_ n6_ ⊢
      have HO1_2:=n0_
      have HO217:=n1_
      have BK210:=n2_
      have BK211:=n3_
      have HI0:=n4_
      have HK:=n5_
      have HB:=n6_
      clear n0_ n1_ n2_ n3_ n4_ n5_ n6_
      have hnb33:=NB210_211.out
      have hnc33:=NB211_210.out
      have hnb34:=NB210_0.out
      have hnc34:=NB0_210.out
      have hcz35_0 : w32.cell? ⟨gb210,0,none⟩ = some (.int .i64 a1_0):=(blk_cell BK210.out 0).trans rfl
      have hcz35_1 : w32.cell? ⟨gb210,1,none⟩ = some (.int .i64 a1_1):=(blk_cell BK210.out 1).trans rfl
      have hcz35_2 : w32.cell? ⟨gb210,2,none⟩ = some (.slice (some ⟨go19,0,none⟩) l1_2.length co20):=(blk_cell BK210.out 2).trans rfl
      have hfz35_0:=blk_frozen BK210.out 0
      have hfz35_1:=blk_frozen BK210.out 1
      have hfz35_2:=blk_frozen BK210.out 2
      have hnb36:=NB211_0.out
      have hnc36:=NB0_211.out
      have hcz37_0 : w32.cell? ⟨gb211,0,none⟩ = some (.int .i64 0):=(blk_cell BK211.out 0).trans rfl
      have hcz37_1 : w32.cell? ⟨gb211,1,none⟩ = some (.int .i64 0):=(blk_cell BK211.out 1).trans rfl
      have hcz37_2 : w32.cell? ⟨gb211,2,none⟩ = some (.slice none 0 0):=(blk_cell BK211.out 2).trans rfl
      have hfz37_0:=blk_frozen BK211.out 0
      have hfz37_1:=blk_frozen BK211.out 1
      have hfz37_2:=blk_frozen BK211.out 2
      try go_wp2
      refine bodyPost_ret (results_cell_row rfl _ _ gb211 27 #[.int .i64 a1_0,.int .i64 a1_1,.slice (some ⟨go19,0,none⟩) l1_2.length co20] (0,0) _ rfl (by (with_reducible repeat first|refine blk_drewN ?_ _|refine blk_alloc ?_ _);refine blk_put (cs:=#[.int .i64 a1_0,.int .i64 a1_1,.slice none 0 0]) ?_ 2 _ rfl;(with_reducible repeat first|refine blk_drewN ?_ _|refine blk_alloc ?_ _);refine blk_put (cs:=#[.int .i64 a1_0,.int .i64 0,.slice none 0 0]) ?_ 1 _ rfl;(with_reducible repeat first|refine blk_drewN ?_ _|refine blk_alloc ?_ _);refine blk_put (cs:=#[.int .i64 0,.int .i64 0,.slice none 0 0]) ?_ 0 _ rfl;(with_reducible repeat first|refine blk_drewN ?_ _|refine blk_alloc ?_ _);exact BK211.out) Try.underlying27 rfl (by kernel_rfl)) rfl ?_
      exact ⟨_,by first|rfl|(simp [errW_none,errW_some] <;> rfl)|(simp [*,errW_none,errW_some] <;> rfl),by (with_reducible repeat (first|apply Kd.R_alloc|apply Kd.R_drewN));exact Kd.R_mono (Kd.R_far (p:=⟨gb211,2,none⟩) (Kd.R_far (p:=⟨gb211,1,none⟩) (Kd.R_far (p:=⟨gb211,0,none⟩) (Kd.R_types HO1_2.out BK211.out (by decide)) (fun _ hk=>hk.2) (.int .i64 a1_0)) (fun _ hk=>hk.2) (.int .i64 a1_1)) (fun _ hk=>hk.2) (.slice (some ⟨go19,0,none⟩) l1_2.length co20)) (fun _ hk=>hk.1.1),by repeat (first|(with_reducible first|exact HI0.out|apply IsS171.alloc|apply IsS171.drewN|apply IsS171.set_1|apply IsS171.set_2|refine IsS171.far ?_ NB0_210.out _|refine IsS171.far ?_ NB0_211.out _)|exact HI0.out),by repeat (first|(with_reducible first|exact HB.out|apply below_alloc|apply pw_below_drewN|apply below_drew1|refine below_set ?_ (IsS171.ge HI0.out)|refine below_set ?_ GE210.out|refine below_set ?_ GE211.out)|exact HB.out),by repeat (first|(with_reducible first|exact HK.out|apply Kept.alloc|apply Kept.drewN|refine Kept.setCell ?_ (.inl (.inr rfl)) _|refine Kept.setCell ?_ (.inr GW210.out) _|refine Kept.setCell ?_ (.inr GW211.out) _)|exact HK.out)⟩
     ·rw [if_neg c18] at H
      exact absurd H (by simp)
    ·rw [if_neg c17] at H
     exact absurd H (by simp)
   ·rw [if_neg c16] at H
    exact absurd H (by simp)
  ·rw [if_neg c14] at H
   have c14b0 : (t212 == 1) = false:=beq_eq_false_iff_ne.mpr c14
   have c14b1 : (t212 != 1) = true:=bne_iff_ne.mpr c14
   by_cases c38 : t212 = 2
   ·rw [if_pos c38] at H
    have c38b0 : (t212 == 2) = true:=beq_iff_eq.mpr c38
    have c38b1 : (t212 != 2) = false:=bne_eq_false_iff_eq.mpr c38
    clear c38
    simp only [Option.some.injEq,Prod.mk.injEq] at H
    obtain ⟨rfl,rfl,rfl,rfl,rfl⟩:=H
    obtain ⟨Ao39,co39,eo39⟩:=Kd.R_slice HO1_2.out
    subst eo39
    go_enter Try.func78,Try.ntmps78
    go_wp2_with (first|((with_reducible refine gate_dst (N:=3) rfl ?_);refine box_event ?hg (N:=3) ?hd (cs:=#[.int .i64 a1_0,.int .i64 a1_1,.slice Ao39 l1_2.length co39]) (t:=27) ?hr ?_;(case hd=>rfl);(case hg=>rfl);(case hr=>first|(go_simp;done)|(go_simp;rfl));intro gb210 hg w40 hbox hb;have n0_:=Aside0.mk (Kd.R_below (by (with_reducible repeat (first|apply Kd.R_alloc|apply Kd.R_drewN));exact HO1_2.out) hb);have n1_:=Aside0.mk (IsS171.below (by repeat (first|(with_reducible first|exact HI0.out|apply IsS171.alloc|apply IsS171.drewN|apply IsS171.set_1|apply IsS171.set_2)|exact HI0.out)) hb);have n2_:=Aside0.mk (Kept.below (S:=(fun k_=>(P1_2_ k_) ∨ k_ = g)) (by repeat (first|(with_reducible first|exact HK.out|apply Kept.alloc|apply Kept.drewN|refine Kept.setCell ?_ (.inl (.inr rfl)) _)|exact HK.out)) hb);have n3_:=Aside0.mk (below_step (by repeat (first|(with_reducible first|exact HB.out|apply below_alloc|apply pw_below_drewN|apply below_drew1|refine below_set ?_ (IsS171.ge HI0.out))|exact HB.out)) hb);have n4_:=Aside0.mk (hbox);have n5_:=Aside0.mk ((by rw [hg];exact (by first|exact HK.out.1|exact (show Kept w _ (fun k_=>(P1_2_ k_) ∨ k_ = g) from by repeat (first|(with_reducible first|exact HK.out|apply Kept.alloc|apply Kept.drewN|refine Kept.setCell ?_ (.inl (.inr rfl)) _)|exact HK.out)).1) : w.heap.size ≤ gb210));have n6_:=Aside0.mk ((by rw [hg];exact (below_size (by repeat (first|(with_reducible first|exact HB.out|apply below_alloc|apply pw_below_drewN|apply below_drew1|refine below_set ?_ (IsS171.ge HI0.out))|exact HB.out))) : w0.heap.size ≤ gb210));have n7_:=Aside0.mk ((by rw [hg];exact Nat.ne_of_lt (IsS171.lt (show IsS171 w0 _ g s0_0 s0_1 s0_2 from by repeat (first|(with_reducible first|exact HI0.out|apply IsS171.alloc|apply IsS171.drewN|apply IsS171.set_1|apply IsS171.set_2)|exact HI0.out))) : g ≠ gb210));have n8_:=Aside0.mk ((by rw [hg];exact Nat.ne_of_gt (IsS171.lt (show IsS171 w0 _ g s0_0 s0_1 s0_2 from by repeat (first|(with_reducible first|exact HI0.out|apply IsS171.alloc|apply IsS171.drewN|apply IsS171.set_1|apply IsS171.set_2)|exact HI0.out))) : gb210 ≠ g));clear HO1_2 HI0 HK HB;have HO1_2:=n0_;have HI0:=n1_;have HK:=n2_;have HB:=n3_;have BK210:=n4_;have GW210:=n5_;have GE210:=n6_;have NB0_210:=n7_;have NB210_0:=n8_;clear n0_ n1_ n2_ n3_ n4_ n5_ n6_ n7_ n8_ hb hbox hg)|((with_reducible refine gate_dst (N:=4) rfl ?_);refine box_event ?hg (N:=4) ?hd (cs:=#[.int .i64 0,.int .i64 0,.slice none 0 0]) (t:=27) ?hr ?_;(case hd=>rfl);(case hg=>rfl);(case hr=>first|(go_simp;done)|(go_simp;rfl));intro gb211 hg w41 hbox hb;have n0_:=Aside0.mk (Kd.R_below (by (with_reducible repeat (first|apply Kd.R_alloc|apply Kd.R_drewN));exact HO1_2.out) hb);have n1_:=Aside0.mk (IsS171.below (by repeat (first|(with_reducible first|exact HI0.out|apply IsS171.alloc|apply IsS171.drewN|apply IsS171.set_1|apply IsS171.set_2|refine IsS171.far ?_ NB0_210.out _)|exact HI0.out)) hb);have n2_:=Aside0.mk (blk_below (g:=gb210) (o:=.cells #[.int .i64 a1_0,.int .i64 a1_1,.slice Ao39 l1_2.length co39] 27 (0,0)) (by (with_reducible repeat first|refine blk_drewN ?_ _|refine blk_alloc ?_ _);exact BK210.out) hb);have n3_:=Aside0.mk (Kept.below (S:=(fun k_=>(P1_2_ k_) ∨ k_ = g)) (by repeat (first|(with_reducible first|exact HK.out|apply Kept.alloc|apply Kept.drewN|refine Kept.setCell ?_ (.inl (.inr rfl)) _|refine Kept.setCell ?_ (.inr GW210.out) _)|exact HK.out)) hb);have n4_:=Aside0.mk (below_step (by repeat (first|(with_reducible first|exact HB.out|apply below_alloc|apply pw_below_drewN|apply below_drew1|refine below_set ?_ (IsS171.ge HI0.out)|refine below_set ?_ GE210.out)|exact HB.out)) hb);have n5_:=Aside0.mk (hbox);have n6_:=Aside0.mk ((by rw [hg];exact (by first|exact HK.out.1|exact (show Kept w _ (fun k_=>(P1_2_ k_) ∨ k_ = g) from by repeat (first|(with_reducible first|exact HK.out|apply Kept.alloc|apply Kept.drewN|refine Kept.setCell ?_ (.inl (.inr rfl)) _|refine Kept.setCell ?_ (.inr GW210.out) _)|exact HK.out)).1) : w.heap.size ≤ gb211));have n7_:=Aside0.mk ((by rw [hg];exact (below_size (by repeat (first|(with_reducible first|exact HB.out|apply below_alloc|apply pw_below_drewN|apply below_drew1|refine below_set ?_ (IsS171.ge HI0.out)|refine below_set ?_ GE210.out)|exact HB.out))) : w0.heap.size ≤ gb211));have n8_:=Aside0.mk ((by rw [hg];exact Nat.ne_of_lt (blk_lt (g:=gb210) (o:=.cells #[.int .i64 a1_0,.int .i64 a1_1,.slice Ao39 l1_2.length co39] 27 (0,0)) (by (with_reducible repeat first|refine blk_drewN ?_ _|refine blk_alloc ?_ _);exact BK210.out)) : gb210 ≠ gb211));have n9_:=Aside0.mk ((by rw [hg];exact Nat.ne_of_gt (blk_lt (g:=gb210) (o:=.cells #[.int .i64 a1_0,.int .i64 a1_1,.slice Ao39 l1_2.length co39] 27 (0,0)) (by (with_reducible repeat first|refine blk_drewN ?_ _|refine blk_alloc ?_ _);exact BK210.out)) : gb211 ≠ gb210));have n10_:=Aside0.mk ((by rw [hg];exact Nat.ne_of_lt (IsS171.lt (show IsS171 w0 _ g s0_0 s0_1 s0_2 from by repeat (first|(with_reducible first|exact HI0.out|apply IsS171.alloc|apply IsS171.drewN|apply IsS171.set_1|apply IsS171.set_2|refine IsS171.far ?_ NB0_210.out _)|exact HI0.out))) : g ≠ gb211));have n11_:=Aside0.mk ((by rw [hg];exact Nat.ne_of_gt (IsS171.lt (show IsS171 w0 _ g s0_0 s0_1 s0_2 from by repeat (first|(with_reducible first|exact HI0.out|apply IsS171.alloc|apply IsS171.drewN|apply IsS171.set_1|apply IsS171.set_2|refine IsS171.far ?_ NB0_210.out _)|exact HI0.out))) : gb211 ≠ g));clear HO1_2 HI0 BK210 HK HB;have HO1_2:=n0_;have HI0:=n1_;have BK210:=n2_;have HK:=n3_;have HB:=n4_;have BK211:=n5_;have GW211:=n6_;have GE211:=n7_;have NB210_211:=n8_;have NB211_210:=n9_;have NB0_211:=n10_;have NB211_0:=n11_;clear n0_ n1_ n2_ n3_ n4_ n5_ n6_ n7_ n8_ n9_ n10_ n11_ hb hbox hg)|((with_reducible refine gate_callee (f:=75) rfl ?_);refine goesL_ (some 6) rfl rfl Try.func75 (by kernel_rfl) rfl #[.pointer (some ⟨g,0,none⟩),.int .i64 10] rfl (by (try simp only [List.map_toArray,List.map_cons,List.map_nil]);first|done|rfl) ?_;(with_reducible refine (spec_l01Src_n.calls g s0_0 s0_1 s0_2 10 t212 t213 t214 w0 _ ?side1 ?side2 A3.out).mono ?_);(case side1=>repeat (first|(with_reducible first|exact HI0.out|apply IsS171.alloc|apply IsS171.drewN|apply IsS171.set_1|apply IsS171.set_2|refine IsS171.far ?_ NB0_210.out _|refine IsS171.far ?_ NB0_211.out _)|exact HI0.out));(case side2=>repeat (first|(with_reducible first|exact HB.out|apply below_alloc|apply pw_below_drewN|apply below_drew1|refine below_set ?_ (IsS171.ge HI0.out)|refine below_set ?_ GE210.out|refine below_set ?_ GE211.out)|exact HB.out));rintro e w42 ⟨rfl,hi,hb,hk⟩;refine ⟨_,rfl,?_⟩;have n0_:=Aside0.mk (Kd.R_mono (Kd.R_keep (IsS171.apart (show IsS171 w0 _ g s0_0 s0_1 s0_2 from by repeat (first|(with_reducible first|exact HI0.out|apply IsS171.alloc|apply IsS171.drewN|apply IsS171.set_1|apply IsS171.set_2|refine IsS171.far ?_ NB0_210.out _|refine IsS171.far ?_ NB0_211.out _)|exact HI0.out)) (by (with_reducible repeat (first|apply Kd.R_alloc|apply Kd.R_drewN));exact HO1_2.out) (by decide)) hk (fun _ h=>h.2)) (fun _ h=>h.1));have n1_:=Aside0.mk (KeepBut.blk hk (g':=gb210) (o:=.cells #[.int .i64 a1_0,.int .i64 a1_1,.slice Ao39 l1_2.length co39] 27 (0,0)) (by (with_reducible repeat first|refine blk_drewN ?_ _|refine blk_alloc ?_ _);exact BK210.out) NB210_0.out (by simp));have n2_:=Aside0.mk (KeepBut.blk hk (g':=gb211) (o:=.cells #[.int .i64 0,.int .i64 0,.slice none 0 0] 27 (0,0)) (by (with_reducible repeat first|refine blk_drewN ?_ _|refine blk_alloc ?_ _);exact BK211.out) NB211_0.out (by simp));have n3_:=Aside0.mk (Kept.of_keep (S:=(fun k_=>(P1_2_ k_) ∨ k_ = g)) (by repeat (first|(with_reducible first|exact HK.out|apply Kept.alloc|apply Kept.drewN|refine Kept.setCell ?_ (.inl (.inr rfl)) _|refine Kept.setCell ?_ (.inr GW210.out) _|refine Kept.setCell ?_ (.inr GW211.out) _)|exact HK.out)) hk (.inl (.inr rfl)));have n4_:=Aside0.mk (hb);have n5_:=Aside0.mk (hi);clear HO1_2 BK210 BK211 HK HB HI0;have HO1_2:=n0_;have BK210:=n1_;have BK211:=n2_;have HK:=n3_;have HB:=n4_;have HI0:=n5_;clear n0_ n1_ n2_ n3_ n4_ n5_;(try clear hb);(try clear hb2);(try clear hk);(try clear hi);have hnb43:=NB210_211.out;have hnc43:=NB211_210.out;have hnb44:=NB210_0.out;have hnc44:=NB0_210.out;have hcz45_0 : w42.cell? ⟨gb210,0,none⟩ = some (.int .i64 a1_0):=(blk_cell BK210.out 0).trans rfl;have hcz45_1 : w42.cell? ⟨gb210,1,none⟩ = some (.int .i64 a1_1):=(blk_cell BK210.out 1).trans rfl;have hcz45_2 : w42.cell? ⟨gb210,2,none⟩ = some (.slice Ao39 l1_2.length co39):=(blk_cell BK210.out 2).trans rfl;have hfz45_0:=blk_frozen BK210.out 0;have hfz45_1:=blk_frozen BK210.out 1;have hfz45_2:=blk_frozen BK210.out 2;have hnb46:=NB211_0.out;have hnc46:=NB0_211.out;have hcz47_0 : w42.cell? ⟨gb211,0,none⟩ = some (.int .i64 0):=(blk_cell BK211.out 0).trans rfl;have hcz47_1 : w42.cell? ⟨gb211,1,none⟩ = some (.int .i64 0):=(blk_cell BK211.out 1).trans rfl;have hcz47_2 : w42.cell? ⟨gb211,2,none⟩ = some (.slice none 0 0):=(blk_cell BK211.out 2).trans rfl;have hfz47_0:=blk_frozen BK211.out 0;have hfz47_1:=blk_frozen BK211.out 1;have hfz47_2:=blk_frozen BK211.out 2))
    refine bodyPost_ret (results_cell_row rfl _ _ gb211 27 #[.int .i64 a1_0,.int .i64 0,.slice Ao39 l1_2.length co39] (0,0) _ rfl (by (with_reducible repeat first|refine blk_drewN ?_ _|refine blk_alloc ?_ _);refine blk_put (cs:=#[.int .i64 a1_0,.int .i64 0,.slice none 0 0]) ?_ 2 _ rfl;(with_reducible repeat first|refine blk_drewN ?_ _|refine blk_alloc ?_ _);refine blk_put (cs:=#[.int .i64 a1_0,.int .i64 0,.slice none 0 0]) ?_ 1 _ rfl;(with_reducible repeat first|refine blk_drewN ?_ _|refine blk_alloc ?_ _);refine blk_put (cs:=#[.int .i64 0,.int .i64 0,.slice none 0 0]) ?_ 0 _ rfl;(with_reducible repeat first|refine blk_drewN ?_ _|refine blk_alloc ?_ _);refine blk_far ?_ NB211_210.out _;(with_reducible repeat first|refine blk_drewN ?_ _|refine blk_alloc ?_ _);exact BK211.out) Try.underlying27 rfl (by kernel_rfl)) rfl ?_
    exact ⟨_,by first|rfl|(simp [errW_none,errW_some] <;> rfl)|(simp [*,errW_none,errW_some] <;> rfl),by (with_reducible repeat (first|apply Kd.R_alloc|apply Kd.R_drewN));exact Kd.R_mono (Kd.R_far (p:=⟨gb211,2,none⟩) (Kd.R_far (p:=⟨gb211,1,none⟩) (Kd.R_far (p:=⟨gb211,0,none⟩) (Kd.R_far (p:=⟨gb210,1,none⟩) (Kd.R_types (Kd.R_types HO1_2.out BK210.out (by decide)) BK211.out (by decide)) (fun _ hk=>hk.1.2) (.int .i64 0)) (fun _ hk=>hk.2) (.int .i64 a1_0)) (fun _ hk=>hk.2) (.int .i64 0)) (fun _ hk=>hk.2) (.slice Ao39 l1_2.length co39)) (fun _ hk=>hk.1.1),by repeat (first|(with_reducible first|exact HI0.out|apply IsS171.alloc|apply IsS171.drewN|apply IsS171.set_1|apply IsS171.set_2|refine IsS171.far ?_ NB0_210.out _|refine IsS171.far ?_ NB0_211.out _)|exact HI0.out),by repeat (first|(with_reducible first|exact HB.out|apply below_alloc|apply pw_below_drewN|apply below_drew1|refine below_set ?_ (IsS171.ge HI0.out)|refine below_set ?_ GE210.out|refine below_set ?_ GE211.out)|exact HB.out),by repeat (first|(with_reducible first|exact HK.out|apply Kept.alloc|apply Kept.drewN|refine Kept.setCell ?_ (.inl (.inr rfl)) _|refine Kept.setCell ?_ (.inr GW210.out) _|refine Kept.setCell ?_ (.inr GW211.out) _)|exact HK.out)⟩
   ·rw [if_neg c38] at H
    have c38b0 : (t212 == 2) = false:=beq_eq_false_iff_ne.mpr c38
    have c38b1 : (t212 != 2) = true:=bne_iff_ne.mpr c38
    simp only [Option.some.injEq,Prod.mk.injEq] at H
    obtain ⟨rfl,rfl,rfl,rfl,rfl⟩:=H
    obtain ⟨Ao48,co48,eo48⟩:=Kd.R_slice HO1_2.out
    subst eo48
    go_enter Try.func78,Try.ntmps78
    go_wp2_with (first|((with_reducible refine gate_dst (N:=3) rfl ?_);refine box_event ?hg (N:=3) ?hd (cs:=#[.int .i64 a1_0,.int .i64 a1_1,.slice Ao48 l1_2.length co48]) (t:=27) ?hr ?_;(case hd=>rfl);(case hg=>rfl);(case hr=>first|(go_simp;done)|(go_simp;rfl));intro gb210 hg w49 hbox hb;have n0_:=Aside0.mk (Kd.R_below (by (with_reducible repeat (first|apply Kd.R_alloc|apply Kd.R_drewN));exact HO1_2.out) hb);have n1_:=Aside0.mk (IsS171.below (by repeat (first|(with_reducible first|exact HI0.out|apply IsS171.alloc|apply IsS171.drewN|apply IsS171.set_1|apply IsS171.set_2)|exact HI0.out)) hb);have n2_:=Aside0.mk (Kept.below (S:=(fun k_=>(P1_2_ k_) ∨ k_ = g)) (by repeat (first|(with_reducible first|exact HK.out|apply Kept.alloc|apply Kept.drewN|refine Kept.setCell ?_ (.inl (.inr rfl)) _)|exact HK.out)) hb);have n3_:=Aside0.mk (below_step (by repeat (first|(with_reducible first|exact HB.out|apply below_alloc|apply pw_below_drewN|apply below_drew1|refine below_set ?_ (IsS171.ge HI0.out))|exact HB.out)) hb);have n4_:=Aside0.mk (hbox);have n5_:=Aside0.mk ((by rw [hg];exact (by first|exact HK.out.1|exact (show Kept w _ (fun k_=>(P1_2_ k_) ∨ k_ = g) from by repeat (first|(with_reducible first|exact HK.out|apply Kept.alloc|apply Kept.drewN|refine Kept.setCell ?_ (.inl (.inr rfl)) _)|exact HK.out)).1) : w.heap.size ≤ gb210));have n6_:=Aside0.mk ((by rw [hg];exact (below_size (by repeat (first|(with_reducible first|exact HB.out|apply below_alloc|apply pw_below_drewN|apply below_drew1|refine below_set ?_ (IsS171.ge HI0.out))|exact HB.out))) : w0.heap.size ≤ gb210));have n7_:=Aside0.mk ((by rw [hg];exact Nat.ne_of_lt (IsS171.lt (show IsS171 w0 _ g s0_0 s0_1 s0_2 from by repeat (first|(with_reducible first|exact HI0.out|apply IsS171.alloc|apply IsS171.drewN|apply IsS171.set_1|apply IsS171.set_2)|exact HI0.out))) : g ≠ gb210));have n8_:=Aside0.mk ((by rw [hg];exact Nat.ne_of_gt (IsS171.lt (show IsS171 w0 _ g s0_0 s0_1 s0_2 from by repeat (first|(with_reducible first|exact HI0.out|apply IsS171.alloc|apply IsS171.drewN|apply IsS171.set_1|apply IsS171.set_2)|exact HI0.out))) : gb210 ≠ g));clear HO1_2 HI0 HK HB;have HO1_2:=n0_;have HI0:=n1_;have HK:=n2_;have HB:=n3_;have BK210:=n4_;have GW210:=n5_;have GE210:=n6_;have NB0_210:=n7_;have NB210_0:=n8_;clear n0_ n1_ n2_ n3_ n4_ n5_ n6_ n7_ n8_ hb hbox hg)|((with_reducible refine gate_dst (N:=4) rfl ?_);refine box_event ?hg (N:=4) ?hd (cs:=#[.int .i64 0,.int .i64 0,.slice none 0 0]) (t:=27) ?hr ?_;(case hd=>rfl);(case hg=>rfl);(case hr=>first|(go_simp;done)|(go_simp;rfl));intro gb211 hg w50 hbox hb;have n0_:=Aside0.mk (Kd.R_below (by (with_reducible repeat (first|apply Kd.R_alloc|apply Kd.R_drewN));exact HO1_2.out) hb);have n1_:=Aside0.mk (IsS171.below (by repeat (first|(with_reducible first|exact HI0.out|apply IsS171.alloc|apply IsS171.drewN|apply IsS171.set_1|apply IsS171.set_2|refine IsS171.far ?_ NB0_210.out _)|exact HI0.out)) hb);have n2_:=Aside0.mk (blk_below (g:=gb210) (o:=.cells #[.int .i64 a1_0,.int .i64 a1_1,.slice Ao48 l1_2.length co48] 27 (0,0)) (by (with_reducible repeat first|refine blk_drewN ?_ _|refine blk_alloc ?_ _);exact BK210.out) hb);have n3_:=Aside0.mk (Kept.below (S:=(fun k_=>(P1_2_ k_) ∨ k_ = g)) (by repeat (first|(with_reducible first|exact HK.out|apply Kept.alloc|apply Kept.drewN|refine Kept.setCell ?_ (.inl (.inr rfl)) _|refine Kept.setCell ?_ (.inr GW210.out) _)|exact HK.out)) hb);have n4_:=Aside0.mk (below_step (by repeat (first|(with_reducible first|exact HB.out|apply below_alloc|apply pw_below_drewN|apply below_drew1|refine below_set ?_ (IsS171.ge HI0.out)|refine below_set ?_ GE210.out)|exact HB.out)) hb);have n5_:=Aside0.mk (hbox);have n6_:=Aside0.mk ((by rw [hg];exact (by first|exact HK.out.1|exact (show Kept w _ (fun k_=>(P1_2_ k_) ∨ k_ = g) from by repeat (first|(with_reducible first|exact HK.out|apply Kept.alloc|apply Kept.drewN|refine Kept.setCell ?_ (.inl (.inr rfl)) _|refine Kept.setCell ?_ (.inr GW210.out) _)|exact HK.out)).1) : w.heap.size ≤ gb211));have n7_:=Aside0.mk ((by rw [hg];exact (below_size (by repeat (first|(with_reducible first|exact HB.out|apply below_alloc|apply pw_below_drewN|apply below_drew1|refine below_set ?_ (IsS171.ge HI0.out)|refine below_set ?_ GE210.out)|exact HB.out))) : w0.heap.size ≤ gb211));have n8_:=Aside0.mk ((by rw [hg];exact Nat.ne_of_lt (blk_lt (g:=gb210) (o:=.cells #[.int .i64 a1_0,.int .i64 a1_1,.slice Ao48 l1_2.length co48] 27 (0,0)) (by (with_reducible repeat first|refine blk_drewN ?_ _|refine blk_alloc ?_ _);exact BK210.out)) : gb210 ≠ gb211));have n9_:=Aside0.mk ((by rw [hg];exact Nat.ne_of_gt (blk_lt (g:=gb210) (o:=.cells #[.int .i64 a1_0,.int .i64 a1_1,.slice Ao48 l1_2.length co48] 27 (0,0)) (by (with_reducible repeat first|refine blk_drewN ?_ _|refine blk_alloc ?_ _);exact BK210.out)) : gb211 ≠ gb210));have n10_:=Aside0.mk ((by rw [hg];exact Nat.ne_of_lt (IsS171.lt (show IsS171 w0 _ g s0_0 s0_1 s0_2 from by repeat (first|(with_reducible first|exact HI0.out|apply IsS171.alloc|apply IsS171.drewN|apply IsS171.set_1|apply IsS171.set_2|refine IsS171.far ?_ NB0_210.out _)|exact HI0.out))) : g ≠ gb211));have n11_:=Aside0.mk ((by rw [hg];exact Nat.ne_of_gt (IsS171.lt (show IsS171 w0 _ g s0_0 s0_1 s0_2 from by repeat (first|(with_reducible first|exact HI0.out|apply IsS171.alloc|apply IsS171.drewN|apply IsS171.set_1|apply IsS171.set_2|refine IsS171.far ?_ NB0_210.out _)|exact HI0.out))) : gb211 ≠ g));clear HO1_2 HI0 BK210 HK HB;have HO1_2:=n0_;have HI0:=n1_;have BK210:=n2_;have HK:=n3_;have HB:=n4_;have BK211:=n5_;have GW211:=n6_;have GE211:=n7_;have NB210_211:=n8_;have NB211_210:=n9_;have NB0_211:=n10_;have NB211_0:=n11_;clear n0_ n1_ n2_ n3_ n4_ n5_ n6_ n7_ n8_ n9_ n10_ n11_ hb hbox hg)|((with_reducible refine gate_callee (f:=75) rfl ?_);refine goesL_ (some 6) rfl rfl Try.func75 (by kernel_rfl) rfl #[.pointer (some ⟨g,0,none⟩),.int .i64 10] rfl (by (try simp only [List.map_toArray,List.map_cons,List.map_nil]);first|done|rfl) ?_;(with_reducible refine (spec_l01Src_n.calls g s0_0 s0_1 s0_2 10 t212 t213 t214 w0 _ ?side1 ?side2 A3.out).mono ?_);(case side1=>repeat (first|(with_reducible first|exact HI0.out|apply IsS171.alloc|apply IsS171.drewN|apply IsS171.set_1|apply IsS171.set_2|refine IsS171.far ?_ NB0_210.out _|refine IsS171.far ?_ NB0_211.out _)|exact HI0.out));(case side2=>repeat (first|(with_reducible first|exact HB.out|apply below_alloc|apply pw_below_drewN|apply below_drew1|refine below_set ?_ (IsS171.ge HI0.out)|refine below_set ?_ GE210.out|refine below_set ?_ GE211.out)|exact HB.out));rintro e w51 ⟨rfl,hi,hb,hk⟩;refine ⟨_,rfl,?_⟩;have n0_:=Aside0.mk (Kd.R_mono (Kd.R_keep (IsS171.apart (show IsS171 w0 _ g s0_0 s0_1 s0_2 from by repeat (first|(with_reducible first|exact HI0.out|apply IsS171.alloc|apply IsS171.drewN|apply IsS171.set_1|apply IsS171.set_2|refine IsS171.far ?_ NB0_210.out _|refine IsS171.far ?_ NB0_211.out _)|exact HI0.out)) (by (with_reducible repeat (first|apply Kd.R_alloc|apply Kd.R_drewN));exact HO1_2.out) (by decide)) hk (fun _ h=>h.2)) (fun _ h=>h.1));have n1_:=Aside0.mk (KeepBut.blk hk (g':=gb210) (o:=.cells #[.int .i64 a1_0,.int .i64 a1_1,.slice Ao48 l1_2.length co48] 27 (0,0)) (by (with_reducible repeat first|refine blk_drewN ?_ _|refine blk_alloc ?_ _);exact BK210.out) NB210_0.out (by simp));have n2_:=Aside0.mk (KeepBut.blk hk (g':=gb211) (o:=.cells #[.int .i64 0,.int .i64 0,.slice none 0 0] 27 (0,0)) (by (with_reducible repeat first|refine blk_drewN ?_ _|refine blk_alloc ?_ _);exact BK211.out) NB211_0.out (by simp));have n3_:=Aside0.mk (Kept.of_keep (S:=(fun k_=>(P1_2_ k_) ∨ k_ = g)) (by repeat (first|(with_reducible first|exact HK.out|apply Kept.alloc|apply Kept.drewN|refine Kept.setCell ?_ (.inl (.inr rfl)) _|refine Kept.setCell ?_ (.inr GW210.out) _|refine Kept.setCell ?_ (.inr GW211.out) _)|exact HK.out)) hk (.inl (.inr rfl)));have n4_:=Aside0.mk (hb);have n5_:=Aside0.mk (hi);clear HO1_2 BK210 BK211 HK HB HI0;have HO1_2:=n0_;have BK210:=n1_;have BK211:=n2_;have HK:=n3_;have HB:=n4_;have HI0:=n5_;clear n0_ n1_ n2_ n3_ n4_ n5_;(try clear hb);(try clear hb2);(try clear hk);(try clear hi);have hnb52:=NB210_211.out;have hnc52:=NB211_210.out;have hnb53:=NB210_0.out;have hnc53:=NB0_210.out;have hcz54_0 : w51.cell? ⟨gb210,0,none⟩ = some (.int .i64 a1_0):=(blk_cell BK210.out 0).trans rfl;have hcz54_1 : w51.cell? ⟨gb210,1,none⟩ = some (.int .i64 a1_1):=(blk_cell BK210.out 1).trans rfl;have hcz54_2 : w51.cell? ⟨gb210,2,none⟩ = some (.slice Ao48 l1_2.length co48):=(blk_cell BK210.out 2).trans rfl;have hfz54_0:=blk_frozen BK210.out 0;have hfz54_1:=blk_frozen BK210.out 1;have hfz54_2:=blk_frozen BK210.out 2;have hnb55:=NB211_0.out;have hnc55:=NB0_211.out;have hcz56_0 : w51.cell? ⟨gb211,0,none⟩ = some (.int .i64 0):=(blk_cell BK211.out 0).trans rfl;have hcz56_1 : w51.cell? ⟨gb211,1,none⟩ = some (.int .i64 0):=(blk_cell BK211.out 1).trans rfl;have hcz56_2 : w51.cell? ⟨gb211,2,none⟩ = some (.slice none 0 0):=(blk_cell BK211.out 2).trans rfl;have hfz56_0:=blk_frozen BK211.out 0;have hfz56_1:=blk_frozen BK211.out 1;have hfz56_2:=blk_frozen BK211.out 2))
    refine bodyPost_ret (results_cell_row rfl _ _ gb211 27 #[.int .i64 a1_0,.int .i64 a1_1,.slice Ao48 l1_2.length co48] (0,0) _ rfl (by (with_reducible repeat first|refine blk_drewN ?_ _|refine blk_alloc ?_ _);refine blk_put (cs:=#[.int .i64 a1_0,.int .i64 a1_1,.slice none 0 0]) ?_ 2 _ rfl;(with_reducible repeat first|refine blk_drewN ?_ _|refine blk_alloc ?_ _);refine blk_put (cs:=#[.int .i64 a1_0,.int .i64 0,.slice none 0 0]) ?_ 1 _ rfl;(with_reducible repeat first|refine blk_drewN ?_ _|refine blk_alloc ?_ _);refine blk_put (cs:=#[.int .i64 0,.int .i64 0,.slice none 0 0]) ?_ 0 _ rfl;(with_reducible repeat first|refine blk_drewN ?_ _|refine blk_alloc ?_ _);exact BK211.out) Try.underlying27 rfl (by kernel_rfl)) rfl ?_
    exact ⟨_,by first|rfl|(simp [errW_none,errW_some] <;> rfl)|(simp [*,errW_none,errW_some] <;> rfl),by (with_reducible repeat (first|apply Kd.R_alloc|apply Kd.R_drewN));exact Kd.R_mono (Kd.R_far (p:=⟨gb211,2,none⟩) (Kd.R_far (p:=⟨gb211,1,none⟩) (Kd.R_far (p:=⟨gb211,0,none⟩) (Kd.R_types HO1_2.out BK211.out (by decide)) (fun _ hk=>hk.2) (.int .i64 a1_0)) (fun _ hk=>hk.2) (.int .i64 a1_1)) (fun _ hk=>hk.2) (.slice Ao48 l1_2.length co48)) (fun _ hk=>hk.1),by repeat (first|(with_reducible first|exact HI0.out|apply IsS171.alloc|apply IsS171.drewN|apply IsS171.set_1|apply IsS171.set_2|refine IsS171.far ?_ NB0_210.out _|refine IsS171.far ?_ NB0_211.out _)|exact HI0.out),by repeat (first|(with_reducible first|exact HB.out|apply below_alloc|apply pw_below_drewN|apply below_drew1|refine below_set ?_ (IsS171.ge HI0.out)|refine below_set ?_ GE210.out|refine below_set ?_ GE211.out)|exact HB.out),by repeat (first|(with_reducible first|exact HK.out|apply Kept.alloc|apply Kept.drewN|refine Kept.setCell ?_ (.inl (.inr rfl)) _|refine Kept.setCell ?_ (.inr GW210.out) _|refine Kept.setCell ?_ (.inr GW211.out) _)|exact HK.out)⟩

/-! ### spec_DrawMatInv: function 23 -/
def spec_DrawMatInv.f (k : Nat) (l0 : List Int) : Option (Int × Int × List Int):=(spec_l01Source.f l0).bind fun bt224=>((spec_l01Src_n.f bt224.1 bt224.2.1 bt224.2.2 5).bind fun bt228=>((spec_l01Src_matrix.f k bt224.1 bt228.2.1 bt228.2.2 (wrap64 (1 + bt228.1)) (wrap64 (1 + bt228.1))).bind fun bt231=>((spec_l01Src_one.f bt224.1 bt231.2.2.2.1 bt231.2.2.2.2 8).bind fun bt239=>(if bt239.1 = true then ((spec_l01Src_spoilMatrix.f bt224.1 bt239.2.1 bt239.2.2 bt231.1 bt231.2.1 bt231.2.2.1).bind fun bt242=>(some (bt242.1,bt242.2.1,bt242.2.2.1))) else (some (bt231.1,bt231.2.1,bt231.2.2.1))))))
theorem spec_DrawMatInv.mono : ∀ a0 k,LeO (spec_DrawMatInv.f k a0) (spec_DrawMatInv.f (k + 1) a0):=by
 intro a0 k
 unfold spec_DrawMatInv.f
 repeat' first
   | (with_reducible exact spec_l01Src_matrix.mono _ _ _ _ _ _)
   | (with_reducible exact LeO.refl _)
   | (with_reducible exact LeO.none _)
   | (with_reducible refine LeO.ite ?_ ?_)
   | (with_reducible refine LeO.bind ?_ (fun _=>?_))
   | exact spec_l01Src_matrix.mono _ _ _ _ _ _
   | exact LeO.none _
   | refine LeO.ite ?_ ?_
   | refine LeO.bind ?_ (fun _=>?_)
set_option maxHeartbeats 8000000 in
set_option maxRecDepth 100000 in
theorem spec_DrawMatInv.calls (k : Nat) (A0 : Option Addr) (c0 : Nat) (l0 : List Int) (r1 : Int) (r2 : Int) (r3 : List Int) (w : World) (hr0 : Kd.C (Kd.int .u8) w A0 l0.length l0) (hc0 : l0.length ≤ c0) (h : spec_DrawMatInv.f k l0 = some (r1,r2,r3)) :
  Calls Try.prog 23 #[.slice A0 l0.length c0] w fun e w'=>∃ v2_ : Value,e = .returned (.agg #[.int .i64 r1,.int .i64 r2,v2_]) ∧ Kd.R (Kd.int .i64) 2 w' w.heap.size (fun _=>True) v2_ r3 ∧ Below w.heap.size w w':=by
 have hu27:=Try.underlying27
 have HR0:=Aside0.mk hr0
 have HC0:=Aside0.mk hc0
 clear hr0 hc0
 have HB:=Aside0.mk (Below.refl w.heap.size w)
 have H : ((spec_l01Source.f l0).bind fun bt224=>((spec_l01Src_n.f bt224.1 bt224.2.1 bt224.2.2 5).bind fun bt228=>((spec_l01Src_matrix.f k bt224.1 bt228.2.1 bt228.2.2 (wrap64 (1 + bt228.1)) (wrap64 (1 + bt228.1))).bind fun bt231=>((spec_l01Src_one.f bt224.1 bt231.2.2.2.1 bt231.2.2.2.2 8).bind fun bt239=>(if bt239.1 = true then ((spec_l01Src_spoilMatrix.f bt224.1 bt239.2.1 bt239.2.2 bt231.1 bt231.2.1 bt231.2.2.1).bind fun bt242=>(some (bt242.1,bt242.2.1,bt242.2.2.1))) else (some (bt231.1,bt231.2.1,bt231.2.2.1))))))) = some (r1,r2,r3):=h
 clear h
 replace H:=Option.bind_eq_some_iff.mp H
 obtain ⟨⟨t224,t225,t226⟩,A20,H⟩:=H
 replace H : ((spec_l01Src_n.f t224 t225 t226 5).bind fun bt228=>((spec_l01Src_matrix.f k t224 bt228.2.1 bt228.2.2 (wrap64 (1 + bt228.1)) (wrap64 (1 + bt228.1))).bind fun bt231=>((spec_l01Src_one.f t224 bt231.2.2.2.1 bt231.2.2.2.2 8).bind fun bt239=>(if bt239.1 = true then ((spec_l01Src_spoilMatrix.f t224 bt239.2.1 bt239.2.2 bt231.1 bt231.2.1 bt231.2.2.1).bind fun bt242=>(some (bt242.1,bt242.2.1,bt242.2.2.1))) else (some (bt231.1,bt231.2.1,bt231.2.2.1)))))) = some (r1,r2,r3):=H
 have A2:=Aside0.mk A20
 clear A20
 replace H:=Option.bind_eq_some_iff.mp H
 obtain ⟨⟨t228,t229,t230⟩,A30,H⟩:=H
 replace H : ((spec_l01Src_matrix.f k t224 t229 t230 (wrap64 (1 + t228)) (wrap64 (1 + t228))).bind fun bt231=>((spec_l01Src_one.f t224 bt231.2.2.2.1 bt231.2.2.2.2 8).bind fun bt239=>(if bt239.1 = true then ((spec_l01Src_spoilMatrix.f t224 bt239.2.1 bt239.2.2 bt231.1 bt231.2.1 bt231.2.2.1).bind fun bt242=>(some (bt242.1,bt242.2.1,bt242.2.2.1))) else (some (bt231.1,bt231.2.1,bt231.2.2.1))))) = some (r1,r2,r3):=H
 have A3:=Aside0.mk A30
 clear A30
 replace H:=Option.bind_eq_some_iff.mp H
 obtain ⟨⟨t231,t232,t233,t236,t237⟩,A40,H⟩:=H
 replace H : ((spec_l01Src_one.f t224 t236 t237 8).bind fun bt239=>(if bt239.1 = true then ((spec_l01Src_spoilMatrix.f t224 bt239.2.1 bt239.2.2 t231 t232 t233).bind fun bt242=>(some (bt242.1,bt242.2.1,bt242.2.2.1))) else (some (t231,t232,t233)))) = some (r1,r2,r3):=H
 have A4:=Aside0.mk A40
 clear A40
 replace H:=Option.bind_eq_some_iff.mp H
 obtain ⟨⟨t239,t240,t241⟩,A50,H⟩:=H
 replace H : (if t239 = true then ((spec_l01Src_spoilMatrix.f t224 t240 t241 t231 t232 t233).bind fun bt242=>(some (bt242.1,bt242.2.1,bt242.2.2.1))) else (some (t231,t232,t233))) = some (r1,r2,r3):=H
 have A5:=Aside0.mk A50
 clear A50
 by_cases c6 : t239 = true
 ·subst c6
  have H1 : ((spec_l01Src_spoilMatrix.f t224 t240 t241 t231 t232 t233).bind fun bt242=>(some (bt242.1,bt242.2.1,bt242.2.2.1))) = some (r1,r2,r3):=by rw [if_pos rfl] at H;exact H
  clear H
  have H:=H1
  clear H1
  replace H:=Option.bind_eq_some_iff.mp H
  obtain ⟨⟨t242,t243,t244,t247,t248⟩,A70,H⟩:=H
  replace H : (some (t242,t243,t244)) = some (r1,r2,r3):=H
  have A7:=Aside0.mk A70
  clear A70
  simp only [Option.some.injEq,Prod.mk.injEq] at H
  obtain ⟨rfl,rfl,rfl⟩:=H
  go_enter Try.func23,Try.ntmps23
  go_wp2_with (first|((with_reducible refine gate_dst (N:=2) rfl ?_);refine box_event ?hg (N:=2) ?hd (cs:=#[.int .i64 0,.int .i64 0,.slice none 0 0]) (t:=27) ?hr ?_;(case hd=>rfl);(case hg=>rfl);(case hr=>first|(go_simp;done)|(go_simp;rfl));intro gb223 hg w8 hbox hb;have n0_:=Aside0.mk (below_step (by repeat (first|(with_reducible first|exact HB.out|apply below_alloc|apply pw_below_drewN|apply below_drew1)|exact HB.out)) hb);have n1_:=Aside0.mk (hbox);have n2_:=Aside0.mk ((by rw [hg];exact (below_size (by repeat (first|(with_reducible first|exact HB.out|apply below_alloc|apply pw_below_drewN|apply below_drew1)|exact HB.out))) : w.heap.size ≤ gb223));have n3_:=Aside0.mk ((by rw [hg];exact (below_size (by repeat (first|(with_reducible first|exact HB.out|apply below_alloc|apply pw_below_drewN|apply below_drew1)|exact HB.out))) : w.heap.size ≤ gb223));clear HB;have HB:=n0_;have BK223:=n1_;have GW223:=n2_;have GE223:=n3_;clear n0_ n1_ n2_ n3_ hb hbox hg)|((with_reducible refine gate_callee (f:=74) rfl ?_);refine goesL_ (some 7) rfl rfl Try.func74 (by kernel_rfl) rfl #[.slice A0 l0.length c0] rfl (by (try simp only [List.map_toArray,List.map_cons,List.map_nil]);first|done|rfl) ?_;(with_reducible refine (spec_l01Source.calls _ _ l0 t224 t225 t226 w _ ?side1 ?side2 ?side3 A2.out).mono ?_);(case side1=>repeat (first|(with_reducible first|exact HB.out|apply below_alloc|apply pw_below_drewN|apply below_drew1|refine below_set ?_ GE223.out)|exact HB.out));(case side2=>exact HR0.out);(case side3=>exact HC0.out);rintro e w9 ⟨g227,rfl,hi,hb,hb2⟩;refine ⟨_,rfl,?_⟩;have n0_:=Aside0.mk (blk_below (g:=gb223) (o:=.cells #[.int .i64 0,.int .i64 0,.slice none 0 0] 27 (0,0)) (by (with_reducible repeat first|refine blk_drewN ?_ _|refine blk_alloc ?_ _);exact BK223.out) hb2);have n1_:=Aside0.mk (hb);have n2_:=Aside0.mk (hi);have n3_:=Aside0.mk (IsS171.ne_blk hi (blk_below (g:=gb223) (o:=.cells #[.int .i64 0,.int .i64 0,.slice none 0 0] 27 (0,0)) (by (with_reducible repeat first|refine blk_drewN ?_ _|refine blk_alloc ?_ _);exact BK223.out) hb2) (by decide));have n4_:=Aside0.mk (Ne.symm (IsS171.ne_blk hi (blk_below (g:=gb223) (o:=.cells #[.int .i64 0,.int .i64 0,.slice none 0 0] 27 (0,0)) (by (with_reducible repeat first|refine blk_drewN ?_ _|refine blk_alloc ?_ _);exact BK223.out) hb2) (by decide)));clear BK223 HB;have BK223:=n0_;have HB:=n1_;have HI227:=n2_;have NB227_223:=n3_;have NB223_227:=n4_;clear n0_ n1_ n2_ n3_ n4_;(try clear hb);(try clear hb2);(try clear hk);(try clear hi))|((with_reducible refine gate_callee (f:=75) rfl ?_);refine goesL_ (some 9) rfl rfl Try.func75 (by kernel_rfl) rfl #[.pointer (some ⟨g227,0,none⟩),.int .i64 5] rfl (by (try simp only [List.map_toArray,List.map_cons,List.map_nil]);first|done|rfl) ?_;(with_reducible refine (spec_l01Src_n.calls g227 t224 t225 t226 5 t228 t229 t230 w _ ?side1 ?side2 A3.out).mono ?_);(case side1=>repeat (first|(with_reducible first|exact HI227.out|apply IsS171.alloc|apply IsS171.drewN|apply IsS171.set_1|apply IsS171.set_2|refine IsS171.far ?_ NB227_223.out _)|exact HI227.out));(case side2=>repeat (first|(with_reducible first|exact HB.out|apply below_alloc|apply pw_below_drewN|apply below_drew1|refine below_set ?_ (IsS171.ge HI227.out)|refine below_set ?_ GE223.out)|exact HB.out));rintro e w10 ⟨rfl,hi,hb,hk⟩;refine ⟨_,rfl,?_⟩;have n0_:=Aside0.mk (KeepBut.blk hk (g':=gb223) (o:=.cells #[.int .i64 0,.int .i64 0,.slice none 0 0] 27 (0,0)) (by (with_reducible repeat first|refine blk_drewN ?_ _|refine blk_alloc ?_ _);exact BK223.out) NB223_227.out (by simp));have n1_:=Aside0.mk (hb);have n2_:=Aside0.mk (hi);clear BK223 HB HI227;have BK223:=n0_;have HB:=n1_;have HI227:=n2_;clear n0_ n1_ n2_;(try clear hb);(try clear hb2);(try clear hk);(try clear hi))|((with_reducible refine gate_callee (f:=76) rfl ?_);refine goesL_ (some 14) rfl rfl Try.func76 (by kernel_rfl) rfl #[.pointer (some ⟨g227,0,none⟩),.int .i64 (wrap64 (1 + t228)),.int .i64 (wrap64 (1 + t228))] rfl (by (try simp only [List.map_toArray,List.map_cons,List.map_nil]);first|done|rfl) ?_;(with_reducible refine (spec_l01Src_matrix.calls k g227 t224 t229 t230 (wrap64 (1 + t228)) (wrap64 (1 + t228)) t231 t232 t233 t236 t237 w _ ?side1 ?side2 A4.out).mono ?_);(case side1=>repeat (first|(with_reducible first|exact HI227.out|apply IsS171.alloc|apply IsS171.drewN|apply IsS171.set_1|apply IsS171.set_2|refine IsS171.far ?_ NB227_223.out _)|exact HI227.out));(case side2=>repeat (first|(with_reducible first|exact HB.out|apply below_alloc|apply pw_below_drewN|apply below_drew1|refine below_set ?_ (IsS171.ge HI227.out)|refine below_set ?_ GE223.out)|exact HB.out));rintro e w11 ⟨v234,rfl,ho0,hi,hb,hk⟩;refine ⟨_,rfl,?_⟩;have n0_:=Aside0.mk (KeepBut.blk hk (g':=gb223) (o:=.cells #[.int .i64 0,.int .i64 0,.slice none 0 0] 27 (0,0)) (by (with_reducible repeat first|refine blk_drewN ?_ _|refine blk_alloc ?_ _);exact BK223.out) NB223_227.out (by simp));have n1_:=Aside0.mk (Kd.R_lower ho0 (below_size (by repeat (first|(with_reducible first|exact HB.out|apply below_alloc|apply pw_below_drewN|apply below_drew1|refine below_set ?_ (IsS171.ge HI227.out)|refine below_set ?_ GE223.out)|exact HB.out))));have n2_:=Aside0.mk (hb);have n3_:=Aside0.mk (hi);clear BK223 HB HI227;have BK223:=n0_;have HO235:=n1_;have HB:=n2_;have HI227:=n3_;clear n0_ n1_ n2_ n3_;(try clear hb);(try clear hb2);(try clear hk);(try clear hi);(try clear ho0))|((with_reducible refine gate_dst (N:=5) rfl ?_);refine box_event ?hg (N:=5) ?hd (cs:=#[.int .i64 0,.int .i64 0,.slice none 0 0]) (t:=27) ?hr ?_;(case hd=>rfl);(case hg=>rfl);(case hr=>first|(go_simp;done)|(go_simp;rfl));intro gb238 hg w12 hbox hb;have n0_:=Aside0.mk (Kd.R_below (by (with_reducible repeat (first|apply Kd.R_alloc|apply Kd.R_drewN));exact HO235.out) hb);have n1_:=Aside0.mk (blk_below (g:=gb223) (o:=.cells #[.int .i64 0,.int .i64 0,.slice none 0 0] 27 (0,0)) (by (with_reducible repeat first|refine blk_drewN ?_ _|refine blk_alloc ?_ _);exact BK223.out) hb);have n2_:=Aside0.mk (IsS171.below (by repeat (first|(with_reducible first|exact HI227.out|apply IsS171.alloc|apply IsS171.drewN|apply IsS171.set_1|apply IsS171.set_2|refine IsS171.far ?_ NB227_223.out _)|exact HI227.out)) hb);have n3_:=Aside0.mk (below_step (by repeat (first|(with_reducible first|exact HB.out|apply below_alloc|apply pw_below_drewN|apply below_drew1|refine below_set ?_ (IsS171.ge HI227.out)|refine below_set ?_ GE223.out)|exact HB.out)) hb);have n4_:=Aside0.mk (hbox);have n5_:=Aside0.mk ((by rw [hg];exact (below_size (by repeat (first|(with_reducible first|exact HB.out|apply below_alloc|apply pw_below_drewN|apply below_drew1|refine below_set ?_ (IsS171.ge HI227.out)|refine below_set ?_ GE223.out)|exact HB.out))) : w.heap.size ≤ gb238));have n6_:=Aside0.mk ((by rw [hg];exact (below_size (by repeat (first|(with_reducible first|exact HB.out|apply below_alloc|apply pw_below_drewN|apply below_drew1|refine below_set ?_ (IsS171.ge HI227.out)|refine below_set ?_ GE223.out)|exact HB.out))) : w.heap.size ≤ gb238));have n7_:=Aside0.mk ((by rw [hg];exact Nat.ne_of_lt (blk_lt (g:=gb223) (o:=.cells #[.int .i64 0,.int .i64 0,.slice none 0 0] 27 (0,0)) (by (with_reducible repeat first|refine blk_drewN ?_ _|refine blk_alloc ?_ _);exact BK223.out)) : gb223 ≠ gb238));have n8_:=Aside0.mk ((by rw [hg];exact Nat.ne_of_gt (blk_lt (g:=gb223) (o:=.cells #[.int .i64 0,.int .i64 0,.slice none 0 0] 27 (0,0)) (by (with_reducible repeat first|refine blk_drewN ?_ _|refine blk_alloc ?_ _);exact BK223.out)) : gb238 ≠ gb223));have n9_:=Aside0.mk ((by rw [hg];exact Nat.ne_of_lt (IsS171.lt (show IsS171 w _ g227 t224 t236 t237 from by repeat (first|(with_reducible first|exact HI227.out|apply IsS171.alloc|apply IsS171.drewN|apply IsS171.set_1|apply IsS171.set_2|refine IsS171.far ?_ NB227_223.out _)|exact HI227.out))) : g227 ≠ gb238));have n10_:=Aside0.mk ((by rw [hg];exact Nat.ne_of_gt (IsS171.lt (show IsS171 w _ g227 t224 t236 t237 from by repeat (first|(with_reducible first|exact HI227.out|apply IsS171.alloc|apply IsS171.drewN|apply IsS171.set_1|apply IsS171.set_2|refine IsS171.far ?_ NB227_223.out _)|exact HI227.out))) : gb238 ≠ g227));clear HO235 BK223 HI227 HB;have HO235:=n0_;have BK223:=n1_;have HI227:=n2_;have HB:=n3_;have BK238:=n4_;have GW238:=n5_;have GE238:=n6_;have NB223_238:=n7_;have NB238_223:=n8_;have NB227_238:=n9_;have NB238_227:=n10_;clear n0_ n1_ n2_ n3_ n4_ n5_ n6_ n7_ n8_ n9_ n10_ hb hbox hg;have hnb13:=NB238_223.out;have hnc13:=NB223_238.out;have hnb14:=NB238_227.out;have hnc14:=NB227_238.out;have hcz15_0 : w12.cell? ⟨gb238,0,none⟩ = some (.int .i64 0):=(blk_cell BK238.out 0).trans rfl;have hcz15_1 : w12.cell? ⟨gb238,1,none⟩ = some (.int .i64 0):=(blk_cell BK238.out 1).trans rfl;have hcz15_2 : w12.cell? ⟨gb238,2,none⟩ = some (.slice none 0 0):=(blk_cell BK238.out 2).trans rfl;have hfz15_0:=blk_frozen BK238.out 0;have hfz15_1:=blk_frozen BK238.out 1;have hfz15_2:=blk_frozen BK238.out 2;obtain ⟨Ao16,co16,eo16⟩:=Kd.R_slice HO235.out;subst eo16)|((with_reducible refine gate_callee (f:=77) rfl ?_);refine goesL_ (some 16) rfl rfl Try.func77 (by kernel_rfl) rfl #[.pointer (some ⟨g227,0,none⟩),.int .i64 8] rfl (by (try simp only [List.map_toArray,List.map_cons,List.map_nil]);first|done|rfl) ?_;(with_reducible refine (spec_l01Src_one.calls g227 t224 t236 t237 8 true t240 t241 w _ ?side1 ?side2 A5.out).mono ?_);(case side1=>repeat (first|(with_reducible first|exact HI227.out|apply IsS171.alloc|apply IsS171.drewN|apply IsS171.set_1|apply IsS171.set_2|refine IsS171.far ?_ NB227_223.out _|refine IsS171.far ?_ NB227_238.out _)|exact HI227.out));(case side2=>repeat (first|(with_reducible first|exact HB.out|apply below_alloc|apply pw_below_drewN|apply below_drew1|refine below_set ?_ (IsS171.ge HI227.out)|refine below_set ?_ GE223.out|refine below_set ?_ GE238.out)|exact HB.out));rintro e w17 ⟨rfl,hi,hb,hk⟩;refine ⟨_,rfl,?_⟩;have n0_:=Aside0.mk (KeepBut.blk hk (g':=gb223) (o:=.cells #[.int .i64 0,.int .i64 0,.slice none 0 0] 27 (0,0)) (by (with_reducible repeat first|refine blk_drewN ?_ _|refine blk_alloc ?_ _);refine blk_far ?_ NB223_238.out _;(with_reducible repeat first|refine blk_drewN ?_ _|refine blk_alloc ?_ _);refine blk_far ?_ NB223_238.out _;(with_reducible repeat first|refine blk_drewN ?_ _|refine blk_alloc ?_ _);refine blk_far ?_ NB223_238.out _;(with_reducible repeat first|refine blk_drewN ?_ _|refine blk_alloc ?_ _);exact BK223.out) NB223_227.out (by simp));have n1_:=Aside0.mk (Kd.R_mono (Kd.R_keep (IsS171.apart (show IsS171 w _ g227 t224 t236 t237 from by repeat (first|(with_reducible first|exact HI227.out|apply IsS171.alloc|apply IsS171.drewN|apply IsS171.set_1|apply IsS171.set_2|refine IsS171.far ?_ NB227_223.out _|refine IsS171.far ?_ NB227_238.out _)|exact HI227.out)) (by (with_reducible repeat (first|apply Kd.R_alloc|apply Kd.R_drewN));exact (Kd.R_mono (Kd.R_far (p:=⟨gb238,2,none⟩) (Kd.R_far (p:=⟨gb238,1,none⟩) (Kd.R_far (p:=⟨gb238,0,none⟩) (Kd.R_types HO235.out BK238.out (by decide)) (fun _ hk=>hk.2) (.int .i64 t231)) (fun _ hk=>hk.2) (.int .i64 t232)) (fun _ hk=>hk.2) (.slice Ao16 t233.length co16)) (fun _ h_=>h_.1))) (by decide)) hk (fun _ h=>h.2)) (fun _ h=>h.1));have n2_:=Aside0.mk (KeepBut.blk hk (g':=gb238) (o:=.cells #[.int .i64 t231,.int .i64 t232,.slice Ao16 t233.length co16] 27 (0,0)) (by (with_reducible repeat first|refine blk_drewN ?_ _|refine blk_alloc ?_ _);refine blk_put (cs:=#[.int .i64 t231,.int .i64 t232,.slice none 0 0]) ?_ 2 _ rfl;(with_reducible repeat first|refine blk_drewN ?_ _|refine blk_alloc ?_ _);refine blk_put (cs:=#[.int .i64 t231,.int .i64 0,.slice none 0 0]) ?_ 1 _ rfl;(with_reducible repeat first|refine blk_drewN ?_ _|refine blk_alloc ?_ _);refine blk_put (cs:=#[.int .i64 0,.int .i64 0,.slice none 0 0]) ?_ 0 _ rfl;(with_reducible repeat first|refine blk_drewN ?_ _|refine blk_alloc ?_ _);exact BK238.out) NB238_227.out (by simp));have n3_:=Aside0.mk (hb);have n4_:=Aside0.mk (hi);clear BK223 HO235 BK238 HB HI227;have BK223:=n0_;have HO235:=n1_;have BK238:=n2_;have HB:=n3_;have HI227:=n4_;clear n0_ n1_ n2_ n3_ n4_;(try clear hb);(try clear hb2);(try clear hk);(try clear hi);have hcz18_0 : w17.cell? ⟨gb238,0,none⟩ = some (.int .i64 t231):=(blk_cell BK238.out 0).trans rfl;have hcz18_1 : w17.cell? ⟨gb238,1,none⟩ = some (.int .i64 t232):=(blk_cell BK238.out 1).trans rfl;have hcz18_2 : w17.cell? ⟨gb238,2,none⟩ = some (.slice Ao16 t233.length co16):=(blk_cell BK238.out 2).trans rfl;have hfz18_0:=blk_frozen BK238.out 0;have hfz18_1:=blk_frozen BK238.out 1;have hfz18_2:=blk_frozen BK238.out 2)|((with_reducible refine gate_callee (f:=78) rfl ?_);refine goesL_ (some 19) rfl rfl Try.func78 (by kernel_rfl) rfl #[.pointer (some ⟨g227,0,none⟩),.agg #[.int .i64 t231,.int .i64 t232,.slice Ao16 t233.length co16]] rfl (by (try simp only [List.map_toArray,List.map_cons,List.map_nil]);first|done|rfl) ?_;(with_reducible refine (spec_l01Src_spoilMatrix.calls g227 t224 t240 t241 t231 t232 (fun k_=>some k_ = (.slice Ao16 t233.length co16 : Value).ownBlock) (.slice Ao16 t233.length co16) t233 t242 t243 t244 t247 t248 w _ ?side1 ?side2 ?side3 A7.out).mono ?_);(case side1=>repeat (first|(with_reducible first|exact HI227.out|apply IsS171.alloc|apply IsS171.drewN|apply IsS171.set_1|apply IsS171.set_2|refine IsS171.far ?_ NB227_223.out _|refine IsS171.far ?_ NB227_238.out _)|exact HI227.out));(case side2=>repeat (first|(with_reducible first|exact HB.out|apply below_alloc|apply pw_below_drewN|apply below_drew1|refine below_set ?_ (IsS171.ge HI227.out)|refine below_set ?_ GE223.out|refine below_set ?_ GE238.out)|exact HB.out));(case side3=>exact Kd.R_tight rfl HO235.out);rintro e w19 ⟨v245,rfl,ho0,hi,hb,hkp⟩;refine ⟨_,rfl,?_⟩;have n0_:=Aside0.mk (blk_kept (by (with_reducible repeat first|refine blk_drewN ?_ _|refine blk_alloc ?_ _);exact BK223.out) hkp (fun hs_=>Or.elim hs_ (fun hs_=>(fun e_=>(Kd.R_ne HO235.out BK223.out (by decide)) e_) hs_) (fun e_=>NB223_227.out e_)));have n1_:=Aside0.mk (hi);have n2_:=Aside0.mk (blk_kept (by (with_reducible repeat first|refine blk_drewN ?_ _|refine blk_alloc ?_ _);exact BK238.out) hkp (fun hs_=>Or.elim hs_ (fun hs_=>(fun e_=>(Kd.R_ne HO235.out BK238.out (by decide)) e_) hs_) (fun e_=>NB238_227.out e_)));have n3_:=Aside0.mk (Kd.R_mono (ok':=fun k_=>True) ho0 (fun k_ hk_=>trivial));have n4_:=Aside0.mk (hb);clear BK223 HI227 BK238 HB HO235;have BK223:=n0_;have HI227:=n1_;have BK238:=n2_;have HO246:=n3_;have HB:=n4_;clear n0_ n1_ n2_ n3_ n4_;(try clear hb);(try clear hkp);(try clear ho0);have hcz20_0 : w19.cell? ⟨gb238,0,none⟩ = some (.int .i64 t231):=(blk_cell BK238.out 0).trans rfl;have hcz20_1 : w19.cell? ⟨gb238,1,none⟩ = some (.int .i64 t232):=(blk_cell BK238.out 1).trans rfl;have hcz20_2 : w19.cell? ⟨gb238,2,none⟩ = some (.slice Ao16 t233.length co16):=(blk_cell BK238.out 2).trans rfl;have hfz20_0:=blk_frozen BK238.out 0;have hfz20_1:=blk_frozen BK238.out 1;have hfz20_2:=blk_frozen BK238.out 2;obtain ⟨Ao21,co21,eo21⟩:=Kd.R_slice HO246.out;subst eo21;have hnb22:=NB223_227.out;have hnc22:=NB227_223.out;have hcz23_0 : w19.cell? ⟨gb223,0,none⟩ = some (.int .i64 0):=(blk_cell BK223.out 0).trans rfl;have hcz23_1 : w19.cell? ⟨gb223,1,none⟩ = some (.int .i64 0):=(blk_cell BK223.out 1).trans rfl;have hcz23_2 : w19.cell? ⟨gb223,2,none⟩ = some (.slice none 0 0):=(blk_cell BK223.out 2).trans rfl;have hfz23_0:=blk_frozen BK223.out 0;have hfz23_1:=blk_frozen BK223.out 1;have hfz23_2:=blk_frozen BK223.out 2))
  refine bodyPost_ret (results_cell_row rfl _ _ gb223 27 #[.int .i64 t242,.int .i64 t243,.slice Ao21 t244.length co21] (0,0) _ rfl (by (with_reducible repeat first|refine blk_drewN ?_ _|refine blk_alloc ?_ _);refine blk_put (cs:=#[.int .i64 t242,.int .i64 t243,.slice none 0 0]) ?_ 2 _ rfl;(with_reducible repeat first|refine blk_drewN ?_ _|refine blk_alloc ?_ _);refine blk_put (cs:=#[.int .i64 t242,.int .i64 0,.slice none 0 0]) ?_ 1 _ rfl;(with_reducible repeat first|refine blk_drewN ?_ _|refine blk_alloc ?_ _);refine blk_put (cs:=#[.int .i64 0,.int .i64 0,.slice none 0 0]) ?_ 0 _ rfl;(with_reducible repeat first|refine blk_drewN ?_ _|refine blk_alloc ?_ _);refine blk_far ?_ NB223_238.out _;(with_reducible repeat first|refine blk_drewN ?_ _|refine blk_alloc ?_ _);refine blk_far ?_ NB223_238.out _;(with_reducible repeat first|refine blk_drewN ?_ _|refine blk_alloc ?_ _);refine blk_far ?_ NB223_238.out _;(with_reducible repeat first|refine blk_drewN ?_ _|refine blk_alloc ?_ _);exact BK223.out) Try.underlying27 rfl (by kernel_rfl)) rfl ?_
  exact ⟨_,by first|rfl|(simp [errW_none,errW_some] <;> rfl)|(simp [*,errW_none,errW_some] <;> rfl),by (with_reducible repeat (first|apply Kd.R_alloc|apply Kd.R_drewN));exact Kd.R_mono (Kd.R_far (p:=⟨gb223,2,none⟩) (Kd.R_far (p:=⟨gb223,1,none⟩) (Kd.R_far (p:=⟨gb223,0,none⟩) (Kd.R_far (p:=⟨gb238,2,none⟩) (Kd.R_far (p:=⟨gb238,1,none⟩) (Kd.R_far (p:=⟨gb238,0,none⟩) (Kd.R_types (Kd.R_types HO246.out BK238.out (by decide)) BK223.out (by decide)) (fun _ hk=>hk.1.2) (.int .i64 t242)) (fun _ hk=>hk.1.2) (.int .i64 t243)) (fun _ hk=>hk.1.2) (.slice Ao21 t244.length co21)) (fun _ hk=>hk.2) (.int .i64 t242)) (fun _ hk=>hk.2) (.int .i64 t243)) (fun _ hk=>hk.2) (.slice Ao21 t244.length co21)) (fun _ hk=>trivial),by repeat (first|(with_reducible first|exact HB.out|apply below_alloc|apply pw_below_drewN|apply below_drew1|refine below_set ?_ (IsS171.ge HI227.out)|refine below_set ?_ GE223.out|refine below_set ?_ GE238.out)|exact HB.out)⟩
 ·replace c6:=Bool.eq_false_iff.mpr c6
  subst c6
  have H1 : (some (t231,t232,t233)) = some (r1,r2,r3):=by rw [if_neg (show ¬ (false = true) by decide)] at H;exact H
  clear H
  have H:=H1
  clear H1
  simp only [Option.some.injEq,Prod.mk.injEq] at H
  obtain ⟨rfl,rfl,rfl⟩:=H
  go_enter Try.func23,Try.ntmps23
  go_wp2_with (first|((with_reducible refine gate_dst (N:=2) rfl ?_);refine box_event ?hg (N:=2) ?hd (cs:=#[.int .i64 0,.int .i64 0,.slice none 0 0]) (t:=27) ?hr ?_;(case hd=>rfl);(case hg=>rfl);(case hr=>first|(go_simp;done)|(go_simp;rfl));intro gb223 hg w24 hbox hb;have n0_:=Aside0.mk (below_step (by repeat (first|(with_reducible first|exact HB.out|apply below_alloc|apply pw_below_drewN|apply below_drew1)|exact HB.out)) hb);have n1_:=Aside0.mk (hbox);have n2_:=Aside0.mk ((by rw [hg];exact (below_size (by repeat (first|(with_reducible first|exact HB.out|apply below_alloc|apply pw_below_drewN|apply below_drew1)|exact HB.out))) : w.heap.size ≤ gb223));have n3_:=Aside0.mk ((by rw [hg];exact (below_size (by repeat (first|(with_reducible first|exact HB.out|apply below_alloc|apply pw_below_drewN|apply below_drew1)|exact HB.out))) : w.heap.size ≤ gb223));clear HB;have HB:=n0_;have BK223:=n1_;have GW223:=n2_;have GE223:=n3_;clear n0_ n1_ n2_ n3_ hb hbox hg)|((with_reducible refine gate_callee (f:=74) rfl ?_);refine goesL_ (some 7) rfl rfl Try.func74 (by kernel_rfl) rfl #[.slice A0 l0.length c0] rfl (by (try simp only [List.map_toArray,List.map_cons,List.map_nil]);first|done|rfl) ?_;(with_reducible refine (spec_l01Source.calls _ _ l0 t224 t225 t226 w _ ?side1 ?side2 ?side3 A2.out).mono ?_);(case side1=>repeat (first|(with_reducible first|exact HB.out|apply below_alloc|apply pw_below_drewN|apply below_drew1|refine below_set ?_ GE223.out)|exact HB.out));(case side2=>exact HR0.out);(case side3=>exact HC0.out);rintro e w25 ⟨g227,rfl,hi,hb,hb2⟩;refine ⟨_,rfl,?_⟩;have n0_:=Aside0.mk (blk_below (g:=gb223) (o:=.cells #[.int .i64 0,.int .i64 0,.slice none 0 0] 27 (0,0)) (by (with_reducible repeat first|refine blk_drewN ?_ _|refine blk_alloc ?_ _);exact BK223.out) hb2);have n1_:=Aside0.mk (hb);have n2_:=Aside0.mk (hi);have n3_:=Aside0.mk (IsS171.ne_blk hi (blk_below (g:=gb223) (o:=.cells #[.int .i64 0,.int .i64 0,.slice none 0 0] 27 (0,0)) (by (with_reducible repeat first|refine blk_drewN ?_ _|refine blk_alloc ?_ _);exact BK223.out) hb2) (by decide));have n4_:=Aside0.mk (Ne.symm (IsS171.ne_blk hi (blk_below (g:=gb223) (o:=.cells #[.int .i64 0,.int .i64 0,.slice none 0 0] 27 (0,0)) (by (with_reducible repeat first|refine blk_drewN ?_ _|refine blk_alloc ?_ _);exact BK223.out) hb2) (by decide)));clear BK223 HB;have BK223:=n0_;have HB:=n1_;have HI227:=n2_;have NB227_223:=n3_;have NB223_227:=n4_;clear n0_ n1_ n2_ n3_ n4_;(try clear hb);(try clear hb2);(try clear hk);(try clear hi))|((with_reducible refine gate_callee (f:=75) rfl ?_);refine goesL_ (some 9) rfl rfl Try.func75 (by kernel_rfl) rfl #[.pointer (some ⟨g227,0,none⟩),.int .i64 5] rfl (by (try simp only [List.map_toArray,List.map_cons,List.map_nil]);first|done|rfl) ?_;(with_reducible refine (spec_l01Src_n.calls g227 t224 t225 t226 5 t228 t229 t230 w _ ?side1 ?side2 A3.out).mono ?_);(case side1=>repeat (first|(with_reducible first|exact HI227.out|apply IsS171.alloc|apply IsS171.drewN|apply IsS171.set_1|apply IsS171.set_2|refine IsS171.far ?_ NB227_223.out _)|exact HI227.out));(case side2=>repeat (first|(with_reducible first|exact HB.out|apply below_alloc|apply pw_below_drewN|apply below_drew1|refine below_set ?_ (IsS171.ge HI227.out)|refine below_set ?_ GE223.out)|exact HB.out));rintro e w26 ⟨rfl,hi,hb,hk⟩;refine ⟨_,rfl,?_⟩;have n0_:=Aside0.mk (KeepBut.blk hk (g':=gb223) (o:=.cells #[.int .i64 0,.int .i64 0,.slice none 0 0] 27 (0,0)) (by (with_reducible repeat first|refine blk_drewN ?_ _|refine blk_alloc ?_ _);exact BK223.out) NB223_227.out (by simp));have n1_:=Aside0.mk (hb);have n2_:=Aside0.mk (hi);clear BK223 HB HI227;have BK223:=n0_;have HB:=n1_;have HI227:=n2_;clear n0_ n1_ n2_;(try clear hb);(try clear hb2);(try clear hk);(try clear hi))|((with_reducible refine gate_callee (f:=76) rfl ?_);refine goesL_ (some 14) rfl rfl Try.func76 (by kernel_rfl) rfl #[.pointer (some ⟨g227,0,none⟩),.int .i64 (wrap64 (1 + t228)),.int .i64 (wrap64 (1 + t228))] rfl (by (try simp only [List.map_toArray,List.map_cons,List.map_nil]);first|done|rfl) ?_;(with_reducible refine (spec_l01Src_matrix.calls k g227 t224 t229 t230 (wrap64 (1 + t228)) (wrap64 (1 + t228)) t231 t232 t233 t236 t237 w _ ?side1 ?side2 A4.out).mono ?_);(case side1=>repeat (first|(with_reducible first|exact HI227.out|apply IsS171.alloc|apply IsS171.drewN|apply IsS171.set_1|apply IsS171.set_2|refine IsS171.far ?_ NB227_223.out _)|exact HI227.out));(case side2=>repeat (first|(with_reducible first|exact HB.out|apply below_alloc|apply pw_below_drewN|apply below_drew1|refine below_set ?_ (IsS171.ge HI227.out)|refine below_set ?_ GE223.out)|exact HB.out));rintro e w27 ⟨v234,rfl,ho0,hi,hb,hk⟩;refine ⟨_,rfl,?_⟩;have n0_:=Aside0.mk (KeepBut.blk hk (g':=gb223) (o:=.cells #[.int .i64 0,.int .i64 0,.slice none 0 0] 27 (0,0)) (by (with_reducible repeat first|refine blk_drewN ?_ _|refine blk_alloc ?_ _);exact BK223.out) NB223_227.out (by simp));have n1_:=Aside0.mk (Kd.R_lower ho0 (below_size (by repeat (first|(with_reducible first|exact HB.out|apply below_alloc|apply pw_below_drewN|apply below_drew1|refine below_set ?_ (IsS171.ge HI227.out)|refine below_set ?_ GE223.out)|exact HB.out))));have n2_:=Aside0.mk (hb);have n3_:=Aside0.mk (hi);clear BK223 HB HI227;have BK223:=n0_;have HO235:=n1_;have HB:=n2_;have HI227:=n3_;clear n0_ n1_ n2_ n3_;(try clear hb);(try clear hb2);(try clear hk);(try clear hi);(try clear ho0))|((with_reducible refine gate_dst (N:=5) rfl ?_);refine box_event ?hg (N:=5) ?hd (cs:=#[.int .i64 0,.int .i64 0,.slice none 0 0]) (t:=27) ?hr ?_;(case hd=>rfl);(case hg=>rfl);(case hr=>first|(go_simp;done)|(go_simp;rfl));intro gb238 hg w28 hbox hb;have n0_:=Aside0.mk (Kd.R_below (by (with_reducible repeat (first|apply Kd.R_alloc|apply Kd.R_drewN));exact HO235.out) hb);have n1_:=Aside0.mk (blk_below (g:=gb223) (o:=.cells #[.int .i64 0,.int .i64 0,.slice none 0 0] 27 (0,0)) (by (with_reducible repeat first|refine blk_drewN ?_ _|refine blk_alloc ?_ _);exact BK223.out) hb);have n2_:=Aside0.mk (IsS171.below (by repeat (first|(with_reducible first|exact HI227.out|apply IsS171.alloc|apply IsS171.drewN|apply IsS171.set_1|apply IsS171.set_2|refine IsS171.far ?_ NB227_223.out _)|exact HI227.out)) hb);have n3_:=Aside0.mk (below_step (by repeat (first|(with_reducible first|exact HB.out|apply below_alloc|apply pw_below_drewN|apply below_drew1|refine below_set ?_ (IsS171.ge HI227.out)|refine below_set ?_ GE223.out)|exact HB.out)) hb);have n4_:=Aside0.mk (hbox);have n5_:=Aside0.mk ((by rw [hg];exact (below_size (by repeat (first|(with_reducible first|exact HB.out|apply below_alloc|apply pw_below_drewN|apply below_drew1|refine below_set ?_ (IsS171.ge HI227.out)|refine below_set ?_ GE223.out)|exact HB.out))) : w.heap.size ≤ gb238));have n6_:=Aside0.mk ((by rw [hg];exact (below_size (by repeat (first|(with_reducible first|exact HB.out|apply below_alloc|apply pw_below_drewN|apply below_drew1|refine below_set ?_ (IsS171.ge HI227.out)|refine below_set ?_ GE223.out)|exact HB.out))) : w.heap.size ≤ gb238));have n7_:=Aside0.mk ((by rw [hg];exact Nat.ne_of_lt (blk_lt (g:=gb223) (o:=.cells #[.int .i64 0,.int .i64 0,.slice none 0 0] 27 (0,0)) (by (with_reducible repeat first|refine blk_drewN ?_ _|refine blk_alloc ?_ _);exact BK223.out)) : gb223 ≠ gb238));have n8_:=Aside0.mk ((by rw [hg];exact Nat.ne_of_gt (blk_lt (g:=gb223) (o:=.cells #[.int .i64 0,.int .i64 0,.slice none 0 0] 27 (0,0)) (by (with_reducible repeat first|refine blk_drewN ?_ _|refine blk_alloc ?_ _);exact BK223.out)) : gb238 ≠ gb223));have n9_:=Aside0.mk ((by rw [hg];exact Nat.ne_of_lt (IsS171.lt (show IsS171 w _ g227 t224 t236 t237 from by repeat (first|(with_reducible first|exact HI227.out|apply IsS171.alloc|apply IsS171.drewN|apply IsS171.set_1|apply IsS171.set_2|refine IsS171.far ?_ NB227_223.out _)|exact HI227.out))) : g227 ≠ gb238));have n10_:=Aside0.mk ((by rw [hg];exact Nat.ne_of_gt (IsS171.lt (show IsS171 w _ g227 t224 t236 t237 from by repeat (first|(with_reducible first|exact HI227.out|apply IsS171.alloc|apply IsS171.drewN|apply IsS171.set_1|apply IsS171.set_2|refine IsS171.far ?_ NB227_223.out _)|exact HI227.out))) : gb238 ≠ g227));clear HO235 BK223 HI227 HB;have HO235:=n0_;have BK223:=n1_;have HI227:=n2_;have HB:=n3_;have BK238:=n4_;have GW238:=n5_;have GE238:=n6_;have NB223_238:=n7_;have NB238_223:=n8_;have NB227_238:=n9_;have NB238_227:=n10_;clear n0_ n1_ n2_ n3_ n4_ n5_ n6_ n7_ n8_ n9_ n10_ hb hbox hg;have hnb29:=NB238_223.out;have hnc29:=NB223_238.out;have hnb30:=NB238_227.out;have hnc30:=NB227_238.out;have hcz31_0 : w28.cell? ⟨gb238,0,none⟩ = some (.int .i64 0):=(blk_cell BK238.out 0).trans rfl;have hcz31_1 : w28.cell? ⟨gb238,1,none⟩ = some (.int .i64 0):=(blk_cell BK238.out 1).trans rfl;have hcz31_2 : w28.cell? ⟨gb238,2,none⟩ = some (.slice none 0 0):=(blk_cell BK238.out 2).trans rfl;have hfz31_0:=blk_frozen BK238.out 0;have hfz31_1:=blk_frozen BK238.out 1;have hfz31_2:=blk_frozen BK238.out 2;obtain ⟨Ao32,co32,eo32⟩:=Kd.R_slice HO235.out;subst eo32)|((with_reducible refine gate_callee (f:=77) rfl ?_);refine goesL_ (some 16) rfl rfl Try.func77 (by kernel_rfl) rfl #[.pointer (some ⟨g227,0,none⟩),.int .i64 8] rfl (by (try simp only [List.map_toArray,List.map_cons,List.map_nil]);first|done|rfl) ?_;(with_reducible refine (spec_l01Src_one.calls g227 t224 t236 t237 8 false t240 t241 w _ ?side1 ?side2 A5.out).mono ?_);(case side1=>repeat (first|(with_reducible first|exact HI227.out|apply IsS171.alloc|apply IsS171.drewN|apply IsS171.set_1|apply IsS171.set_2|refine IsS171.far ?_ NB227_223.out _|refine IsS171.far ?_ NB227_238.out _)|exact HI227.out));(case side2=>repeat (first|(with_reducible first|exact HB.out|apply below_alloc|apply pw_below_drewN|apply below_drew1|refine below_set ?_ (IsS171.ge HI227.out)|refine below_set ?_ GE223.out|refine below_set ?_ GE238.out)|exact HB.out));rintro e w33 ⟨rfl,hi,hb,hk⟩;refine ⟨_,rfl,?_⟩;have n0_:=Aside0.mk (KeepBut.blk hk (g':=gb223) (o:=.cells #[.int .i64 0,.int .i64 0,.slice none 0 0] 27 (0,0)) (by (with_reducible repeat first|refine blk_drewN ?_ _|refine blk_alloc ?_ _);refine blk_far ?_ NB223_238.out _;(with_reducible repeat first|refine blk_drewN ?_ _|refine blk_alloc ?_ _);refine blk_far ?_ NB223_238.out _;(with_reducible repeat first|refine blk_drewN ?_ _|refine blk_alloc ?_ _);refine blk_far ?_ NB223_238.out _;(with_reducible repeat first|refine blk_drewN ?_ _|refine blk_alloc ?_ _);exact BK223.out) NB223_227.out (by simp));have n1_:=Aside0.mk (Kd.R_mono (Kd.R_keep (IsS171.apart (show IsS171 w _ g227 t224 t236 t237 from by repeat (first|(with_reducible first|exact HI227.out|apply IsS171.alloc|apply IsS171.drewN|apply IsS171.set_1|apply IsS171.set_2|refine IsS171.far ?_ NB227_223.out _|refine IsS171.far ?_ NB227_238.out _)|exact HI227.out)) (by (with_reducible repeat (first|apply Kd.R_alloc|apply Kd.R_drewN));exact (Kd.R_mono (Kd.R_far (p:=⟨gb238,2,none⟩) (Kd.R_far (p:=⟨gb238,1,none⟩) (Kd.R_far (p:=⟨gb238,0,none⟩) (Kd.R_types HO235.out BK238.out (by decide)) (fun _ hk=>hk.2) (.int .i64 t231)) (fun _ hk=>hk.2) (.int .i64 t232)) (fun _ hk=>hk.2) (.slice Ao32 t233.length co32)) (fun _ h_=>h_.1))) (by decide)) hk (fun _ h=>h.2)) (fun _ h=>h.1));have n2_:=Aside0.mk (KeepBut.blk hk (g':=gb238) (o:=.cells #[.int .i64 t231,.int .i64 t232,.slice Ao32 t233.length co32] 27 (0,0)) (by (with_reducible repeat first|refine blk_drewN ?_ _|refine blk_alloc ?_ _);refine blk_put (cs:=#[.int .i64 t231,.int .i64 t232,.slice none 0 0]) ?_ 2 _ rfl;(with_reducible repeat first|refine blk_drewN ?_ _|refine blk_alloc ?_ _);refine blk_put (cs:=#[.int .i64 t231,.int .i64 0,.slice none 0 0]) ?_ 1 _ rfl;(with_reducible repeat first|refine blk_drewN ?_ _|refine blk_alloc ?_ _);refine blk_put (cs:=#[.int .i64 0,.int .i64 0,.slice none 0 0]) ?_ 0 _ rfl;(with_reducible repeat first|refine blk_drewN ?_ _|refine blk_alloc ?_ _);exact BK238.out) NB238_227.out (by simp));have n3_:=Aside0.mk (hb);have n4_:=Aside0.mk (hi);clear BK223 HO235 BK238 HB HI227;have BK223:=n0_;have HO235:=n1_;have BK238:=n2_;have HB:=n3_;have HI227:=n4_;clear n0_ n1_ n2_ n3_ n4_;(try clear hb);(try clear hb2);(try clear hk);(try clear hi);have hcz34_0 : w33.cell? ⟨gb238,0,none⟩ = some (.int .i64 t231):=(blk_cell BK238.out 0).trans rfl;have hcz34_1 : w33.cell? ⟨gb238,1,none⟩ = some (.int .i64 t232):=(blk_cell BK238.out 1).trans rfl;have hcz34_2 : w33.cell? ⟨gb238,2,none⟩ = some (.slice Ao32 t233.length co32):=(blk_cell BK238.out 2).trans rfl;have hfz34_0:=blk_frozen BK238.out 0;have hfz34_1:=blk_frozen BK238.out 1;have hfz34_2:=blk_frozen BK238.out 2;have hnb35:=NB223_227.out;have hnc35:=NB227_223.out;have hcz36_0 : w33.cell? ⟨gb223,0,none⟩ = some (.int .i64 0):=(blk_cell BK223.out 0).trans rfl;have hcz36_1 : w33.cell? ⟨gb223,1,none⟩ = some (.int .i64 0):=(blk_cell BK223.out 1).trans rfl;have hcz36_2 : w33.cell? ⟨gb223,2,none⟩ = some (.slice none 0 0):=(blk_cell BK223.out 2).trans rfl;have hfz36_0:=blk_frozen BK223.out 0;have hfz36_1:=blk_frozen BK223.out 1;have hfz36_2:=blk_frozen BK223.out 2))
  refine bodyPost_ret (results_cell_row rfl _ _ gb223 27 #[.int .i64 t231,.int .i64 t232,.slice Ao32 t233.length co32] (0,0) _ rfl (by (with_reducible repeat first|refine blk_drewN ?_ _|refine blk_alloc ?_ _);refine blk_put (cs:=#[.int .i64 t231,.int .i64 t232,.slice none 0 0]) ?_ 2 _ rfl;(with_reducible repeat first|refine blk_drewN ?_ _|refine blk_alloc ?_ _);refine blk_put (cs:=#[.int .i64 t231,.int .i64 0,.slice none 0 0]) ?_ 1 _ rfl;(with_reducible repeat first|refine blk_drewN ?_ _|refine blk_alloc ?_ _);refine blk_put (cs:=#[.int .i64 0,.int .i64 0,.slice none 0 0]) ?_ 0 _ rfl;(with_reducible repeat first|refine blk_drewN ?_ _|refine blk_alloc ?_ _);exact BK223.out) Try.underlying27 rfl (by kernel_rfl)) rfl ?_
  exact ⟨_,by first|rfl|(simp [errW_none,errW_some] <;> rfl)|(simp [*,errW_none,errW_some] <;> rfl),by (with_reducible repeat (first|apply Kd.R_alloc|apply Kd.R_drewN));exact Kd.R_mono (Kd.R_far (p:=⟨gb223,2,none⟩) (Kd.R_far (p:=⟨gb223,1,none⟩) (Kd.R_far (p:=⟨gb223,0,none⟩) (Kd.R_types HO235.out BK223.out (by decide)) (fun _ hk=>hk.2) (.int .i64 t231)) (fun _ hk=>hk.2) (.int .i64 t232)) (fun _ hk=>hk.2) (.slice Ao32 t233.length co32)) (fun _ hk=>trivial),by repeat (first|(with_reducible first|exact HB.out|apply below_alloc|apply pw_below_drewN|apply below_drew1|refine below_set ?_ (IsS171.ge HI227.out)|refine below_set ?_ GE223.out|refine below_set ?_ GE238.out)|exact HB.out)⟩

/-! ### laws_lwInts: function 42 -/
def laws_lwInts.l0 : Nat → List Int → List Int → Int → Option (Bool)
 | 0,_,_,_=>none
 | k + 1,x0,x1,x5=>if x5 < (x0.length : Int) then (if 0 ≤ x5 then (if x5 < (x1.length : Int) then (if (rd x0 x5) = (rd x1 x5) then (laws_lwInts.l0 k x0 x1 (wrap64 (x5 + 1))) else (some false)) else (none)) else (none)) else (some true)
def laws_lwInts.f (k : Nat) (l0 : List Int) (l1 : List Int) : Option (Bool):=if (l0.length : Int) = (l1.length : Int) then (laws_lwInts.l0 k l0 l1 0) else (some false)
theorem laws_lwInts.mono_l : ∀ k,(∀ y0 y1 y2,LeO (laws_lwInts.l0 k y0 y1 y2) (laws_lwInts.l0 (k + 1) y0 y1 y2))
 | 0=>fun _ _ _ r h=>by simp [laws_lwInts.l0] at h
 | k + 1=>by
  have ih0:=laws_lwInts.mono_l k
  ·intro y0 y1 y2
   unfold laws_lwInts.l0
   repeat' first
   | (with_reducible exact ih0 _ _ _)
   | (with_reducible exact LeO.refl _)
   | (with_reducible exact LeO.none _)
   | (with_reducible refine LeO.ite ?_ ?_)
   | (with_reducible refine LeO.bind ?_ (fun _=>?_))
   | exact ih0 _ _ _
   | exact LeO.none _
   | refine LeO.ite ?_ ?_
   | refine LeO.bind ?_ (fun _=>?_)
theorem laws_lwInts.mono : ∀ a0 a1 k,LeO (laws_lwInts.f k a0 a1) (laws_lwInts.f (k + 1) a0 a1):=by
 intro a0 a1 k
 have ih0:=laws_lwInts.mono_l k
 unfold laws_lwInts.f
 repeat' first
   | (with_reducible exact ih0 _ _ _)
   | (with_reducible exact LeO.refl _)
   | (with_reducible exact LeO.none _)
   | (with_reducible refine LeO.ite ?_ ?_)
   | (with_reducible refine LeO.bind ?_ (fun _=>?_))
   | exact ih0 _ _ _
   | exact LeO.none _
   | refine LeO.ite ?_ ?_
   | refine LeO.bind ?_ (fun _=>?_)
set_option maxHeartbeats 8000000 in
set_option maxRecDepth 100000 in
theorem laws_lwInts.calls (k : Nat) (A0 : Option Addr) (c0 : Nat) (l0 : List Int) (A1 : Option Addr) (c1 : Nat) (l1 : List Int) (r : Bool) (w : World) (hr0 : Kd.C (Kd.int .i64) w A0 l0.length l0) (hc0 : l0.length ≤ c0) (hr1 : Kd.C (Kd.int .i64) w A1 l1.length l1) (hc1 : l1.length ≤ c1) (h : laws_lwInts.f k l0 l1 = some r) :
  Calls Try.prog 42 #[.slice A0 l0.length c0,.slice A1 l1.length c1] w fun e w'=>e = .returned (.bool r) ∧ Drawn0 w w':=by
 have HR0:=Aside0.mk hr0
 have HC0:=Aside0.mk hc0
 clear hr0 hc0
 have HR1:=Aside0.mk hr1
 have HC1:=Aside0.mk hc1
 clear hr1 hc1
 have H : (if (l0.length : Int) = (l1.length : Int) then (laws_lwInts.l0 k l0 l1 0) else (some false)) = some r:=h
 clear h
 by_cases c3 : (l0.length : Int) = (l1.length : Int)
 ·rw [if_pos c3] at H
  have c3b0 : ((l0.length : Int) == (l1.length : Int)) = true:=beq_iff_eq.mpr c3
  have c3b1 : ((l0.length : Int) != (l1.length : Int)) = false:=bne_eq_false_iff_eq.mpr c3
  have c3b2 : (l0.length == l1.length) = true:=by first|simpa using c3|(simp at c3 ⊢;omega)
  clear c3
  have H':=Aside0.mk H
  clear H
  go_enter Try.func42,Try.ntmps42
  go_wp2
  repeat (go_quiet (fail);try go_wp2)
  go_loopg [5] k (fun kq v5 w'=>∃ (x5_1 : Int),v5 = .int .i64 x5_1 ∧ Aside0 (laws_lwInts.l0 kq l0 l1 x5_1 = some r) ∧ Aside0 (kq ≤ k) ∧ Drawn0 w w')
  case atStart=>exact ⟨(0),(by first|rfl|(simp;done)|(simp [*];done)),H',⟨Nat.le_refl _⟩,by repeat (first|exact Drawn0.refl _|apply Drawn0.step)⟩
  case round=>
   clear H'
   (try clear c1);(try clear p2);(try clear c3);(try clear c3b0);(try clear c3b1);(try clear c3b2)
   obtain ⟨x5_1,rfl,HA,HK1,⟨m1,rfl⟩⟩:=hrel
   cases gk with
   | zero=>exact absurd HA.out (by simp [laws_lwInts.l0])
   | succ k1=>
    have H:=HA.out
    clear HA
    simp only [laws_lwInts.l0] at H
    by_cases c4 : x5_1 < (l0.length : Int)
    ·rw [if_pos c4] at H
     have c4b0 : decide (x5_1 < (l0.length : Int)) = true:=decide_eq_true c4
     clear c4
     by_cases c5 : 0 ≤ x5_1
     ·rw [if_pos c5] at H
      have c5b0 : decide (0 ≤ x5_1) = true:=decide_eq_true c5
      clear c5
      by_cases c6 : x5_1 < (l1.length : Int)
      ·rw [if_pos c6] at H
       have c6b0 : decide (x5_1 < (l1.length : Int)) = true:=decide_eq_true c6
       clear c6
       by_cases c7 : (rd l0 x5_1) = (rd l1 x5_1)
       ·rw [if_pos c7] at H
        have c7b0 : ((rd l0 x5_1) == (rd l1 x5_1)) = true:=beq_iff_eq.mpr c7
        have c7b1 : ((rd l0 x5_1) != (rd l1 x5_1)) = false:=bne_eq_false_iff_eq.mpr c7
        clear c7
        have H':=Aside0.mk H
        clear H
        have p249 : 0 ≤ (x5_1 : Int):=of_decide_eq_true (by first|(with_reducible assumption)|assumption)
        have q249 : x5_1 < (l0.length : Int):=of_decide_eq_true (by first|(with_reducible assumption)|assumption)
        obtain ⟨ad249,e249,hx249_0⟩:=Kd.at_int HR0.out x5_1 p249 q249
        cases e249
        replace p249:=eq_true p249
        replace q249:=eq_true q249
        have p250 : 0 ≤ (x5_1 : Int):=of_decide_eq_true (by first|(with_reducible assumption)|assumption)
        have q250 : x5_1 < (l1.length : Int):=of_decide_eq_true (by first|(with_reducible assumption)|assumption)
        obtain ⟨ad250,e250,hx250_0⟩:=Kd.at_int HR1.out x5_1 p250 q250
        cases e250
        replace p250:=eq_true p250
        replace q250:=eq_true q250
        go_wp2
        repeat (go_quiet (fail);try go_wp2)
        go_roundg k1
        case measure=>have:=HK1.out;omega
        case rel=>exact ⟨(wrap64 (x5_1 + 1)),(by first|rfl|(simp;done)|(simp [*];done)),H',⟨by have:=HK1.out;omega⟩,by repeat (first|exact Drawn0.refl _|apply Drawn0.step)⟩
       ·rw [if_neg c7] at H
        have c7b0 : ((rd l0 x5_1) == (rd l1 x5_1)) = false:=beq_eq_false_iff_ne.mpr c7
        have c7b1 : ((rd l0 x5_1) != (rd l1 x5_1)) = true:=bne_iff_ne.mpr c7
        obtain rfl:=Option.some.inj H
        have p249 : 0 ≤ (x5_1 : Int):=of_decide_eq_true (by first|(with_reducible assumption)|assumption)
        have q249 : x5_1 < (l0.length : Int):=of_decide_eq_true (by first|(with_reducible assumption)|assumption)
        obtain ⟨ad249,e249,hx249_0⟩:=Kd.at_int HR0.out x5_1 p249 q249
        cases e249
        replace p249:=eq_true p249
        replace q249:=eq_true q249
        have p250 : 0 ≤ (x5_1 : Int):=of_decide_eq_true (by first|(with_reducible assumption)|assumption)
        have q250 : x5_1 < (l1.length : Int):=of_decide_eq_true (by first|(with_reducible assumption)|assumption)
        obtain ⟨ad250,e250,hx250_0⟩:=Kd.at_int HR1.out x5_1 p250 q250
        cases e250
        replace p250:=eq_true p250
        replace q250:=eq_true q250
        go_wp2
        repeat (go_quiet (fail);try go_wp2)
        go_ret
        exact ⟨by first|rfl|(simp;done)|(simp [*];done),by repeat (first|exact Drawn0.refl _|apply Drawn0.step)⟩
      ·rw [if_neg c6] at H
       exact absurd H (by simp)
     ·rw [if_neg c5] at H
      exact absurd H (by simp)
    ·rw [if_neg c4] at H
     have c4b0 : decide (x5_1 < (l0.length : Int)) = false:=decide_eq_false c4
     clear c4
     obtain rfl:=Option.some.inj H
     go_wp2
     repeat (go_quiet (fail);try go_wp2)
     go_ret
     exact ⟨by first|rfl|(simp;done)|(simp [*];done),by repeat (first|exact Drawn0.refl _|apply Drawn0.step)⟩
 ·rw [if_neg c3] at H
  have c3b0 : ((l0.length : Int) == (l1.length : Int)) = false:=beq_eq_false_iff_ne.mpr c3
  have c3b1 : ((l0.length : Int) != (l1.length : Int)) = true:=bne_iff_ne.mpr c3
  have c3b2 : (l0.length == l1.length) = false:=by first|simpa using c3|(simp at c3 ⊢;omega)
  obtain rfl:=Option.some.inj H
  go_enter Try.func42,Try.ntmps42
  go_wp2
  repeat (go_quiet (fail);try go_wp2)
  go_ret
  exact ⟨by first|rfl|(simp;done)|(simp [*];done),by repeat (first|exact Drawn0.refl _|apply Drawn0.step)⟩

/-! ### laws_lwMatrix: function 25 -/
def laws_lwMatrix.f (k : Nat) (a0_0 : Int) (a0_1 : Int) (l0_2 : List Int) (a1_0 : Int) (a1_1 : Int) (l1_2 : List Int) : Option (Bool):=if a0_0 = a1_0 then (if a0_1 = a1_1 then ((laws_lwInts.f k l0_2 l1_2).bind fun t253=>(some t253)) else (some false)) else (some false)
theorem laws_lwMatrix.mono : ∀ a0 a1 a2 a3 a4 a5 k,LeO (laws_lwMatrix.f k a0 a1 a2 a3 a4 a5) (laws_lwMatrix.f (k + 1) a0 a1 a2 a3 a4 a5):=by
 intro a0 a1 a2 a3 a4 a5 k
 unfold laws_lwMatrix.f
 repeat' first
   | (with_reducible exact laws_lwInts.mono _ _ _)
   | (with_reducible exact LeO.refl _)
   | (with_reducible exact LeO.none _)
   | (with_reducible refine LeO.ite ?_ ?_)
   | (with_reducible refine LeO.bind ?_ (fun _=>?_))
   | exact laws_lwInts.mono _ _ _
   | exact LeO.none _
   | refine LeO.ite ?_ ?_
   | refine LeO.bind ?_ (fun _=>?_)
set_option maxHeartbeats 8000000 in
set_option maxRecDepth 100000 in
theorem laws_lwMatrix.calls (k : Nat) (a0_0 : Int) (a0_1 : Int) (A0_2 : Option Addr) (c0_2 : Nat) (l0_2 : List Int) (a1_0 : Int) (a1_1 : Int) (A1_2 : Option Addr) (c1_2 : Nat) (l1_2 : List Int) (r : Bool) (w : World) (hr0_2 : Kd.C (Kd.int .i64) w A0_2 l0_2.length l0_2) (hc0_2 : l0_2.length ≤ c0_2) (hr1_2 : Kd.C (Kd.int .i64) w A1_2 l1_2.length l1_2) (hc1_2 : l1_2.length ≤ c1_2) (h : laws_lwMatrix.f k a0_0 a0_1 l0_2 a1_0 a1_1 l1_2 = some r) :
  Calls Try.prog 25 #[.agg #[.int .i64 a0_0,.int .i64 a0_1,.slice A0_2 l0_2.length c0_2],.agg #[.int .i64 a1_0,.int .i64 a1_1,.slice A1_2 l1_2.length c1_2]] w fun e w'=>e = .returned (.bool r) ∧ Below w.heap.size w w':=by
 have hu27:=Try.underlying27
 have HR0_2:=Aside0.mk hr0_2
 have HC0_2:=Aside0.mk hc0_2
 clear hr0_2 hc0_2
 have HR1_2:=Aside0.mk hr1_2
 have HC1_2:=Aside0.mk hc1_2
 clear hr1_2 hc1_2
 have HB:=Aside0.mk (Below.refl w.heap.size w)
 have H : (if a0_0 = a1_0 then (if a0_1 = a1_1 then ((laws_lwInts.f k l0_2 l1_2).bind fun t253=>(some t253)) else (some false)) else (some false)) = some r:=h
 clear h
 by_cases c3 : a0_0 = a1_0
 ·rw [if_pos c3] at H
  have c3b0 : (a0_0 == a1_0) = true:=beq_iff_eq.mpr c3
  have c3b1 : (a0_0 != a1_0) = false:=bne_eq_false_iff_eq.mpr c3
  clear c3
  by_cases c4 : a0_1 = a1_1
  ·rw [if_pos c4] at H
   have c4b0 : (a0_1 == a1_1) = true:=beq_iff_eq.mpr c4
   have c4b1 : (a0_1 != a1_1) = false:=bne_eq_false_iff_eq.mpr c4
   clear c4
   replace H:=Option.bind_eq_some_iff.mp H
   obtain ⟨t253,A50,H⟩:=H
   replace H : (some t253) = some r:=H
   have A5:=Aside0.mk A50
   clear A50
   obtain rfl:=Option.some.inj H
   go_enter Try.func25,Try.ntmps25
   go_wp2_with (first|((with_reducible refine gate_dst (N:=2) rfl ?_);refine box_event ?hg (N:=2) ?hd (cs:=#[.int .i64 a0_0,.int .i64 a0_1,.slice A0_2 l0_2.length c0_2]) (t:=27) ?hr ?_;(case hd=>rfl);(case hg=>rfl);(case hr=>first|(go_simp;done)|(go_simp;rfl));intro gb251 hg w6 hbox hb;have n0_:=Aside0.mk (below_step (by repeat (first|(with_reducible first|exact HB.out|apply below_alloc|apply pw_below_drewN|apply below_drew1)|exact HB.out)) hb);have n1_:=Aside0.mk (hbox);have n2_:=Aside0.mk ((by rw [hg];exact (below_size (by repeat (first|(with_reducible first|exact HB.out|apply below_alloc|apply pw_below_drewN|apply below_drew1)|exact HB.out))) : w.heap.size ≤ gb251));have n3_:=Aside0.mk ((by rw [hg];exact (below_size (by repeat (first|(with_reducible first|exact HB.out|apply below_alloc|apply pw_below_drewN|apply below_drew1)|exact HB.out))) : w.heap.size ≤ gb251));clear HB;have HB:=n0_;have BK251:=n1_;have GW251:=n2_;have GE251:=n3_;clear n0_ n1_ n2_ n3_ hb hbox hg)|((with_reducible refine gate_dst (N:=3) rfl ?_);refine box_event ?hg (N:=3) ?hd (cs:=#[.int .i64 a1_0,.int .i64 a1_1,.slice A1_2 l1_2.length c1_2]) (t:=27) ?hr ?_;(case hd=>rfl);(case hg=>rfl);(case hr=>first|(go_simp;done)|(go_simp;rfl));intro gb252 hg w7 hbox hb;have n0_:=Aside0.mk (blk_below (g:=gb251) (o:=.cells #[.int .i64 a0_0,.int .i64 a0_1,.slice A0_2 l0_2.length c0_2] 27 (0,0)) (by (with_reducible repeat first|refine blk_drewN ?_ _|refine blk_alloc ?_ _);exact BK251.out) hb);have n1_:=Aside0.mk (below_step (by repeat (first|(with_reducible first|exact HB.out|apply below_alloc|apply pw_below_drewN|apply below_drew1|refine below_set ?_ GE251.out)|exact HB.out)) hb);have n2_:=Aside0.mk (hbox);have n3_:=Aside0.mk ((by rw [hg];exact (below_size (by repeat (first|(with_reducible first|exact HB.out|apply below_alloc|apply pw_below_drewN|apply below_drew1|refine below_set ?_ GE251.out)|exact HB.out))) : w.heap.size ≤ gb252));have n4_:=Aside0.mk ((by rw [hg];exact (below_size (by repeat (first|(with_reducible first|exact HB.out|apply below_alloc|apply pw_below_drewN|apply below_drew1|refine below_set ?_ GE251.out)|exact HB.out))) : w.heap.size ≤ gb252));have n5_:=Aside0.mk ((by rw [hg];exact Nat.ne_of_lt (blk_lt (g:=gb251) (o:=.cells #[.int .i64 a0_0,.int .i64 a0_1,.slice A0_2 l0_2.length c0_2] 27 (0,0)) (by (with_reducible repeat first|refine blk_drewN ?_ _|refine blk_alloc ?_ _);exact BK251.out)) : gb251 ≠ gb252));have n6_:=Aside0.mk ((by rw [hg];exact Nat.ne_of_gt (blk_lt (g:=gb251) (o:=.cells #[.int .i64 a0_0,.int .i64 a0_1,.slice A0_2 l0_2.length c0_2] 27 (0,0)) (by (with_reducible repeat first|refine blk_drewN ?_ _|refine blk_alloc ?_ _);exact BK251.out)) : gb252 ≠ gb251));clear BK251 HB;have BK251:=n0_;have HB:=n1_;have BK252:=n2_;have GW252:=n3_;have GE252:=n4_;have NB251_252:=n5_;have NB252_251:=n6_;clear n0_ n1_ n2_ n3_ n4_ n5_ n6_ hb hbox hg;have hnb8:=NB251_252.out;have hnc8:=NB252_251.out;have hcz9_0 : w7.cell? ⟨gb251,0,none⟩ = some (.int .i64 a0_0):=(blk_cell BK251.out 0).trans rfl;have hcz9_1 : w7.cell? ⟨gb251,1,none⟩ = some (.int .i64 a0_1):=(blk_cell BK251.out 1).trans rfl;have hcz9_2 : w7.cell? ⟨gb251,2,none⟩ = some (.slice A0_2 l0_2.length c0_2):=(blk_cell BK251.out 2).trans rfl;have hfz9_0:=blk_frozen BK251.out 0;have hfz9_1:=blk_frozen BK251.out 1;have hfz9_2:=blk_frozen BK251.out 2;have hcz10_0 : w7.cell? ⟨gb252,0,none⟩ = some (.int .i64 a1_0):=(blk_cell BK252.out 0).trans rfl;have hcz10_1 : w7.cell? ⟨gb252,1,none⟩ = some (.int .i64 a1_1):=(blk_cell BK252.out 1).trans rfl;have hcz10_2 : w7.cell? ⟨gb252,2,none⟩ = some (.slice A1_2 l1_2.length c1_2):=(blk_cell BK252.out 2).trans rfl;have hfz10_0:=blk_frozen BK252.out 0;have hfz10_1:=blk_frozen BK252.out 1;have hfz10_2:=blk_frozen BK252.out 2)|(go_at_call 42;(with_reducible refine (laws_lwInts.calls k _ _ l0_2 _ _ l1_2 t253 _ ?side1 ?side2 ?side3 ?side4 A5.out).mono ?_);(case side1=>repeat (first|exact (Kd.C_below HR0_2.out HB.out)|(with_reducible refine Kd.C_alloc ?_ _)|(with_reducible refine Kd.C_drewN ?_ _)|(with_reducible refine Kd.C_drew ?_)));(case side2=>exact HC0_2.out);(case side3=>repeat (first|exact (Kd.C_below HR1_2.out HB.out)|(with_reducible refine Kd.C_alloc ?_ _)|(with_reducible refine Kd.C_drewN ?_ _)|(with_reducible refine Kd.C_drew ?_)));(case side4=>exact HC1_2.out);rintro e w' ⟨rfl,⟨nd,rfl⟩⟩))
   go_ret
   exact ⟨by first|rfl|(simp [errW_none,errW_some] <;> rfl)|(simp [*,errW_none,errW_some] <;> rfl),by repeat (first|(with_reducible first|exact HB.out|apply below_alloc|apply pw_below_drewN|apply below_drew1|refine below_set ?_ GE251.out|refine below_set ?_ GE252.out)|exact HB.out)⟩
  ·rw [if_neg c4] at H
   have c4b0 : (a0_1 == a1_1) = false:=beq_eq_false_iff_ne.mpr c4
   have c4b1 : (a0_1 != a1_1) = true:=bne_iff_ne.mpr c4
   obtain rfl:=Option.some.inj H
   go_enter Try.func25,Try.ntmps25
   go_wp2_with (first|((with_reducible refine gate_dst (N:=2) rfl ?_);refine box_event ?hg (N:=2) ?hd (cs:=#[.int .i64 a0_0,.int .i64 a0_1,.slice A0_2 l0_2.length c0_2]) (t:=27) ?hr ?_;(case hd=>rfl);(case hg=>rfl);(case hr=>first|(go_simp;done)|(go_simp;rfl));intro gb251 hg w11 hbox hb;have n0_:=Aside0.mk (below_step (by repeat (first|(with_reducible first|exact HB.out|apply below_alloc|apply pw_below_drewN|apply below_drew1)|exact HB.out)) hb);have n1_:=Aside0.mk (hbox);have n2_:=Aside0.mk ((by rw [hg];exact (below_size (by repeat (first|(with_reducible first|exact HB.out|apply below_alloc|apply pw_below_drewN|apply below_drew1)|exact HB.out))) : w.heap.size ≤ gb251));have n3_:=Aside0.mk ((by rw [hg];exact (below_size (by repeat (first|(with_reducible first|exact HB.out|apply below_alloc|apply pw_below_drewN|apply below_drew1)|exact HB.out))) : w.heap.size ≤ gb251));clear HB;have HB:=n0_;have BK251:=n1_;have GW251:=n2_;have GE251:=n3_;clear n0_ n1_ n2_ n3_ hb hbox hg)|((with_reducible refine gate_dst (N:=3) rfl ?_);refine box_event ?hg (N:=3) ?hd (cs:=#[.int .i64 a1_0,.int .i64 a1_1,.slice A1_2 l1_2.length c1_2]) (t:=27) ?hr ?_;(case hd=>rfl);(case hg=>rfl);(case hr=>first|(go_simp;done)|(go_simp;rfl));intro gb252 hg w12 hbox hb;have n0_:=Aside0.mk (blk_below (g:=gb251) (o:=.cells #[.int .i64 a0_0,.int .i64 a0_1,.slice A0_2 l0_2.length c0_2] 27 (0,0)) (by (with_reducible repeat first|refine blk_drewN ?_ _|refine blk_alloc ?_ _);exact BK251.out) hb);have n1_:=Aside0.mk (below_step (by repeat (first|(with_reducible first|exact HB.out|apply below_alloc|apply pw_below_drewN|apply below_drew1|refine below_set ?_ GE251.out)|exact HB.out)) hb);have n2_:=Aside0.mk (hbox);have n3_:=Aside0.mk ((by rw [hg];exact (below_size (by repeat (first|(with_reducible first|exact HB.out|apply below_alloc|apply pw_below_drewN|apply below_drew1|refine below_set ?_ GE251.out)|exact HB.out))) : w.heap.size ≤ gb252));have n4_:=Aside0.mk ((by rw [hg];exact (below_size (by repeat (first|(with_reducible first|exact HB.out|apply below_alloc|apply pw_below_drewN|apply below_drew1|refine below_set ?_ GE251.out)|exact HB.out))) : w.heap.size ≤ gb252));have n5_:=Aside0.mk ((by rw [hg];exact Nat.ne_of_lt (blk_lt (g:=gb251) (o:=.cells #[.int .i64 a0_0,.int .i64 a0_1,.slice A0_2 l0_2.length c0_2] 27 (0,0)) (by (with_reducible repeat first|refine blk_drewN ?_ _|refine blk_alloc ?_ _);exact BK251.out)) : gb251 ≠ gb252));have n6_:=Aside0.mk ((by rw [hg];exact Nat.ne_of_gt (blk_lt (g:=gb251) (o:=.cells #[.int .i64 a0_0,.int .i64 a0_1,.slice A0_2 l0_2.length c0_2] 27 (0,0)) (by (with_reducible repeat first|refine blk_drewN ?_ _|refine blk_alloc ?_ _);exact BK251.out)) : gb252 ≠ gb251));clear BK251 HB;have BK251:=n0_;have HB:=n1_;have BK252:=n2_;have GW252:=n3_;have GE252:=n4_;have NB251_252:=n5_;have NB252_251:=n6_;clear n0_ n1_ n2_ n3_ n4_ n5_ n6_ hb hbox hg;have hnb13:=NB251_252.out;have hnc13:=NB252_251.out;have hcz14_0 : w12.cell? ⟨gb251,0,none⟩ = some (.int .i64 a0_0):=(blk_cell BK251.out 0).trans rfl;have hcz14_1 : w12.cell? ⟨gb251,1,none⟩ = some (.int .i64 a0_1):=(blk_cell BK251.out 1).trans rfl;have hcz14_2 : w12.cell? ⟨gb251,2,none⟩ = some (.slice A0_2 l0_2.length c0_2):=(blk_cell BK251.out 2).trans rfl;have hfz14_0:=blk_frozen BK251.out 0;have hfz14_1:=blk_frozen BK251.out 1;have hfz14_2:=blk_frozen BK251.out 2;have hcz15_0 : w12.cell? ⟨gb252,0,none⟩ = some (.int .i64 a1_0):=(blk_cell BK252.out 0).trans rfl;have hcz15_1 : w12.cell? ⟨gb252,1,none⟩ = some (.int .i64 a1_1):=(blk_cell BK252.out 1).trans rfl;have hcz15_2 : w12.cell? ⟨gb252,2,none⟩ = some (.slice A1_2 l1_2.length c1_2):=(blk_cell BK252.out 2).trans rfl;have hfz15_0:=blk_frozen BK252.out 0;have hfz15_1:=blk_frozen BK252.out 1;have hfz15_2:=blk_frozen BK252.out 2))
   go_ret
   exact ⟨by first|rfl|(simp [errW_none,errW_some] <;> rfl)|(simp [*,errW_none,errW_some] <;> rfl),by repeat (first|(with_reducible first|exact HB.out|apply below_alloc|apply pw_below_drewN|apply below_drew1|refine below_set ?_ GE251.out|refine below_set ?_ GE252.out)|exact HB.out)⟩
 ·rw [if_neg c3] at H
  have c3b0 : (a0_0 == a1_0) = false:=beq_eq_false_iff_ne.mpr c3
  have c3b1 : (a0_0 != a1_0) = true:=bne_iff_ne.mpr c3
  obtain rfl:=Option.some.inj H
  go_enter Try.func25,Try.ntmps25
  go_wp2_with (first|((with_reducible refine gate_dst (N:=2) rfl ?_);refine box_event ?hg (N:=2) ?hd (cs:=#[.int .i64 a0_0,.int .i64 a0_1,.slice A0_2 l0_2.length c0_2]) (t:=27) ?hr ?_;(case hd=>rfl);(case hg=>rfl);(case hr=>first|(go_simp;done)|(go_simp;rfl));intro gb251 hg w16 hbox hb;have n0_:=Aside0.mk (below_step (by repeat (first|(with_reducible first|exact HB.out|apply below_alloc|apply pw_below_drewN|apply below_drew1)|exact HB.out)) hb);have n1_:=Aside0.mk (hbox);have n2_:=Aside0.mk ((by rw [hg];exact (below_size (by repeat (first|(with_reducible first|exact HB.out|apply below_alloc|apply pw_below_drewN|apply below_drew1)|exact HB.out))) : w.heap.size ≤ gb251));have n3_:=Aside0.mk ((by rw [hg];exact (below_size (by repeat (first|(with_reducible first|exact HB.out|apply below_alloc|apply pw_below_drewN|apply below_drew1)|exact HB.out))) : w.heap.size ≤ gb251));clear HB;have HB:=n0_;have BK251:=n1_;have GW251:=n2_;have GE251:=n3_;clear n0_ n1_ n2_ n3_ hb hbox hg)|((with_reducible refine gate_dst (N:=3) rfl ?_);refine box_event ?hg (N:=3) ?hd (cs:=#[.int .i64 a1_0,.int .i64 a1_1,.slice A1_2 l1_2.length c1_2]) (t:=27) ?hr ?_;(case hd=>rfl);(case hg=>rfl);(case hr=>first|(go_simp;done)|(go_simp;rfl));intro gb252 hg w17 hbox hb;have n0_:=Aside0.mk (blk_below (g:=gb251) (o:=.cells #[.int .i64 a0_0,.int .i64 a0_1,.slice A0_2 l0_2.length c0_2] 27 (0,0)) (by (with_reducible repeat first|refine blk_drewN ?_ _|refine blk_alloc ?_ _);exact BK251.out) hb);have n1_:=Aside0.mk (below_step (by repeat (first|(with_reducible first|exact HB.out|apply below_alloc|apply pw_below_drewN|apply below_drew1|refine below_set ?_ GE251.out)|exact HB.out)) hb);have n2_:=Aside0.mk (hbox);have n3_:=Aside0.mk ((by rw [hg];exact (below_size (by repeat (first|(with_reducible first|exact HB.out|apply below_alloc|apply pw_below_drewN|apply below_drew1|refine below_set ?_ GE251.out)|exact HB.out))) : w.heap.size ≤ gb252));have n4_:=Aside0.mk ((by rw [hg];exact (below_size (by repeat (first|(with_reducible first|exact HB.out|apply below_alloc|apply pw_below_drewN|apply below_drew1|refine below_set ?_ GE251.out)|exact HB.out))) : w.heap.size ≤ gb252));have n5_:=Aside0.mk ((by rw [hg];exact Nat.ne_of_lt (blk_lt (g:=gb251) (o:=.cells #[.int .i64 a0_0,.int .i64 a0_1,.slice A0_2 l0_2.length c0_2] 27 (0,0)) (by (with_reducible repeat first|refine blk_drewN ?_ _|refine blk_alloc ?_ _);exact BK251.out)) : gb251 ≠ gb252));have n6_:=Aside0.mk ((by rw [hg];exact Nat.ne_of_gt (blk_lt (g:=gb251) (o:=.cells #[.int .i64 a0_0,.int .i64 a0_1,.slice A0_2 l0_2.length c0_2] 27 (0,0)) (by (with_reducible repeat first|refine blk_drewN ?_ _|refine blk_alloc ?_ _);exact BK251.out)) : gb252 ≠ gb251));clear BK251 HB;have BK251:=n0_;have HB:=n1_;have BK252:=n2_;have GW252:=n3_;have GE252:=n4_;have NB251_252:=n5_;have NB252_251:=n6_;clear n0_ n1_ n2_ n3_ n4_ n5_ n6_ hb hbox hg;have hnb18:=NB251_252.out;have hnc18:=NB252_251.out;have hcz19_0 : w17.cell? ⟨gb251,0,none⟩ = some (.int .i64 a0_0):=(blk_cell BK251.out 0).trans rfl;have hcz19_1 : w17.cell? ⟨gb251,1,none⟩ = some (.int .i64 a0_1):=(blk_cell BK251.out 1).trans rfl;have hcz19_2 : w17.cell? ⟨gb251,2,none⟩ = some (.slice A0_2 l0_2.length c0_2):=(blk_cell BK251.out 2).trans rfl;have hfz19_0:=blk_frozen BK251.out 0;have hfz19_1:=blk_frozen BK251.out 1;have hfz19_2:=blk_frozen BK251.out 2;have hcz20_0 : w17.cell? ⟨gb252,0,none⟩ = some (.int .i64 a1_0):=(blk_cell BK252.out 0).trans rfl;have hcz20_1 : w17.cell? ⟨gb252,1,none⟩ = some (.int .i64 a1_1):=(blk_cell BK252.out 1).trans rfl;have hcz20_2 : w17.cell? ⟨gb252,2,none⟩ = some (.slice A1_2 l1_2.length c1_2):=(blk_cell BK252.out 2).trans rfl;have hfz20_0:=blk_frozen BK252.out 0;have hfz20_1:=blk_frozen BK252.out 1;have hfz20_2:=blk_frozen BK252.out 2))
  go_ret
  exact ⟨by first|rfl|(simp [errW_none,errW_some] <;> rfl)|(simp [*,errW_none,errW_some] <;> rfl),by repeat (first|(with_reducible first|exact HB.out|apply below_alloc|apply pw_below_drewN|apply below_drew1|refine below_set ?_ GE251.out|refine below_set ?_ GE252.out)|exact HB.out)⟩

end Go.Proofs.Ytffhbpepppodeaa.PFnInverse
