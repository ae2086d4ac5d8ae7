import Derived.Test.YtffhbpepppodeaaPFnInversex0
import Derived.Test.YtffhbpepppodeaaPFnInversex3
import Derived.Test.YtffhbpepppodeaaPFnInversex4
namespace Go.Proofs.Ytffhbpepppodeaa.PFnInverse
open Go.RowKit Go.Proofs.YtffhbpepppodeaaW.PrintWords Go.Proofs.YtffhbpepppodeaaW.PrintLast Go.Proofs.YtffhbpepppodeaaW.PrintMore
attribute [local go_sem] max2_int min2_int max_two min_two max_three min_three max_four min_four   -- for this text's walks alone
set_option linter.unusedVariables false
set_option linter.unusedSimpArgs false

/-! ### spec_l03Rank: function 59 -/
mutual
def spec_l03Rank.l0 : Nat → Int → Int → Int → Int → List Int → Option (Int)
 | 0,_,_,_,_,_=>none
 | k + 1,x4,x5,x140000,x140001,x140002=>if x5 < x140001 then (spec_l03Rank.j1 k x4 x5 (decide (x4 < x140000)) x140000 x140001 x140002) else (spec_l03Rank.j1 k x4 x5 false x140000 x140001 x140002)
def spec_l03Rank.j1 : Nat → Int → Int → Bool → Int → Int → List Int → Option (Int)
 | 0,_,_,_,_,_,_=>none
 | k + 1,x4,x5,x26,x140000,x140001,x140002=>if x26 = true then (spec_l03Rank.l1 k x4 x5 (-1) x4 x140000 x140001 x140002) else (some x4)
def spec_l03Rank.l1 : Nat → Int → Int → Int → Int → Int → Int → List Int → Option (Int)
 | 0,_,_,_,_,_,_,_=>none
 | k + 1,x4,x5,x6,x7,x140000,x140001,x140002=>if x7 < x140000 then ((spec_l03At.f x140000 x140001 x140002 x7 x5).bind fun t140=>(if t140 = 0 then (spec_l03Rank.l1 k x4 x5 x6 (wrap64 (x7 + 1)) x140000 x140001 x140002) else (spec_l03Rank.l1 k x4 x5 x7 (wrap64 (x7 + 1)) x140000 x140001 x140002))) else (if x6 < 0 then (spec_l03Rank.l0 k x4 (wrap64 (x5 + 1)) x140000 x140001 x140002) else ((spec_l03Swap.f k x140000 x140001 x140002 x4 x6).bind fun t141=>((spec_l03Clear.f k x140000 x140001 t141 x4 x5).bind fun t142=>(spec_l03Rank.l0 k (wrap64 (x4 + 1)) (wrap64 (x5 + 1)) x140000 x140001 t142))))
end
def spec_l03Rank.f (k : Nat) (a0_0 : Int) (a0_1 : Int) (l0_2 : List Int) : Option (Int):=(some (([] : List Int) : List Int)).bind fun y133=>(if y133.length + l0_2.length < 17592186044416 then (spec_l03Rank.l0 k 0 0 a0_0 a0_1 (y133 ++ l0_2)) else (none))
theorem spec_l03Rank.mono_l : ∀ k,(∀ y0 y1 y2 y3 y4,LeO (spec_l03Rank.l0 k y0 y1 y2 y3 y4) (spec_l03Rank.l0 (k + 1) y0 y1 y2 y3 y4)) ∧ (∀ y0 y1 y2 y3 y4 y5,LeO (spec_l03Rank.j1 k y0 y1 y2 y3 y4 y5) (spec_l03Rank.j1 (k + 1) y0 y1 y2 y3 y4 y5)) ∧ (∀ y0 y1 y2 y3 y4 y5 y6,LeO (spec_l03Rank.l1 k y0 y1 y2 y3 y4 y5 y6) (spec_l03Rank.l1 (k + 1) y0 y1 y2 y3 y4 y5 y6))
 | 0=>⟨fun _ _ _ _ _ r h=>by simp [spec_l03Rank.l0] at h,fun _ _ _ _ _ _ r h=>by simp [spec_l03Rank.j1] at h,fun _ _ _ _ _ _ _ r h=>by simp [spec_l03Rank.l1] at h⟩
 | k + 1=>by
  obtain ⟨ih0,ih1,ih2⟩:=spec_l03Rank.mono_l k
  refine ⟨?_,?_,?_⟩
  ·intro y0 y1 y2 y3 y4
   unfold spec_l03Rank.l0
   repeat' first
   | (with_reducible exact ih0 _ _ _ _ _)
   | (with_reducible exact ih1 _ _ _ _ _ _)
   | (with_reducible exact ih2 _ _ _ _ _ _ _)
   | (with_reducible exact spec_l03Clear.mono _ _ _ _ _ _)
   | (with_reducible exact spec_l03Swap.mono _ _ _ _ _ _)
   | (with_reducible exact LeO.refl _)
   | (with_reducible exact LeO.none _)
   | (with_reducible refine LeO.ite ?_ ?_)
   | (with_reducible refine LeO.bind ?_ (fun _=>?_))
   | exact ih0 _ _ _ _ _
   | exact ih1 _ _ _ _ _ _
   | exact ih2 _ _ _ _ _ _ _
   | exact spec_l03Clear.mono _ _ _ _ _ _
   | exact spec_l03Swap.mono _ _ _ _ _ _
   | exact LeO.none _
   | refine LeO.ite ?_ ?_
   | refine LeO.bind ?_ (fun _=>?_)
  ·intro y0 y1 y2 y3 y4 y5
   unfold spec_l03Rank.j1
   repeat' first
   | (with_reducible exact ih0 _ _ _ _ _)
   | (with_reducible exact ih1 _ _ _ _ _ _)
   | (with_reducible exact ih2 _ _ _ _ _ _ _)
   | (with_reducible exact spec_l03Clear.mono _ _ _ _ _ _)
   | (with_reducible exact spec_l03Swap.mono _ _ _ _ _ _)
   | (with_reducible exact LeO.refl _)
   | (with_reducible exact LeO.none _)
   | (with_reducible refine LeO.ite ?_ ?_)
   | (with_reducible refine LeO.bind ?_ (fun _=>?_))
   | exact ih0 _ _ _ _ _
   | exact ih1 _ _ _ _ _ _
   | exact ih2 _ _ _ _ _ _ _
   | exact spec_l03Clear.mono _ _ _ _ _ _
   | exact spec_l03Swap.mono _ _ _ _ _ _
   | exact LeO.none _
   | refine LeO.ite ?_ ?_
   | refine LeO.bind ?_ (fun _=>?_)
  ·intro y0 y1 y2 y3 y4 y5 y6
   unfold spec_l03Rank.l1
   repeat' first
   | (with_reducible exact ih0 _ _ _ _ _)
   | (with_reducible exact ih1 _ _ _ _ _ _)
   | (with_reducible exact ih2 _ _ _ _ _ _ _)
   | (with_reducible exact spec_l03Clear.mono _ _ _ _ _ _)
   | (with_reducible exact spec_l03Swap.mono _ _ _ _ _ _)
   | (with_reducible exact LeO.refl _)
   | (with_reducible exact LeO.none _)
   | (with_reducible refine LeO.ite ?_ ?_)
   | (with_reducible refine LeO.bind ?_ (fun _=>?_))
   | exact ih0 _ _ _ _ _
   | exact ih1 _ _ _ _ _ _
   | exact ih2 _ _ _ _ _ _ _
   | exact spec_l03Clear.mono _ _ _ _ _ _
   | exact spec_l03Swap.mono _ _ _ _ _ _
   | exact LeO.none _
   | refine LeO.ite ?_ ?_
   | refine LeO.bind ?_ (fun _=>?_)
theorem spec_l03Rank.mono : ∀ a0 a1 a2 k,LeO (spec_l03Rank.f k a0 a1 a2) (spec_l03Rank.f (k + 1) a0 a1 a2):=by
 intro a0 a1 a2 k
 obtain ⟨ih0,ih1,ih2⟩:=spec_l03Rank.mono_l k
 unfold spec_l03Rank.f
 repeat' first
   | (with_reducible exact ih0 _ _ _ _ _)
   | (with_reducible exact ih1 _ _ _ _ _ _)
   | (with_reducible exact ih2 _ _ _ _ _ _ _)
   | (with_reducible exact spec_l03Clear.mono _ _ _ _ _ _)
   | (with_reducible exact spec_l03Swap.mono _ _ _ _ _ _)
   | (with_reducible exact LeO.refl _)
   | (with_reducible exact LeO.none _)
   | (with_reducible refine LeO.ite ?_ ?_)
   | (with_reducible refine LeO.bind ?_ (fun _=>?_))
   | exact ih0 _ _ _ _ _
   | exact ih1 _ _ _ _ _ _
   | exact ih2 _ _ _ _ _ _ _
   | exact spec_l03Clear.mono _ _ _ _ _ _
   | exact spec_l03Swap.mono _ _ _ _ _ _
   | exact LeO.none _
   | refine LeO.ite ?_ ?_
   | refine LeO.bind ?_ (fun _=>?_)
def spec_l03Rank.T1 : Bool × List (List Nat × List Nat):=(true,[([],[]),([0],[0]),([],[]),([2],[2]),([],[]),([],[]),([5],[5]),([4,6],[4,6]),([1,3,7],[1,3,7]),([],[]),([9,8,7,0,1,2,3,4,5,6,7,8,9],[8,9])])
def spec_l03Rank.B1 : List Nat:=[0,1,0,4,0,0,32,112,255,0,1023]
theorem spec_l03Rank.tab1 : rtab .any (opsOf Try.f59 1) = spec_l03Rank.T1:=by kernel_rfl
theorem spec_l03Rank.bits1 : waitsOk spec_l03Rank.T1.2 spec_l03Rank.B1 = true:=by kernel_rfl
set_option maxHeartbeats 8000000 in
set_option maxRecDepth 100000 in
theorem spec_l03Rank.calls (k : Nat) (a0_0 : Int) (a0_1 : Int) (A0_2 : Option Addr) (c0_2 : Nat) (l0_2 : List Int) (r : Int) (w : World) (hr0_2 : Kd.C (Kd.int .i64) w A0_2 l0_2.length l0_2) (hc0_2 : l0_2.length ≤ c0_2) (h : spec_l03Rank.f k a0_0 a0_1 l0_2 = some r) :
  Calls Try.prog 59 #[.agg #[.int .i64 a0_0,.int .i64 a0_1,.slice A0_2 l0_2.length c0_2]] w fun e w'=>e = .returned (.int .i64 r) ∧ Below w.heap.size w w':=by
 have hu27:=Try.underlying27
 have HR0_2:=Aside0.mk hr0_2
 have HC0_2:=Aside0.mk hc0_2
 clear hr0_2 hc0_2
 have HB:=Aside0.mk (Below.refl w.heap.size w)
 have H : ((some (([] : List Int) : List Int)).bind fun y133=>(if y133.length + l0_2.length < 17592186044416 then (spec_l03Rank.l0 k 0 0 a0_0 a0_1 (y133 ++ l0_2)) else (none))) = some r:=h
 clear h
 obtain ⟨y133,hy133⟩ : ∃ y_ : List Int,y_ = (([] : List Int)):=⟨_,rfl⟩
 replace H : (if y133.length + l0_2.length < 17592186044416 then (spec_l03Rank.l0 k 0 0 a0_0 a0_1 (y133 ++ l0_2)) else (none)) = some r:=by first|(rw [hy133];with_reducible exact H)|(have H2_:=(Option.bind_some _ _).symm.trans H;rw [hy133];with_reducible exact H2_)|(have H2_:=(Option.bind_some _ _).symm.trans H;with_reducible exact H2_)|with_reducible exact H|(rw [hy133];exact H)|exact H
 have Ny133:=Aside0.mk hy133
 clear hy133
 by_cases c2 : y133.length + l0_2.length < 17592186044416
 ·rw [if_pos c2] at H
  have LMc2:=Aside0.mk c2
  clear c2
  obtain ⟨y136,hy136⟩ : ∃ y_ : List Int,y_ = (y133 ++ l0_2):=⟨_,rfl⟩
  replace H : (spec_l03Rank.l0 k 0 0 a0_0 a0_1 y136) = some r:=by first|(rw [hy136];with_reducible exact H)|(have H2_:=(Option.bind_some _ _).symm.trans H;rw [hy136];with_reducible exact H2_)|(have H2_:=(Option.bind_some _ _).symm.trans H;with_reducible exact H2_)|with_reducible exact H|(rw [hy136];exact H)|exact H
  have Ny136:=Aside0.mk hy136
  clear hy136
  have H':=Aside0.mk H
  clear H
  go_enter Try.func59,Try.ntmps59
  try go_wp2_with (first|((with_reducible refine gate_dst (N:=1) rfl ?_);refine box_event ?hg (N:=1) ?hd (cs:=#[.int .i64 a0_0,.int .i64 a0_1,.slice A0_2 l0_2.length c0_2]) (t:=27) ?hr ?_;(case hd=>rfl);(case hg=>rfl);(case hr=>first|(go_simp;done)|(go_simp;rfl));intro gb132 hg w3 hbox hb;have n0_:=Aside0.mk (below_step (by repeat (first|(with_reducible first|exact HB.out|apply below_alloc|apply pw_below_drewN|apply below_drew1)|exact HB.out)) hb);have n1_:=Aside0.mk (hbox);have n2_:=Aside0.mk ((by rw [hg];exact (below_size (by repeat (first|(with_reducible first|exact HB.out|apply below_alloc|apply pw_below_drewN|apply below_drew1)|exact HB.out))) : w.heap.size ≤ gb132));have n3_:=Aside0.mk ((by rw [hg];exact (below_size (by repeat (first|(with_reducible first|exact HB.out|apply below_alloc|apply pw_below_drewN|apply below_drew1)|exact HB.out))) : w.heap.size ≤ gb132));clear HB;have HB:=n0_;have BK132:=n1_;have GW132:=n2_;have GE132:=n3_;clear n0_ n1_ n2_ n3_ hb hbox hg))
  have n0_:=Aside0.mk (blk_drew BK132.out)
  have n1_:=Aside0.mk (below_drew1 HB.out)
  clear BK132 HB
  have BK132:=n0_
  have HB:=n1_
  clear n0_ n1_
  refine start_ (n:=11) (S:=fun w'=>w'.cell? ⟨gb132,0,none⟩ = some (.int .i64 a0_0) ∧ w'.cell? ⟨gb132,1,none⟩ = some (.int .i64 a0_1) ∧ w'.cell? ⟨gb132,2,none⟩ = some (.slice A0_2 l0_2.length c0_2)) (ds:=[]) #[false,false,false,false,false,false,false,false,false,false,false] (by kernel_rfl) rfl rfl ⟨(blk_cell BK132.out 0).trans rfl,(blk_cell BK132.out 1).trans rfl,(blk_cell BK132.out 2).trans rfl⟩ (fun hHeld=>?_);refine with_tabW spec_l03Rank.tab1 spec_l03Rank.bits1 (fun HT_ HW_=>?_)
  generalize w3.drew = w4 at BK132 HB hHeld ⊢
  refine pure_ (i:=0) (N:=some 8) (v:=?_) (a':=?_) #[true,false,false,false,false,false,false,false,false,false,false] rfl rfl (any_of HT_.out (by kernel_rfl)) (fun _ _ _ h=>h) (Or.inl ⟨by rfl,?_⟩) ?_ ?_
  rotate_left
  ·intro w'
   go_simp
   with_reducible rfl
  rotate_left
  ·simp only [Act.put,List.setIfInBounds_toArray,List.set_cons_zero,List.set_cons_succ,i64_w,i32_w]
   rfl
  refine pure_ (i:=2) (N:=some 10) (v:=?_) (a':=?_) #[true,false,true,false,false,false,false,false,false,false,false] rfl rfl (any_of HT_.out (by kernel_rfl)) (fun _ _ _ h=>h) (Or.inl ⟨by rfl,?_⟩) ?_ ?_
  rotate_left
  ·intro w'
   go_simp
   with_reducible rfl
  rotate_left
  ·simp only [Act.put,List.setIfInBounds_toArray,List.set_cons_zero,List.set_cons_succ,i64_w,i32_w]
   rfl
  refine pure_ (i:=5) (N:=some 13) (v:=?_) (a':=?_) #[true,false,true,false,false,true,false,false,false,false,false] rfl rfl (any_of HT_.out (by kernel_rfl)) (fun _ _ _ h=>h) (Or.inl ⟨by rfl,?_⟩) ?_ ?_
  rotate_left
  ·intro w'
   go_simp
   with_reducible rfl
  rotate_left
  ·simp only [Act.put,List.setIfInBounds_toArray,List.set_cons_zero,List.set_cons_succ,i64_w,i32_w]
   rfl
  refine take_ (i:=1) (N:=some 9) (v:=?_) (a':=?_) #[true,true,true,false,false,true,false,false,false,false,false] rfl rfl (take_ofW HT_.out HW_.out (by kernel_rfl)) (fun _ _ _ h=>h) (Or.inl ⟨by rfl,?_⟩) hHeld ?_ ?_
  rotate_left
  ·rintro w' ⟨s0,s1,s2⟩
   go_simp
   with_reducible rfl
  rotate_left
  ·simp only [Act.put,List.setIfInBounds_toArray,List.set_cons_zero,List.set_cons_succ,i64_w,i32_w]
   rfl
  refine take_ (i:=3) (N:=some 11) (v:=?_) (a':=?_) #[true,true,true,true,false,true,false,false,false,false,false] rfl rfl (take_ofW HT_.out HW_.out (by kernel_rfl)) (fun _ _ _ h=>h) (Or.inl ⟨by rfl,?_⟩) hHeld ?_ ?_
  rotate_left
  ·rintro w' ⟨s0,s1,s2⟩
   go_simp
   with_reducible rfl
  rotate_left
  ·simp only [Act.put,List.setIfInBounds_toArray,List.set_cons_zero,List.set_cons_succ,i64_w,i32_w]
   rfl
  refine take_ (i:=6) (N:=some 14) (v:=?_) (a':=?_) #[true,true,true,true,false,true,true,false,false,false,false] rfl rfl (take_ofW HT_.out HW_.out (by kernel_rfl)) (fun _ _ _ h=>h) (Or.inl ⟨by rfl,?_⟩) hHeld ?_ ?_
  rotate_left
  ·rintro w' ⟨s0,s1,s2⟩
   go_simp
   with_reducible rfl
  rotate_left
  ·simp only [Act.put,List.setIfInBounds_toArray,List.set_cons_zero,List.set_cons_succ,i64_w,i32_w]
   rfl
  refine join_ (σ:=Value × Value × Nat) 1 #[true,true,true,true,true,true,true,true,true,true,false] (fun s_=>[(12,s_.1),(15,s_.2.1),(3,.pointer (some ⟨s_.2.2,0,none⟩)),(16,.agg #[.int .i64 a0_0,.int .i64 a0_1,s_.2.1])]) (fun s_ w'=>(w'.cell? ⟨gb132,0,none⟩ = some (.int .i64 a0_0) ∧ w'.cell? ⟨gb132,1,none⟩ = some (.int .i64 a0_1) ∧ w'.cell? ⟨gb132,2,none⟩ = some (.slice A0_2 l0_2.length c0_2)) ∧ (Kd.R (Kd.int .i64) 2 w' w.heap.size (fun _=>True) s_.2.1 y136) ∧ (w'.heap[gb132]? = some (.cells #[.int .i64 a0_0,.int .i64 a0_1,.slice A0_2 l0_2.length c0_2] 27 (0,0))) ∧ (w'.heap[s_.2.2]? = some (.cells #[.int .i64 0,.int .i64 0,.slice none 0 0] 27 (0,0))) ∧ (w.heap.size ≤ s_.2.2) ∧ (w.heap.size ≤ s_.2.2) ∧ (gb132 ≠ s_.2.2) ∧ (s_.2.2 ≠ gb132) ∧ (Below w.heap.size w w')) ?_ ?_
  rotate_left
  ·intro hCont
   refine two_ (i:=4) (j:=9) (Ni:=some 12) (Nj:=some 3) #[true,true,true,true,true,true,true,false,false,false,false] #[true,true,true,true,false,true,true,false,false,true,false] rfl rfl rfl rfl (two_of HT_.out (by kernel_rfl)) (by decide) (by decide) (fun K hK=>?_) (fun K hK=>?_)
   ·skip
    refine Kd.R_lit_step (Kd.int .i64) _ 2 ?hg (N:=12) ?hd (xs:=([] : List Int)) (inner:=[]) (ok:=fun _=>True) (okp:=fun _=>True) ?hr ?hp (fun _ hk=>hk) trivial (Below.refl _ _) (Nat.le_refl _) (by simp) ?_;(case hd=>rfl);(case hg=>rfl);(case hr=>first|(go_simp;done)|(go_simp;rfl));(case hp=>exact (Reps.none _ _))
    intro v134 w5 ho6 hb hg_ hnew_
    clear hg_ hnew_
    (first|rw [← Ny133.out] at ho6|(simp only [Int.reduceToNat] at ho6;rw [← Ny133.out] at ho6))
    have n0_:=Aside0.mk (Kd.R_lower ho6 (below_size (by repeat (first|(with_reducible first|exact HB.out|apply below_alloc|apply pw_below_drewN|apply below_drew1|refine below_set ?_ GE132.out)|exact HB.out))))
    have n1_:=Aside0.mk (blk_below (g:=gb132) (o:=.cells #[.int .i64 a0_0,.int .i64 a0_1,.slice A0_2 l0_2.length c0_2] 27 (0,0)) (by (with_reducible repeat first|refine blk_drewN ?_ _|refine blk_alloc ?_ _);exact BK132.out) hb)
    have n2_:=Aside0.mk (below_step (by repeat (first|(with_reducible first|exact HB.out|apply below_alloc|apply pw_below_drewN|apply below_drew1|refine below_set ?_ GE132.out)|exact HB.out)) hb)
    clear BK132 HB
    have HO135:=n0_
    have BK132:=n1_
    have HB:=n2_
    clear n0_ n1_ n2_ hb ho6
    refine hK.out _ _ ⟨(blk_cell BK132.out 0).trans rfl,(blk_cell BK132.out 1).trans rfl,(blk_cell BK132.out 2).trans rfl⟩ (fun hHeld=>?_)
    clear hK K
    refine norm_ (a':=?_) ?_ ?_
    rotate_left
    ·show Act.put _ (some 12) _ = _
     simp only [Act.put,List.setIfInBounds_toArray,List.set_cons_zero,List.set_cons_succ,i64_w,i32_w]
     rfl
    refine two_ (i:=7) (j:=9) (Ni:=some 15) (Nj:=some 3) #[true,true,true,true,true,true,true,true,false,false,false] #[true,true,true,true,true,true,true,false,false,true,false] rfl rfl rfl rfl (two_of HT_.out (by kernel_rfl)) (by decide) (by decide) (fun K hK=>?_) (fun K hK=>?_)
    ·skip
     refine Kd.R_append_rows_step (Kd.int .i64) (w0:=w) w.heap.size (by rfl) (.tmp 12) (.tmp 14) 22 2 (.int .i64 0) 8 rfl Try.underlying22 info2 rfl (by decide) (by omega) v134 y133 l0_2 _ _ _ (fun _=>True) (fun _=>False) rfl rfl ?aO ?aR (fun _ _ h=>h) (fun _ h=>h.elim) ?aF ?aB ?aS ?aL ?_
     (case aR=>repeat (first|exact (Kd.C_below HR0_2.out HB.out)|(with_reducible refine Kd.C_alloc ?_ _)|(with_reducible refine Kd.C_drewN ?_ _)|(with_reducible refine Kd.C_drew ?_)))
     (case aB=>exact (by repeat (first|(with_reducible first|exact HB.out|apply below_alloc|apply pw_below_drewN|apply below_drew1|refine below_set ?_ GE132.out)|exact HB.out)))
     (case aF=>exact (fun _ _=>trivial))
     (case aO=>exact (by (with_reducible repeat (first|apply Kd.R_alloc|apply Kd.R_drewN));exact HO135.out))
     (case aS=>exact (below_size (by repeat (first|(with_reducible first|exact HB.out|apply below_alloc|apply pw_below_drewN|apply below_drew1|refine below_set ?_ GE132.out)|exact HB.out))))
     (case aL=>have:=LMc2.out;omega)
     intro v137 w7 ho hb hg hat
     rw [← Ny136.out] at ho
     have n0_:=Aside0.mk (blk_grown (g:=gb132) (o:=.cells #[.int .i64 a0_0,.int .i64 a0_1,.slice A0_2 l0_2.length c0_2] 27 (0,0)) (by (with_reducible repeat first|refine blk_drewN ?_ _|refine blk_alloc ?_ _);exact BK132.out) hg (Kd.R_ne HO135.out BK132.out (by decide)))
     have n1_:=Aside0.mk (hb)
     have n2_:=Aside0.mk (ho)
     clear BK132 HB HO135
     have BK132:=n0_
     have HB:=n1_
     have HO138:=n2_
     clear n0_ n1_ n2_ ho hb hg hat
     obtain ⟨Ao8,co8,eo8⟩:=Kd.R_slice HO138.out
     (first|subst eo8|(injection eo8 with f1_ f2_ f3_;have f4_:=f1_.symm;have f5_:=f3_.symm;clear f1_ f2_ f3_;subst f4_;subst f5_))
     refine hK.out _ _ ⟨(blk_cell BK132.out 0).trans rfl,(blk_cell BK132.out 1).trans rfl,(blk_cell BK132.out 2).trans rfl⟩ (fun hHeld=>?_)
     clear hK K
     refine norm_ (a':=?_) ?_ ?_
     rotate_left
     ·show Act.put _ (some 15) _ = _
      simp only [Act.put,List.setIfInBounds_toArray,List.set_cons_zero,List.set_cons_succ,i64_w,i32_w]
      rfl
     refine pure_ (i:=8) (N:=some 16) (v:=?_) (a':=?_) #[true,true,true,true,true,true,true,true,true,false,false] rfl rfl (any_of HT_.out (by kernel_rfl)) (fun _ _ _ h=>h) (Or.inl ⟨by rfl,?_⟩) ?_ ?_
     rotate_left
     ·intro w'
      go_simp
      with_reducible rfl
     rotate_left
     ·simp only [Act.put,List.setIfInBounds_toArray,List.set_cons_zero,List.set_cons_succ,i64_w,i32_w]
      rfl
     refine one_ (i:=9) (N:=some 3) #[true,true,true,true,true,true,true,true,true,true,false] rfl rfl (one_of HT_.out (by kernel_rfl)) (by decide) (fun K hK=>?_)
     refine box_step ?hg (N:=3) ?hd (cs:=#[.int .i64 0,.int .i64 0,.slice none 0 0]) (t:=27) ?hr ?_;(case hd=>rfl);(case hg=>rfl);(case hr=>first|(go_simp;done)|(go_simp;rfl))
     intro gb139 hg w9 hbox hb
     have n0_:=Aside0.mk (Kd.R_below (by (with_reducible repeat (first|apply Kd.R_alloc|apply Kd.R_drewN));exact HO138.out) hb)
     have n1_:=Aside0.mk (blk_below (g:=gb132) (o:=.cells #[.int .i64 a0_0,.int .i64 a0_1,.slice A0_2 l0_2.length c0_2] 27 (0,0)) (by (with_reducible repeat first|refine blk_drewN ?_ _|refine blk_alloc ?_ _);exact BK132.out) hb)
     have n2_:=Aside0.mk (below_step (by repeat (first|(with_reducible first|exact HB.out|apply below_alloc|apply pw_below_drewN|apply below_drew1|refine below_set ?_ GE132.out)|exact HB.out)) hb)
     have n3_:=Aside0.mk (hbox)
     have n4_:=Aside0.mk ((by rw [hg];exact (below_size (by repeat (first|(with_reducible first|exact HB.out|apply below_alloc|apply pw_below_drewN|apply below_drew1|refine below_set ?_ GE132.out)|exact HB.out))) : w.heap.size ≤ gb139))
     have n5_:=Aside0.mk ((by rw [hg];exact (below_size (by repeat (first|(with_reducible first|exact HB.out|apply below_alloc|apply pw_below_drewN|apply below_drew1|refine below_set ?_ GE132.out)|exact HB.out))) : w.heap.size ≤ gb139))
     have n6_:=Aside0.mk ((by rw [hg];exact Nat.ne_of_lt (blk_lt (g:=gb132) (o:=.cells #[.int .i64 a0_0,.int .i64 a0_1,.slice A0_2 l0_2.length c0_2] 27 (0,0)) (by (with_reducible repeat first|refine blk_drewN ?_ _|refine blk_alloc ?_ _);exact BK132.out)) : gb132 ≠ gb139))
     have n7_:=Aside0.mk ((by rw [hg];exact Nat.ne_of_gt (blk_lt (g:=gb132) (o:=.cells #[.int .i64 a0_0,.int .i64 a0_1,.slice A0_2 l0_2.length c0_2] 27 (0,0)) (by (with_reducible repeat first|refine blk_drewN ?_ _|refine blk_alloc ?_ _);exact BK132.out)) : gb139 ≠ gb132))
     clear HO138 BK132 HB
     have HO138:=n0_
     have BK132:=n1_
     have HB:=n2_
     have BK139:=n3_
     have GW139:=n4_
     have GE139:=n5_
     have NB132_139:=n6_
     have NB139_132:=n7_
     clear n0_ n1_ n2_ n3_ n4_ n5_ n6_ n7_ hb hbox hg
     refine hK.out _ _ ⟨(blk_cell BK132.out 0).trans rfl,(blk_cell BK132.out 1).trans rfl,(blk_cell BK132.out 2).trans rfl⟩ (fun hHeld=>?_)
     clear hK K
     refine norm_ (a':=?_) ?_ ?_
     rotate_left
     ·show Act.put _ (some 3) _ = _
      simp only [Act.put,List.setIfInBounds_toArray,List.set_cons_zero,List.set_cons_succ,i64_w,i32_w]
      rfl
     exact norm_ (by simp only [putAll,Act.put,List.setIfInBounds_toArray,List.set_cons_zero,List.set_cons_succ]) (hCont (v134,.slice Ao8 y136.length co8,gb139) _ ⟨hHeld,(by (with_reducible repeat (first|apply Kd.R_alloc|apply Kd.R_drewN));exact HO138.out),(by (with_reducible repeat first|refine blk_drewN ?_ _|refine blk_alloc ?_ _);exact BK132.out),(by (with_reducible repeat first|refine blk_drewN ?_ _|refine blk_alloc ?_ _);exact BK139.out),GW139.out,GE139.out,NB132_139.out,NB139_132.out,(by repeat (first|(with_reducible first|exact HB.out|apply below_alloc|apply pw_below_drewN|apply below_drew1|refine below_set ?_ GE132.out|refine below_set ?_ GE139.out)|exact HB.out))⟩)
    ·skip
     refine box_step ?hg (N:=3) ?hd (cs:=#[.int .i64 0,.int .i64 0,.slice none 0 0]) (t:=27) ?hr ?_;(case hd=>rfl);(case hg=>rfl);(case hr=>first|(go_simp;done)|(go_simp;rfl))
     intro gb139 hg w7 hbox hb
     have n0_:=Aside0.mk (Kd.R_below (by (with_reducible repeat (first|apply Kd.R_alloc|apply Kd.R_drewN));exact HO135.out) hb)
     have n1_:=Aside0.mk (blk_below (g:=gb132) (o:=.cells #[.int .i64 a0_0,.int .i64 a0_1,.slice A0_2 l0_2.length c0_2] 27 (0,0)) (by (with_reducible repeat first|refine blk_drewN ?_ _|refine blk_alloc ?_ _);exact BK132.out) hb)
     have n2_:=Aside0.mk (below_step (by repeat (first|(with_reducible first|exact HB.out|apply below_alloc|apply pw_below_drewN|apply below_drew1|refine below_set ?_ GE132.out)|exact HB.out)) hb)
     have n3_:=Aside0.mk (hbox)
     have n4_:=Aside0.mk ((by rw [hg];exact (below_size (by repeat (first|(with_reducible first|exact HB.out|apply below_alloc|apply pw_below_drewN|apply below_drew1|refine below_set ?_ GE132.out)|exact HB.out))) : w.heap.size ≤ gb139))
     have n5_:=Aside0.mk ((by rw [hg];exact (below_size (by repeat (first|(with_reducible first|exact HB.out|apply below_alloc|apply pw_below_drewN|apply below_drew1|refine below_set ?_ GE132.out)|exact HB.out))) : w.heap.size ≤ gb139))
     have n6_:=Aside0.mk ((by rw [hg];exact Nat.ne_of_lt (blk_lt (g:=gb132) (o:=.cells #[.int .i64 a0_0,.int .i64 a0_1,.slice A0_2 l0_2.length c0_2] 27 (0,0)) (by (with_reducible repeat first|refine blk_drewN ?_ _|refine blk_alloc ?_ _);exact BK132.out)) : gb132 ≠ gb139))
     have n7_:=Aside0.mk ((by rw [hg];exact Nat.ne_of_gt (blk_lt (g:=gb132) (o:=.cells #[.int .i64 a0_0,.int .i64 a0_1,.slice A0_2 l0_2.length c0_2] 27 (0,0)) (by (with_reducible repeat first|refine blk_drewN ?_ _|refine blk_alloc ?_ _);exact BK132.out)) : gb139 ≠ gb132))
     clear HO135 BK132 HB
     have HO135:=n0_
     have BK132:=n1_
     have HB:=n2_
     have BK139:=n3_
     have GW139:=n4_
     have GE139:=n5_
     have NB132_139:=n6_
     have NB139_132:=n7_
     clear n0_ n1_ n2_ n3_ n4_ n5_ n6_ n7_ hb hbox hg
     refine hK.out _ _ ⟨(blk_cell BK132.out 0).trans rfl,(blk_cell BK132.out 1).trans rfl,(blk_cell BK132.out 2).trans rfl⟩ (fun hHeld=>?_)
     clear hK K
     refine norm_ (a':=?_) ?_ ?_
     rotate_left
     ·show Act.put _ (some 3) _ = _
      simp only [Act.put,List.setIfInBounds_toArray,List.set_cons_zero,List.set_cons_succ,i64_w,i32_w]
      rfl
     refine one_ (i:=7) (N:=some 15) #[true,true,true,true,true,true,true,true,false,true,false] rfl rfl (one_of HT_.out (by kernel_rfl)) (by decide) (fun K hK=>?_)
     refine Kd.R_append_rows_step (Kd.int .i64) (w0:=w) w.heap.size (by rfl) (.tmp 12) (.tmp 14) 22 2 (.int .i64 0) 8 rfl Try.underlying22 info2 rfl (by decide) (by omega) v134 y133 l0_2 _ _ _ (fun _=>True) (fun _=>False) rfl rfl ?aO ?aR (fun _ _ h=>h) (fun _ h=>h.elim) ?aF ?aB ?aS ?aL ?_
     (case aR=>repeat (first|exact (Kd.C_below HR0_2.out HB.out)|(with_reducible refine Kd.C_alloc ?_ _)|(with_reducible refine Kd.C_drewN ?_ _)|(with_reducible refine Kd.C_drew ?_)))
     (case aB=>exact (by repeat (first|(with_reducible first|exact HB.out|apply below_alloc|apply pw_below_drewN|apply below_drew1|refine below_set ?_ GE132.out|refine below_set ?_ GE139.out)|exact HB.out)))
     (case aF=>exact (fun _ _=>trivial))
     (case aO=>exact (by (with_reducible repeat (first|apply Kd.R_alloc|apply Kd.R_drewN));exact HO135.out))
     (case aS=>exact (below_size (by repeat (first|(with_reducible first|exact HB.out|apply below_alloc|apply pw_below_drewN|apply below_drew1|refine below_set ?_ GE132.out|refine below_set ?_ GE139.out)|exact HB.out))))
     (case aL=>have:=LMc2.out;omega)
     intro v137 w8 ho hb hg hat
     rw [← Ny136.out] at ho
     have n0_:=Aside0.mk (blk_grown (g:=gb132) (o:=.cells #[.int .i64 a0_0,.int .i64 a0_1,.slice A0_2 l0_2.length c0_2] 27 (0,0)) (by (with_reducible repeat first|refine blk_drewN ?_ _|refine blk_alloc ?_ _);exact BK132.out) hg (Kd.R_ne HO135.out BK132.out (by decide)))
     have n1_:=Aside0.mk (blk_grown (g:=gb139) (o:=.cells #[.int .i64 0,.int .i64 0,.slice none 0 0] 27 (0,0)) (by (with_reducible repeat first|refine blk_drewN ?_ _|refine blk_alloc ?_ _);exact BK139.out) hg (Kd.R_ne HO135.out BK139.out (by decide)))
     have n2_:=Aside0.mk (hb)
     have n3_:=Aside0.mk (ho)
     clear BK132 BK139 HB HO135
     have BK132:=n0_
     have BK139:=n1_
     have HB:=n2_
     have HO138:=n3_
     clear n0_ n1_ n2_ n3_ ho hb hg hat
     obtain ⟨Ao9,co9,eo9⟩:=Kd.R_slice HO138.out
     (first|subst eo9|(injection eo9 with f1_ f2_ f3_;have f4_:=f1_.symm;have f5_:=f3_.symm;clear f1_ f2_ f3_;subst f4_;subst f5_))
     refine hK.out _ _ ⟨(blk_cell BK132.out 0).trans rfl,(blk_cell BK132.out 1).trans rfl,(blk_cell BK132.out 2).trans rfl⟩ (fun hHeld=>?_)
     clear hK K
     refine norm_ (a':=?_) ?_ ?_
     rotate_left
     ·show Act.put _ (some 15) _ = _
      simp only [Act.put,List.setIfInBounds_toArray,List.set_cons_zero,List.set_cons_succ,i64_w,i32_w]
      rfl
     refine pure_ (i:=8) (N:=some 16) (v:=?_) (a':=?_) #[true,true,true,true,true,true,true,true,true,true,false] rfl rfl (any_of HT_.out (by kernel_rfl)) (fun _ _ _ h=>h) (Or.inl ⟨by rfl,?_⟩) ?_ ?_
     rotate_left
     ·intro w'
      go_simp
      with_reducible rfl
     rotate_left
     ·simp only [Act.put,List.setIfInBounds_toArray,List.set_cons_zero,List.set_cons_succ,i64_w,i32_w]
      rfl
     exact norm_ (by simp only [putAll,Act.put,List.setIfInBounds_toArray,List.set_cons_zero,List.set_cons_succ]) (hCont (v134,.slice Ao9 y136.length co9,gb139) _ ⟨hHeld,(by (with_reducible repeat (first|apply Kd.R_alloc|apply Kd.R_drewN));exact HO138.out),(by (with_reducible repeat first|refine blk_drewN ?_ _|refine blk_alloc ?_ _);exact BK132.out),(by (with_reducible repeat first|refine blk_drewN ?_ _|refine blk_alloc ?_ _);exact BK139.out),GW139.out,GE139.out,NB132_139.out,NB139_132.out,(by repeat (first|(with_reducible first|exact HB.out|apply below_alloc|apply pw_below_drewN|apply below_drew1|refine below_set ?_ GE132.out|refine below_set ?_ GE139.out)|exact HB.out))⟩)
   ·skip
    refine box_step ?hg (N:=3) ?hd (cs:=#[.int .i64 0,.int .i64 0,.slice none 0 0]) (t:=27) ?hr ?_;(case hd=>rfl);(case hg=>rfl);(case hr=>first|(go_simp;done)|(go_simp;rfl))
    intro gb139 hg w5 hbox hb
    have n0_:=Aside0.mk (blk_below (g:=gb132) (o:=.cells #[.int .i64 a0_0,.int .i64 a0_1,.slice A0_2 l0_2.length c0_2] 27 (0,0)) (by (with_reducible repeat first|refine blk_drewN ?_ _|refine blk_alloc ?_ _);exact BK132.out) hb)
    have n1_:=Aside0.mk (below_step (by repeat (first|(with_reducible first|exact HB.out|apply below_alloc|apply pw_below_drewN|apply below_drew1|refine below_set ?_ GE132.out)|exact HB.out)) hb)
    have n2_:=Aside0.mk (hbox)
    have n3_:=Aside0.mk ((by rw [hg];exact (below_size (by repeat (first|(with_reducible first|exact HB.out|apply below_alloc|apply pw_below_drewN|apply below_drew1|refine below_set ?_ GE132.out)|exact HB.out))) : w.heap.size ≤ gb139))
    have n4_:=Aside0.mk ((by rw [hg];exact (below_size (by repeat (first|(with_reducible first|exact HB.out|apply below_alloc|apply pw_below_drewN|apply below_drew1|refine below_set ?_ GE132.out)|exact HB.out))) : w.heap.size ≤ gb139))
    have n5_:=Aside0.mk ((by rw [hg];exact Nat.ne_of_lt (blk_lt (g:=gb132) (o:=.cells #[.int .i64 a0_0,.int .i64 a0_1,.slice A0_2 l0_2.length c0_2] 27 (0,0)) (by (with_reducible repeat first|refine blk_drewN ?_ _|refine blk_alloc ?_ _);exact BK132.out)) : gb132 ≠ gb139))
    have n6_:=Aside0.mk ((by rw [hg];exact Nat.ne_of_gt (blk_lt (g:=gb132) (o:=.cells #[.int .i64 a0_0,.int .i64 a0_1,.slice A0_2 l0_2.length c0_2] 27 (0,0)) (by (with_reducible repeat first|refine blk_drewN ?_ _|refine blk_alloc ?_ _);exact BK132.out)) : gb139 ≠ gb132))
    clear BK132 HB
    have BK132:=n0_
    have HB:=n1_
    have BK139:=n2_
    have GW139:=n3_
    have GE139:=n4_
    have NB132_139:=n5_
    have NB139_132:=n6_
    clear n0_ n1_ n2_ n3_ n4_ n5_ n6_ hb hbox hg
    refine hK.out _ _ ⟨(blk_cell BK132.out 0).trans rfl,(blk_cell BK132.out 1).trans rfl,(blk_cell BK132.out 2).trans rfl⟩ (fun hHeld=>?_)
    clear hK K
    refine norm_ (a':=?_) ?_ ?_
    rotate_left
    ·show Act.put _ (some 3) _ = _
     simp only [Act.put,List.setIfInBounds_toArray,List.set_cons_zero,List.set_cons_succ,i64_w,i32_w]
     rfl
    refine one_ (i:=4) (N:=some 12) #[true,true,true,true,true,true,true,false,false,true,false] rfl rfl (one_of HT_.out (by kernel_rfl)) (by decide) (fun K hK=>?_)
    refine Kd.R_lit_step (Kd.int .i64) _ 2 ?hg (N:=12) ?hd (xs:=([] : List Int)) (inner:=[]) (ok:=fun _=>True) (okp:=fun _=>True) ?hr ?hp (fun _ hk=>hk) trivial (Below.refl _ _) (Nat.le_refl _) (by simp) ?_;(case hd=>rfl);(case hg=>rfl);(case hr=>first|(go_simp;done)|(go_simp;rfl));(case hp=>exact (Reps.none _ _))
    intro v134 w6 ho7 hb hg_ hnew_
    clear hg_ hnew_
    (first|rw [← Ny133.out] at ho7|(simp only [Int.reduceToNat] at ho7;rw [← Ny133.out] at ho7))
    have n0_:=Aside0.mk (Kd.R_lower ho7 (below_size (by repeat (first|(with_reducible first|exact HB.out|apply below_alloc|apply pw_below_drewN|apply below_drew1|refine below_set ?_ GE132.out|refine below_set ?_ GE139.out)|exact HB.out))))
    have n1_:=Aside0.mk (blk_below (g:=gb132) (o:=.cells #[.int .i64 a0_0,.int .i64 a0_1,.slice A0_2 l0_2.length c0_2] 27 (0,0)) (by (with_reducible repeat first|refine blk_drewN ?_ _|refine blk_alloc ?_ _);exact BK132.out) hb)
    have n2_:=Aside0.mk (blk_below (g:=gb139) (o:=.cells #[.int .i64 0,.int .i64 0,.slice none 0 0] 27 (0,0)) (by (with_reducible repeat first|refine blk_drewN ?_ _|refine blk_alloc ?_ _);exact BK139.out) hb)
    have n3_:=Aside0.mk (below_step (by repeat (first|(with_reducible first|exact HB.out|apply below_alloc|apply pw_below_drewN|apply below_drew1|refine below_set ?_ GE132.out|refine below_set ?_ GE139.out)|exact HB.out)) hb)
    clear BK132 BK139 HB
    have HO135:=n0_
    have BK132:=n1_
    have BK139:=n2_
    have HB:=n3_
    clear n0_ n1_ n2_ n3_ hb ho7
    refine hK.out _ _ ⟨(blk_cell BK132.out 0).trans rfl,(blk_cell BK132.out 1).trans rfl,(blk_cell BK132.out 2).trans rfl⟩ (fun hHeld=>?_)
    clear hK K
    refine norm_ (a':=?_) ?_ ?_
    rotate_left
    ·show Act.put _ (some 12) _ = _
     simp only [Act.put,List.setIfInBounds_toArray,List.set_cons_zero,List.set_cons_succ,i64_w,i32_w]
     rfl
    refine one_ (i:=7) (N:=some 15) #[true,true,true,true,true,true,true,true,false,true,false] rfl rfl (one_of HT_.out (by kernel_rfl)) (by decide) (fun K hK=>?_)
    refine Kd.R_append_rows_step (Kd.int .i64) (w0:=w) w.heap.size (by rfl) (.tmp 12) (.tmp 14) 22 2 (.int .i64 0) 8 rfl Try.underlying22 info2 rfl (by decide) (by omega) v134 y133 l0_2 _ _ _ (fun _=>True) (fun _=>False) rfl rfl ?aO ?aR (fun _ _ h=>h) (fun _ h=>h.elim) ?aF ?aB ?aS ?aL ?_
    (case aR=>repeat (first|exact (Kd.C_below HR0_2.out HB.out)|(with_reducible refine Kd.C_alloc ?_ _)|(with_reducible refine Kd.C_drewN ?_ _)|(with_reducible refine Kd.C_drew ?_)))
    (case aB=>exact (by repeat (first|(with_reducible first|exact HB.out|apply below_alloc|apply pw_below_drewN|apply below_drew1|refine below_set ?_ GE132.out|refine below_set ?_ GE139.out)|exact HB.out)))
    (case aF=>exact (fun _ _=>trivial))
    (case aO=>exact (by (with_reducible repeat (first|apply Kd.R_alloc|apply Kd.R_drewN));exact HO135.out))
    (case aS=>exact (below_size (by repeat (first|(with_reducible first|exact HB.out|apply below_alloc|apply pw_below_drewN|apply below_drew1|refine below_set ?_ GE132.out|refine below_set ?_ GE139.out)|exact HB.out))))
    (case aL=>have:=LMc2.out;omega)
    intro v137 w8 ho hb hg hat
    rw [← Ny136.out] at ho
    have n0_:=Aside0.mk (blk_grown (g:=gb132) (o:=.cells #[.int .i64 a0_0,.int .i64 a0_1,.slice A0_2 l0_2.length c0_2] 27 (0,0)) (by (with_reducible repeat first|refine blk_drewN ?_ _|refine blk_alloc ?_ _);exact BK132.out) hg (Kd.R_ne HO135.out BK132.out (by decide)))
    have n1_:=Aside0.mk (blk_grown (g:=gb139) (o:=.cells #[.int .i64 0,.int .i64 0,.slice none 0 0] 27 (0,0)) (by (with_reducible repeat first|refine blk_drewN ?_ _|refine blk_alloc ?_ _);exact BK139.out) hg (Kd.R_ne HO135.out BK139.out (by decide)))
    have n2_:=Aside0.mk (hb)
    have n3_:=Aside0.mk (ho)
    clear BK132 BK139 HB HO135
    have BK132:=n0_
    have BK139:=n1_
    have HB:=n2_
    have HO138:=n3_
    clear n0_ n1_ n2_ n3_ ho hb hg hat
    obtain ⟨Ao9,co9,eo9⟩:=Kd.R_slice HO138.out
    (first|subst eo9|(injection eo9 with f1_ f2_ f3_;have f4_:=f1_.symm;have f5_:=f3_.symm;clear f1_ f2_ f3_;subst f4_;subst f5_))
    refine hK.out _ _ ⟨(blk_cell BK132.out 0).trans rfl,(blk_cell BK132.out 1).trans rfl,(blk_cell BK132.out 2).trans rfl⟩ (fun hHeld=>?_)
    clear hK K
    refine norm_ (a':=?_) ?_ ?_
    rotate_left
    ·show Act.put _ (some 15) _ = _
     simp only [Act.put,List.setIfInBounds_toArray,List.set_cons_zero,List.set_cons_succ,i64_w,i32_w]
     rfl
    refine pure_ (i:=8) (N:=some 16) (v:=?_) (a':=?_) #[true,true,true,true,true,true,true,true,true,true,false] rfl rfl (any_of HT_.out (by kernel_rfl)) (fun _ _ _ h=>h) (Or.inl ⟨by rfl,?_⟩) ?_ ?_
    rotate_left
    ·intro w'
     go_simp
     with_reducible rfl
    rotate_left
    ·simp only [Act.put,List.setIfInBounds_toArray,List.set_cons_zero,List.set_cons_succ,i64_w,i32_w]
     rfl
    exact norm_ (by simp only [putAll,Act.put,List.setIfInBounds_toArray,List.set_cons_zero,List.set_cons_succ]) (hCont (v134,.slice Ao9 y136.length co9,gb139) _ ⟨hHeld,(by (with_reducible repeat (first|apply Kd.R_alloc|apply Kd.R_drewN));exact HO138.out),(by (with_reducible repeat first|refine blk_drewN ?_ _|refine blk_alloc ?_ _);exact BK132.out),(by (with_reducible repeat first|refine blk_drewN ?_ _|refine blk_alloc ?_ _);exact BK139.out),GW139.out,GE139.out,NB132_139.out,NB139_132.out,(by repeat (first|(with_reducible first|exact HB.out|apply below_alloc|apply pw_below_drewN|apply below_drew1|refine below_set ?_ GE132.out|refine below_set ?_ GE139.out)|exact HB.out))⟩)
  rintro ⟨v134,v137,gb139⟩ w10 ⟨hS_,h0_,h1_,h2_,h3_,h4_,h5_,h6_,h7_⟩
  have n0_ : Aside0 (Kd.R (Kd.int .i64) 2 w10 w.heap.size (fun _=>True) v137 y136):=⟨h0_⟩
  have n1_ : Aside0 (w10.heap[gb132]? = some (.cells #[.int .i64 a0_0,.int .i64 a0_1,.slice A0_2 l0_2.length c0_2] 27 (0,0))):=⟨h1_⟩
  have n2_ : Aside0 (w10.heap[gb139]? = some (.cells #[.int .i64 0,.int .i64 0,.slice none 0 0] 27 (0,0))):=⟨h2_⟩
  have n3_ : Aside0 (w.heap.size ≤ gb139):=⟨h3_⟩
  have n4_ : Aside0 (w.heap.size ≤ gb139):=⟨h4_⟩
  have n5_ : Aside0 (gb132 ≠ gb139):=⟨h5_⟩
  have n6_ : Aside0 (gb139 ≠ gb132):=⟨h6_⟩
  have n7_ : Aside0 (Below w.heap.size w w10):=⟨h7_⟩
  clear BK132 HB h0_ h1_ h2_ h3_ h4_ h5_ h6_ h7_
  have HO138:=n0_
  have BK132:=n1_
  have BK139:=n2_
  have GW139:=n3_
  have GE139:=n4_
  have NB132_139:=n5_
  have NB139_132:=n6_
  have HB:=n7_
  clear n0_ n1_ n2_ n3_ n4_ n5_ n6_ n7_
  have hHeld : w10.cell? ⟨gb132,0,none⟩ = some (.int .i64 a0_0) ∧ w10.cell? ⟨gb132,1,none⟩ = some (.int .i64 a0_1) ∧ w10.cell? ⟨gb132,2,none⟩ = some (.slice A0_2 l0_2.length c0_2):=hS_
  obtain ⟨Ao11,co11,eo11⟩:=Kd.R_slice HO138.out
  (first|subst eo11|(injection eo11 with f1_ f2_ f3_;have f4_:=f1_.symm;have f5_:=f3_.symm;clear f1_ f2_ f3_;subst f4_;subst f5_))
  refine norm_ (a':=?_) ?_ ?_
  rotate_left
  ·simp only [putAll,Act.put,List.setIfInBounds_toArray,List.set_cons_zero,List.set_cons_succ]
   rfl
  refine one_ (i:=10) (N:=none) #[true,true,true,true,true,true,true,true,true,true,true] rfl rfl (one_of HT_.out (by kernel_rfl)) (by decide) (fun K hK=>?_)
  have hs12 : w10.cell? ⟨gb139,0,none⟩ = some (.int .i64 0):=(blk_cell BK139.out 0).trans rfl
  have hfs12:=blk_frozen BK139.out 0
  have hns12_0:=NB132_139.out
  have hms12_0:=NB139_132.out
  have hs13 : w10.cell? ⟨gb139,1,none⟩ = some (.int .i64 0):=(blk_cell BK139.out 1).trans rfl
  have hfs13:=blk_frozen BK139.out 1
  have hns13_0:=NB132_139.out
  have hms13_0:=NB139_132.out
  have hs14 : w10.cell? ⟨gb139,2,none⟩ = some (.slice none 0 0):=(blk_cell BK139.out 2).trans rfl
  have hfs14:=blk_frozen BK139.out 2
  have hns14_0:=NB132_139.out
  have hms14_0:=NB139_132.out
  refine skip_ (w1:=?_) (by rfl) rfl ?_ ?_
  rotate_left
  ·go_simp
   rfl
  refine hK.out _ _ ⟨((cell_far (p:=⟨gb139,_,none⟩) NB132_139.out _).trans (((cell_far (p:=⟨gb139,_,none⟩) NB132_139.out _).trans (((cell_far (p:=⟨gb139,_,none⟩) NB132_139.out _).trans (hHeld.1)))))),((cell_far (p:=⟨gb139,_,none⟩) NB132_139.out _).trans (((cell_far (p:=⟨gb139,_,none⟩) NB132_139.out _).trans (((cell_far (p:=⟨gb139,_,none⟩) NB132_139.out _).trans (hHeld.2.1)))))),((cell_far (p:=⟨gb139,_,none⟩) NB132_139.out _).trans (((cell_far (p:=⟨gb139,_,none⟩) NB132_139.out _).trans (((cell_far (p:=⟨gb139,_,none⟩) NB132_139.out _).trans (hHeld.2.2))))))⟩ (fun hHeld=>?_)
  clear hK K
  refine done_ (done_of HT_.out (by kernel_rfl)) ?_
  try go_wp2
  go_loopg [4,5] k (fun kq v4 v5 w'=>∃ (x4_1 : Int) (x5_1 : Int) (x140002_1 : List Int) (u140002 : Value),v4 = .int .i64 x4_1 ∧ v5 = .int .i64 x5_1 ∧ Aside0 (spec_l03Rank.l0 kq x4_1 x5_1 a0_0 a0_1 x140002_1 = some r) ∧ Aside0 (kq ≤ k) ∧ Aside0 (Kd.R (Kd.int .i64) 2 w' w.heap.size (fun _=>True) u140002 x140002_1) ∧ Aside0 (w'.heap[gb132]? = some (.cells #[.int .i64 a0_0,.int .i64 a0_1,(.slice A0_2 l0_2.length c0_2)] 27 (0,0))) ∧ Aside0 (w'.heap[gb139]? = some (.cells #[.int .i64 a0_0,.int .i64 a0_1,u140002] 27 (0,0))) ∧ Aside0 (Below w.heap.size w w'))
  case atStart=>exact ⟨(0),(0),(y136),(.slice Ao11 y136.length co11),(by first|rfl|(simp;done)|(simp [*];done)),(by first|rfl|(simp;done)|(simp [*];done)),H',⟨Nat.le_refl _⟩,⟨by (with_reducible repeat (first|apply Kd.R_alloc|apply Kd.R_drewN));exact Kd.R_mono (Kd.R_far (p:=⟨gb139,2,none⟩) (Kd.R_far (p:=⟨gb139,1,none⟩) (Kd.R_far (p:=⟨gb139,0,none⟩) (Kd.R_types HO138.out BK139.out (by decide)) (fun _ hk=>hk.2) (.int .i64 a0_0)) (fun _ hk=>hk.2) (.int .i64 a0_1)) (fun _ hk=>hk.2) (.slice Ao11 y136.length co11)) (fun _ hk=>trivial)⟩,⟨by (with_reducible repeat first|refine blk_drewN ?_ _|refine blk_alloc ?_ _);refine blk_far ?_ NB132_139.out _;(with_reducible repeat first|refine blk_drewN ?_ _|refine blk_alloc ?_ _);refine blk_far ?_ NB132_139.out _;(with_reducible repeat first|refine blk_drewN ?_ _|refine blk_alloc ?_ _);refine blk_far ?_ NB132_139.out _;(with_reducible repeat first|refine blk_drewN ?_ _|refine blk_alloc ?_ _);exact BK132.out⟩,⟨by (with_reducible repeat first|refine blk_drewN ?_ _|refine blk_alloc ?_ _);refine blk_put (cs:=#[.int .i64 a0_0,.int .i64 a0_1,.slice none 0 0]) ?_ 2 _ rfl;(with_reducible repeat first|refine blk_drewN ?_ _|refine blk_alloc ?_ _);refine blk_put (cs:=#[.int .i64 a0_0,.int .i64 0,.slice none 0 0]) ?_ 1 _ rfl;(with_reducible repeat first|refine blk_drewN ?_ _|refine blk_alloc ?_ _);refine blk_put (cs:=#[.int .i64 0,.int .i64 0,.slice none 0 0]) ?_ 0 _ rfl;(with_reducible repeat first|refine blk_drewN ?_ _|refine blk_alloc ?_ _);exact BK139.out⟩,⟨by repeat (first|(with_reducible first|exact HB.out|apply below_alloc|apply pw_below_drewN|apply below_drew1|refine below_set ?_ GE132.out|refine below_set ?_ GE139.out)|exact HB.out)⟩⟩
  case round=>
   clear H'
   (try clear c2);(try clear p2);(try clear c5)
   obtain ⟨x4_1,x5_1,x140002_1,u140002,rfl,rfl,HA,HK1,HO_140002,BK132,BK139,HB⟩:=hrel
   cases gk with
   | zero=>exact absurd HA.out (by simp [spec_l03Rank.l0])
   | succ k1=>
    have H:=HA.out
    clear HA
    simp only [spec_l03Rank.l0] at H
    have HC15:=Aside0.mk H
    clear H
    go_upto_region 4 with (fail)
    go_cut [26] (fun v26 wc=>∃ (kq : Nat) (x26_14 : Bool),v26 = .bool x26_14 ∧ Aside0 (spec_l03Rank.j1 kq x4_1 x5_1 x26_14 a0_0 a0_1 x140002_1 = some r) ∧ Aside0 (kq ≤ k1) ∧ Aside0 (Kd.R (Kd.int .i64) 2 wc w.heap.size (fun _=>True) u140002 x140002_1) ∧ Aside0 (wc.heap[gb132]? = some (.cells #[.int .i64 a0_0,.int .i64 a0_1,(.slice A0_2 l0_2.length c0_2)] 27 (0,0))) ∧ Aside0 (wc.heap[gb139]? = some (.cells #[.int .i64 a0_0,.int .i64 a0_1,u140002] 27 (0,0))) ∧ Aside0 (Below w.heap.size w wc))
    case first=>
     have H:=HC15.out
     clear HC15
     by_cases c16 : x5_1 < a0_1
     ·rw [if_pos c16] at H
      have c16b0 : decide (x5_1 < a0_1) = true:=decide_eq_true c16
      clear c16
      (first|rw [c16b0]|(simp only [i64_w,i32_w];rw [c16b0])|skip)
      have H':=Aside0.mk H
      clear H
      have hnb17:=NB139_132.out
      have hnc17:=NB132_139.out
      have hcz18_0 : wr.cell? ⟨gb139,0,none⟩ = some (.int .i64 a0_0):=(blk_cell BK139.out 0).trans rfl
      have hcz18_1 : wr.cell? ⟨gb139,1,none⟩ = some (.int .i64 a0_1):=(blk_cell BK139.out 1).trans rfl
      have hcz18_2 : wr.cell? ⟨gb139,2,none⟩ = some (u140002):=(blk_cell BK139.out 2).trans rfl
      have hfz18_0:=blk_frozen BK139.out 0
      have hfz18_1:=blk_frozen BK139.out 1
      have hfz18_2:=blk_frozen BK139.out 2
      go_wp2
      go_meet
      case rel=>exact ⟨_,(decide (x4_1 < a0_0)),(by first|rfl|(simp;done)|(simp [*];done)),H',⟨by have:=HK1.out;first|omega|exact Nat.le_refl _⟩,⟨by (with_reducible repeat (first|apply Kd.R_alloc|apply Kd.R_drewN));exact HO_140002.out⟩,⟨by (with_reducible repeat first|refine blk_drewN ?_ _|refine blk_alloc ?_ _);exact BK132.out⟩,⟨by (with_reducible repeat first|refine blk_drewN ?_ _|refine blk_alloc ?_ _);exact BK139.out⟩,⟨by repeat (first|(with_reducible first|exact HB.out|apply below_alloc|apply pw_below_drewN|apply below_drew1|refine below_set ?_ GE132.out|refine below_set ?_ GE139.out)|exact HB.out)⟩⟩
     ·rw [if_neg c16] at H
      have c16b0 : decide (x5_1 < a0_1) = false:=decide_eq_false c16
      clear c16
      (first|rw [c16b0]|(simp only [i64_w,i32_w];rw [c16b0])|skip)
      have H':=Aside0.mk H
      clear H
      have hnb19:=NB139_132.out
      have hnc19:=NB132_139.out
      have hcz20_0 : wr.cell? ⟨gb139,0,none⟩ = some (.int .i64 a0_0):=(blk_cell BK139.out 0).trans rfl
      have hcz20_1 : wr.cell? ⟨gb139,1,none⟩ = some (.int .i64 a0_1):=(blk_cell BK139.out 1).trans rfl
      have hcz20_2 : wr.cell? ⟨gb139,2,none⟩ = some (u140002):=(blk_cell BK139.out 2).trans rfl
      have hfz20_0:=blk_frozen BK139.out 0
      have hfz20_1:=blk_frozen BK139.out 1
      have hfz20_2:=blk_frozen BK139.out 2
      go_wp2
      go_meet
      case rel=>exact ⟨_,(false),(by first|rfl|(simp;done)|(simp [*];done)),H',⟨by have:=HK1.out;first|omega|exact Nat.le_refl _⟩,⟨by (with_reducible repeat (first|apply Kd.R_alloc|apply Kd.R_drewN));exact HO_140002.out⟩,⟨by (with_reducible repeat first|refine blk_drewN ?_ _|refine blk_alloc ?_ _);exact BK132.out⟩,⟨by (with_reducible repeat first|refine blk_drewN ?_ _|refine blk_alloc ?_ _);exact BK139.out⟩,⟨by repeat (first|(with_reducible first|exact HB.out|apply below_alloc|apply pw_below_drewN|apply below_drew1|refine below_set ?_ GE132.out|refine below_set ?_ GE139.out)|exact HB.out)⟩⟩
    case rest=>
     clear HC15
     (try clear c1);(try clear c2);(try clear p2);(try clear c5);(try clear c16);(try clear c16b0);(try clear c17);(try clear c19);(try clear hcz18_0);(try clear hcz18_1);(try clear hcz18_2);(try clear hcz20_0);(try clear hcz20_1);(try clear hcz20_2);(try clear hfz18_0);(try clear hfz18_1);(try clear hfz18_2);(try clear hfz20_0);(try clear hfz20_1);(try clear hfz20_2);(try clear p2)
     obtain ⟨kq,x26_14,rfl,HA,HJ14,HO_140002,BK132,BK139,HB⟩:=hcut
     cases kq with
     | zero=>exact absurd HA.out (by simp [spec_l03Rank.j1])
     | succ kj14=>
      have H:=HA.out
      clear HA
      simp only [spec_l03Rank.j1] at H
      by_cases c21 : x26_14 = true
      ·subst c21
       have H1 : (spec_l03Rank.l1 kj14 x4_1 x5_1 (-1) x4_1 a0_0 a0_1 x140002_1) = some r:=by rw [if_pos rfl] at H;exact H
       clear H
       have H:=H1
       clear H1
       have H':=Aside0.mk H
       clear H
       go_wp2
       go_loopg [6,7] kj14 (fun kq v6 v7 w'=>∃ (x6_3 : Int) (x7_3 : Int),v6 = .int .i64 x6_3 ∧ v7 = .int .i64 x7_3 ∧ Aside0 (spec_l03Rank.l1 kq x4_1 x5_1 x6_3 x7_3 a0_0 a0_1 x140002_1 = some r) ∧ Aside0 (kq ≤ kj14) ∧ Aside0 (Kd.R (Kd.int .i64) 2 w' w.heap.size (fun _=>True) u140002 x140002_1) ∧ Aside0 (w'.heap[gb132]? = some (.cells #[.int .i64 a0_0,.int .i64 a0_1,(.slice A0_2 l0_2.length c0_2)] 27 (0,0))) ∧ Aside0 (w'.heap[gb139]? = some (.cells #[.int .i64 a0_0,.int .i64 a0_1,u140002] 27 (0,0))) ∧ Aside0 (Below w.heap.size w w'))
       case atStart=>exact ⟨((-1)),(x4_1),(by first|rfl|(simp;done)|(simp [*];done)),(by first|rfl|(simp;done)|(simp [*];done)),H',⟨Nat.le_refl _⟩,⟨by (with_reducible repeat (first|apply Kd.R_alloc|apply Kd.R_drewN));exact HO_140002.out⟩,⟨by (with_reducible repeat first|refine blk_drewN ?_ _|refine blk_alloc ?_ _);exact BK132.out⟩,⟨by (with_reducible repeat first|refine blk_drewN ?_ _|refine blk_alloc ?_ _);exact BK139.out⟩,⟨by repeat (first|(with_reducible first|exact HB.out|apply below_alloc|apply pw_below_drewN|apply below_drew1|refine below_set ?_ GE132.out|refine below_set ?_ GE139.out)|exact HB.out)⟩⟩
       case round=>
        clear H'
        (try clear c1);(try clear c2);(try clear p2);(try clear c5);(try clear c16);(try clear c16b0);(try clear c17);(try clear c19);(try clear c21);(try clear hcz18_0);(try clear hcz18_1);(try clear hcz18_2);(try clear hcz20_0);(try clear hcz20_1);(try clear hcz20_2);(try clear hfz18_0);(try clear hfz18_1);(try clear hfz18_2);(try clear hfz20_0);(try clear hfz20_1);(try clear hfz20_2);(try clear p2)
        obtain ⟨x6_3,x7_3,rfl,rfl,HA,HK3,HO_140002,BK132,BK139,HB⟩:=hrel
        cases gk with
        | zero=>exact absurd HA.out (by simp [spec_l03Rank.l1])
        | succ k3=>
         have H:=HA.out
         clear HA
         simp only [spec_l03Rank.l1] at H
         by_cases c22 : x7_3 < a0_0
         ·rw [if_pos c22] at H
          have c22b0 : decide (x7_3 < a0_0) = true:=decide_eq_true c22
          clear c22
          replace H:=Option.bind_eq_some_iff.mp H
          obtain ⟨t140,A230,H⟩:=H
          replace H : (if t140 = 0 then (spec_l03Rank.l1 k3 x4_1 x5_1 x6_3 (wrap64 (x7_3 + 1)) a0_0 a0_1 x140002_1) else (spec_l03Rank.l1 k3 x4_1 x5_1 x7_3 (wrap64 (x7_3 + 1)) a0_0 a0_1 x140002_1)) = some r:=H
          have A23:=Aside0.mk A230
          clear A230
          by_cases c24 : t140 = 0
          ·rw [if_pos c24] at H
           have c24b0 : (t140 == 0) = true:=beq_iff_eq.mpr c24
           have c24b1 : (t140 != 0) = false:=bne_eq_false_iff_eq.mpr c24
           clear c24
           have H':=Aside0.mk H
           clear H
           have hnb25:=NB139_132.out
           have hnc25:=NB132_139.out
           have hcz26_0 : wr.cell? ⟨gb139,0,none⟩ = some (.int .i64 a0_0):=(blk_cell BK139.out 0).trans rfl
           have hcz26_1 : wr.cell? ⟨gb139,1,none⟩ = some (.int .i64 a0_1):=(blk_cell BK139.out 1).trans rfl
           have hcz26_2 : wr.cell? ⟨gb139,2,none⟩ = some (u140002):=(blk_cell BK139.out 2).trans rfl
           have hfz26_0:=blk_frozen BK139.out 0
           have hfz26_1:=blk_frozen BK139.out 1
           have hfz26_2:=blk_frozen BK139.out 2
           obtain ⟨Ao27,co27,eo27⟩:=Kd.R_slice HO_140002.out
           subst eo27
           go_wp2_with (first|((with_reducible refine gate_callee (f:=67) rfl ?_);refine goesL_ (some 39) rfl rfl Try.func67 (by kernel_rfl) rfl #[.agg #[.int .i64 a0_0,.int .i64 a0_1,.slice Ao27 x140002_1.length co27],.int .i64 x7_3,.int .i64 x5_1] rfl (by (try simp only [List.map_toArray,List.map_cons,List.map_nil]);first|done|rfl) ?_;(with_reducible refine (spec_l03At.calls a0_0 a0_1 _ _ x140002_1 x7_3 x5_1 t140 _ ?side1 ?side2 A23.out).mono ?_);(case side1=>repeat (first|exact (Kd.R_reads' HO_140002.out).2.2|(with_reducible refine Kd.C_alloc ?_ _)|(with_reducible refine Kd.C_drewN ?_ _)|(with_reducible refine Kd.C_drew ?_)));(case side2=>exact (Kd.R_reads' HO_140002.out).2.1);rintro e w28 ⟨rfl,hb⟩;refine ⟨_,rfl,?_⟩;have n0_:=Aside0.mk (Kd.R_below (by (with_reducible repeat (first|apply Kd.R_alloc|apply Kd.R_drewN));exact HO_140002.out) hb);have n1_:=Aside0.mk (blk_below (g:=gb132) (o:=.cells #[.int .i64 a0_0,.int .i64 a0_1,.slice A0_2 l0_2.length c0_2] 27 (0,0)) (by (with_reducible repeat first|refine blk_drewN ?_ _|refine blk_alloc ?_ _);exact BK132.out) hb);have n2_:=Aside0.mk (blk_below (g:=gb139) (o:=.cells #[.int .i64 a0_0,.int .i64 a0_1,.slice Ao27 x140002_1.length co27] 27 (0,0)) (by (with_reducible repeat first|refine blk_drewN ?_ _|refine blk_alloc ?_ _);exact BK139.out) hb);have n3_:=Aside0.mk (below_step (by repeat (first|(with_reducible first|exact HB.out|apply below_alloc|apply pw_below_drewN|apply below_drew1|refine below_set ?_ GE132.out|refine below_set ?_ GE139.out)|exact HB.out)) hb);clear HO_140002 BK132 BK139 HB;have HO_140002:=n0_;have BK132:=n1_;have BK139:=n2_;have HB:=n3_;clear n0_ n1_ n2_ n3_;(try clear hb);(try clear hb2);(try clear hk);(try clear hi)))
           go_roundg k3
           case measure=>have:=HK1.out;have:=HJ14.out;have:=HK3.out;omega
           case rel=>exact ⟨(x6_3),(wrap64 (x7_3 + 1)),(by first|rfl|(simp;done)|(simp [*];done)),(by first|rfl|(simp;done)|(simp [*];done)),H',⟨by have:=HK1.out;have:=HJ14.out;have:=HK3.out;omega⟩,⟨by (with_reducible repeat (first|apply Kd.R_alloc|apply Kd.R_drewN));exact HO_140002.out⟩,⟨by (with_reducible repeat first|refine blk_drewN ?_ _|refine blk_alloc ?_ _);exact BK132.out⟩,⟨by (with_reducible repeat first|refine blk_drewN ?_ _|refine blk_alloc ?_ _);exact BK139.out⟩,⟨by repeat (first|(with_reducible first|exact HB.out|apply below_alloc|apply pw_below_drewN|apply below_drew1|refine below_set ?_ GE132.out|refine below_set ?_ GE139.out)|exact HB.out)⟩⟩
          ·rw [if_neg c24] at H
           have c24b0 : (t140 == 0) = false:=beq_eq_false_iff_ne.mpr c24
           have c24b1 : (t140 != 0) = true:=bne_iff_ne.mpr c24
           have H':=Aside0.mk H
           clear H
           have hnb29:=NB139_132.out
           have hnc29:=NB132_139.out
           have hcz30_0 : wr.cell? ⟨gb139,0,none⟩ = some (.int .i64 a0_0):=(blk_cell BK139.out 0).trans rfl
           have hcz30_1 : wr.cell? ⟨gb139,1,none⟩ = some (.int .i64 a0_1):=(blk_cell BK139.out 1).trans rfl
           have hcz30_2 : wr.cell? ⟨gb139,2,none⟩ = some (u140002):=(blk_cell BK139.out 2).trans rfl
           have hfz30_0:=blk_frozen BK139.out 0
           have hfz30_1:=blk_frozen BK139.out 1
           have hfz30_2:=blk_frozen BK139.out 2
           obtain ⟨Ao31,co31,eo31⟩:=Kd.R_slice HO_140002.out
           subst eo31
           go_wp2_with (first|((with_reducible refine gate_callee (f:=67) rfl ?_);refine goesL_ (some 39) rfl rfl Try.func67 (by kernel_rfl) rfl #[.agg #[.int .i64 a0_0,.int .i64 a0_1,.slice Ao31 x140002_1.length co31],.int .i64 x7_3,.int .i64 x5_1] rfl (by (try simp only [List.map_toArray,List.map_cons,List.map_nil]);first|done|rfl) ?_;(with_reducible refine (spec_l03At.calls a0_0 a0_1 _ _ x140002_1 x7_3 x5_1 t140 _ ?side1 ?side2 A23.out).mono ?_);(case side1=>repeat (first|exact (Kd.R_reads' HO_140002.out).2.2|(with_reducible refine Kd.C_alloc ?_ _)|(with_reducible refine Kd.C_drewN ?_ _)|(with_reducible refine Kd.C_drew ?_)));(case side2=>exact (Kd.R_reads' HO_140002.out).2.1);rintro e w32 ⟨rfl,hb⟩;refine ⟨_,rfl,?_⟩;have n0_:=Aside0.mk (Kd.R_below (by (with_reducible repeat (first|apply Kd.R_alloc|apply Kd.R_drewN));exact HO_140002.out) hb);have n1_:=Aside0.mk (blk_below (g:=gb132) (o:=.cells #[.int .i64 a0_0,.int .i64 a0_1,.slice A0_2 l0_2.length c0_2] 27 (0,0)) (by (with_reducible repeat first|refine blk_drewN ?_ _|refine blk_alloc ?_ _);exact BK132.out) hb);have n2_:=Aside0.mk (blk_below (g:=gb139) (o:=.cells #[.int .i64 a0_0,.int .i64 a0_1,.slice Ao31 x140002_1.length co31] 27 (0,0)) (by (with_reducible repeat first|refine blk_drewN ?_ _|refine blk_alloc ?_ _);exact BK139.out) hb);have n3_:=Aside0.mk (below_step (by repeat (first|(with_reducible first|exact HB.out|apply below_alloc|apply pw_below_drewN|apply below_drew1|refine below_set ?_ GE132.out|refine below_set ?_ GE139.out)|exact HB.out)) hb);clear HO_140002 BK132 BK139 HB;have HO_140002:=n0_;have BK132:=n1_;have BK139:=n2_;have HB:=n3_;clear n0_ n1_ n2_ n3_;(try clear hb);(try clear hb2);(try clear hk);(try clear hi)))
           go_roundg k3
           case measure=>have:=HK1.out;have:=HJ14.out;have:=HK3.out;omega
           case rel=>exact ⟨(x7_3),(wrap64 (x7_3 + 1)),(by first|rfl|(simp;done)|(simp [*];done)),(by first|rfl|(simp;done)|(simp [*];done)),H',⟨by have:=HK1.out;have:=HJ14.out;have:=HK3.out;omega⟩,⟨by (with_reducible repeat (first|apply Kd.R_alloc|apply Kd.R_drewN));exact HO_140002.out⟩,⟨by (with_reducible repeat first|refine blk_drewN ?_ _|refine blk_alloc ?_ _);exact BK132.out⟩,⟨by (with_reducible repeat first|refine blk_drewN ?_ _|refine blk_alloc ?_ _);exact BK139.out⟩,⟨by repeat (first|(with_reducible first|exact HB.out|apply below_alloc|apply pw_below_drewN|apply below_drew1|refine below_set ?_ GE132.out|refine below_set ?_ GE139.out)|exact HB.out)⟩⟩
         ·rw [if_neg c22] at H
          have c22b0 : decide (x7_3 < a0_0) = false:=decide_eq_false c22
          clear c22
          by_cases c33 : x6_3 < 0
          ·rw [if_pos c33] at H
           have c33b0 : decide (x6_3 < 0) = true:=decide_eq_true c33
           clear c33
           have H':=Aside0.mk H
           clear H
           have hnb34:=NB139_132.out
           have hnc34:=NB132_139.out
           have hcz35_0 : wr.cell? ⟨gb139,0,none⟩ = some (.int .i64 a0_0):=(blk_cell BK139.out 0).trans rfl
           have hcz35_1 : wr.cell? ⟨gb139,1,none⟩ = some (.int .i64 a0_1):=(blk_cell BK139.out 1).trans rfl
           have hcz35_2 : wr.cell? ⟨gb139,2,none⟩ = some (u140002):=(blk_cell BK139.out 2).trans rfl
           have hfz35_0:=blk_frozen BK139.out 0
           have hfz35_1:=blk_frozen BK139.out 1
           have hfz35_2:=blk_frozen BK139.out 2
           go_wp2
           go_roundg k3
           case measure=>have:=HK1.out;have:=HJ14.out;have:=HK3.out;omega
           case rel=>exact ⟨(x4_1),(wrap64 (x5_1 + 1)),(x140002_1),(u140002),(by first|rfl|(simp;done)|(simp [*];done)),(by first|rfl|(simp;done)|(simp [*];done)),H',⟨by have:=HK1.out;have:=HJ14.out;have:=HK3.out;omega⟩,⟨by (with_reducible repeat (first|apply Kd.R_alloc|apply Kd.R_drewN));exact HO_140002.out⟩,⟨by (with_reducible repeat first|refine blk_drewN ?_ _|refine blk_alloc ?_ _);exact BK132.out⟩,⟨by (with_reducible repeat first|refine blk_drewN ?_ _|refine blk_alloc ?_ _);exact BK139.out⟩,⟨by repeat (first|(with_reducible first|exact HB.out|apply below_alloc|apply pw_below_drewN|apply below_drew1|refine below_set ?_ GE132.out|refine below_set ?_ GE139.out)|exact HB.out)⟩⟩
          ·rw [if_neg c33] at H
           have c33b0 : decide (x6_3 < 0) = false:=decide_eq_false c33
           clear c33
           replace H:=Option.bind_eq_some_iff.mp H
           obtain ⟨t141,A360,H⟩:=H
           replace H : ((spec_l03Clear.f k3 a0_0 a0_1 t141 x4_1 x5_1).bind fun t142=>(spec_l03Rank.l0 k3 (wrap64 (x4_1 + 1)) (wrap64 (x5_1 + 1)) a0_0 a0_1 t142)) = some r:=H
           have A36:=Aside0.mk A360
           clear A360
           replace H:=Option.bind_eq_some_iff.mp H
           obtain ⟨t142,A370,H⟩:=H
           replace H : (spec_l03Rank.l0 k3 (wrap64 (x4_1 + 1)) (wrap64 (x5_1 + 1)) a0_0 a0_1 t142) = some r:=H
           have A37:=Aside0.mk A370
           clear A370
           have H':=Aside0.mk H
           clear H
           have hnb38:=NB139_132.out
           have hnc38:=NB132_139.out
           have hcz39_0 : wr.cell? ⟨gb139,0,none⟩ = some (.int .i64 a0_0):=(blk_cell BK139.out 0).trans rfl
           have hcz39_1 : wr.cell? ⟨gb139,1,none⟩ = some (.int .i64 a0_1):=(blk_cell BK139.out 1).trans rfl
           have hcz39_2 : wr.cell? ⟨gb139,2,none⟩ = some (u140002):=(blk_cell BK139.out 2).trans rfl
           have hfz39_0:=blk_frozen BK139.out 0
           have hfz39_1:=blk_frozen BK139.out 1
           have hfz39_2:=blk_frozen BK139.out 2
           obtain ⟨Ao40,co40,eo40⟩:=Kd.R_slice HO_140002.out
           subst eo40
           go_wp2_with (first|((with_reducible refine gate_callee (f:=68) rfl ?_);refine goesL_ (some 47) rfl rfl Try.func68 (by kernel_rfl) rfl #[.agg #[.int .i64 a0_0,.int .i64 a0_1,.slice Ao40 x140002_1.length co40],.int .i64 x4_1,.int .i64 x6_3] rfl (by (try simp only [List.map_toArray,List.map_cons,List.map_nil]);first|done|rfl) ?_;(with_reducible refine (spec_l03Swap.calls k3 a0_0 a0_1 (fun k_=>some k_ = (.slice Ao40 x140002_1.length co40 : Value).ownBlock) (.slice Ao40 x140002_1.length co40) x140002_1 x4_1 x6_3 t141 w _ ?side1 ?side2 A36.out).mono ?_);(case side1=>repeat (first|(with_reducible first|exact HB.out|apply below_alloc|apply pw_below_drewN|apply below_drew1|refine below_set ?_ GE132.out|refine below_set ?_ GE139.out)|exact HB.out));(case side2=>exact Kd.R_tight rfl HO_140002.out);rintro e w41 ⟨rfl,hy0,hb,hkp⟩;refine ⟨_,rfl,?_⟩;have n0_:=Aside0.mk (Kd.R_reok rfl hy0 (fun k_ e_=>HO_140002.out.1 k_ e_));have n1_:=Aside0.mk (blk_kept (by (with_reducible repeat first|refine blk_drewN ?_ _|refine blk_alloc ?_ _);exact BK132.out) hkp (fun hs_=>(fun e_=>(Kd.R_ne HO_140002.out BK132.out (by decide)) e_) hs_));have n2_:=Aside0.mk (blk_kept (by (with_reducible repeat first|refine blk_drewN ?_ _|refine blk_alloc ?_ _);exact BK139.out) hkp (fun hs_=>(fun e_=>(Kd.R_ne HO_140002.out BK139.out (by decide)) e_) hs_));have n3_:=Aside0.mk (hb);clear HO_140002 BK132 BK139 HB;have HO_140002:=n0_;have BK132:=n1_;have BK139:=n2_;have HB:=n3_;clear n0_ n1_ n2_ n3_;(try clear hb);(try clear hkp);(try clear hy0);have hcz42_0 : w41.cell? ⟨gb139,0,none⟩ = some (.int .i64 a0_0):=(blk_cell BK139.out 0).trans rfl;have hcz42_1 : w41.cell? ⟨gb139,1,none⟩ = some (.int .i64 a0_1):=(blk_cell BK139.out 1).trans rfl;have hcz42_2 : w41.cell? ⟨gb139,2,none⟩ = some (.slice Ao40 x140002_1.length co40):=(blk_cell BK139.out 2).trans rfl;have hfz42_0:=blk_frozen BK139.out 0;have hfz42_1:=blk_frozen BK139.out 1;have hfz42_2:=blk_frozen BK139.out 2)|((with_reducible refine gate_callee (f:=69) rfl ?_);refine goesL_ (some 51) rfl rfl Try.func69 (by kernel_rfl) rfl #[.agg #[.int .i64 a0_0,.int .i64 a0_1,.slice Ao40 x140002_1.length co40],.int .i64 x4_1,.int .i64 x5_1] rfl (by (try simp only [List.map_toArray,List.map_cons,List.map_nil]);first|done|rfl) ?_;(with_reducible refine (spec_l03Clear.calls k3 a0_0 a0_1 (fun k_=>some k_ = (.slice Ao40 x140002_1.length co40 : Value).ownBlock) (.slice Ao40 x140002_1.length co40) t141 x4_1 x5_1 t142 w _ ?side1 ?side2 A37.out).mono ?_);(case side1=>repeat (first|(with_reducible first|exact HB.out|apply below_alloc|apply pw_below_drewN|apply below_drew1|refine below_set ?_ GE132.out|refine below_set ?_ GE139.out)|exact HB.out));(case side2=>exact Kd.R_tight rfl HO_140002.out);rintro e w43 ⟨rfl,hy0,hb,hkp⟩;refine ⟨_,rfl,?_⟩;have n0_:=Aside0.mk (Kd.R_reok rfl hy0 (fun k_ e_=>HO_140002.out.1 k_ e_));have n1_:=Aside0.mk (blk_kept (by (with_reducible repeat first|refine blk_drewN ?_ _|refine blk_alloc ?_ _);exact BK132.out) hkp (fun hs_=>(fun e_=>(Kd.R_ne HO_140002.out BK132.out (by decide)) e_) hs_));have n2_:=Aside0.mk (blk_kept (by (with_reducible repeat first|refine blk_drewN ?_ _|refine blk_alloc ?_ _);exact BK139.out) hkp (fun hs_=>(fun e_=>(Kd.R_ne HO_140002.out BK139.out (by decide)) e_) hs_));have n3_:=Aside0.mk (hb);clear HO_140002 BK132 BK139 HB;have HO_140002:=n0_;have BK132:=n1_;have BK139:=n2_;have HB:=n3_;clear n0_ n1_ n2_ n3_;(try clear hb);(try clear hkp);(try clear hy0)))
           go_roundg k3
           case measure=>have:=HK1.out;have:=HJ14.out;have:=HK3.out;omega
           case rel=>exact ⟨(wrap64 (x4_1 + 1)),(wrap64 (x5_1 + 1)),(t142),(.slice Ao40 x140002_1.length co40),(by first|rfl|(simp;done)|(simp [*];done)),(by first|rfl|(simp;done)|(simp [*];done)),H',⟨by have:=HK1.out;have:=HJ14.out;have:=HK3.out;omega⟩,⟨by (with_reducible repeat (first|apply Kd.R_alloc|apply Kd.R_drewN));exact HO_140002.out⟩,⟨by (with_reducible repeat first|refine blk_drewN ?_ _|refine blk_alloc ?_ _);exact BK132.out⟩,⟨by (with_reducible repeat first|refine blk_drewN ?_ _|refine blk_alloc ?_ _);exact BK139.out⟩,⟨by repeat (first|(with_reducible first|exact HB.out|apply below_alloc|apply pw_below_drewN|apply below_drew1|refine below_set ?_ GE132.out|refine below_set ?_ GE139.out)|exact HB.out)⟩⟩
      ·replace c21:=Bool.eq_false_iff.mpr c21
       subst c21
       have H1 : (some x4_1) = some r:=by rw [if_neg (show ¬ (false = true) by decide)] at H;exact H
       clear H
       have H:=H1
       clear H1
       obtain rfl:=Option.some.inj H
       go_wp2
       go_ret
       exact ⟨by first|rfl|(simp [errW_none,errW_some] <;> rfl)|(simp [*,errW_none,errW_some] <;> rfl),by repeat (first|(with_reducible first|exact HB.out|apply below_alloc|apply pw_below_drewN|apply below_drew1|refine below_set ?_ GE132.out|refine below_set ?_ GE139.out)|exact HB.out)⟩
 ·rw [if_neg c2] at H
  exact absurd H (by simp)

/-! ### spec_l03New: function 66 -/
def spec_l03New.f (a0 : Int) (a1 : Int) : Option (Int × Int × List Int):=if 0 ≤ (wrap64 (a0 * a1)) then (if (wrap64 (a0 * a1) : Int).toNat ≤ 35184372088832 then (some (a0,a1,(List.replicate (wrap64 (a0 * a1) : Int).toNat 0))) else (none)) else (none)
set_option maxHeartbeats 8000000 in
set_option maxRecDepth 100000 in
theorem spec_l03New.calls (a0 : Int) (a1 : Int) (r1 : Int) (r2 : Int) (r3 : List Int) (w : World) (h : spec_l03New.f a0 a1 = some (r1,r2,r3)) :
  Calls Try.prog 66 #[.int .i64 a0,.int .i64 a1] w fun e w'=>∃ v2_ : Value,e = .returned (.agg #[.int .i64 r1,.int .i64 r2,v2_]) ∧ Kd.R (Kd.int .i64) 2 w' w.heap.size (fun _=>True) v2_ r3 ∧ Below w.heap.size w w':=by
 have hu27:=Try.underlying27
 have HB:=Aside0.mk (Below.refl w.heap.size w)
 have H : (if 0 ≤ (wrap64 (a0 * a1)) then (if (wrap64 (a0 * a1) : Int).toNat ≤ 35184372088832 then (some (a0,a1,(List.replicate (wrap64 (a0 * a1) : Int).toNat 0))) else (none)) else (none)) = some (r1,r2,r3):=h
 clear h
 obtain ⟨ji3,hji3⟩ : ∃ j_ : Int,(wrap64 (a0 * a1)) = j_:=⟨_,rfl⟩
 replace H : (if 0 ≤ (ji3) then (if (ji3 : Int).toNat ≤ 35184372088832 then (some (a0,a1,(List.replicate (ji3 : Int).toNat 0))) else (none)) else (none)) = some (r1,r2,r3):=by first|(rw [hji3] at H;exact H)|(simp only [hji3] at H ⊢;exact H)
 have hji3w : (IntKind.i64.wrap (a0 * a1)) = ji3:=(i64_w _).trans hji3
 by_cases c4 : 0 ≤ (ji3)
 ·rw [if_pos c4] at H
  have c4b0:=eq_true c4
  have c4b1 : decide (0 ≤ (ji3)) = true:=decide_eq_true c4
  clear c4
  by_cases c5 : (ji3 : Int).toNat ≤ 35184372088832
  ·rw [if_pos c5] at H
   have c5b0:=eq_true c5
   have c5b1 : decide ((ji3 : Int).toNat ≤ 35184372088832) = true:=decide_eq_true c5
   clear c5
   obtain ⟨y144,hy144⟩ : ∃ y_ : List Int,y_ = (List.replicate (ji3 : Int).toNat 0):=⟨_,rfl⟩
   replace H : (some (a0,a1,y144)) = some (r1,r2,r3):=by first|(rw [hy144];with_reducible exact H)|(have H2_:=(Option.bind_some _ _).symm.trans H;rw [hy144];with_reducible exact H2_)|(have H2_:=(Option.bind_some _ _).symm.trans H;with_reducible exact H2_)|with_reducible exact H|(rw [hy144];exact H)|exact H
   have Ny144:=Aside0.mk hy144
   clear hy144
   simp only [Option.some.injEq,Prod.mk.injEq] at H
   obtain ⟨rfl,rfl,rfl⟩:=H
   go_enter Try.func66,Try.ntmps66
   go_wp2_with (first|((with_reducible refine gate_dst (N:=4) rfl ?_);refine box_event ?hg (N:=4) ?hd (cs:=#[.int .i64 0,.int .i64 0,.slice none 0 0]) (t:=27) ?hr ?_;(case hd=>rfl);(case hg=>rfl);(case hr=>first|(go_simp;done)|(go_simp;rfl));intro gb143 hg w6 hbox hb;have n0_:=Aside0.mk (below_step (by repeat (first|(with_reducible first|exact HB.out|apply below_alloc|apply pw_below_drewN|apply below_drew1)|exact HB.out)) hb);have n1_:=Aside0.mk (hbox);have n2_:=Aside0.mk ((by rw [hg];exact (below_size (by repeat (first|(with_reducible first|exact HB.out|apply below_alloc|apply pw_below_drewN|apply below_drew1)|exact HB.out))) : w.heap.size ≤ gb143));have n3_:=Aside0.mk ((by rw [hg];exact (below_size (by repeat (first|(with_reducible first|exact HB.out|apply below_alloc|apply pw_below_drewN|apply below_drew1)|exact HB.out))) : w.heap.size ≤ gb143));clear HB;have HB:=n0_;have BK143:=n1_;have GW143:=n2_;have GE143:=n3_;clear n0_ n1_ n2_ n3_ hb hbox hg)|((with_reducible refine gate_dst (N:=10) rfl ?_);refine Kd.R_make (Kd.int .i64) _ 2 rfl (N:=10) rfl 22 _ _ rfl ji3 rfl rfl Try.underlying22 (.int .i64 0) 8 info2 rfl (by decide) (by omega) 0 (ok:=fun _=>True) (okp:=fun _=>True) rfl (fun _ hk=>hk) trivial (of_decide_eq_true (by first|(with_reducible assumption)|assumption)) (Nat.le_trans (Nat.mul_le_mul_right _ (of_decide_eq_true (by first|(with_reducible assumption)|assumption) : ji3.toNat ≤ 35184372088832)) (by omega)) (Below.refl _ _) (Nat.le_refl _) ?_;intro v145 w7 ho8 hb hg_ hnew_;clear hg_ hnew_;(first|rw [← Ny144.out] at ho8|(simp only [Int.reduceToNat] at ho8;rw [← Ny144.out] at ho8));have n0_:=Aside0.mk (Kd.R_lower ho8 (below_size (by repeat (first|(with_reducible first|exact HB.out|apply below_alloc|apply pw_below_drewN|apply below_drew1|refine below_set ?_ GE143.out)|exact HB.out))));have n1_:=Aside0.mk (blk_below (g:=gb143) (o:=.cells #[.int .i64 0,.int .i64 0,.slice none 0 0] 27 (0,0)) (by (with_reducible repeat first|refine blk_drewN ?_ _|refine blk_alloc ?_ _);exact BK143.out) hb);have n2_:=Aside0.mk (below_step (by repeat (first|(with_reducible first|exact HB.out|apply below_alloc|apply pw_below_drewN|apply below_drew1|refine below_set ?_ GE143.out)|exact HB.out)) hb);clear BK143 HB;have HO146:=n0_;have BK143:=n1_;have HB:=n2_;clear n0_ n1_ n2_ hb ho8;obtain ⟨Ao9,co9,eo9⟩:=Kd.R_slice HO146.out;subst eo9;have hcz10_0 : w7.cell? ⟨gb143,0,none⟩ = some (.int .i64 0):=(blk_cell BK143.out 0).trans rfl;have hcz10_1 : w7.cell? ⟨gb143,1,none⟩ = some (.int .i64 0):=(blk_cell BK143.out 1).trans rfl;have hcz10_2 : w7.cell? ⟨gb143,2,none⟩ = some (.slice none 0 0):=(blk_cell BK143.out 2).trans rfl;have hfz10_0:=blk_frozen BK143.out 0;have hfz10_1:=blk_frozen BK143.out 1;have hfz10_2:=blk_frozen BK143.out 2))
   refine bodyPost_ret (results_cell_row rfl _ _ gb143 27 #[.int .i64 a0,.int .i64 a1,.slice Ao9 y144.length co9] (0,0) _ rfl (by (with_reducible repeat first|refine blk_drewN ?_ _|refine blk_alloc ?_ _);refine blk_put (cs:=#[.int .i64 a0,.int .i64 a1,.slice none 0 0]) ?_ 2 _ rfl;(with_reducible repeat first|refine blk_drewN ?_ _|refine blk_alloc ?_ _);refine blk_put (cs:=#[.int .i64 a0,.int .i64 0,.slice none 0 0]) ?_ 1 _ rfl;(with_reducible repeat first|refine blk_drewN ?_ _|refine blk_alloc ?_ _);refine blk_put (cs:=#[.int .i64 0,.int .i64 0,.slice none 0 0]) ?_ 0 _ rfl;(with_reducible repeat first|refine blk_drewN ?_ _|refine blk_alloc ?_ _);exact BK143.out) Try.underlying27 rfl (by kernel_rfl)) rfl ?_
   exact ⟨_,by first|rfl|(simp [errW_none,errW_some] <;> rfl)|(simp only [← hji3];first|rfl|(simp [errW_none,errW_some] <;> rfl))|(simp [*,errW_none,errW_some] <;> rfl),by (with_reducible repeat (first|apply Kd.R_alloc|apply Kd.R_drewN));exact Kd.R_mono (Kd.R_far (p:=⟨gb143,2,none⟩) (Kd.R_far (p:=⟨gb143,1,none⟩) (Kd.R_far (p:=⟨gb143,0,none⟩) (Kd.R_types HO146.out BK143.out (by decide)) (fun _ hk=>hk.2) (.int .i64 a0)) (fun _ hk=>hk.2) (.int .i64 a1)) (fun _ hk=>hk.2) (.slice Ao9 y144.length co9)) (fun _ hk=>trivial),by repeat (first|(with_reducible first|exact HB.out|apply below_alloc|apply pw_below_drewN|apply below_drew1|refine below_set ?_ GE143.out)|exact HB.out)⟩
  ·rw [if_neg c5] at H
   exact absurd H (by simp)
 ·rw [if_neg c4] at H
  exact absurd H (by simp)

end Go.Proofs.Ytffhbpepppodeaa.PFnInverse
