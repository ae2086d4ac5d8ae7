import Derived.Test.YtffhbpepppodeaaPFnExactDecodeShardsx0
import Derived.Test.YtffhbpepppodeaaPFnExactDecodeShardsx5
import Derived.Test.YtffhbpepppodeaaPFnExactDecodeShardsx6
import Derived.Test.YtffhbpepppodeaaPFnExactDecodeShardsx7
namespace Go.Proofs.Ytffhbpepppodeaa.PFnExactDecodeShards
private theorem nn {α : Type} {c : Prop} [Decidable c] {a : Option α} {r : α} (h : (if c then a else none) = some r) : c ∧ a = some r:=by
 split at h
 ·exact ⟨‹c›,h⟩
 ·cases h
open Go.RowKit Go.Proofs.YtffhbpepppodeaaW.PrintWords Go.Proofs.YtffhbpepppodeaaW.PrintLast Go.Proofs.YtffhbpepppodeaaW.PrintMore
attribute [local go_sem] max2_int min2_int max_two min_two max_three min_three max_four min_four   -- for this text's walks alone
set_option linter.unusedVariables false
set_option linter.unusedSimpArgs false

/-! ### spec_l03Rank: function 59 -/
mutual
def spec_l03Rank.l0 : Nat → Int → Int → Int → Int → List Int → Option (Int)
 | 0,_,_,_,_,_=>none
 | k + 1,x4,x5,x203000,x203001,x203002=>if x5 < x203001 then (spec_l03Rank.j1 k x4 x5 (decide (x4 < x203000)) x203000 x203001 x203002) else (spec_l03Rank.j1 k x4 x5 false x203000 x203001 x203002)
def spec_l03Rank.j1 : Nat → Int → Int → Bool → Int → Int → List Int → Option (Int)
 | 0,_,_,_,_,_,_=>none
 | k + 1,x4,x5,x26,x203000,x203001,x203002=>if x26 = true then (spec_l03Rank.l1 k x4 x5 (-1) x4 x203000 x203001 x203002) else (some x4)
def spec_l03Rank.l1 : Nat → Int → Int → Int → Int → Int → Int → List Int → Option (Int)
 | 0,_,_,_,_,_,_,_=>none
 | k + 1,x4,x5,x6,x7,x203000,x203001,x203002=>if x7 < x203000 then ((spec_l03At.f x203000 x203001 x203002 x7 x5).bind fun t203=>(if t203 = 0 then (spec_l03Rank.l1 k x4 x5 x6 (wrap64 (x7 + 1)) x203000 x203001 x203002) else (spec_l03Rank.l1 k x4 x5 x7 (wrap64 (x7 + 1)) x203000 x203001 x203002))) else (if x6 < 0 then (spec_l03Rank.l0 k x4 (wrap64 (x5 + 1)) x203000 x203001 x203002) else ((spec_l03Swap.f k x203000 x203001 x203002 x4 x6).bind fun t204=>((spec_l03Clear.f k x203000 x203001 t204 x4 x5).bind fun t205=>(spec_l03Rank.l0 k (wrap64 (x4 + 1)) (wrap64 (x5 + 1)) x203000 x203001 t205))))
end
def spec_l03Rank.f (k : Nat) (a0_0 : Int) (a0_1 : Int) (l0_2 : List Int) : Option (Int):=(some (([] : List Int) : List Int)).bind fun y196=>(if y196.length + l0_2.length < 17592186044416 then (spec_l03Rank.l0 k 0 0 a0_0 a0_1 (y196 ++ l0_2)) else (none))
def spec_l03Rank.T1 : Bool × List (List Nat × List Nat):=(true,[([],[]),([0],[0]),([],[]),([2],[2]),([],[]),([],[]),([5],[5]),([4,6],[4,6]),([1,3,7],[1,3,7]),([],[]),([9,8,7,0,1,2,3,4,5,6,7,8,9],[8,9])])
def spec_l03Rank.B1 : List Nat:=[0,1,0,4,0,0,32,112,255,0,1023]
theorem spec_l03Rank.tab1 : rtab .any (opsOf Try.f59 1) = spec_l03Rank.T1:=by kernel_rfl
theorem spec_l03Rank.bits1 : waitsOk spec_l03Rank.T1.2 spec_l03Rank.B1 = true:=by kernel_rfl
set_option maxHeartbeats 8000000 in
set_option maxRecDepth 100000 in
theorem spec_l03Rank.calls (k : Nat) (a0_0 : Int) (a0_1 : Int) (A0_2 : Option Addr) (c0_2 : Nat) (l0_2 : List Int) (r : Int) (w : World) (hr0_2 : Kd.C (Kd.int .i64) w A0_2 l0_2.length l0_2) (hc0_2 : l0_2.length ≤ c0_2) (h : spec_l03Rank.f k a0_0 a0_1 l0_2 = some r) :
  Calls Try.prog 59 #[.agg #[.int .i64 a0_0,.int .i64 a0_1,.slice A0_2 l0_2.length c0_2]] w fun e w'=>e = .returned (.int .i64 r) ∧ Below w.heap.size w w':=by
 have hu27:=Try.underlying27
 have HR0_2:=Aside0.mk hr0_2
 have HC0_2:=Aside0.mk hc0_2
 clear hr0_2 hc0_2
 have HB:=Aside0.mk (Below.refl w.heap.size w)
 have H : ((some (([] : List Int) : List Int)).bind fun y196=>(if y196.length + l0_2.length < 17592186044416 then (spec_l03Rank.l0 k 0 0 a0_0 a0_1 (y196 ++ l0_2)) else (none))) = some r:=h
 clear h
 obtain ⟨y196,hy196⟩ : ∃ y_ : List Int,y_ = (([] : List Int)):=⟨_,rfl⟩
 replace H : (if y196.length + l0_2.length < 17592186044416 then (spec_l03Rank.l0 k 0 0 a0_0 a0_1 (y196 ++ l0_2)) else (none)) = some r:=by (have H2_:=(Option.bind_some _ _).symm.trans H;rw [hy196];with_reducible exact H2_)
 have Ny196:=Aside0.mk hy196
 clear hy196
 obtain ⟨c2,H⟩:=nn H
 have LMc2:=Aside0.mk c2
 clear c2
 obtain ⟨y199,hy199⟩ : ∃ y_ : List Int,y_ = (y196 ++ l0_2):=⟨_,rfl⟩
 rw [← hy199] at H
 have Ny199:=Aside0.mk hy199
 clear hy199
 have H':=Aside0.mk H
 clear H
 go_enter Try.func59,Try.ntmps59
 try go_wp2_with (((with_reducible refine gate_dst (N:=1) rfl ?_);refine box_event ?hg (N:=1) ?hd (cs:=#[.int .i64 a0_0,.int .i64 a0_1,.slice A0_2 l0_2.length c0_2]) (t:=27) ?hr ?_;(case hd=>rfl);(case hg=>rfl);(case hr=>(go_simp;done));intro gb195 hg w3 hbox hb;have BK195:=Aside0.mk (hbox);have GW195:=Aside0.mk ((by rw [hg];exact (below_size HB.out) : w.heap.size ≤ gb195));have GE195:=Aside0.mk ((by rw [hg];exact (below_size HB.out) : w.heap.size ≤ gb195));replace HB:=Aside0.mk (below_step HB.out hb);clear hb hbox hg))
 replace BK195:=Aside0.mk (blk_drew BK195.out)
 replace HB:=Aside0.mk (below_drew1 HB.out)
 refine start_ (n:=11) (S:=fun w'=>w'.cell? ⟨gb195,0,none⟩ = some (.int .i64 a0_0) ∧ w'.cell? ⟨gb195,1,none⟩ = some (.int .i64 a0_1) ∧ w'.cell? ⟨gb195,2,none⟩ = some (.slice A0_2 l0_2.length c0_2)) (ds:=[]) #[false,false,false,false,false,false,false,false,false,false,false] (by kernel_rfl) rfl rfl ⟨(blk_cell BK195.out 0).trans rfl,(blk_cell BK195.out 1).trans rfl,(blk_cell BK195.out 2).trans rfl⟩ (fun hHeld=>?_);refine with_tabW spec_l03Rank.tab1 spec_l03Rank.bits1 (fun HT_ HW_=>?_)
 generalize w3.drew = w4 at BK195 HB hHeld ⊢
 refine pure_ (i:=0) (N:=some 8) #[true,false,false,false,false,false,false,false,false,false,false] rfl rfl (any_of HT_.out (by kernel_rfl)) (fun _ _ _ h=>h) (Or.inl ⟨by rfl,by intro w';go_simp;with_reducible rfl⟩) (by simp only [Act.put,List.setIfInBounds_toArray,List.set_cons_zero,List.set_cons_succ,i64_w,i32_w];rfl) ?_
 refine pure_ (i:=2) (N:=some 10) #[true,false,true,false,false,false,false,false,false,false,false] rfl rfl (any_of HT_.out (by kernel_rfl)) (fun _ _ _ h=>h) (Or.inl ⟨by rfl,by intro w';go_simp;with_reducible rfl⟩) (by simp only [Act.put,List.setIfInBounds_toArray,List.set_cons_zero,List.set_cons_succ,i64_w,i32_w];rfl) ?_
 refine pure_ (i:=5) (N:=some 13) #[true,false,true,false,false,true,false,false,false,false,false] rfl rfl (any_of HT_.out (by kernel_rfl)) (fun _ _ _ h=>h) (Or.inl ⟨by rfl,by intro w';go_simp;with_reducible rfl⟩) (by simp only [Act.put,List.setIfInBounds_toArray,List.set_cons_zero,List.set_cons_succ,i64_w,i32_w];rfl) ?_
 refine take_ (i:=1) (N:=some 9) #[true,true,true,false,false,true,false,false,false,false,false] rfl rfl (take_ofW HT_.out HW_.out (by kernel_rfl)) (fun _ _ _ h=>h) (Or.inl ⟨by rfl,by rintro w' ⟨s0,s1,s2⟩;go_simp;with_reducible rfl⟩) hHeld (by simp only [Act.put,List.setIfInBounds_toArray,List.set_cons_zero,List.set_cons_succ,i64_w,i32_w];rfl) ?_
 refine take_ (i:=3) (N:=some 11) #[true,true,true,true,false,true,false,false,false,false,false] rfl rfl (take_ofW HT_.out HW_.out (by kernel_rfl)) (fun _ _ _ h=>h) (Or.inl ⟨by rfl,by rintro w' ⟨s0,s1,s2⟩;go_simp;with_reducible rfl⟩) hHeld (by simp only [Act.put,List.setIfInBounds_toArray,List.set_cons_zero,List.set_cons_succ,i64_w,i32_w];rfl) ?_
 refine take_ (i:=6) (N:=some 14) #[true,true,true,true,false,true,true,false,false,false,false] rfl rfl (take_ofW HT_.out HW_.out (by kernel_rfl)) (fun _ _ _ h=>h) (Or.inl ⟨by rfl,by rintro w' ⟨s0,s1,s2⟩;go_simp;with_reducible rfl⟩) hHeld (by simp only [Act.put,List.setIfInBounds_toArray,List.set_cons_zero,List.set_cons_succ,i64_w,i32_w];rfl) ?_
 refine join_ (σ:=Value × Value × Nat) 1 #[true,true,true,true,true,true,true,true,true,true,false] (fun s_=>[(12,s_.1),(15,s_.2.1),(3,.pointer (some ⟨s_.2.2,0,none⟩)),(16,.agg #[.int .i64 a0_0,.int .i64 a0_1,s_.2.1])]) (fun s_ w'=>(w'.cell? ⟨gb195,0,none⟩ = some (.int .i64 a0_0) ∧ w'.cell? ⟨gb195,1,none⟩ = some (.int .i64 a0_1) ∧ w'.cell? ⟨gb195,2,none⟩ = some (.slice A0_2 l0_2.length c0_2)) ∧ (Kd.R (Kd.int .i64) 2 w' w.heap.size (fun _=>True) s_.2.1 y199) ∧ (w'.heap[gb195]? = some (.cells #[.int .i64 a0_0,.int .i64 a0_1,.slice A0_2 l0_2.length c0_2] 27 (0,0))) ∧ (w'.heap[s_.2.2]? = some (.cells #[.int .i64 0,.int .i64 0,.slice none 0 0] 27 (0,0))) ∧ (w.heap.size ≤ s_.2.2) ∧ (w.heap.size ≤ s_.2.2) ∧ (gb195 ≠ s_.2.2) ∧ (s_.2.2 ≠ gb195) ∧ (Below w.heap.size w w')) ?_ ?_
 rotate_left
 ·intro hCont
  refine two_ (i:=4) (j:=9) (Ni:=some 12) (Nj:=some 3) #[true,true,true,true,true,true,true,false,false,false,false] #[true,true,true,true,false,true,true,false,false,true,false] rfl rfl rfl rfl (two_of HT_.out (by kernel_rfl)) (by decide) (by decide) (fun K hK=>?_) (fun K hK=>?_)
  ·skip
   refine Kd.R_lit_step (Kd.int .i64) _ 2 ?hg (N:=12) ?hd (xs:=([] : List Int)) (inner:=[]) (ok:=fun _=>True) (okp:=fun _=>True) ?hr ?hp (fun _ hk=>hk) trivial (Below.refl _ _) (Nat.le_refl _) (by simp) ?_;(case hd=>rfl);(case hg=>rfl);(case hr=>(go_simp;done));(case hp=>exact (Reps.none _ _))
   intro v197 w5 ho6 hb hg_ hnew_
   clear hg_ hnew_
   (rw [← Ny196.out] at ho6)
   have HO198:=Aside0.mk (Kd.R_lower ho6 (below_size HB.out))
   replace BK195:=Aside0.mk (blk_below BK195.out hb)
   replace HB:=Aside0.mk (below_step HB.out hb)
   clear hb ho6
   refine hK.out _ _ ⟨(blk_cell BK195.out 0).trans rfl,(blk_cell BK195.out 1).trans rfl,(blk_cell BK195.out 2).trans rfl⟩ (fun hHeld=>?_)
   clear hK K
   refine norm_ (a':=?_) ?_ ?_
   rotate_left
   ·show Act.put _ (some 12) _ = _
    simp only [Act.put,List.setIfInBounds_toArray,List.set_cons_zero,List.set_cons_succ,i64_w,i32_w]
    rfl
   refine two_ (i:=7) (j:=9) (Ni:=some 15) (Nj:=some 3) #[true,true,true,true,true,true,true,true,false,false,false] #[true,true,true,true,true,true,true,false,false,true,false] rfl rfl rfl rfl (two_of HT_.out (by kernel_rfl)) (by decide) (by decide) (fun K hK=>?_) (fun K hK=>?_)
   ·skip
    refine Kd.R_append_rows_step (Kd.int .i64) (w0:=w) w.heap.size (by rfl) (.tmp 12) (.tmp 14) 22 2 (.int .i64 0) 8 rfl Try.underlying22 info2 rfl (by decide) (by omega) v197 y196 l0_2 _ _ _ (fun _=>True) (fun _=>False) rfl rfl ?aO ?aR (fun _ _ h=>h) (fun _ h=>h.elim) ?aF ?aB ?aS ?aL ?_
    (case aR=>exact (Kd.C_below HR0_2.out HB.out))
    (case aB=>exact HB.out)
    (case aF=>exact (fun _ _=>trivial))
    (case aO=>exact HO198.out)
    (case aS=>exact (below_size HB.out))
    (case aL=>have:=LMc2.out;omega)
    intro v200 w7 ho hb hg hat
    rw [← Ny199.out] at ho
    have n0_:=Aside0.mk (blk_grown (g:=gb195) (o:=.cells #[.int .i64 a0_0,.int .i64 a0_1,.slice A0_2 l0_2.length c0_2] 27 (0,0)) BK195.out hg (Kd.R_ne HO198.out BK195.out (by decide)))
    have n1_:=Aside0.mk (hb)
    have n2_:=Aside0.mk (ho)
    clear BK195 HB HO198
    have BK195:=n0_
    have HB:=n1_
    have HO201:=n2_
    clear n0_ n1_ n2_ ho hb hg hat
    obtain ⟨Ao8,co8,eo8⟩:=Kd.R_slice HO201.out
    (subst eo8)
    refine hK.out _ _ ⟨(blk_cell BK195.out 0).trans rfl,(blk_cell BK195.out 1).trans rfl,(blk_cell BK195.out 2).trans rfl⟩ (fun hHeld=>?_)
    clear hK K
    refine norm_ (a':=?_) ?_ ?_
    rotate_left
    ·show Act.put _ (some 15) _ = _
     simp only [Act.put,List.setIfInBounds_toArray,List.set_cons_zero,List.set_cons_succ,i64_w,i32_w]
     rfl
    refine pure_ (i:=8) (N:=some 16) #[true,true,true,true,true,true,true,true,true,false,false] rfl rfl (any_of HT_.out (by kernel_rfl)) (fun _ _ _ h=>h) (Or.inl ⟨by rfl,by intro w';go_simp;with_reducible rfl⟩) (by simp only [Act.put,List.setIfInBounds_toArray,List.set_cons_zero,List.set_cons_succ,i64_w,i32_w];rfl) ?_
    refine one_ (i:=9) (N:=some 3) #[true,true,true,true,true,true,true,true,true,true,false] rfl rfl (one_of HT_.out (by kernel_rfl)) (by decide) (fun K hK=>?_)
    refine box_step ?hg (N:=3) ?hd (cs:=#[.int .i64 0,.int .i64 0,.slice none 0 0]) (t:=27) ?hr ?_;(case hd=>rfl);(case hg=>rfl);(case hr=>(go_simp;done))
    intro gb202 hg w9 hbox hb
    replace HO201:=Aside0.mk (Kd.R_below HO201.out hb)
    have BK202:=Aside0.mk (hbox)
    have GW202:=Aside0.mk ((by rw [hg];exact (below_size HB.out) : w.heap.size ≤ gb202))
    have GE202:=Aside0.mk ((by rw [hg];exact (below_size HB.out) : w.heap.size ≤ gb202))
    replace HB:=Aside0.mk (below_step HB.out hb)
    have NB195_202:=Aside0.mk ((by rw [hg];exact Nat.ne_of_lt (blk_lt BK195.out) : gb195 ≠ gb202))
    have NB202_195:=Aside0.mk ((by rw [hg];exact Nat.ne_of_gt (blk_lt BK195.out) : gb202 ≠ gb195))
    replace BK195:=Aside0.mk (blk_below BK195.out hb)
    clear hb hbox hg
    refine hK.out _ _ ⟨(blk_cell BK195.out 0).trans rfl,(blk_cell BK195.out 1).trans rfl,(blk_cell BK195.out 2).trans rfl⟩ (fun hHeld=>?_)
    clear hK K
    refine norm_ (a':=?_) ?_ ?_
    rotate_left
    ·show Act.put _ (some 3) _ = _
     simp only [Act.put,List.setIfInBounds_toArray,List.set_cons_zero,List.set_cons_succ,i64_w,i32_w]
     rfl
    exact norm_ (by simp only [putAll,Act.put,List.setIfInBounds_toArray,List.set_cons_zero,List.set_cons_succ]) (hCont (v197,.slice Ao8 y199.length co8,gb202) _ ⟨hHeld,HO201.out,BK195.out,BK202.out,GW202.out,GE202.out,NB195_202.out,NB202_195.out,HB.out⟩)
   ·skip
    refine box_step ?hg (N:=3) ?hd (cs:=#[.int .i64 0,.int .i64 0,.slice none 0 0]) (t:=27) ?hr ?_;(case hd=>rfl);(case hg=>rfl);(case hr=>(go_simp;done))
    intro gb202 hg w7 hbox hb
    replace HO198:=Aside0.mk (Kd.R_below HO198.out hb)
    have BK202:=Aside0.mk (hbox)
    have GW202:=Aside0.mk ((by rw [hg];exact (below_size HB.out) : w.heap.size ≤ gb202))
    have GE202:=Aside0.mk ((by rw [hg];exact (below_size HB.out) : w.heap.size ≤ gb202))
    replace HB:=Aside0.mk (below_step HB.out hb)
    have NB195_202:=Aside0.mk ((by rw [hg];exact Nat.ne_of_lt (blk_lt BK195.out) : gb195 ≠ gb202))
    have NB202_195:=Aside0.mk ((by rw [hg];exact Nat.ne_of_gt (blk_lt BK195.out) : gb202 ≠ gb195))
    replace BK195:=Aside0.mk (blk_below BK195.out hb)
    clear hb hbox hg
    refine hK.out _ _ ⟨(blk_cell BK195.out 0).trans rfl,(blk_cell BK195.out 1).trans rfl,(blk_cell BK195.out 2).trans rfl⟩ (fun hHeld=>?_)
    clear hK K
    refine norm_ (a':=?_) ?_ ?_
    rotate_left
    ·show Act.put _ (some 3) _ = _
     simp only [Act.put,List.setIfInBounds_toArray,List.set_cons_zero,List.set_cons_succ,i64_w,i32_w]
     rfl
    refine one_ (i:=7) (N:=some 15) #[true,true,true,true,true,true,true,true,false,true,false] rfl rfl (one_of HT_.out (by kernel_rfl)) (by decide) (fun K hK=>?_)
    refine Kd.R_append_rows_step (Kd.int .i64) (w0:=w) w.heap.size (by rfl) (.tmp 12) (.tmp 14) 22 2 (.int .i64 0) 8 rfl Try.underlying22 info2 rfl (by decide) (by omega) v197 y196 l0_2 _ _ _ (fun _=>True) (fun _=>False) rfl rfl ?aO ?aR (fun _ _ h=>h) (fun _ h=>h.elim) ?aF ?aB ?aS ?aL ?_
    (case aR=>exact (Kd.C_below HR0_2.out HB.out))
    (case aB=>exact HB.out)
    (case aF=>exact (fun _ _=>trivial))
    (case aO=>exact HO198.out)
    (case aS=>exact (below_size HB.out))
    (case aL=>have:=LMc2.out;omega)
    intro v200 w8 ho hb hg hat
    rw [← Ny199.out] at ho
    have n0_:=Aside0.mk (blk_grown (g:=gb195) (o:=.cells #[.int .i64 a0_0,.int .i64 a0_1,.slice A0_2 l0_2.length c0_2] 27 (0,0)) BK195.out hg (Kd.R_ne HO198.out BK195.out (by decide)))
    have n1_:=Aside0.mk (blk_grown (g:=gb202) (o:=.cells #[.int .i64 0,.int .i64 0,.slice none 0 0] 27 (0,0)) BK202.out hg (Kd.R_ne HO198.out BK202.out (by decide)))
    have n2_:=Aside0.mk (hb)
    have n3_:=Aside0.mk (ho)
    clear BK195 BK202 HB HO198
    have BK195:=n0_
    have BK202:=n1_
    have HB:=n2_
    have HO201:=n3_
    clear n0_ n1_ n2_ n3_ ho hb hg hat
    obtain ⟨Ao9,co9,eo9⟩:=Kd.R_slice HO201.out
    (subst eo9)
    refine hK.out _ _ ⟨(blk_cell BK195.out 0).trans rfl,(blk_cell BK195.out 1).trans rfl,(blk_cell BK195.out 2).trans rfl⟩ (fun hHeld=>?_)
    clear hK K
    refine norm_ (a':=?_) ?_ ?_
    rotate_left
    ·show Act.put _ (some 15) _ = _
     simp only [Act.put,List.setIfInBounds_toArray,List.set_cons_zero,List.set_cons_succ,i64_w,i32_w]
     rfl
    refine pure_ (i:=8) (N:=some 16) #[true,true,true,true,true,true,true,true,true,true,false] rfl rfl (any_of HT_.out (by kernel_rfl)) (fun _ _ _ h=>h) (Or.inl ⟨by rfl,by intro w';go_simp;with_reducible rfl⟩) (by simp only [Act.put,List.setIfInBounds_toArray,List.set_cons_zero,List.set_cons_succ,i64_w,i32_w];rfl) ?_
    exact norm_ (by simp only [putAll,Act.put,List.setIfInBounds_toArray,List.set_cons_zero,List.set_cons_succ]) (hCont (v197,.slice Ao9 y199.length co9,gb202) _ ⟨hHeld,HO201.out,BK195.out,BK202.out,GW202.out,GE202.out,NB195_202.out,NB202_195.out,HB.out⟩)
  ·skip
   refine box_step ?hg (N:=3) ?hd (cs:=#[.int .i64 0,.int .i64 0,.slice none 0 0]) (t:=27) ?hr ?_;(case hd=>rfl);(case hg=>rfl);(case hr=>(go_simp;done))
   intro gb202 hg w5 hbox hb
   have BK202:=Aside0.mk (hbox)
   have GW202:=Aside0.mk ((by rw [hg];exact (below_size HB.out) : w.heap.size ≤ gb202))
   have GE202:=Aside0.mk ((by rw [hg];exact (below_size HB.out) : w.heap.size ≤ gb202))
   replace HB:=Aside0.mk (below_step HB.out hb)
   have NB195_202:=Aside0.mk ((by rw [hg];exact Nat.ne_of_lt (blk_lt BK195.out) : gb195 ≠ gb202))
   have NB202_195:=Aside0.mk ((by rw [hg];exact Nat.ne_of_gt (blk_lt BK195.out) : gb202 ≠ gb195))
   replace BK195:=Aside0.mk (blk_below BK195.out hb)
   clear hb hbox hg
   refine hK.out _ _ ⟨(blk_cell BK195.out 0).trans rfl,(blk_cell BK195.out 1).trans rfl,(blk_cell BK195.out 2).trans rfl⟩ (fun hHeld=>?_)
   clear hK K
   refine norm_ (a':=?_) ?_ ?_
   rotate_left
   ·show Act.put _ (some 3) _ = _
    simp only [Act.put,List.setIfInBounds_toArray,List.set_cons_zero,List.set_cons_succ,i64_w,i32_w]
    rfl
   refine one_ (i:=4) (N:=some 12) #[true,true,true,true,true,true,true,false,false,true,false] rfl rfl (one_of HT_.out (by kernel_rfl)) (by decide) (fun K hK=>?_)
   refine Kd.R_lit_step (Kd.int .i64) _ 2 ?hg (N:=12) ?hd (xs:=([] : List Int)) (inner:=[]) (ok:=fun _=>True) (okp:=fun _=>True) ?hr ?hp (fun _ hk=>hk) trivial (Below.refl _ _) (Nat.le_refl _) (by simp) ?_;(case hd=>rfl);(case hg=>rfl);(case hr=>(go_simp;done));(case hp=>exact (Reps.none _ _))
   intro v197 w6 ho7 hb hg_ hnew_
   clear hg_ hnew_
   (rw [← Ny196.out] at ho7)
   have HO198:=Aside0.mk (Kd.R_lower ho7 (below_size HB.out))
   replace BK195:=Aside0.mk (blk_below BK195.out hb)
   replace BK202:=Aside0.mk (blk_below BK202.out hb)
   replace HB:=Aside0.mk (below_step HB.out hb)
   clear hb ho7
   refine hK.out _ _ ⟨(blk_cell BK195.out 0).trans rfl,(blk_cell BK195.out 1).trans rfl,(blk_cell BK195.out 2).trans rfl⟩ (fun hHeld=>?_)
   clear hK K
   refine norm_ (a':=?_) ?_ ?_
   rotate_left
   ·show Act.put _ (some 12) _ = _
    simp only [Act.put,List.setIfInBounds_toArray,List.set_cons_zero,List.set_cons_succ,i64_w,i32_w]
    rfl
   refine one_ (i:=7) (N:=some 15) #[true,true,true,true,true,true,true,true,false,true,false] rfl rfl (one_of HT_.out (by kernel_rfl)) (by decide) (fun K hK=>?_)
   refine Kd.R_append_rows_step (Kd.int .i64) (w0:=w) w.heap.size (by rfl) (.tmp 12) (.tmp 14) 22 2 (.int .i64 0) 8 rfl Try.underlying22 info2 rfl (by decide) (by omega) v197 y196 l0_2 _ _ _ (fun _=>True) (fun _=>False) rfl rfl ?aO ?aR (fun _ _ h=>h) (fun _ h=>h.elim) ?aF ?aB ?aS ?aL ?_
   (case aR=>exact (Kd.C_below HR0_2.out HB.out))
   (case aB=>exact HB.out)
   (case aF=>exact (fun _ _=>trivial))
   (case aO=>exact HO198.out)
   (case aS=>exact (below_size HB.out))
   (case aL=>have:=LMc2.out;omega)
   intro v200 w8 ho hb hg hat
   rw [← Ny199.out] at ho
   have n0_:=Aside0.mk (blk_grown (g:=gb195) (o:=.cells #[.int .i64 a0_0,.int .i64 a0_1,.slice A0_2 l0_2.length c0_2] 27 (0,0)) BK195.out hg (Kd.R_ne HO198.out BK195.out (by decide)))
   have n1_:=Aside0.mk (blk_grown (g:=gb202) (o:=.cells #[.int .i64 0,.int .i64 0,.slice none 0 0] 27 (0,0)) BK202.out hg (Kd.R_ne HO198.out BK202.out (by decide)))
   have n2_:=Aside0.mk (hb)
   have n3_:=Aside0.mk (ho)
   clear BK195 BK202 HB HO198
   have BK195:=n0_
   have BK202:=n1_
   have HB:=n2_
   have HO201:=n3_
   clear n0_ n1_ n2_ n3_ ho hb hg hat
   obtain ⟨Ao9,co9,eo9⟩:=Kd.R_slice HO201.out
   (subst eo9)
   refine hK.out _ _ ⟨(blk_cell BK195.out 0).trans rfl,(blk_cell BK195.out 1).trans rfl,(blk_cell BK195.out 2).trans rfl⟩ (fun hHeld=>?_)
   clear hK K
   refine norm_ (a':=?_) ?_ ?_
   rotate_left
   ·show Act.put _ (some 15) _ = _
    simp only [Act.put,List.setIfInBounds_toArray,List.set_cons_zero,List.set_cons_succ,i64_w,i32_w]
    rfl
   refine pure_ (i:=8) (N:=some 16) #[true,true,true,true,true,true,true,true,true,true,false] rfl rfl (any_of HT_.out (by kernel_rfl)) (fun _ _ _ h=>h) (Or.inl ⟨by rfl,by intro w';go_simp;with_reducible rfl⟩) (by simp only [Act.put,List.setIfInBounds_toArray,List.set_cons_zero,List.set_cons_succ,i64_w,i32_w];rfl) ?_
   exact norm_ (by simp only [putAll,Act.put,List.setIfInBounds_toArray,List.set_cons_zero,List.set_cons_succ]) (hCont (v197,.slice Ao9 y199.length co9,gb202) _ ⟨hHeld,HO201.out,BK195.out,BK202.out,GW202.out,GE202.out,NB195_202.out,NB202_195.out,HB.out⟩)
 rintro ⟨v197,v200,gb202⟩ w10 ⟨hS_,h0_,h1_,h2_,h3_,h4_,h5_,h6_,h7_⟩
 have n0_ : Aside0 (Kd.R (Kd.int .i64) 2 w10 w.heap.size (fun _=>True) v200 y199):=⟨h0_⟩
 have n1_ : Aside0 (w10.heap[gb195]? = some (.cells #[.int .i64 a0_0,.int .i64 a0_1,.slice A0_2 l0_2.length c0_2] 27 (0,0))):=⟨h1_⟩
 have n2_ : Aside0 (w10.heap[gb202]? = some (.cells #[.int .i64 0,.int .i64 0,.slice none 0 0] 27 (0,0))):=⟨h2_⟩
 have n3_ : Aside0 (w.heap.size ≤ gb202):=⟨h3_⟩
 have n4_ : Aside0 (w.heap.size ≤ gb202):=⟨h4_⟩
 have n5_ : Aside0 (gb195 ≠ gb202):=⟨h5_⟩
 have n6_ : Aside0 (gb202 ≠ gb195):=⟨h6_⟩
 have n7_ : Aside0 (Below w.heap.size w w10):=⟨h7_⟩
 clear BK195 HB h0_ h1_ h2_ h3_ h4_ h5_ h6_ h7_
 have HO201:=n0_
 have BK195:=n1_
 have BK202:=n2_
 have GW202:=n3_
 have GE202:=n4_
 have NB195_202:=n5_
 have NB202_195:=n6_
 have HB:=n7_
 clear n0_ n1_ n2_ n3_ n4_ n5_ n6_ n7_
 have hHeld : w10.cell? ⟨gb195,0,none⟩ = some (.int .i64 a0_0) ∧ w10.cell? ⟨gb195,1,none⟩ = some (.int .i64 a0_1) ∧ w10.cell? ⟨gb195,2,none⟩ = some (.slice A0_2 l0_2.length c0_2):=hS_
 obtain ⟨Ao11,co11,eo11⟩:=Kd.R_slice HO201.out
 (subst eo11)
 refine norm_ (a':=?_) ?_ ?_
 rotate_left
 ·simp only [putAll,Act.put,List.setIfInBounds_toArray,List.set_cons_zero,List.set_cons_succ]
  rfl
 refine one_ (i:=10) (N:=none) #[true,true,true,true,true,true,true,true,true,true,true] rfl rfl (one_of HT_.out (by kernel_rfl)) (by decide) (fun K hK=>?_)
 have hs12 : w10.cell? ⟨gb202,0,none⟩ = some (.int .i64 0):=(blk_cell BK202.out 0).trans rfl
 have hfs12:=blk_frozen BK202.out 0
 have hns12_0:=NB195_202.out
 have hms12_0:=NB202_195.out
 have hs13 : w10.cell? ⟨gb202,1,none⟩ = some (.int .i64 0):=(blk_cell BK202.out 1).trans rfl
 have hfs13:=blk_frozen BK202.out 1
 have hns13_0:=NB195_202.out
 have hms13_0:=NB202_195.out
 have hs14 : w10.cell? ⟨gb202,2,none⟩ = some (.slice none 0 0):=(blk_cell BK202.out 2).trans rfl
 have hfs14:=blk_frozen BK202.out 2
 have hns14_0:=NB195_202.out
 have hms14_0:=NB202_195.out
 refine skip_ (w1:=?_) (by rfl) rfl ?_ ?_
 rotate_left
 ·go_simp
  rfl
 refine hK.out _ _ ⟨((cell_far (p:=⟨gb202,_,none⟩) NB195_202.out _).trans (((cell_far (p:=⟨gb202,_,none⟩) NB195_202.out _).trans (((cell_far (p:=⟨gb202,_,none⟩) NB195_202.out _).trans (hHeld.1)))))),((cell_far (p:=⟨gb202,_,none⟩) NB195_202.out _).trans (((cell_far (p:=⟨gb202,_,none⟩) NB195_202.out _).trans (((cell_far (p:=⟨gb202,_,none⟩) NB195_202.out _).trans (hHeld.2.1)))))),((cell_far (p:=⟨gb202,_,none⟩) NB195_202.out _).trans (((cell_far (p:=⟨gb202,_,none⟩) NB195_202.out _).trans (((cell_far (p:=⟨gb202,_,none⟩) NB195_202.out _).trans (hHeld.2.2))))))⟩ (fun hHeld=>?_)
 clear hK K
 refine done_ (done_of HT_.out (by kernel_rfl)) ?_
 try go_wp2
 go_loopg [4,5] k (fun kq v4 v5 w'=>∃ (x4_1 : Int) (x5_1 : Int) (x203002_1 : List Int) (u203002 : Value),v4 = .int .i64 x4_1 ∧ v5 = .int .i64 x5_1 ∧ Aside0 (spec_l03Rank.l0 kq x4_1 x5_1 a0_0 a0_1 x203002_1 = some r) ∧ Aside0 (kq ≤ k) ∧ Aside0 (Kd.R (Kd.int .i64) 2 w' w.heap.size (fun _=>True) u203002 x203002_1) ∧ Aside0 (w'.heap[gb195]? = some (.cells #[.int .i64 a0_0,.int .i64 a0_1,(.slice A0_2 l0_2.length c0_2)] 27 (0,0))) ∧ Aside0 (w'.heap[gb202]? = some (.cells #[.int .i64 a0_0,.int .i64 a0_1,u203002] 27 (0,0))) ∧ Aside0 (Below w.heap.size w w'))
 case atStart=>exact ⟨(0),(0),(y199),(.slice Ao11 y199.length co11),(by rfl),(by rfl),H',⟨Nat.le_refl _⟩,⟨by exact Kd.R_mono (Kd.R_far (p:=⟨gb202,2,none⟩) (Kd.R_far (p:=⟨gb202,1,none⟩) (Kd.R_far (p:=⟨gb202,0,none⟩) (Kd.R_types HO201.out BK202.out (by decide)) (fun _ hk=>hk.2) (.int .i64 a0_0)) (fun _ hk=>hk.2) (.int .i64 a0_1)) (fun _ hk=>hk.2) (.slice Ao11 y199.length co11)) (fun _ hk=>trivial)⟩,⟨by refine blk_far ?_ NB195_202.out _;refine blk_far ?_ NB195_202.out _;refine blk_far ?_ NB195_202.out _;exact BK195.out⟩,⟨by refine blk_put (cs:=#[.int .i64 a0_0,.int .i64 a0_1,.slice none 0 0]) ?_ 2 _ rfl;refine blk_put (cs:=#[.int .i64 a0_0,.int .i64 0,.slice none 0 0]) ?_ 1 _ rfl;refine blk_put (cs:=#[.int .i64 0,.int .i64 0,.slice none 0 0]) ?_ 0 _ rfl;exact BK202.out⟩,⟨by repeat ((with_reducible first|exact HB.out|refine below_set ?_ GE202.out))⟩⟩
 case round=>
  clear H'
  obtain ⟨x4_1,x5_1,x203002_1,u203002,rfl,rfl,HA,HK1,HO_203002,BK195,BK202,HB⟩:=hrel
  cases gk with
  | zero=>exact absurd HA.out (by simp [spec_l03Rank.l0])
  | succ k1=>
   have H:=HA.out
   clear HA
   simp only [spec_l03Rank.l0] at H
   have HC15:=Aside0.mk H
   clear H
   go_upto_region 4 with (fail)
   go_cut [26] (fun v26 wc=>∃ (kq : Nat) (x26_14 : Bool),v26 = .bool x26_14 ∧ Aside0 (spec_l03Rank.j1 kq x4_1 x5_1 x26_14 a0_0 a0_1 x203002_1 = some r) ∧ Aside0 (kq ≤ k1) ∧ Aside0 (Kd.R (Kd.int .i64) 2 wc w.heap.size (fun _=>True) u203002 x203002_1) ∧ Aside0 (wc.heap[gb195]? = some (.cells #[.int .i64 a0_0,.int .i64 a0_1,(.slice A0_2 l0_2.length c0_2)] 27 (0,0))) ∧ Aside0 (wc.heap[gb202]? = some (.cells #[.int .i64 a0_0,.int .i64 a0_1,u203002] 27 (0,0))) ∧ Aside0 (Below w.heap.size w wc))
   case first=>
    have H:=HC15.out
    clear HC15
    by_cases c16 : x5_1 < a0_1
    ·rw [if_pos c16] at H
     have c16b0:=decide_eq_true c16
     clear c16
     (skip)
     have H':=Aside0.mk H
     clear H
     have hnb17:=NB202_195.out
     have hnc17:=NB195_202.out
     have hcz18_0 : wr.cell? ⟨gb202,0,none⟩ = some (.int .i64 a0_0):=(blk_cell BK202.out 0).trans rfl
     have hcz18_1 : wr.cell? ⟨gb202,1,none⟩ = some (.int .i64 a0_1):=(blk_cell BK202.out 1).trans rfl
     have hcz18_2 : wr.cell? ⟨gb202,2,none⟩ = some (u203002):=(blk_cell BK202.out 2).trans rfl
     have hfz18_0:=blk_frozen BK202.out 0
     have hfz18_1:=blk_frozen BK202.out 1
     have hfz18_2:=blk_frozen BK202.out 2
     go_wp2
     go_meet
     case rel=>exact ⟨_,(decide (x4_1 < a0_0)),(by rfl),H',⟨by have:=HK1.out;omega⟩,⟨by exact HO_203002.out⟩,⟨by exact BK195.out⟩,⟨by exact BK202.out⟩,⟨HB.out⟩⟩
    ·rw [if_neg c16] at H
     have c16b0:=decide_eq_false c16
     clear c16
     (skip)
     have H':=Aside0.mk H
     clear H
     have hnb19:=NB202_195.out
     have hnc19:=NB195_202.out
     have hcz20_0 : wr.cell? ⟨gb202,0,none⟩ = some (.int .i64 a0_0):=(blk_cell BK202.out 0).trans rfl
     have hcz20_1 : wr.cell? ⟨gb202,1,none⟩ = some (.int .i64 a0_1):=(blk_cell BK202.out 1).trans rfl
     have hcz20_2 : wr.cell? ⟨gb202,2,none⟩ = some (u203002):=(blk_cell BK202.out 2).trans rfl
     have hfz20_0:=blk_frozen BK202.out 0
     have hfz20_1:=blk_frozen BK202.out 1
     have hfz20_2:=blk_frozen BK202.out 2
     go_wp2
     go_meet
     case rel=>exact ⟨_,(false),(by rfl),H',⟨by have:=HK1.out;omega⟩,⟨by exact HO_203002.out⟩,⟨by exact BK195.out⟩,⟨by exact BK202.out⟩,⟨HB.out⟩⟩
   case rest=>
    clear HC15
    obtain ⟨kq,x26_14,rfl,HA,HJ14,HO_203002,BK195,BK202,HB⟩:=hcut
    cases kq with
    | zero=>exact absurd HA.out (by simp [spec_l03Rank.j1])
    | succ kj14=>
     have H:=HA.out
     clear HA
     simp only [spec_l03Rank.j1] at H
     by_cases c21 : x26_14 = true
     ·subst c21
      have H1 : (spec_l03Rank.l1 kj14 x4_1 x5_1 (-1) x4_1 a0_0 a0_1 x203002_1) = some r:=by rw [if_pos rfl] at H;exact H
      clear H
      have H:=H1
      clear H1
      have H':=Aside0.mk H
      clear H
      go_wp2
      go_loopg [6,7] kj14 (fun kq v6 v7 w'=>∃ (x6_3 : Int) (x7_3 : Int),v6 = .int .i64 x6_3 ∧ v7 = .int .i64 x7_3 ∧ Aside0 (spec_l03Rank.l1 kq x4_1 x5_1 x6_3 x7_3 a0_0 a0_1 x203002_1 = some r) ∧ Aside0 (kq ≤ kj14) ∧ Aside0 (Kd.R (Kd.int .i64) 2 w' w.heap.size (fun _=>True) u203002 x203002_1) ∧ Aside0 (w'.heap[gb195]? = some (.cells #[.int .i64 a0_0,.int .i64 a0_1,(.slice A0_2 l0_2.length c0_2)] 27 (0,0))) ∧ Aside0 (w'.heap[gb202]? = some (.cells #[.int .i64 a0_0,.int .i64 a0_1,u203002] 27 (0,0))) ∧ Aside0 (Below w.heap.size w w'))
      case atStart=>exact ⟨((-1)),(x4_1),(by rfl),(by rfl),H',⟨Nat.le_refl _⟩,⟨by exact HO_203002.out⟩,⟨by exact BK195.out⟩,⟨by exact BK202.out⟩,⟨HB.out⟩⟩
      case round=>
       clear H'
       obtain ⟨x6_3,x7_3,rfl,rfl,HA,HK3,HO_203002,BK195,BK202,HB⟩:=hrel
       cases gk with
       | zero=>exact absurd HA.out (by simp [spec_l03Rank.l1])
       | succ k3=>
        have H:=HA.out
        clear HA
        simp only [spec_l03Rank.l1] at H
        by_cases c22 : x7_3 < a0_0
        ·rw [if_pos c22] at H
         have c22b0:=decide_eq_true c22
         clear c22
         replace H:=Option.bind_eq_some_iff.mp H
         obtain ⟨t203,A230,H⟩:=H
         replace H : (if t203 = 0 then (spec_l03Rank.l1 k3 x4_1 x5_1 x6_3 (wrap64 (x7_3 + 1)) a0_0 a0_1 x203002_1) else (spec_l03Rank.l1 k3 x4_1 x5_1 x7_3 (wrap64 (x7_3 + 1)) a0_0 a0_1 x203002_1)) = some r:=H
         have A23:=Aside0.mk A230
         clear A230
         by_cases c24 : t203 = 0
         ·rw [if_pos c24] at H
          have c24b0 : (t203 == 0) = true:=beq_iff_eq.mpr c24
          have c24b1 : (t203 != 0) = false:=bne_eq_false_iff_eq.mpr c24
          clear c24
          have H':=Aside0.mk H
          clear H
          have hnb25:=NB202_195.out
          have hnc25:=NB195_202.out
          have hcz26_0 : wr.cell? ⟨gb202,0,none⟩ = some (.int .i64 a0_0):=(blk_cell BK202.out 0).trans rfl
          have hcz26_1 : wr.cell? ⟨gb202,1,none⟩ = some (.int .i64 a0_1):=(blk_cell BK202.out 1).trans rfl
          have hcz26_2 : wr.cell? ⟨gb202,2,none⟩ = some (u203002):=(blk_cell BK202.out 2).trans rfl
          have hfz26_0:=blk_frozen BK202.out 0
          have hfz26_1:=blk_frozen BK202.out 1
          have hfz26_2:=blk_frozen BK202.out 2
          obtain ⟨Ao27,co27,eo27⟩:=Kd.R_slice HO_203002.out
          subst eo27
          go_wp2_with (((with_reducible refine gate_callee (f:=67) rfl ?_);refine goesL_ (some 39) rfl rfl Try.func67 (by kernel_rfl) rfl #[.agg #[.int .i64 a0_0,.int .i64 a0_1,.slice Ao27 x203002_1.length co27],.int .i64 x7_3,.int .i64 x5_1] rfl (by (try simp only [List.map_toArray,List.map_cons,List.map_nil]);rfl) ?_;(with_reducible refine (spec_l03At.calls a0_0 a0_1 _ _ x203002_1 x7_3 x5_1 t203 _ ?side1 ?side2 A23.out).mono ?_);(case side1=>exact (Kd.R_reads' HO_203002.out).2.2);(case side2=>exact (Kd.R_reads' HO_203002.out).2.1);rintro e w28 ⟨rfl,hb⟩;refine ⟨_,rfl,?_⟩;replace HO_203002:=Aside0.mk (Kd.R_below HO_203002.out hb);replace BK195:=Aside0.mk (blk_below BK195.out hb);replace BK202:=Aside0.mk (blk_below BK202.out hb);replace HB:=Aside0.mk (below_step HB.out hb);(try clear hb)))
          go_roundg k3
          case measure=>have:=HK1.out;have:=HJ14.out;have:=HK3.out;omega
          case rel=>exact ⟨(x6_3),(wrap64 (x7_3 + 1)),(by rfl),(by rfl),H',⟨by have:=HK1.out;have:=HJ14.out;have:=HK3.out;omega⟩,⟨by exact HO_203002.out⟩,⟨by exact BK195.out⟩,⟨by exact BK202.out⟩,⟨HB.out⟩⟩
         ·rw [if_neg c24] at H
          have c24b0 : (t203 == 0) = false:=beq_eq_false_iff_ne.mpr c24
          have c24b1 : (t203 != 0) = true:=bne_iff_ne.mpr c24
          have H':=Aside0.mk H
          clear H
          have hnb29:=NB202_195.out
          have hnc29:=NB195_202.out
          have hcz30_0 : wr.cell? ⟨gb202,0,none⟩ = some (.int .i64 a0_0):=(blk_cell BK202.out 0).trans rfl
          have hcz30_1 : wr.cell? ⟨gb202,1,none⟩ = some (.int .i64 a0_1):=(blk_cell BK202.out 1).trans rfl
          have hcz30_2 : wr.cell? ⟨gb202,2,none⟩ = some (u203002):=(blk_cell BK202.out 2).trans rfl
          have hfz30_0:=blk_frozen BK202.out 0
          have hfz30_1:=blk_frozen BK202.out 1
          have hfz30_2:=blk_frozen BK202.out 2
          obtain ⟨Ao31,co31,eo31⟩:=Kd.R_slice HO_203002.out
          subst eo31
          go_wp2_with (((with_reducible refine gate_callee (f:=67) rfl ?_);refine goesL_ (some 39) rfl rfl Try.func67 (by kernel_rfl) rfl #[.agg #[.int .i64 a0_0,.int .i64 a0_1,.slice Ao31 x203002_1.length co31],.int .i64 x7_3,.int .i64 x5_1] rfl (by (try simp only [List.map_toArray,List.map_cons,List.map_nil]);rfl) ?_;(with_reducible refine (spec_l03At.calls a0_0 a0_1 _ _ x203002_1 x7_3 x5_1 t203 _ ?side1 ?side2 A23.out).mono ?_);(case side1=>exact (Kd.R_reads' HO_203002.out).2.2);(case side2=>exact (Kd.R_reads' HO_203002.out).2.1);rintro e w32 ⟨rfl,hb⟩;refine ⟨_,rfl,?_⟩;replace HO_203002:=Aside0.mk (Kd.R_below HO_203002.out hb);replace BK195:=Aside0.mk (blk_below BK195.out hb);replace BK202:=Aside0.mk (blk_below BK202.out hb);replace HB:=Aside0.mk (below_step HB.out hb);(try clear hb)))
          go_roundg k3
          case measure=>have:=HK1.out;have:=HJ14.out;have:=HK3.out;omega
          case rel=>exact ⟨(x7_3),(wrap64 (x7_3 + 1)),(by rfl),(by rfl),H',⟨by have:=HK1.out;have:=HJ14.out;have:=HK3.out;omega⟩,⟨by exact HO_203002.out⟩,⟨by exact BK195.out⟩,⟨by exact BK202.out⟩,⟨HB.out⟩⟩
        ·rw [if_neg c22] at H
         have c22b0:=decide_eq_false c22
         clear c22
         by_cases c33 : x6_3 < 0
         ·rw [if_pos c33] at H
          have c33b0:=decide_eq_true c33
          clear c33
          have H':=Aside0.mk H
          clear H
          have hnb34:=NB202_195.out
          have hnc34:=NB195_202.out
          have hcz35_0 : wr.cell? ⟨gb202,0,none⟩ = some (.int .i64 a0_0):=(blk_cell BK202.out 0).trans rfl
          have hcz35_1 : wr.cell? ⟨gb202,1,none⟩ = some (.int .i64 a0_1):=(blk_cell BK202.out 1).trans rfl
          have hcz35_2 : wr.cell? ⟨gb202,2,none⟩ = some (u203002):=(blk_cell BK202.out 2).trans rfl
          have hfz35_0:=blk_frozen BK202.out 0
          have hfz35_1:=blk_frozen BK202.out 1
          have hfz35_2:=blk_frozen BK202.out 2
          go_wp2
          go_roundg k3
          case measure=>have:=HK1.out;have:=HJ14.out;have:=HK3.out;omega
          case rel=>exact ⟨(x4_1),(wrap64 (x5_1 + 1)),(x203002_1),(u203002),(by rfl),(by rfl),H',⟨by have:=HK1.out;have:=HJ14.out;have:=HK3.out;omega⟩,⟨by exact HO_203002.out⟩,⟨by exact BK195.out⟩,⟨by exact BK202.out⟩,⟨HB.out⟩⟩
         ·rw [if_neg c33] at H
          have c33b0:=decide_eq_false c33
          clear c33
          replace H:=Option.bind_eq_some_iff.mp H
          obtain ⟨t204,A360,H⟩:=H
          replace H : ((spec_l03Clear.f k3 a0_0 a0_1 t204 x4_1 x5_1).bind fun t205=>(spec_l03Rank.l0 k3 (wrap64 (x4_1 + 1)) (wrap64 (x5_1 + 1)) a0_0 a0_1 t205)) = some r:=H
          have A36:=Aside0.mk A360
          clear A360
          replace H:=Option.bind_eq_some_iff.mp H
          obtain ⟨t205,A370,H⟩:=H
          replace H : (spec_l03Rank.l0 k3 (wrap64 (x4_1 + 1)) (wrap64 (x5_1 + 1)) a0_0 a0_1 t205) = some r:=H
          have A37:=Aside0.mk A370
          clear A370
          have H':=Aside0.mk H
          clear H
          have hnb38:=NB202_195.out
          have hnc38:=NB195_202.out
          have hcz39_0 : wr.cell? ⟨gb202,0,none⟩ = some (.int .i64 a0_0):=(blk_cell BK202.out 0).trans rfl
          have hcz39_1 : wr.cell? ⟨gb202,1,none⟩ = some (.int .i64 a0_1):=(blk_cell BK202.out 1).trans rfl
          have hcz39_2 : wr.cell? ⟨gb202,2,none⟩ = some (u203002):=(blk_cell BK202.out 2).trans rfl
          have hfz39_0:=blk_frozen BK202.out 0
          have hfz39_1:=blk_frozen BK202.out 1
          have hfz39_2:=blk_frozen BK202.out 2
          obtain ⟨Ao40,co40,eo40⟩:=Kd.R_slice HO_203002.out
          subst eo40
          go_wp2_with (first|((with_reducible refine gate_callee (f:=68) rfl ?_);refine goesL_ (some 47) rfl rfl Try.func68 (by kernel_rfl) rfl #[.agg #[.int .i64 a0_0,.int .i64 a0_1,.slice Ao40 x203002_1.length co40],.int .i64 x4_1,.int .i64 x6_3] rfl (by (try simp only [List.map_toArray,List.map_cons,List.map_nil]);rfl) ?_;(with_reducible refine (spec_l03Swap.calls k3 a0_0 a0_1 (fun k_=>some k_ = (.slice Ao40 x203002_1.length co40 : Value).ownBlock) (.slice Ao40 x203002_1.length co40) x203002_1 x4_1 x6_3 t204 w _ ?side1 ?side2 A36.out).mono ?_);(case side1=>repeat ((with_reducible exact HB.out)));(case side2=>exact Kd.R_tight rfl HO_203002.out);rintro e w41 ⟨rfl,hy0,hb,hkp⟩;refine ⟨_,rfl,?_⟩;replace BK195:=Aside0.mk (blk_kept BK195.out hkp (fun hs_=>(fun e_=>(Kd.R_ne HO_203002.out BK195.out (by decide)) e_) hs_));replace BK202:=Aside0.mk (blk_kept BK202.out hkp (fun hs_=>(fun e_=>(Kd.R_ne HO_203002.out BK202.out (by decide)) e_) hs_));replace HO_203002:=Aside0.mk (Kd.R_reok rfl hy0 (fun k_ e_=>HO_203002.out.1 k_ e_));replace HB:=Aside0.mk (hb);(try clear hb);(try clear hkp);(try clear hy0);have hcz42_0 : w41.cell? ⟨gb202,0,none⟩ = some (.int .i64 a0_0):=(blk_cell BK202.out 0).trans rfl;have hcz42_1 : w41.cell? ⟨gb202,1,none⟩ = some (.int .i64 a0_1):=(blk_cell BK202.out 1).trans rfl;have hcz42_2 : w41.cell? ⟨gb202,2,none⟩ = some (.slice Ao40 x203002_1.length co40):=(blk_cell BK202.out 2).trans rfl;have hfz42_0:=blk_frozen BK202.out 0;have hfz42_1:=blk_frozen BK202.out 1;have hfz42_2:=blk_frozen BK202.out 2)|((with_reducible refine gate_callee (f:=69) rfl ?_);refine goesL_ (some 51) rfl rfl Try.func69 (by kernel_rfl) rfl #[.agg #[.int .i64 a0_0,.int .i64 a0_1,.slice Ao40 x203002_1.length co40],.int .i64 x4_1,.int .i64 x5_1] rfl (by (try simp only [List.map_toArray,List.map_cons,List.map_nil]);rfl) ?_;(with_reducible refine (spec_l03Clear.calls k3 a0_0 a0_1 (fun k_=>some k_ = (.slice Ao40 x203002_1.length co40 : Value).ownBlock) (.slice Ao40 x203002_1.length co40) t204 x4_1 x5_1 t205 w _ ?side1 ?side2 A37.out).mono ?_);(case side1=>repeat ((with_reducible exact HB.out)));(case side2=>exact Kd.R_tight rfl HO_203002.out);rintro e w43 ⟨rfl,hy0,hb,hkp⟩;refine ⟨_,rfl,?_⟩;replace BK195:=Aside0.mk (blk_kept BK195.out hkp (fun hs_=>(fun e_=>(Kd.R_ne HO_203002.out BK195.out (by decide)) e_) hs_));replace BK202:=Aside0.mk (blk_kept BK202.out hkp (fun hs_=>(fun e_=>(Kd.R_ne HO_203002.out BK202.out (by decide)) e_) hs_));replace HO_203002:=Aside0.mk (Kd.R_reok rfl hy0 (fun k_ e_=>HO_203002.out.1 k_ e_));replace HB:=Aside0.mk (hb);(try clear hb);(try clear hkp);(try clear hy0)))
          go_roundg k3
          case measure=>have:=HK1.out;have:=HJ14.out;have:=HK3.out;omega
          case rel=>exact ⟨(wrap64 (x4_1 + 1)),(wrap64 (x5_1 + 1)),(t205),(.slice Ao40 x203002_1.length co40),(by rfl),(by rfl),H',⟨by have:=HK1.out;have:=HJ14.out;have:=HK3.out;omega⟩,⟨by exact HO_203002.out⟩,⟨by exact BK195.out⟩,⟨by exact BK202.out⟩,⟨HB.out⟩⟩
     ·replace c21:=Bool.eq_false_iff.mpr c21
      subst c21
      have H1 : (some x4_1) = some r:=by rw [if_neg (show ¬ (false = true) by decide)] at H;exact H
      clear H
      have H:=H1
      clear H1
      obtain rfl:=Option.some.inj H
      go_wp2
      go_ret
      exact ⟨by rfl,HB.out⟩

end Go.Proofs.Ytffhbpepppodeaa.PFnExactDecodeShards
