import Derived.Test.YtffhbpepppodeaaPFnExactJoinObjectx0
import Derived.Test.YtffhbpepppodeaaPFnExactJoinObjectx7
import Derived.Test.YtffhbpepppodeaaPFnExactJoinObjectx8
import Derived.Test.YtffhbpepppodeaaPFnExactJoinObjectx9
namespace Go.Proofs.Ytffhbpepppodeaa.PFnExactJoinObject
private theorem nn {α : Type} {c : Prop} [Decidable c] {a : Option α} {r : α} (h : (if c then a else none) = some r) : c ∧ a = some r:=by
 split at h
 ·exact ⟨‹c›,h⟩
 ·cases h
open Go.RowKit Go.Proofs.YtffhbpepppodeaaW.PrintWords Go.Proofs.YtffhbpepppodeaaW.PrintLast Go.Proofs.YtffhbpepppodeaaW.PrintMore
attribute [local go_sem] cF cG cW cX cn cp cI cJ   -- for this text's walks alone
set_option linter.unusedVariables false
set_option linter.unusedSimpArgs false

/-! ### ay: function 59 -/
mutual
def ay.l0 : Nat → Int → Int → Int → Int → List Int → Option (Int)
 | 0,_,_,_,_,_=>none
 | k + 1,x4,x5,x238000,x238001,x238002=>if x5 < x238001 then (ay.j1 k x4 x5 (decide (x4 < x238000)) x238000 x238001 x238002) else (ay.j1 k x4 x5 false x238000 x238001 x238002)
def ay.j1 : Nat → Int → Int → Bool → Int → Int → List Int → Option (Int)
 | 0,_,_,_,_,_,_=>none
 | k + 1,x4,x5,x26,x238000,x238001,x238002=>if x26 = true then (ay.l1 k x4 x5 (-1) x4 x238000 x238001 x238002) else (some x4)
def ay.l1 : Nat → Int → Int → Int → Int → Int → Int → List Int → Option (Int)
 | 0,_,_,_,_,_,_,_=>none
 | k + 1,x4,x5,x6,x7,x238000,x238001,x238002=>if x7 < x238000 then ((bs.f x238000 x238001 x238002 x7 x5).bind fun t238=>(if t238 = 0 then (ay.l1 k x4 x5 x6 (wrap64 (x7 + 1)) x238000 x238001 x238002) else (ay.l1 k x4 x5 x7 (wrap64 (x7 + 1)) x238000 x238001 x238002))) else (if x6 < 0 then (ay.l0 k x4 (wrap64 (x5 + 1)) x238000 x238001 x238002) else ((bp.f k x238000 x238001 x238002 x4 x6).bind fun t239=>((ao.f k x238000 x238001 t239 x4 x5).bind fun t240=>(ay.l0 k (wrap64 (x4 + 1)) (wrap64 (x5 + 1)) x238000 x238001 t240))))
end
def ay.f (k : Nat) (a0_0 : Int) (a0_1 : Int) (l0_2 : List Int) : Option (Int):=(some (([] : List Int) : List Int)).bind fun y231=>(if y231.length + l0_2.length < 17592186044416 then (ay.l0 k 0 0 a0_0 a0_1 (y231 ++ l0_2)) else (none))
def ay.T1 : Bool × List (List Nat × List Nat):=(true,[([],[]),([0],[0]),([],[]),([2],[2]),([],[]),([],[]),([5],[5]),([4,6],[4,6]),([1,3,7],[1,3,7]),([],[]),([9,8,7,0,1,2,3,4,5,6,7,8,9],[8,9])])
def ay.B1 : List Nat:=[0,1,0,4,0,0,32,112,255,0,1023]
theorem ay.tab1 : rtab .any (opsOf Try.f59 1) = ay.T1:=by kernel_rfl
theorem ay.bits1 : cQ ay.T1.2 ay.B1 = true:=by kernel_rfl
set_option maxHeartbeats 8000000 in
set_option maxRecDepth 100000 in
theorem ay.calls (k : Nat) (a0_0 : Int) (a0_1 : Int) (A0_2 : Option Addr) (c0_2 : Nat) (l0_2 : List Int) (r : Int) (w : World) (hr0_2 : Kd.C (Kd.int .i64) w A0_2 l0_2.length l0_2) (hc0_2 : l0_2.length ≤ c0_2) (h : ay.f k a0_0 a0_1 l0_2 = some r) :
  Calls Try.prog 59 #[.agg #[.int .i64 a0_0,.int .i64 a0_1,.slice A0_2 l0_2.length c0_2]] w fun e w'=>e = .returned (.int .i64 r) ∧ Below w.heap.size w w':=by
 have HR0_2:=M0 hr0_2
 have HC0_2:=M0 hc0_2
 clear hr0_2 hc0_2
 have HB:=M0 (Below.refl w.heap.size w)
 have H : ((some (([] : List Int) : List Int)).bind fun y231=>(if y231.length + l0_2.length < 17592186044416 then (ay.l0 k 0 0 a0_0 a0_1 (y231 ++ l0_2)) else (none))) = some r:=h
 clear h
 obtain ⟨y231,hy231⟩ : ∃ y_ : List Int,y_ = (([] : List Int)):=⟨_,rfl⟩
 replace H : (if y231.length + l0_2.length < 17592186044416 then (ay.l0 k 0 0 a0_0 a0_1 (y231 ++ l0_2)) else (none)) = some r:=by (have H2_:=(Option.bind_some _ _).symm.trans H;rw [hy231];with_reducible exact H2_)
 have Ny231:=M0 hy231
 clear hy231
 obtain ⟨c2,H⟩:=nn H
 have LMc2:=M0 c2
 clear c2
 obtain ⟨y234,hy234⟩ : ∃ y_ : List Int,y_ = (y231 ++ l0_2):=⟨_,rfl⟩
 rw [← hy234] at H
 have Ny234:=M0 hy234
 clear hy234
 have H':=M0 H
 clear H
 go_enter Try.func59,Try.ntmps59
 try go_wp2_with (((with_reducible refine ak (N:=1) rfl ?_);refine aw rfl (N:=1) rfl (cs:=#[.int .i64 a0_0,.int .i64 a0_1,.slice A0_2 l0_2.length c0_2]) (t:=27) (by go_simp) ?_;intro gb230 hg w3 hbox hb;have BK230:=M0 (hbox);replace HB:=M0 (aa HB.out hb);clear hb hbox hg))
 replace BK230:=M0 (bl BK230.out)
 replace HB:=M0 (aQ HB.out)
 refine bW (n:=11) (S:=fun w'=>w'.cell? ⟨gb230,0,none⟩ = some (.int .i64 a0_0) ∧ w'.cell? ⟨gb230,1,none⟩ = some (.int .i64 a0_1) ∧ w'.cell? ⟨gb230,2,none⟩ = some (.slice A0_2 l0_2.length c0_2)) (ds:=[]) #[O,O,O,O,O,O,O,O,O,O,O] (by kernel_rfl) rfl rfl ⟨(ai BK230.out 0).trans rfl,(ai BK230.out 1).trans rfl,(ai BK230.out 2).trans rfl⟩ (fun hHeld=>?_);refine cr ay.tab1 ay.bits1 (fun HT_ HW_=>?_)
 generalize w3.drew = w4 at BK230 HB hHeld ⊢
 refine aq (i:=0) (N:=some 8) #[I,O,O,O,O,O,O,O,O,O,O] rfl rfl (aM HT_.out (by kernel_rfl)) (fun _ _ _ h=>h) (Or.inl ⟨by rfl,by intro w';go_simp;with_reducible rfl⟩) (by simp only [Act.put,List.setIfInBounds_toArray,List.set_cons_zero,List.set_cons_succ,ae,af];rfl) ?_
 refine aq (i:=2) (N:=some 10) #[I,O,I,O,O,O,O,O,O,O,O] rfl rfl (aM HT_.out (by kernel_rfl)) (fun _ _ _ h=>h) (Or.inl ⟨by rfl,by intro w';go_simp;with_reducible rfl⟩) (by simp only [Act.put,List.setIfInBounds_toArray,List.set_cons_zero,List.set_cons_succ,ae,af];rfl) ?_
 refine aq (i:=5) (N:=some 13) #[I,O,I,O,O,I,O,O,O,O,O] rfl rfl (aM HT_.out (by kernel_rfl)) (fun _ _ _ h=>h) (Or.inl ⟨by rfl,by intro w';go_simp;with_reducible rfl⟩) (by simp only [Act.put,List.setIfInBounds_toArray,List.set_cons_zero,List.set_cons_succ,ae,af];rfl) ?_
 refine bn (i:=1) (N:=some 9) #[I,I,I,O,O,I,O,O,O,O,O] rfl rfl (bC HT_.out HW_.out (by kernel_rfl)) (fun _ _ _ h=>h) (Or.inl ⟨by rfl,by rintro w' ⟨s0,s1,s2⟩;go_simp;with_reducible rfl⟩) hHeld (by simp only [Act.put,List.setIfInBounds_toArray,List.set_cons_zero,List.set_cons_succ,ae,af];rfl) ?_
 refine bn (i:=3) (N:=some 11) #[I,I,I,I,O,I,O,O,O,O,O] rfl rfl (bC HT_.out HW_.out (by kernel_rfl)) (fun _ _ _ h=>h) (Or.inl ⟨by rfl,by rintro w' ⟨s0,s1,s2⟩;go_simp;with_reducible rfl⟩) hHeld (by simp only [Act.put,List.setIfInBounds_toArray,List.set_cons_zero,List.set_cons_succ,ae,af];rfl) ?_
 refine bn (i:=6) (N:=some 14) #[I,I,I,I,O,I,I,O,O,O,O] rfl rfl (bC HT_.out HW_.out (by kernel_rfl)) (fun _ _ _ h=>h) (Or.inl ⟨by rfl,by rintro w' ⟨s0,s1,s2⟩;go_simp;with_reducible rfl⟩) hHeld (by simp only [Act.put,List.setIfInBounds_toArray,List.set_cons_zero,List.set_cons_succ,ae,af];rfl) ?_
 refine join_ (σ:=Value × Value × Nat) 1 #[I,I,I,I,I,I,I,I,I,I,O] (fun s_=>[(12,s_.1),(15,s_.2.1),(3,.pointer (some ⟨s_.2.2,0,none⟩)),(16,.agg #[.int .i64 a0_0,.int .i64 a0_1,s_.2.1])]) (fun s_ w'=>(w'.cell? ⟨gb230,0,none⟩ = some (.int .i64 a0_0) ∧ w'.cell? ⟨gb230,1,none⟩ = some (.int .i64 a0_1) ∧ w'.cell? ⟨gb230,2,none⟩ = some (.slice A0_2 l0_2.length c0_2)) ∧ (Kd.R (Kd.int .i64) 2 w' w.heap.size (fun _=>True) s_.2.1 y234) ∧ (w'.heap[gb230]? = some (.cells #[.int .i64 a0_0,.int .i64 a0_1,.slice A0_2 l0_2.length c0_2] 27 (0,0))) ∧ (w'.heap[s_.2.2]? = some (.cells #[.int .i64 0,.int .i64 0,.slice none 0 0] 27 (0,0))) ∧ (w.heap.size ≤ s_.2.2) ∧ (w.heap.size ≤ s_.2.2) ∧ (gb230 ≠ s_.2.2) ∧ (s_.2.2 ≠ gb230) ∧ (Below w.heap.size w w')) ?_ ?_
 rotate_left
 ·intro hCont
  refine two_ (i:=4) (j:=9) (Ni:=some 12) (Nj:=some 3) #[I,I,I,I,I,I,I,O,O,O,O] #[I,I,I,I,O,I,I,O,O,I,O] rfl rfl rfl rfl (two_of HT_.out (by kernel_rfl)) (by decide) (by decide) (fun K hK=>?_) (fun K hK=>?_)
  ·skip
   refine Kd.R_lit_step (Kd.int .i64) _ 2 ?hg (N:=12) ?hd (xs:=([] : List Int)) (inner:=[]) (ok:=fun _=>True) (okp:=fun _=>True) ?hr ?hp (fun _ hk=>hk) trivial (Below.refl _ _) (Nat.le_refl _) (by simp) ?_;(case hd=>rfl);(case hg=>rfl);(case hr=>(go_simp;done));(case hp=>exact (Reps.none _ _))
   intro v232 w5 ho6 hb hg_ hnew_
   clear hg_ hnew_
   (rw [← Ny231.out] at ho6)
   have HO233:=M0 (Kd.bj ho6 (aj HB.out))
   replace BK230:=M0 (ab BK230.out hb)
   replace HB:=M0 (aa HB.out hb)
   clear hb ho6
   refine hK.out _ _ ⟨(ai BK230.out 0).trans rfl,(ai BK230.out 1).trans rfl,(ai BK230.out 2).trans rfl⟩ (fun hHeld=>?_)
   clear hK K
   refine bz (a':=?_) ?_ ?_
   rotate_left
   ·show Act.put _ (some 12) _ = _
    simp only [Act.put,List.setIfInBounds_toArray,List.set_cons_zero,List.set_cons_succ,ae,af]
    rfl
   refine two_ (i:=7) (j:=9) (Ni:=some 15) (Nj:=some 3) #[I,I,I,I,I,I,I,I,O,O,O] #[I,I,I,I,I,I,I,O,O,I,O] rfl rfl rfl rfl (two_of HT_.out (by kernel_rfl)) (by decide) (by decide) (fun K hK=>?_) (fun K hK=>?_)
   ·skip
    refine Kd.bZ (Kd.int .i64) (w0:=w) w.heap.size (by rfl) (.tmp 12) (.tmp 14) 22 2 (.int .i64 0) 8 rfl Try.underlying22 dY rfl (by decide) (by omega) v232 y231 l0_2 _ _ _ (fun _=>True) (fun _=>False) rfl rfl ?aO ?aR (fun _ _ h=>h) (fun _ h=>h.elim) ?aF ?aB ?aS ?aL ?_
    (case aR=>exact (Kd.a8 HR0_2.out HB.out))
    (case aB=>exact HB.out)
    (case aF=>exact (fun _ _=>trivial))
    (case aO=>exact HO233.out)
    (case aS=>exact (aj HB.out))
    (case aL=>have:=LMc2.out;omega)
    intro v235 w7 ho hb hg hat
    rw [← Ny234.out] at ho
    have n0_:=M0 (bm (g:=gb230) (o:=.cells #[.int .i64 a0_0,.int .i64 a0_1,.slice A0_2 l0_2.length c0_2] 27 (0,0)) BK230.out hg (Kd.R_ne HO233.out BK230.out (by decide)))
    have n1_:=M0 (hb)
    have n2_:=M0 (ho)
    clear BK230 HB HO233
    have BK230:=n0_
    have HB:=n1_
    have HO236:=n2_
    clear n0_ n1_ n2_ ho hb hg hat
    obtain ⟨Ao8,co8,eo8⟩:=Kd.bc HO236.out
    (subst eo8)
    refine hK.out _ _ ⟨(ai BK230.out 0).trans rfl,(ai BK230.out 1).trans rfl,(ai BK230.out 2).trans rfl⟩ (fun hHeld=>?_)
    clear hK K
    refine bz (a':=?_) ?_ ?_
    rotate_left
    ·show Act.put _ (some 15) _ = _
     simp only [Act.put,List.setIfInBounds_toArray,List.set_cons_zero,List.set_cons_succ,ae,af]
     rfl
    refine aq (i:=8) (N:=some 16) #[I,I,I,I,I,I,I,I,I,O,O] rfl rfl (aM HT_.out (by kernel_rfl)) (fun _ _ _ h=>h) (Or.inl ⟨by rfl,by intro w';go_simp;with_reducible rfl⟩) (by simp only [Act.put,List.setIfInBounds_toArray,List.set_cons_zero,List.set_cons_succ,ae,af];rfl) ?_
    refine one_ (i:=9) (N:=some 3) #[I,I,I,I,I,I,I,I,I,I,O] rfl rfl (bR HT_.out (by kernel_rfl)) (by decide) (fun K hK=>?_)
    refine dZ ?hg (N:=3) ?hd (cs:=#[.int .i64 0,.int .i64 0,.slice none 0 0]) (t:=27) ?hr ?_;(case hd=>rfl);(case hg=>rfl);(case hr=>(go_simp;done))
    intro gb237 hg w9 hbox hb
    replace HO236:=M0 (Kd.aK HO236.out hb)
    have BK237:=M0 (hbox)
    have GW237:=M0 ((by rw [hg];exact (aj HB.out) : w.heap.size ≤ gb237))
    have GE237:=M0 ((by rw [hg];exact (aj HB.out) : w.heap.size ≤ gb237))
    replace HB:=M0 (aa HB.out hb)
    have NB230_237:=M0 ((by rw [hg];exact Nat.ne_of_lt (a7 BK230.out) : gb230 ≠ gb237))
    have NB237_230:=M0 ((by rw [hg];exact Nat.ne_of_gt (a7 BK230.out) : gb237 ≠ gb230))
    replace BK230:=M0 (ab BK230.out hb)
    clear hb hbox hg
    refine hK.out _ _ ⟨(ai BK230.out 0).trans rfl,(ai BK230.out 1).trans rfl,(ai BK230.out 2).trans rfl⟩ (fun hHeld=>?_)
    clear hK K
    refine bz (a':=?_) ?_ ?_
    rotate_left
    ·show Act.put _ (some 3) _ = _
     simp only [Act.put,List.setIfInBounds_toArray,List.set_cons_zero,List.set_cons_succ,ae,af]
     rfl
    exact bz (by simp only [dM,Act.put,List.setIfInBounds_toArray,List.set_cons_zero,List.set_cons_succ]) (hCont (v232,.slice Ao8 y234.length co8,gb237) _ ⟨hHeld,HO236.out,BK230.out,BK237.out,GW237.out,GE237.out,NB230_237.out,NB237_230.out,HB.out⟩)
   ·skip
    refine dZ ?hg (N:=3) ?hd (cs:=#[.int .i64 0,.int .i64 0,.slice none 0 0]) (t:=27) ?hr ?_;(case hd=>rfl);(case hg=>rfl);(case hr=>(go_simp;done))
    intro gb237 hg w7 hbox hb
    replace HO233:=M0 (Kd.aK HO233.out hb)
    have BK237:=M0 (hbox)
    have GW237:=M0 ((by rw [hg];exact (aj HB.out) : w.heap.size ≤ gb237))
    have GE237:=M0 ((by rw [hg];exact (aj HB.out) : w.heap.size ≤ gb237))
    replace HB:=M0 (aa HB.out hb)
    have NB230_237:=M0 ((by rw [hg];exact Nat.ne_of_lt (a7 BK230.out) : gb230 ≠ gb237))
    have NB237_230:=M0 ((by rw [hg];exact Nat.ne_of_gt (a7 BK230.out) : gb237 ≠ gb230))
    replace BK230:=M0 (ab BK230.out hb)
    clear hb hbox hg
    refine hK.out _ _ ⟨(ai BK230.out 0).trans rfl,(ai BK230.out 1).trans rfl,(ai BK230.out 2).trans rfl⟩ (fun hHeld=>?_)
    clear hK K
    refine bz (a':=?_) ?_ ?_
    rotate_left
    ·show Act.put _ (some 3) _ = _
     simp only [Act.put,List.setIfInBounds_toArray,List.set_cons_zero,List.set_cons_succ,ae,af]
     rfl
    refine one_ (i:=7) (N:=some 15) #[I,I,I,I,I,I,I,I,O,I,O] rfl rfl (bR HT_.out (by kernel_rfl)) (by decide) (fun K hK=>?_)
    refine Kd.bZ (Kd.int .i64) (w0:=w) w.heap.size (by rfl) (.tmp 12) (.tmp 14) 22 2 (.int .i64 0) 8 rfl Try.underlying22 dY rfl (by decide) (by omega) v232 y231 l0_2 _ _ _ (fun _=>True) (fun _=>False) rfl rfl ?aO ?aR (fun _ _ h=>h) (fun _ h=>h.elim) ?aF ?aB ?aS ?aL ?_
    (case aR=>exact (Kd.a8 HR0_2.out HB.out))
    (case aB=>exact HB.out)
    (case aF=>exact (fun _ _=>trivial))
    (case aO=>exact HO233.out)
    (case aS=>exact (aj HB.out))
    (case aL=>have:=LMc2.out;omega)
    intro v235 w8 ho hb hg hat
    rw [← Ny234.out] at ho
    have n0_:=M0 (bm (g:=gb230) (o:=.cells #[.int .i64 a0_0,.int .i64 a0_1,.slice A0_2 l0_2.length c0_2] 27 (0,0)) BK230.out hg (Kd.R_ne HO233.out BK230.out (by decide)))
    have n1_:=M0 (bm (g:=gb237) (o:=.cells #[.int .i64 0,.int .i64 0,.slice none 0 0] 27 (0,0)) BK237.out hg (Kd.R_ne HO233.out BK237.out (by decide)))
    have n2_:=M0 (hb)
    have n3_:=M0 (ho)
    clear BK230 BK237 HB HO233
    have BK230:=n0_
    have BK237:=n1_
    have HB:=n2_
    have HO236:=n3_
    clear n0_ n1_ n2_ n3_ ho hb hg hat
    obtain ⟨Ao9,co9,eo9⟩:=Kd.bc HO236.out
    (subst eo9)
    refine hK.out _ _ ⟨(ai BK230.out 0).trans rfl,(ai BK230.out 1).trans rfl,(ai BK230.out 2).trans rfl⟩ (fun hHeld=>?_)
    clear hK K
    refine bz (a':=?_) ?_ ?_
    rotate_left
    ·show Act.put _ (some 15) _ = _
     simp only [Act.put,List.setIfInBounds_toArray,List.set_cons_zero,List.set_cons_succ,ae,af]
     rfl
    refine aq (i:=8) (N:=some 16) #[I,I,I,I,I,I,I,I,I,I,O] rfl rfl (aM HT_.out (by kernel_rfl)) (fun _ _ _ h=>h) (Or.inl ⟨by rfl,by intro w';go_simp;with_reducible rfl⟩) (by simp only [Act.put,List.setIfInBounds_toArray,List.set_cons_zero,List.set_cons_succ,ae,af];rfl) ?_
    exact bz (by simp only [dM,Act.put,List.setIfInBounds_toArray,List.set_cons_zero,List.set_cons_succ]) (hCont (v232,.slice Ao9 y234.length co9,gb237) _ ⟨hHeld,HO236.out,BK230.out,BK237.out,GW237.out,GE237.out,NB230_237.out,NB237_230.out,HB.out⟩)
  ·skip
   refine dZ ?hg (N:=3) ?hd (cs:=#[.int .i64 0,.int .i64 0,.slice none 0 0]) (t:=27) ?hr ?_;(case hd=>rfl);(case hg=>rfl);(case hr=>(go_simp;done))
   intro gb237 hg w5 hbox hb
   have BK237:=M0 (hbox)
   have GW237:=M0 ((by rw [hg];exact (aj HB.out) : w.heap.size ≤ gb237))
   have GE237:=M0 ((by rw [hg];exact (aj HB.out) : w.heap.size ≤ gb237))
   replace HB:=M0 (aa HB.out hb)
   have NB230_237:=M0 ((by rw [hg];exact Nat.ne_of_lt (a7 BK230.out) : gb230 ≠ gb237))
   have NB237_230:=M0 ((by rw [hg];exact Nat.ne_of_gt (a7 BK230.out) : gb237 ≠ gb230))
   replace BK230:=M0 (ab BK230.out hb)
   clear hb hbox hg
   refine hK.out _ _ ⟨(ai BK230.out 0).trans rfl,(ai BK230.out 1).trans rfl,(ai BK230.out 2).trans rfl⟩ (fun hHeld=>?_)
   clear hK K
   refine bz (a':=?_) ?_ ?_
   rotate_left
   ·show Act.put _ (some 3) _ = _
    simp only [Act.put,List.setIfInBounds_toArray,List.set_cons_zero,List.set_cons_succ,ae,af]
    rfl
   refine one_ (i:=4) (N:=some 12) #[I,I,I,I,I,I,I,O,O,I,O] rfl rfl (bR HT_.out (by kernel_rfl)) (by decide) (fun K hK=>?_)
   refine Kd.R_lit_step (Kd.int .i64) _ 2 ?hg (N:=12) ?hd (xs:=([] : List Int)) (inner:=[]) (ok:=fun _=>True) (okp:=fun _=>True) ?hr ?hp (fun _ hk=>hk) trivial (Below.refl _ _) (Nat.le_refl _) (by simp) ?_;(case hd=>rfl);(case hg=>rfl);(case hr=>(go_simp;done));(case hp=>exact (Reps.none _ _))
   intro v232 w6 ho7 hb hg_ hnew_
   clear hg_ hnew_
   (rw [← Ny231.out] at ho7)
   have HO233:=M0 (Kd.bj ho7 (aj HB.out))
   replace BK230:=M0 (ab BK230.out hb)
   replace BK237:=M0 (ab BK237.out hb)
   replace HB:=M0 (aa HB.out hb)
   clear hb ho7
   refine hK.out _ _ ⟨(ai BK230.out 0).trans rfl,(ai BK230.out 1).trans rfl,(ai BK230.out 2).trans rfl⟩ (fun hHeld=>?_)
   clear hK K
   refine bz (a':=?_) ?_ ?_
   rotate_left
   ·show Act.put _ (some 12) _ = _
    simp only [Act.put,List.setIfInBounds_toArray,List.set_cons_zero,List.set_cons_succ,ae,af]
    rfl
   refine one_ (i:=7) (N:=some 15) #[I,I,I,I,I,I,I,I,O,I,O] rfl rfl (bR HT_.out (by kernel_rfl)) (by decide) (fun K hK=>?_)
   refine Kd.bZ (Kd.int .i64) (w0:=w) w.heap.size (by rfl) (.tmp 12) (.tmp 14) 22 2 (.int .i64 0) 8 rfl Try.underlying22 dY rfl (by decide) (by omega) v232 y231 l0_2 _ _ _ (fun _=>True) (fun _=>False) rfl rfl ?aO ?aR (fun _ _ h=>h) (fun _ h=>h.elim) ?aF ?aB ?aS ?aL ?_
   (case aR=>exact (Kd.a8 HR0_2.out HB.out))
   (case aB=>exact HB.out)
   (case aF=>exact (fun _ _=>trivial))
   (case aO=>exact HO233.out)
   (case aS=>exact (aj HB.out))
   (case aL=>have:=LMc2.out;omega)
   intro v235 w8 ho hb hg hat
   rw [← Ny234.out] at ho
   have n0_:=M0 (bm (g:=gb230) (o:=.cells #[.int .i64 a0_0,.int .i64 a0_1,.slice A0_2 l0_2.length c0_2] 27 (0,0)) BK230.out hg (Kd.R_ne HO233.out BK230.out (by decide)))
   have n1_:=M0 (bm (g:=gb237) (o:=.cells #[.int .i64 0,.int .i64 0,.slice none 0 0] 27 (0,0)) BK237.out hg (Kd.R_ne HO233.out BK237.out (by decide)))
   have n2_:=M0 (hb)
   have n3_:=M0 (ho)
   clear BK230 BK237 HB HO233
   have BK230:=n0_
   have BK237:=n1_
   have HB:=n2_
   have HO236:=n3_
   clear n0_ n1_ n2_ n3_ ho hb hg hat
   obtain ⟨Ao9,co9,eo9⟩:=Kd.bc HO236.out
   (subst eo9)
   refine hK.out _ _ ⟨(ai BK230.out 0).trans rfl,(ai BK230.out 1).trans rfl,(ai BK230.out 2).trans rfl⟩ (fun hHeld=>?_)
   clear hK K
   refine bz (a':=?_) ?_ ?_
   rotate_left
   ·show Act.put _ (some 15) _ = _
    simp only [Act.put,List.setIfInBounds_toArray,List.set_cons_zero,List.set_cons_succ,ae,af]
    rfl
   refine aq (i:=8) (N:=some 16) #[I,I,I,I,I,I,I,I,I,I,O] rfl rfl (aM HT_.out (by kernel_rfl)) (fun _ _ _ h=>h) (Or.inl ⟨by rfl,by intro w';go_simp;with_reducible rfl⟩) (by simp only [Act.put,List.setIfInBounds_toArray,List.set_cons_zero,List.set_cons_succ,ae,af];rfl) ?_
   exact bz (by simp only [dM,Act.put,List.setIfInBounds_toArray,List.set_cons_zero,List.set_cons_succ]) (hCont (v232,.slice Ao9 y234.length co9,gb237) _ ⟨hHeld,HO236.out,BK230.out,BK237.out,GW237.out,GE237.out,NB230_237.out,NB237_230.out,HB.out⟩)
 rintro ⟨v232,v235,gb237⟩ w10 ⟨hS_,h0_,h1_,h2_,h3_,h4_,h5_,h6_,h7_⟩
 have n0_ : Aside0 (Kd.R (Kd.int .i64) 2 w10 w.heap.size (fun _=>True) v235 y234):=⟨h0_⟩
 have n1_ : Aside0 (w10.heap[gb230]? = some (.cells #[.int .i64 a0_0,.int .i64 a0_1,.slice A0_2 l0_2.length c0_2] 27 (0,0))):=⟨h1_⟩
 have n2_ : Aside0 (w10.heap[gb237]? = some (.cells #[.int .i64 0,.int .i64 0,.slice none 0 0] 27 (0,0))):=⟨h2_⟩
 have n3_ : Aside0 (w.heap.size ≤ gb237):=⟨h3_⟩
 have n4_ : Aside0 (w.heap.size ≤ gb237):=⟨h4_⟩
 have n5_ : Aside0 (gb230 ≠ gb237):=⟨h5_⟩
 have n6_ : Aside0 (gb237 ≠ gb230):=⟨h6_⟩
 have n7_ : Aside0 (Below w.heap.size w w10):=⟨h7_⟩
 clear BK230 HB h0_ h1_ h2_ h3_ h4_ h5_ h6_ h7_
 have HO236:=n0_
 have BK230:=n1_
 have BK237:=n2_
 have GE237:=n4_
 have NB230_237:=n5_
 have NB237_230:=n6_
 have HB:=n7_
 clear n0_ n1_ n2_ n3_ n4_ n5_ n6_ n7_
 have hHeld : w10.cell? ⟨gb230,0,none⟩ = some (.int .i64 a0_0) ∧ w10.cell? ⟨gb230,1,none⟩ = some (.int .i64 a0_1) ∧ w10.cell? ⟨gb230,2,none⟩ = some (.slice A0_2 l0_2.length c0_2):=hS_
 obtain ⟨Ao11,co11,eo11⟩:=Kd.bc HO236.out
 (subst eo11)
 refine bz (a':=?_) ?_ ?_
 rotate_left
 ·simp only [dM,Act.put,List.setIfInBounds_toArray,List.set_cons_zero,List.set_cons_succ]
  rfl
 refine one_ (i:=10) (N:=none) #[I,I,I,I,I,I,I,I,I,I,I] rfl rfl (bR HT_.out (by kernel_rfl)) (by decide) (fun K hK=>?_)
 have hs12 : w10.cell? ⟨gb237,0,none⟩ = some (.int .i64 0):=(ai BK237.out 0).trans rfl
 have hfs12:=ag BK237.out 0
 have hns12_0:=NB230_237.out
 have hms12_0:=NB237_230.out
 have hs13 : w10.cell? ⟨gb237,1,none⟩ = some (.int .i64 0):=(ai BK237.out 1).trans rfl
 have hfs13:=ag BK237.out 1
 have hns13_0:=NB230_237.out
 have hms13_0:=NB237_230.out
 have hs14 : w10.cell? ⟨gb237,2,none⟩ = some (.slice none 0 0):=(ai BK237.out 2).trans rfl
 have hfs14:=ag BK237.out 2
 have hns14_0:=NB230_237.out
 have hms14_0:=NB237_230.out
 refine dA (w1:=?_) (by rfl) rfl ?_ ?_
 rotate_left
 ·go_simp
  rfl
 refine hK.out _ _ ⟨((cell_far (p:=⟨gb237,_,none⟩) NB230_237.out _).trans (((cell_far (p:=⟨gb237,_,none⟩) NB230_237.out _).trans (((cell_far (p:=⟨gb237,_,none⟩) NB230_237.out _).trans (hHeld.1)))))),((cell_far (p:=⟨gb237,_,none⟩) NB230_237.out _).trans (((cell_far (p:=⟨gb237,_,none⟩) NB230_237.out _).trans (((cell_far (p:=⟨gb237,_,none⟩) NB230_237.out _).trans (hHeld.2.1)))))),((cell_far (p:=⟨gb237,_,none⟩) NB230_237.out _).trans (((cell_far (p:=⟨gb237,_,none⟩) NB230_237.out _).trans (((cell_far (p:=⟨gb237,_,none⟩) NB230_237.out _).trans (hHeld.2.2))))))⟩ (fun hHeld=>?_)
 clear hK K
 refine cD (dg HT_.out (by kernel_rfl)) ?_
 try go_wp2
 go_loopg [4,5] k (fun kq v4 v5 w'=>∃ (x4_1 : Int) (x5_1 : Int) (x238002_1 : List Int) (u238002 : Value),v4 = .int .i64 x4_1 ∧ v5 = .int .i64 x5_1 ∧ Aside0 (ay.l0 kq x4_1 x5_1 a0_0 a0_1 x238002_1 = some r) ∧ Aside0 (kq ≤ k) ∧ Aside0 (Kd.R (Kd.int .i64) 2 w' w.heap.size (fun _=>True) u238002 x238002_1) ∧ Aside0 (w'.heap[gb230]? = some (.cells #[.int .i64 a0_0,.int .i64 a0_1,(.slice A0_2 l0_2.length c0_2)] 27 (0,0))) ∧ Aside0 (w'.heap[gb237]? = some (.cells #[.int .i64 a0_0,.int .i64 a0_1,u238002] 27 (0,0))) ∧ Aside0 (Below w.heap.size w w'))
 case atStart=>exact ⟨(0),(0),(y234),(.slice Ao11 y234.length co11),(by rfl),(by rfl),H',⟨Nat.le_refl _⟩,⟨by exact Kd.bb (Kd.bw (p:=⟨gb237,2,none⟩) (Kd.bw (p:=⟨gb237,1,none⟩) (Kd.bw (p:=⟨gb237,0,none⟩) (Kd.bP HO236.out BK237.out (by decide)) (fun _ hk=>hk.2) (.int .i64 a0_0)) (fun _ hk=>hk.2) (.int .i64 a0_1)) (fun _ hk=>hk.2) (.slice Ao11 y234.length co11)) (fun _ hk=>trivial)⟩,⟨by refine aX ?_ NB230_237.out _;refine aX ?_ NB230_237.out _;refine aX ?_ NB230_237.out _;exact BK230.out⟩,⟨by refine aW (cs:=#[.int .i64 a0_0,.int .i64 a0_1,.slice none 0 0]) ?_ 2 _ rfl;refine aW (cs:=#[.int .i64 a0_0,.int .i64 0,.slice none 0 0]) ?_ 1 _ rfl;refine aW (cs:=#[.int .i64 0,.int .i64 0,.slice none 0 0]) ?_ 0 _ rfl;exact BK237.out⟩,⟨by repeat ((with_reducible first|exact HB.out|refine ax ?_ GE237.out))⟩⟩
 case round=>
  clear H'
  obtain ⟨x4_1,x5_1,x238002_1,u238002,rfl,rfl,HA,HK1,HO_238002,BK230,BK237,HB⟩:=hrel
  cases gk with
  | zero=>exact absurd HA.out (by simp [ay.l0])
  | succ k1=>
   have H:=HA.out
   clear HA
   simp only [ay.l0] at H
   have HC15:=M0 H
   clear H
   go_upto_region 4 with (fail)
   go_cut [26] (fun v26 wc=>∃ (kq : Nat) (x26_14 : Bool),v26 = .bool x26_14 ∧ Aside0 (ay.j1 kq x4_1 x5_1 x26_14 a0_0 a0_1 x238002_1 = some r) ∧ Aside0 (kq ≤ k1) ∧ Aside0 (Kd.R (Kd.int .i64) 2 wc w.heap.size (fun _=>True) u238002 x238002_1) ∧ Aside0 (wc.heap[gb230]? = some (.cells #[.int .i64 a0_0,.int .i64 a0_1,(.slice A0_2 l0_2.length c0_2)] 27 (0,0))) ∧ Aside0 (wc.heap[gb237]? = some (.cells #[.int .i64 a0_0,.int .i64 a0_1,u238002] 27 (0,0))) ∧ Aside0 (Below w.heap.size w wc))
   case first=>
    have H:=HC15.out
    clear HC15
    by_cases c16 : x5_1 < a0_1
    ·rw [if_pos c16] at H
     have c16b0:=decide_eq_true c16
     clear c16
     (skip)
     have H':=M0 H
     clear H
     have hcz18_0:=bcv (v:=.int .i64 a0_0) BK237.out 0 rfl
     have hcz18_1:=bcv (v:=.int .i64 a0_1) BK237.out 1 rfl
     go_wp2
     go_meet
     case rel=>exact ⟨_,(decide (x4_1 < a0_0)),(by rfl),H',⟨by have:=HK1.out;omega⟩,⟨by exact HO_238002.out⟩,⟨by exact BK230.out⟩,⟨by exact BK237.out⟩,⟨HB.out⟩⟩
    ·rw [if_neg c16] at H
     have c16b0:=decide_eq_false c16
     clear c16
     (skip)
     have H':=M0 H
     clear H
     have hcz20_1:=bcv (v:=.int .i64 a0_1) BK237.out 1 rfl
     go_wp2
     go_meet
     case rel=>exact ⟨_,(false),(by rfl),H',⟨by have:=HK1.out;omega⟩,⟨by exact HO_238002.out⟩,⟨by exact BK230.out⟩,⟨by exact BK237.out⟩,⟨HB.out⟩⟩
   case rest=>
    clear HC15
    obtain ⟨kq,x26_14,rfl,HA,HJ14,HO_238002,BK230,BK237,HB⟩:=hcut
    cases kq with
    | zero=>exact absurd HA.out (by simp [ay.j1])
    | succ kj14=>
     have H:=HA.out
     clear HA
     simp only [ay.j1] at H
     by_cases c21 : x26_14 = true
     ·subst c21
      have H1 : (ay.l1 kj14 x4_1 x5_1 (-1) x4_1 a0_0 a0_1 x238002_1) = some r:=by rw [if_pos rfl] at H;exact H
      clear H
      have H:=H1
      clear H1
      have H':=M0 H
      clear H
      go_wp2
      go_loopg [6,7] kj14 (fun kq v6 v7 w'=>∃ (x6_3 : Int) (x7_3 : Int),v6 = .int .i64 x6_3 ∧ v7 = .int .i64 x7_3 ∧ Aside0 (ay.l1 kq x4_1 x5_1 x6_3 x7_3 a0_0 a0_1 x238002_1 = some r) ∧ Aside0 (kq ≤ kj14) ∧ Aside0 (Kd.R (Kd.int .i64) 2 w' w.heap.size (fun _=>True) u238002 x238002_1) ∧ Aside0 (w'.heap[gb230]? = some (.cells #[.int .i64 a0_0,.int .i64 a0_1,(.slice A0_2 l0_2.length c0_2)] 27 (0,0))) ∧ Aside0 (w'.heap[gb237]? = some (.cells #[.int .i64 a0_0,.int .i64 a0_1,u238002] 27 (0,0))) ∧ Aside0 (Below w.heap.size w w'))
      case atStart=>exact ⟨((-1)),(x4_1),(by rfl),(by rfl),H',⟨Nat.le_refl _⟩,⟨by exact HO_238002.out⟩,⟨by exact BK230.out⟩,⟨by exact BK237.out⟩,⟨HB.out⟩⟩
      case round=>
       clear H'
       obtain ⟨x6_3,x7_3,rfl,rfl,HA,HK3,HO_238002,BK230,BK237,HB⟩:=hrel
       cases gk with
       | zero=>exact absurd HA.out (by simp [ay.l1])
       | succ k3=>
        have H:=HA.out
        clear HA
        simp only [ay.l1] at H
        by_cases c22 : x7_3 < a0_0
        ·rw [if_pos c22] at H
         have c22b0:=decide_eq_true c22
         clear c22
         replace H:=Option.bind_eq_some_iff.mp H
         obtain ⟨t238,A230,H⟩:=H
         replace H : (if t238 = 0 then (ay.l1 k3 x4_1 x5_1 x6_3 (wrap64 (x7_3 + 1)) a0_0 a0_1 x238002_1) else (ay.l1 k3 x4_1 x5_1 x7_3 (wrap64 (x7_3 + 1)) a0_0 a0_1 x238002_1)) = some r:=H
         have A23:=M0 A230
         clear A230
         by_cases c24 : t238 = 0
         ·rw [if_pos c24] at H
          have c24b1 : (t238 != 0) = false:=bne_eq_false_iff_eq.mpr c24
          clear c24
          have H':=M0 H
          clear H
          have hcz26_0:=bcv (v:=.int .i64 a0_0) BK237.out 0 rfl
          have hcz26_1:=bcv (v:=.int .i64 a0_1) BK237.out 1 rfl
          have hcz26_2:=bcv (v:=u238002) BK237.out 2 rfl
          obtain ⟨Ao27,co27,eo27⟩:=Kd.bc HO_238002.out
          subst eo27
          go_wp2_with (((with_reducible refine ah (f:=67) rfl ?_);refine aH (some 39) rfl rfl Try.func67 (by kernel_rfl) rfl #[.agg #[.int .i64 a0_0,.int .i64 a0_1,.slice Ao27 x238002_1.length co27],.int .i64 x7_3,.int .i64 x5_1] rfl (by (try simp only [List.map_toArray,List.map_cons,List.map_nil]);rfl) ?_;(with_reducible refine (bs.calls a0_0 a0_1 _ _ x238002_1 x7_3 x5_1 t238 _ (Kd.aE HO_238002.out).2.2 (Kd.aE HO_238002.out).2.1 A23.out).mono ?_);rintro e w28 ⟨rfl,hb⟩;refine ⟨_,rfl,?_⟩;replace HO_238002:=M0 (Kd.aK HO_238002.out hb);replace BK230:=M0 (ab BK230.out hb);replace BK237:=M0 (ab BK237.out hb);replace HB:=M0 (aa HB.out hb);clear hb))
          go_roundg k3
          case measure=>have:=HK1.out;have:=HJ14.out;have:=HK3.out;omega
          case rel=>exact ⟨(x6_3),(wrap64 (x7_3 + 1)),(by rfl),(by rfl),H',⟨by have:=HK1.out;have:=HJ14.out;have:=HK3.out;omega⟩,⟨by exact HO_238002.out⟩,⟨by exact BK230.out⟩,⟨by exact BK237.out⟩,⟨HB.out⟩⟩
         ·rw [if_neg c24] at H
          have c24b1 : (t238 != 0) = true:=bne_iff_ne.mpr c24
          have H':=M0 H
          clear H
          have hcz30_0:=bcv (v:=.int .i64 a0_0) BK237.out 0 rfl
          have hcz30_1:=bcv (v:=.int .i64 a0_1) BK237.out 1 rfl
          have hcz30_2:=bcv (v:=u238002) BK237.out 2 rfl
          obtain ⟨Ao31,co31,eo31⟩:=Kd.bc HO_238002.out
          subst eo31
          go_wp2_with (((with_reducible refine ah (f:=67) rfl ?_);refine aH (some 39) rfl rfl Try.func67 (by kernel_rfl) rfl #[.agg #[.int .i64 a0_0,.int .i64 a0_1,.slice Ao31 x238002_1.length co31],.int .i64 x7_3,.int .i64 x5_1] rfl (by (try simp only [List.map_toArray,List.map_cons,List.map_nil]);rfl) ?_;(with_reducible refine (bs.calls a0_0 a0_1 _ _ x238002_1 x7_3 x5_1 t238 _ (Kd.aE HO_238002.out).2.2 (Kd.aE HO_238002.out).2.1 A23.out).mono ?_);rintro e w32 ⟨rfl,hb⟩;refine ⟨_,rfl,?_⟩;replace HO_238002:=M0 (Kd.aK HO_238002.out hb);replace BK230:=M0 (ab BK230.out hb);replace BK237:=M0 (ab BK237.out hb);replace HB:=M0 (aa HB.out hb);clear hb))
          go_roundg k3
          case measure=>have:=HK1.out;have:=HJ14.out;have:=HK3.out;omega
          case rel=>exact ⟨(x7_3),(wrap64 (x7_3 + 1)),(by rfl),(by rfl),H',⟨by have:=HK1.out;have:=HJ14.out;have:=HK3.out;omega⟩,⟨by exact HO_238002.out⟩,⟨by exact BK230.out⟩,⟨by exact BK237.out⟩,⟨HB.out⟩⟩
        ·rw [if_neg c22] at H
         have c22b0:=decide_eq_false c22
         clear c22
         by_cases c33 : x6_3 < 0
         ·rw [if_pos c33] at H
          have c33b0:=decide_eq_true c33
          clear c33
          have H':=M0 H
          clear H
          have hcz35_0:=bcv (v:=.int .i64 a0_0) BK237.out 0 rfl
          go_wp2
          go_roundg k3
          case measure=>have:=HK1.out;have:=HJ14.out;have:=HK3.out;omega
          case rel=>exact ⟨(x4_1),(wrap64 (x5_1 + 1)),(x238002_1),(u238002),(by rfl),(by rfl),H',⟨by have:=HK1.out;have:=HJ14.out;have:=HK3.out;omega⟩,⟨by exact HO_238002.out⟩,⟨by exact BK230.out⟩,⟨by exact BK237.out⟩,⟨HB.out⟩⟩
         ·rw [if_neg c33] at H
          have c33b0:=decide_eq_false c33
          clear c33
          replace H:=Option.bind_eq_some_iff.mp H
          obtain ⟨t239,A360,H⟩:=H
          replace H : ((ao.f k3 a0_0 a0_1 t239 x4_1 x5_1).bind fun t240=>(ay.l0 k3 (wrap64 (x4_1 + 1)) (wrap64 (x5_1 + 1)) a0_0 a0_1 t240)) = some r:=H
          have A36:=M0 A360
          clear A360
          replace H:=Option.bind_eq_some_iff.mp H
          obtain ⟨t240,A370,H⟩:=H
          replace H : (ay.l0 k3 (wrap64 (x4_1 + 1)) (wrap64 (x5_1 + 1)) a0_0 a0_1 t240) = some r:=H
          have A37:=M0 A370
          clear A370
          have H':=M0 H
          clear H
          have hcz39_0:=bcv (v:=.int .i64 a0_0) BK237.out 0 rfl
          have hcz39_1:=bcv (v:=.int .i64 a0_1) BK237.out 1 rfl
          have hcz39_2:=bcv (v:=u238002) BK237.out 2 rfl
          obtain ⟨Ao40,co40,eo40⟩:=Kd.bc HO_238002.out
          subst eo40
          go_wp2_with (first|((with_reducible refine ah (f:=68) rfl ?_);refine aH (some 47) rfl rfl Try.func68 (by kernel_rfl) rfl #[.agg #[.int .i64 a0_0,.int .i64 a0_1,.slice Ao40 x238002_1.length co40],.int .i64 x4_1,.int .i64 x6_3] rfl (by (try simp only [List.map_toArray,List.map_cons,List.map_nil]);rfl) ?_;(with_reducible refine (bp.calls k3 a0_0 a0_1 (fun k_=>some k_ = (.slice Ao40 x238002_1.length co40 : Value).ownBlock) (.slice Ao40 x238002_1.length co40) x238002_1 x4_1 x6_3 t239 w _ ?side1 ?side2 A36.out).mono ?_);(case side1=>exact HB.out);(case side2=>exact Kd.R_tight rfl HO_238002.out);rintro e w41 ⟨rfl,hy0,hb,hkp⟩;refine ⟨_,rfl,?_⟩;replace BK230:=M0 (dQ BK230.out hkp (fun hs_=>(fun e_=>(Kd.R_ne HO_238002.out BK230.out (by decide)) e_) hs_));replace BK237:=M0 (dQ BK237.out hkp (fun hs_=>(fun e_=>(Kd.R_ne HO_238002.out BK237.out (by decide)) e_) hs_));replace HO_238002:=M0 (Kd.R_reok rfl hy0 (fun k_ e_=>HO_238002.out.1 k_ e_));replace HB:=M0 (hb);clear hb hkp hy0;have hcz42_0:=bcv (v:=.int .i64 a0_0) BK237.out 0 rfl;have hcz42_1:=bcv (v:=.int .i64 a0_1) BK237.out 1 rfl;have hcz42_2:=bcv (v:=.slice Ao40 x238002_1.length co40) BK237.out 2 rfl)|((with_reducible refine ah (f:=69) rfl ?_);refine aH (some 51) rfl rfl Try.func69 (by kernel_rfl) rfl #[.agg #[.int .i64 a0_0,.int .i64 a0_1,.slice Ao40 x238002_1.length co40],.int .i64 x4_1,.int .i64 x5_1] rfl (by (try simp only [List.map_toArray,List.map_cons,List.map_nil]);rfl) ?_;(with_reducible refine (ao.calls k3 a0_0 a0_1 (fun k_=>some k_ = (.slice Ao40 x238002_1.length co40 : Value).ownBlock) (.slice Ao40 x238002_1.length co40) t239 x4_1 x5_1 t240 w _ ?side1 ?side2 A37.out).mono ?_);(case side1=>exact HB.out);(case side2=>exact Kd.R_tight rfl HO_238002.out);rintro e w43 ⟨rfl,hy0,hb,hkp⟩;refine ⟨_,rfl,?_⟩;replace BK230:=M0 (dQ BK230.out hkp (fun hs_=>(fun e_=>(Kd.R_ne HO_238002.out BK230.out (by decide)) e_) hs_));replace BK237:=M0 (dQ BK237.out hkp (fun hs_=>(fun e_=>(Kd.R_ne HO_238002.out BK237.out (by decide)) e_) hs_));replace HO_238002:=M0 (Kd.R_reok rfl hy0 (fun k_ e_=>HO_238002.out.1 k_ e_));replace HB:=M0 (hb);clear hb hkp hy0))
          go_roundg k3
          case measure=>have:=HK1.out;have:=HJ14.out;have:=HK3.out;omega
          case rel=>exact ⟨(wrap64 (x4_1 + 1)),(wrap64 (x5_1 + 1)),(t240),(.slice Ao40 x238002_1.length co40),(by rfl),(by rfl),H',⟨by have:=HK1.out;have:=HJ14.out;have:=HK3.out;omega⟩,⟨by exact HO_238002.out⟩,⟨by exact BK230.out⟩,⟨by exact BK237.out⟩,⟨HB.out⟩⟩
     ·replace c21:=Bool.eq_false_iff.mpr c21
      subst c21
      have H1 : (some x4_1) = some r:=by rw [if_neg (show ¬ (false = true) by decide)] at H;exact H
      clear H
      have H:=H1
      clear H1
      obtain rfl:=Option.some.inj H
      go_wp2
      go_ret
      exact ⟨by rfl,HB.out⟩

end Go.Proofs.Ytffhbpepppodeaa.PFnExactJoinObject
