import Derived.Test.YtffhbpepppodeaaPFnInversex0
import Derived.Test.YtffhbpepppodeaaPFnInversex3
import Derived.Test.YtffhbpepppodeaaPFnInversex5
import Derived.Test.YtffhbpepppodeaaPFnInversex9
namespace Go.Proofs.Ytffhbpepppodeaa.PFnInverse
open Go.RowKit Go.Proofs.YtffhbpepppodeaaW.PrintWords Go.Proofs.YtffhbpepppodeaaW.PrintLast Go.Proofs.YtffhbpepppodeaaW.PrintMore
attribute [local go_sem] max2_int min2_int max_two min_two max_three min_three max_four min_four   -- for this text's walks alone
set_option linter.unusedVariables false
set_option linter.unusedSimpArgs false

/-! ### spec_l01Src_matrix: function 76 -/
mutual
def spec_l01Src_matrix.l0 : Nat → Int → Int → Int → Int → List Int → Int → Int → Int → Int → List Int → Option (Int × Int × List Int × Int × Int)
 | 0,_,_,_,_,_,_,_,_,_,_=>none
 | k + 1,x1,x2,x8,x9,x1000,x1001,x1002,x185000,x185001,x185002=>if x9 < (x185002.length : Int) then ((spec_l01Src_n.f x1000 x1001 x1002 256).bind fun bt188=>(if 0 ≤ x9 then ((some (x185002.set (x9 : Int).toNat bt188.1 : List Int)).bind fun y191=>(if x8 = 0 then ((spec_l01Src_n.f x1000 bt188.2.1 bt188.2.2 2).bind fun bt192=>((some (y191.set (x9 : Int).toNat bt192.1 : List Int)).bind fun y195=>(if x8 = 1 then ((spec_l01Src_one.f x1000 bt192.2.1 bt192.2.2 2).bind fun bt196=>(if bt196.1 = true then (spec_l01Src_matrix.l0 k x1 x2 x8 (wrap64 (x9 + 1)) x1000 bt196.2.1 bt196.2.2 x185000 x185001 (y195.set (x9 : Int).toNat 0)) else (spec_l01Src_matrix.l0 k x1 x2 x8 (wrap64 (x9 + 1)) x1000 bt196.2.1 bt196.2.2 x185000 x185001 y195))) else (spec_l01Src_matrix.l0 k x1 x2 x8 (wrap64 (x9 + 1)) x1000 bt192.2.1 bt192.2.2 x185000 x185001 y195)))) else (if x8 = 1 then ((spec_l01Src_one.f x1000 bt188.2.1 bt188.2.2 2).bind fun bt200=>(if bt200.1 = true then (spec_l01Src_matrix.l0 k x1 x2 x8 (wrap64 (x9 + 1)) x1000 bt200.2.1 bt200.2.2 x185000 x185001 (y191.set (x9 : Int).toNat 0)) else (spec_l01Src_matrix.l0 k x1 x2 x8 (wrap64 (x9 + 1)) x1000 bt200.2.1 bt200.2.2 x185000 x185001 y191))) else (spec_l01Src_matrix.l0 k x1 x2 x8 (wrap64 (x9 + 1)) x1000 bt188.2.1 bt188.2.2 x185000 x185001 y191)))) else (none))) else (if x8 = 2 then (spec_l01Src_matrix.j1 k x1 x2 (decide (x1 > 1)) x1000 x1001 x1002 x185000 x185001 x185002) else (spec_l01Src_matrix.j1 k x1 x2 false x1000 x1001 x1002 x185000 x185001 x185002))
def spec_l01Src_matrix.j1 : Nat → Int → Int → Bool → List Int → Int → Int → Int → Int → List Int → Option (Int × Int × List Int × Int × Int)
 | 0,_,_,_,_,_,_,_,_,_=>none
 | k + 1,x1,x2,x53,x1000,x1001,x1002,x185000,x185001,x185002=>if x53 = true then ((spec_l01Src_n.f x1000 x1001 x1002 256).bind fun bt204=>(spec_l01Src_matrix.l1 k x1 x2 bt204.1 0 x1000 bt204.2.1 bt204.2.2 x185000 x185001 x185002)) else (some (x185000,x185001,x185002,x1001,x1002))
def spec_l01Src_matrix.l1 : Nat → Int → Int → Int → Int → List Int → Int → Int → Int → Int → List Int → Option (Int × Int × List Int × Int × Int)
 | 0,_,_,_,_,_,_,_,_,_,_=>none
 | k + 1,x1,x2,x10,x11,x1000,x1001,x1002,x185000,x185001,x185002=>if x11 < x2 then (if 0 ≤ x11 then (if x11 < (x185002.length : Int) then ((spec_Mul8.f k x10 (rd x185002 x11)).bind fun t208=>(if 0 ≤ (wrap64 ((wrap64 ((wrap64 (x1 - 1)) * x2)) + x11)) then (if (wrap64 ((wrap64 ((wrap64 (x1 - 1)) * x2)) + x11)) < (x185002.length : Int) then (spec_l01Src_matrix.l1 k x1 x2 x10 (wrap64 (x11 + 1)) x1000 x1001 x1002 x185000 x185001 (x185002.set ((wrap64 ((wrap64 ((wrap64 (x1 - 1)) * x2)) + x11)) : Int).toNat t208)) else (none)) else (none))) else (none)) else (none)) else (some (x185000,x185001,x185002,x1001,x1002))
end
def spec_l01Src_matrix.f (k : Nat) (s0_0 : List Int) (s0_1 : Int) (s0_2 : Int) (a1 : Int) (a2 : Int) : Option (Int × Int × List Int × Int × Int):=(spec_l03New.f a1 a2).bind fun bt179=>((spec_l01Src_n.f s0_0 s0_1 s0_2 4).bind fun bt185=>(spec_l01Src_matrix.l0 k a1 a2 bt185.1 0 s0_0 bt185.2.1 bt185.2.2 bt179.1 bt179.2.1 bt179.2.2))
theorem spec_l01Src_matrix.mono_l : ∀ k,(∀ y0 y1 y2 y3 y4 y5 y6 y7 y8 y9,LeO (spec_l01Src_matrix.l0 k y0 y1 y2 y3 y4 y5 y6 y7 y8 y9) (spec_l01Src_matrix.l0 (k + 1) y0 y1 y2 y3 y4 y5 y6 y7 y8 y9)) ∧ (∀ y0 y1 y2 y3 y4 y5 y6 y7 y8,LeO (spec_l01Src_matrix.j1 k y0 y1 y2 y3 y4 y5 y6 y7 y8) (spec_l01Src_matrix.j1 (k + 1) y0 y1 y2 y3 y4 y5 y6 y7 y8)) ∧ (∀ y0 y1 y2 y3 y4 y5 y6 y7 y8 y9,LeO (spec_l01Src_matrix.l1 k y0 y1 y2 y3 y4 y5 y6 y7 y8 y9) (spec_l01Src_matrix.l1 (k + 1) y0 y1 y2 y3 y4 y5 y6 y7 y8 y9))
 | 0=>⟨fun _ _ _ _ _ _ _ _ _ _ r h=>by simp [spec_l01Src_matrix.l0] at h,fun _ _ _ _ _ _ _ _ _ r h=>by simp [spec_l01Src_matrix.j1] at h,fun _ _ _ _ _ _ _ _ _ _ r h=>by simp [spec_l01Src_matrix.l1] at h⟩
 | k + 1=>by
  obtain ⟨ih0,ih1,ih2⟩:=spec_l01Src_matrix.mono_l k
  refine ⟨?_,?_,?_⟩
  ·intro y0 y1 y2 y3 y4 y5 y6 y7 y8 y9
   unfold spec_l01Src_matrix.l0
   repeat' first
   | (with_reducible exact ih0 _ _ _ _ _ _ _ _ _ _)
   | (with_reducible exact ih1 _ _ _ _ _ _ _ _ _)
   | (with_reducible exact ih2 _ _ _ _ _ _ _ _ _ _)
   | (with_reducible exact spec_Mul8.mono _ _ _)
   | (with_reducible exact LeO.refl _)
   | (with_reducible exact LeO.none _)
   | (with_reducible refine LeO.ite ?_ ?_)
   | (with_reducible refine LeO.bind ?_ (fun _=>?_))
   | exact ih0 _ _ _ _ _ _ _ _ _ _
   | exact ih1 _ _ _ _ _ _ _ _ _
   | exact ih2 _ _ _ _ _ _ _ _ _ _
   | exact spec_Mul8.mono _ _ _
   | exact LeO.none _
   | refine LeO.ite ?_ ?_
   | refine LeO.bind ?_ (fun _=>?_)
  ·intro y0 y1 y2 y3 y4 y5 y6 y7 y8
   unfold spec_l01Src_matrix.j1
   repeat' first
   | (with_reducible exact ih0 _ _ _ _ _ _ _ _ _ _)
   | (with_reducible exact ih1 _ _ _ _ _ _ _ _ _)
   | (with_reducible exact ih2 _ _ _ _ _ _ _ _ _ _)
   | (with_reducible exact spec_Mul8.mono _ _ _)
   | (with_reducible exact LeO.refl _)
   | (with_reducible exact LeO.none _)
   | (with_reducible refine LeO.ite ?_ ?_)
   | (with_reducible refine LeO.bind ?_ (fun _=>?_))
   | exact ih0 _ _ _ _ _ _ _ _ _ _
   | exact ih1 _ _ _ _ _ _ _ _ _
   | exact ih2 _ _ _ _ _ _ _ _ _ _
   | exact spec_Mul8.mono _ _ _
   | exact LeO.none _
   | refine LeO.ite ?_ ?_
   | refine LeO.bind ?_ (fun _=>?_)
  ·intro y0 y1 y2 y3 y4 y5 y6 y7 y8 y9
   unfold spec_l01Src_matrix.l1
   repeat' first
   | (with_reducible exact ih0 _ _ _ _ _ _ _ _ _ _)
   | (with_reducible exact ih1 _ _ _ _ _ _ _ _ _)
   | (with_reducible exact ih2 _ _ _ _ _ _ _ _ _ _)
   | (with_reducible exact spec_Mul8.mono _ _ _)
   | (with_reducible exact LeO.refl _)
   | (with_reducible exact LeO.none _)
   | (with_reducible refine LeO.ite ?_ ?_)
   | (with_reducible refine LeO.bind ?_ (fun _=>?_))
   | exact ih0 _ _ _ _ _ _ _ _ _ _
   | exact ih1 _ _ _ _ _ _ _ _ _
   | exact ih2 _ _ _ _ _ _ _ _ _ _
   | exact spec_Mul8.mono _ _ _
   | exact LeO.none _
   | refine LeO.ite ?_ ?_
   | refine LeO.bind ?_ (fun _=>?_)
theorem spec_l01Src_matrix.mono : ∀ a0 a1 a2 a3 a4 k,LeO (spec_l01Src_matrix.f k a0 a1 a2 a3 a4) (spec_l01Src_matrix.f (k + 1) a0 a1 a2 a3 a4):=by
 intro a0 a1 a2 a3 a4 k
 obtain ⟨ih0,ih1,ih2⟩:=spec_l01Src_matrix.mono_l k
 unfold spec_l01Src_matrix.f
 repeat' first
   | (with_reducible exact ih0 _ _ _ _ _ _ _ _ _ _)
   | (with_reducible exact ih1 _ _ _ _ _ _ _ _ _)
   | (with_reducible exact ih2 _ _ _ _ _ _ _ _ _ _)
   | (with_reducible exact spec_Mul8.mono _ _ _)
   | (with_reducible exact LeO.refl _)
   | (with_reducible exact LeO.none _)
   | (with_reducible refine LeO.ite ?_ ?_)
   | (with_reducible refine LeO.bind ?_ (fun _=>?_))
   | exact ih0 _ _ _ _ _ _ _ _ _ _
   | exact ih1 _ _ _ _ _ _ _ _ _
   | exact ih2 _ _ _ _ _ _ _ _ _ _
   | exact spec_Mul8.mono _ _ _
   | exact LeO.none _
   | refine LeO.ite ?_ ?_
   | refine LeO.bind ?_ (fun _=>?_)
def spec_l01Src_matrix.T16 : Bool × List (List Nat × List Nat):=(true,[([],[]),([0],[0]),([],[]),([2],[2]),([],[]),([3,4],[3,4]),([],[]),([5,6],[5,6]),([],[]),([],[]),([9],[9]),([],[]),([10,11],[10,11]),([12],[12]),([8,13],[8,13]),([1,7,0,1,2,3,4,5,6,7,8,9,10,11,12,13,14],[1,7]),([15,14,14,0,1,2,3,4,5,6,7,8,9,10,11,12,13,14],[14,15])])
def spec_l01Src_matrix.B16 : List Nat:=[0,1,0,4,0,28,0,124,0,0,512,0,3584,7680,16128,32767,65535]
theorem spec_l01Src_matrix.tab16 : rtab .any (opsOf Try.f76 16) = spec_l01Src_matrix.T16:=by kernel_rfl
theorem spec_l01Src_matrix.bits16 : waitsOk spec_l01Src_matrix.T16.2 spec_l01Src_matrix.B16 = true:=by kernel_rfl
set_option maxHeartbeats 8000000 in
set_option maxRecDepth 100000 in
theorem spec_l01Src_matrix.calls (k : Nat) (g : Nat) (s0_0 : List Int) (s0_1 : Int) (s0_2 : Int) (a1 : Int) (a2 : Int) (r1 : Int) (r2 : Int) (r3 : List Int) (r4 : Int) (r5 : Int) (w0 w : World) (hI : IsS171 w0 w g s0_0 s0_1 s0_2) (hB : Below w0.heap.size w0 w) (h : spec_l01Src_matrix.f k s0_0 s0_1 s0_2 a1 a2 = some (r1,r2,r3,r4,r5)) :
  Calls Try.prog 76 #[.pointer (some ⟨g,0,none⟩),.int .i64 a1,.int .i64 a2] w fun e w'=>∃ v2_ : Value,e = .returned (.agg #[.int .i64 r1,.int .i64 r2,v2_]) ∧ Kd.R (Kd.int .i64) 2 w' w.heap.size (fun _=>True) v2_ r3 ∧ IsS171 w0 w' g s0_0 r4 r5 ∧ Below w0.heap.size w0 w' ∧ KeepBut w w' g none:=by
 have hu27:=Try.underlying27
 have HI0:=Aside0.mk hI
 have HK:=Aside0.mk (KeepBut.refl w g none)
 have HL:=Aside0.mk hB.size
 clear hI
 have HW0:=Aside0.mk hB.size
 have HB:=Aside0.mk hB
 clear hB
 have H : ((spec_l03New.f a1 a2).bind fun bt179=>((spec_l01Src_n.f s0_0 s0_1 s0_2 4).bind fun bt185=>(spec_l01Src_matrix.l0 k a1 a2 bt185.1 0 s0_0 bt185.2.1 bt185.2.2 bt179.1 bt179.2.1 bt179.2.2))) = some (r1,r2,r3,r4,r5):=h
 clear h
 replace H:=Option.bind_eq_some_iff.mp H
 obtain ⟨⟨t179,t180,t181⟩,A40,H⟩:=H
 replace H : ((spec_l01Src_n.f s0_0 s0_1 s0_2 4).bind fun bt185=>(spec_l01Src_matrix.l0 k a1 a2 bt185.1 0 s0_0 bt185.2.1 bt185.2.2 t179 t180 t181)) = some (r1,r2,r3,r4,r5):=H
 have A4:=Aside0.mk A40
 clear A40
 replace H:=Option.bind_eq_some_iff.mp H
 obtain ⟨⟨t185,t186,t187⟩,A50,H⟩:=H
 replace H : (spec_l01Src_matrix.l0 k a1 a2 t185 0 s0_0 t186 t187 t179 t180 t181) = some (r1,r2,r3,r4,r5):=H
 have A5:=Aside0.mk A50
 clear A50
 have H':=Aside0.mk H
 clear H
 go_enter Try.func76,Try.ntmps76
 go_wp2_with (first|((with_reducible refine gate_dst (N:=6) rfl ?_);refine box_event ?hg (N:=6) ?hd (cs:=#[.int .i64 0,.int .i64 0,.slice none 0 0]) (t:=27) ?hr ?_;(case hd=>rfl);(case hg=>rfl);(case hr=>first|(go_simp;done)|(go_simp;rfl));intro gb178 hg w6 hbox hb;have n0_:=Aside0.mk (IsS171.below (by repeat (first|(with_reducible first|exact HI0.out|apply IsS171.alloc|apply IsS171.drewN|apply IsS171.set_1|apply IsS171.set_2)|exact HI0.out)) hb);have n1_:=Aside0.mk (KeepBut.trans (by repeat (first|(with_reducible first|exact HK.out|apply KeepBut.set_|apply keep_drewN|apply keep_alloc)|exact HK.out)) (KeepBut.of_below hb g none) (.inl rfl));have n2_:=Aside0.mk (below_step (by repeat (first|(with_reducible first|exact HB.out|apply below_alloc|apply pw_below_drewN|apply below_drew1|refine below_set ?_ (IsS171.ge HI0.out))|exact HB.out)) hb);have n3_:=Aside0.mk (hbox);have n4_:=Aside0.mk ((by rw [hg];exact (keep_size (w:=w) (g:=g) (row:=none) (by repeat (first|(with_reducible first|exact HK.out|apply KeepBut.set_|apply keep_drewN|apply keep_alloc)|exact HK.out))) : w.heap.size ≤ gb178));have n5_:=Aside0.mk ((Nat.le_trans HW0.out (by rw [hg];exact (keep_size (w:=w) (g:=g) (row:=none) (by repeat (first|(with_reducible first|exact HK.out|apply KeepBut.set_|apply keep_drewN|apply keep_alloc)|exact HK.out))) : w.heap.size ≤ gb178) : w0.heap.size ≤ gb178));have n6_:=Aside0.mk ((by rw [hg];exact Nat.ne_of_lt (IsS171.lt (show IsS171 w0 _ g s0_0 s0_1 s0_2 from by repeat (first|(with_reducible first|exact HI0.out|apply IsS171.alloc|apply IsS171.drewN|apply IsS171.set_1|apply IsS171.set_2)|exact HI0.out))) : g ≠ gb178));have n7_:=Aside0.mk ((by rw [hg];exact Nat.ne_of_gt (IsS171.lt (show IsS171 w0 _ g s0_0 s0_1 s0_2 from by repeat (first|(with_reducible first|exact HI0.out|apply IsS171.alloc|apply IsS171.drewN|apply IsS171.set_1|apply IsS171.set_2)|exact HI0.out))) : gb178 ≠ g));clear HI0 HK HB;have HI0:=n0_;have HK:=n1_;have HB:=n2_;have BK178:=n3_;have GW178:=n4_;have GE178:=n5_;have NB0_178:=n6_;have NB178_0:=n7_;clear n0_ n1_ n2_ n3_ n4_ n5_ n6_ n7_ hb hbox hg)|((with_reducible refine gate_callee (f:=66) rfl ?_);refine goesL_ (some 14) rfl rfl Try.func66 (by kernel_rfl) rfl #[.int .i64 a1,.int .i64 a2] rfl (by (try simp only [List.map_toArray,List.map_cons,List.map_nil]);first|done|rfl) ?_;(with_reducible refine (spec_l03New.calls a1 a2 t179 t180 t181 _ A4.out).mono ?_);rintro e w7 ⟨v182,rfl,ho0,hb⟩;refine ⟨_,rfl,?_⟩;have n0_:=Aside0.mk (Kd.R_lower ho0 (keep_size (w:=w) (g:=g) (row:=none) (by repeat (first|(with_reducible first|exact HK.out|apply KeepBut.set_|apply keep_drewN|apply keep_alloc|refine keep_far ?_ GW178.out _)|exact HK.out))));have n1_:=Aside0.mk (IsS171.below (by repeat (first|(with_reducible first|exact HI0.out|apply IsS171.alloc|apply IsS171.drewN|apply IsS171.set_1|apply IsS171.set_2|refine IsS171.far ?_ NB0_178.out _)|exact HI0.out)) hb);have n2_:=Aside0.mk (blk_below (g:=gb178) (o:=.cells #[.int .i64 0,.int .i64 0,.slice none 0 0] 27 (0,0)) (by (with_reducible repeat first|refine blk_drewN ?_ _|refine blk_alloc ?_ _);exact BK178.out) hb);have n3_:=Aside0.mk (KeepBut.trans (by repeat (first|(with_reducible first|exact HK.out|apply KeepBut.set_|apply keep_drewN|apply keep_alloc|refine keep_far ?_ GW178.out _)|exact HK.out)) (KeepBut.of_below hb g none) (.inl rfl));have n4_:=Aside0.mk (below_step (by repeat (first|(with_reducible first|exact HB.out|apply below_alloc|apply pw_below_drewN|apply below_drew1|refine below_set ?_ (IsS171.ge HI0.out)|refine below_set ?_ GE178.out)|exact HB.out)) hb);clear HI0 BK178 HK HB;have HO183:=n0_;have HI0:=n1_;have BK178:=n2_;have HK:=n3_;have HB:=n4_;clear n0_ n1_ n2_ n3_ n4_;(try clear hb);(try clear hb2);(try clear hk);(try clear hi);(try clear ho0))|((with_reducible refine gate_dst (N:=7) rfl ?_);refine box_event ?hg (N:=7) ?hd (cs:=#[.int .i64 0,.int .i64 0,.slice none 0 0]) (t:=27) ?hr ?_;(case hd=>rfl);(case hg=>rfl);(case hr=>first|(go_simp;done)|(go_simp;rfl));intro gb184 hg w8 hbox hb;have n0_:=Aside0.mk (Kd.R_below (by (with_reducible repeat (first|apply Kd.R_alloc|apply Kd.R_drewN));exact HO183.out) hb);have n1_:=Aside0.mk (IsS171.below (by repeat (first|(with_reducible first|exact HI0.out|apply IsS171.alloc|apply IsS171.drewN|apply IsS171.set_1|apply IsS171.set_2|refine IsS171.far ?_ NB0_178.out _)|exact HI0.out)) hb);have n2_:=Aside0.mk (blk_below (g:=gb178) (o:=.cells #[.int .i64 0,.int .i64 0,.slice none 0 0] 27 (0,0)) (by (with_reducible repeat first|refine blk_drewN ?_ _|refine blk_alloc ?_ _);exact BK178.out) hb);have n3_:=Aside0.mk (KeepBut.trans (by repeat (first|(with_reducible first|exact HK.out|apply KeepBut.set_|apply keep_drewN|apply keep_alloc|refine keep_far ?_ GW178.out _)|exact HK.out)) (KeepBut.of_below hb g none) (.inl rfl));have n4_:=Aside0.mk (below_step (by repeat (first|(with_reducible first|exact HB.out|apply below_alloc|apply pw_below_drewN|apply below_drew1|refine below_set ?_ (IsS171.ge HI0.out)|refine below_set ?_ GE178.out)|exact HB.out)) hb);have n5_:=Aside0.mk (hbox);have n6_:=Aside0.mk ((by rw [hg];exact (keep_size (w:=w) (g:=g) (row:=none) (by repeat (first|(with_reducible first|exact HK.out|apply KeepBut.set_|apply keep_drewN|apply keep_alloc|refine keep_far ?_ GW178.out _)|exact HK.out))) : w.heap.size ≤ gb184));have n7_:=Aside0.mk ((Nat.le_trans HW0.out (by rw [hg];exact (keep_size (w:=w) (g:=g) (row:=none) (by repeat (first|(with_reducible first|exact HK.out|apply KeepBut.set_|apply keep_drewN|apply keep_alloc|refine keep_far ?_ GW178.out _)|exact HK.out))) : w.heap.size ≤ gb184) : w0.heap.size ≤ gb184));have n8_:=Aside0.mk ((by rw [hg];exact Nat.ne_of_lt (blk_lt (g:=gb178) (o:=.cells #[.int .i64 0,.int .i64 0,.slice none 0 0] 27 (0,0)) (by (with_reducible repeat first|refine blk_drewN ?_ _|refine blk_alloc ?_ _);exact BK178.out)) : gb178 ≠ gb184));have n9_:=Aside0.mk ((by rw [hg];exact Nat.ne_of_gt (blk_lt (g:=gb178) (o:=.cells #[.int .i64 0,.int .i64 0,.slice none 0 0] 27 (0,0)) (by (with_reducible repeat first|refine blk_drewN ?_ _|refine blk_alloc ?_ _);exact BK178.out)) : gb184 ≠ gb178));have n10_:=Aside0.mk ((by rw [hg];exact Nat.ne_of_lt (IsS171.lt (show IsS171 w0 _ g s0_0 s0_1 s0_2 from by repeat (first|(with_reducible first|exact HI0.out|apply IsS171.alloc|apply IsS171.drewN|apply IsS171.set_1|apply IsS171.set_2|refine IsS171.far ?_ NB0_178.out _)|exact HI0.out))) : g ≠ gb184));have n11_:=Aside0.mk ((by rw [hg];exact Nat.ne_of_gt (IsS171.lt (show IsS171 w0 _ g s0_0 s0_1 s0_2 from by repeat (first|(with_reducible first|exact HI0.out|apply IsS171.alloc|apply IsS171.drewN|apply IsS171.set_1|apply IsS171.set_2|refine IsS171.far ?_ NB0_178.out _)|exact HI0.out))) : gb184 ≠ g));clear HO183 HI0 BK178 HK HB;have HO183:=n0_;have HI0:=n1_;have BK178:=n2_;have HK:=n3_;have HB:=n4_;have BK184:=n5_;have GW184:=n6_;have GE184:=n7_;have NB178_184:=n8_;have NB184_178:=n9_;have NB0_184:=n10_;have NB184_0:=n11_;clear n0_ n1_ n2_ n3_ n4_ n5_ n6_ n7_ n8_ n9_ n10_ n11_ hb hbox hg;have hnb9:=NB184_178.out;have hnc9:=NB178_184.out;have hnb10:=NB184_0.out;have hnc10:=NB0_184.out;have hcz11_0 : w8.cell? ⟨gb184,0,none⟩ = some (.int .i64 0):=(blk_cell BK184.out 0).trans rfl;have hcz11_1 : w8.cell? ⟨gb184,1,none⟩ = some (.int .i64 0):=(blk_cell BK184.out 1).trans rfl;have hcz11_2 : w8.cell? ⟨gb184,2,none⟩ = some (.slice none 0 0):=(blk_cell BK184.out 2).trans rfl;have hfz11_0:=blk_frozen BK184.out 0;have hfz11_1:=blk_frozen BK184.out 1;have hfz11_2:=blk_frozen BK184.out 2;obtain ⟨Ao12,co12,eo12⟩:=Kd.R_slice HO183.out;subst eo12)|((with_reducible refine gate_callee (f:=75) rfl ?_);refine goesL_ (some 16) rfl rfl Try.func75 (by kernel_rfl) rfl #[.pointer (some ⟨g,0,none⟩),.int .i64 4] rfl (by (try simp only [List.map_toArray,List.map_cons,List.map_nil]);first|done|rfl) ?_;(with_reducible refine (spec_l01Src_n.calls g s0_0 s0_1 s0_2 4 t185 t186 t187 w0 _ ?side1 ?side2 A5.out).mono ?_);(case side1=>repeat (first|(with_reducible first|exact HI0.out|apply IsS171.alloc|apply IsS171.drewN|apply IsS171.set_1|apply IsS171.set_2|refine IsS171.far ?_ NB0_178.out _|refine IsS171.far ?_ NB0_184.out _)|exact HI0.out));(case side2=>repeat (first|(with_reducible first|exact HB.out|apply below_alloc|apply pw_below_drewN|apply below_drew1|refine below_set ?_ (IsS171.ge HI0.out)|refine below_set ?_ GE178.out|refine below_set ?_ GE184.out)|exact HB.out));rintro e w13 ⟨rfl,hi,hb,hk⟩;refine ⟨_,rfl,?_⟩;have n0_:=Aside0.mk (KeepBut.blk hk (g':=gb178) (o:=.cells #[.int .i64 0,.int .i64 0,.slice none 0 0] 27 (0,0)) (by (with_reducible repeat first|refine blk_drewN ?_ _|refine blk_alloc ?_ _);refine blk_far ?_ NB178_184.out _;(with_reducible repeat first|refine blk_drewN ?_ _|refine blk_alloc ?_ _);refine blk_far ?_ NB178_184.out _;(with_reducible repeat first|refine blk_drewN ?_ _|refine blk_alloc ?_ _);refine blk_far ?_ NB178_184.out _;(with_reducible repeat first|refine blk_drewN ?_ _|refine blk_alloc ?_ _);exact BK178.out) NB178_0.out (by simp));have n1_:=Aside0.mk (Kd.R_mono (Kd.R_keep (IsS171.apart (show IsS171 w0 _ g s0_0 s0_1 s0_2 from by repeat (first|(with_reducible first|exact HI0.out|apply IsS171.alloc|apply IsS171.drewN|apply IsS171.set_1|apply IsS171.set_2|refine IsS171.far ?_ NB0_178.out _|refine IsS171.far ?_ NB0_184.out _)|exact HI0.out)) (by (with_reducible repeat (first|apply Kd.R_alloc|apply Kd.R_drewN));exact (Kd.R_mono (Kd.R_far (p:=⟨gb184,2,none⟩) (Kd.R_far (p:=⟨gb184,1,none⟩) (Kd.R_far (p:=⟨gb184,0,none⟩) (Kd.R_types HO183.out BK184.out (by decide)) (fun _ hk=>hk.2) (.int .i64 t179)) (fun _ hk=>hk.2) (.int .i64 t180)) (fun _ hk=>hk.2) (.slice Ao12 t181.length co12)) (fun _ h_=>h_.1))) (by decide)) hk (fun _ h=>h.2)) (fun _ h=>h.1));have n2_:=Aside0.mk (KeepBut.blk hk (g':=gb184) (o:=.cells #[.int .i64 t179,.int .i64 t180,.slice Ao12 t181.length co12] 27 (0,0)) (by (with_reducible repeat first|refine blk_drewN ?_ _|refine blk_alloc ?_ _);refine blk_put (cs:=#[.int .i64 t179,.int .i64 t180,.slice none 0 0]) ?_ 2 _ rfl;(with_reducible repeat first|refine blk_drewN ?_ _|refine blk_alloc ?_ _);refine blk_put (cs:=#[.int .i64 t179,.int .i64 0,.slice none 0 0]) ?_ 1 _ rfl;(with_reducible repeat first|refine blk_drewN ?_ _|refine blk_alloc ?_ _);refine blk_put (cs:=#[.int .i64 0,.int .i64 0,.slice none 0 0]) ?_ 0 _ rfl;(with_reducible repeat first|refine blk_drewN ?_ _|refine blk_alloc ?_ _);exact BK184.out) NB184_0.out (by simp));have n3_:=Aside0.mk (KeepBut.trans (by repeat (first|(with_reducible first|exact HK.out|apply KeepBut.set_|apply keep_drewN|apply keep_alloc|refine keep_far ?_ GW178.out _|refine keep_far ?_ GW184.out _)|exact HK.out)) hk (.inl rfl));have n4_:=Aside0.mk (hb);have n5_:=Aside0.mk (hi);clear BK178 HO183 BK184 HK HB HI0;have BK178:=n0_;have HO183:=n1_;have BK184:=n2_;have HK:=n3_;have HB:=n4_;have HI0:=n5_;clear n0_ n1_ n2_ n3_ n4_ n5_;(try clear hb);(try clear hb2);(try clear hk);(try clear hi)))
 go_loopg [9] k (fun kq v9 w'=>∃ (x9_1 : Int) (x1001_1 : Int) (x1002_1 : Int) (x185002_1 : List Int) (u185002 : Value),v9 = .int .i64 x9_1 ∧ Aside0 (spec_l01Src_matrix.l0 kq a1 a2 t185 x9_1 s0_0 x1001_1 x1002_1 t179 t180 x185002_1 = some (r1,r2,r3,r4,r5)) ∧ Aside0 (kq ≤ k) ∧ Aside0 (Kd.R (Kd.int .i64) 2 w' w.heap.size (fun _=>True) u185002 x185002_1) ∧ Aside0 (w'.heap[gb178]? = some (.cells #[.int .i64 0,.int .i64 0,(.slice none 0 0)] 27 (0,0))) ∧ Aside0 (w'.heap[gb184]? = some (.cells #[.int .i64 t179,.int .i64 t180,u185002] 27 (0,0))) ∧ Aside0 (IsS171 w0 w' g s0_0 x1001_1 x1002_1) ∧ Aside0 (KeepBut w w' g none) ∧ Aside0 (Below w0.heap.size w0 w'))
 case atStart=>exact ⟨(0),(t186),(t187),(t181),(.slice Ao12 t181.length co12),(by first|rfl|(simp;done)|(simp [*];done)),H',⟨Nat.le_refl _⟩,⟨by (with_reducible repeat (first|apply Kd.R_alloc|apply Kd.R_drewN));exact HO183.out⟩,⟨by (with_reducible repeat first|refine blk_drewN ?_ _|refine blk_alloc ?_ _);exact BK178.out⟩,⟨by (with_reducible repeat first|refine blk_drewN ?_ _|refine blk_alloc ?_ _);exact BK184.out⟩,⟨by repeat (first|(with_reducible first|exact HI0.out|apply IsS171.alloc|apply IsS171.drewN|apply IsS171.set_1|apply IsS171.set_2|refine IsS171.far ?_ NB0_178.out _|refine IsS171.far ?_ NB0_184.out _)|exact HI0.out)⟩,⟨by repeat (first|(with_reducible first|exact HK.out|apply KeepBut.set_|apply keep_drewN|apply keep_alloc|refine keep_far ?_ GW178.out _|refine keep_far ?_ GW184.out _)|exact HK.out)⟩,⟨by repeat (first|(with_reducible first|exact HB.out|apply below_alloc|apply pw_below_drewN|apply below_drew1|refine below_set ?_ (IsS171.ge HI0.out)|refine below_set ?_ GE178.out|refine below_set ?_ GE184.out)|exact HB.out)⟩⟩
 case round=>
  clear H'
  (try clear c1);(try clear p2);(try clear c6);(try clear c7);(try clear c9);(try clear c10);(try clear hcz11_0);(try clear hcz11_1);(try clear hcz11_2);(try clear hfz11_0);(try clear hfz11_1);(try clear hfz11_2)
  obtain ⟨x9_1,x1001_1,x1002_1,x185002_1,u185002,rfl,HA,HK1,HO_185002,BK178,BK184,HI0,HK,HB⟩:=hrel
  cases gk with
  | zero=>exact absurd HA.out (by simp [spec_l01Src_matrix.l0])
  | succ k1=>
   have H:=HA.out
   clear HA
   simp only [spec_l01Src_matrix.l0] at H
   by_cases c14 : x9_1 < (x185002_1.length : Int)
   ·rw [if_pos c14] at H
    have c14b0 : decide (x9_1 < (x185002_1.length : Int)) = true:=decide_eq_true c14
    clear c14
    replace H:=Option.bind_eq_some_iff.mp H
    obtain ⟨⟨t188,t189,t190⟩,A150,H⟩:=H
    replace H : (if 0 ≤ x9_1 then ((some (x185002_1.set (x9_1 : Int).toNat t188 : List Int)).bind fun y191=>(if t185 = 0 then ((spec_l01Src_n.f s0_0 t189 t190 2).bind fun bt192=>((some (y191.set (x9_1 : Int).toNat bt192.1 : List Int)).bind fun y195=>(if t185 = 1 then ((spec_l01Src_one.f s0_0 bt192.2.1 bt192.2.2 2).bind fun bt196=>(if bt196.1 = true then (spec_l01Src_matrix.l0 k1 a1 a2 t185 (wrap64 (x9_1 + 1)) s0_0 bt196.2.1 bt196.2.2 t179 t180 (y195.set (x9_1 : Int).toNat 0)) else (spec_l01Src_matrix.l0 k1 a1 a2 t185 (wrap64 (x9_1 + 1)) s0_0 bt196.2.1 bt196.2.2 t179 t180 y195))) else (spec_l01Src_matrix.l0 k1 a1 a2 t185 (wrap64 (x9_1 + 1)) s0_0 bt192.2.1 bt192.2.2 t179 t180 y195)))) else (if t185 = 1 then ((spec_l01Src_one.f s0_0 t189 t190 2).bind fun bt200=>(if bt200.1 = true then (spec_l01Src_matrix.l0 k1 a1 a2 t185 (wrap64 (x9_1 + 1)) s0_0 bt200.2.1 bt200.2.2 t179 t180 (y191.set (x9_1 : Int).toNat 0)) else (spec_l01Src_matrix.l0 k1 a1 a2 t185 (wrap64 (x9_1 + 1)) s0_0 bt200.2.1 bt200.2.2 t179 t180 y191))) else (spec_l01Src_matrix.l0 k1 a1 a2 t185 (wrap64 (x9_1 + 1)) s0_0 t189 t190 t179 t180 y191)))) else (none)) = some (r1,r2,r3,r4,r5):=H
    have A15:=Aside0.mk A150
    clear A150
    by_cases c16 : 0 ≤ x9_1
    ·rw [if_pos c16] at H
     have c16b0 : decide (0 ≤ x9_1) = true:=decide_eq_true c16
     clear c16
     obtain ⟨y191,hy191⟩ : ∃ y_ : List Int,y_ = (x185002_1.set (x9_1 : Int).toNat t188):=⟨_,rfl⟩
     replace H : (if t185 = 0 then ((spec_l01Src_n.f s0_0 t189 t190 2).bind fun bt192=>((some (y191.set (x9_1 : Int).toNat bt192.1 : List Int)).bind fun y195=>(if t185 = 1 then ((spec_l01Src_one.f s0_0 bt192.2.1 bt192.2.2 2).bind fun bt196=>(if bt196.1 = true then (spec_l01Src_matrix.l0 k1 a1 a2 t185 (wrap64 (x9_1 + 1)) s0_0 bt196.2.1 bt196.2.2 t179 t180 (y195.set (x9_1 : Int).toNat 0)) else (spec_l01Src_matrix.l0 k1 a1 a2 t185 (wrap64 (x9_1 + 1)) s0_0 bt196.2.1 bt196.2.2 t179 t180 y195))) else (spec_l01Src_matrix.l0 k1 a1 a2 t185 (wrap64 (x9_1 + 1)) s0_0 bt192.2.1 bt192.2.2 t179 t180 y195)))) else (if t185 = 1 then ((spec_l01Src_one.f s0_0 t189 t190 2).bind fun bt200=>(if bt200.1 = true then (spec_l01Src_matrix.l0 k1 a1 a2 t185 (wrap64 (x9_1 + 1)) s0_0 bt200.2.1 bt200.2.2 t179 t180 (y191.set (x9_1 : Int).toNat 0)) else (spec_l01Src_matrix.l0 k1 a1 a2 t185 (wrap64 (x9_1 + 1)) s0_0 bt200.2.1 bt200.2.2 t179 t180 y191))) else (spec_l01Src_matrix.l0 k1 a1 a2 t185 (wrap64 (x9_1 + 1)) s0_0 t189 t190 t179 t180 y191))) = some (r1,r2,r3,r4,r5):=by first|(rw [hy191];with_reducible exact H)|(have H2_:=(Option.bind_some _ _).symm.trans H;rw [hy191];with_reducible exact H2_)|(have H2_:=(Option.bind_some _ _).symm.trans H;with_reducible exact H2_)|with_reducible exact H|(rw [hy191];exact H)|exact H
     have Ny191:=Aside0.mk hy191
     clear hy191
     by_cases c18 : t185 = 0
     ·rw [if_pos c18] at H
      have c18b0 : (t185 == 0) = true:=beq_iff_eq.mpr c18
      have c18b1 : (t185 != 0) = false:=bne_eq_false_iff_eq.mpr c18
      clear c18
      replace H:=Option.bind_eq_some_iff.mp H
      obtain ⟨⟨t192,t193,t194⟩,A190,H⟩:=H
      replace H : ((some (y191.set (x9_1 : Int).toNat t192 : List Int)).bind fun y195=>(if t185 = 1 then ((spec_l01Src_one.f s0_0 t193 t194 2).bind fun bt196=>(if bt196.1 = true then (spec_l01Src_matrix.l0 k1 a1 a2 t185 (wrap64 (x9_1 + 1)) s0_0 bt196.2.1 bt196.2.2 t179 t180 (y195.set (x9_1 : Int).toNat 0)) else (spec_l01Src_matrix.l0 k1 a1 a2 t185 (wrap64 (x9_1 + 1)) s0_0 bt196.2.1 bt196.2.2 t179 t180 y195))) else (spec_l01Src_matrix.l0 k1 a1 a2 t185 (wrap64 (x9_1 + 1)) s0_0 t193 t194 t179 t180 y195))) = some (r1,r2,r3,r4,r5):=H
      have A19:=Aside0.mk A190
      clear A190
      obtain ⟨y195,hy195⟩ : ∃ y_ : List Int,y_ = (y191.set (x9_1 : Int).toNat t192):=⟨_,rfl⟩
      replace H : (if t185 = 1 then ((spec_l01Src_one.f s0_0 t193 t194 2).bind fun bt196=>(if bt196.1 = true then (spec_l01Src_matrix.l0 k1 a1 a2 t185 (wrap64 (x9_1 + 1)) s0_0 bt196.2.1 bt196.2.2 t179 t180 (y195.set (x9_1 : Int).toNat 0)) else (spec_l01Src_matrix.l0 k1 a1 a2 t185 (wrap64 (x9_1 + 1)) s0_0 bt196.2.1 bt196.2.2 t179 t180 y195))) else (spec_l01Src_matrix.l0 k1 a1 a2 t185 (wrap64 (x9_1 + 1)) s0_0 t193 t194 t179 t180 y195)) = some (r1,r2,r3,r4,r5):=by first|(rw [hy195];with_reducible exact H)|(have H2_:=(Option.bind_some _ _).symm.trans H;rw [hy195];with_reducible exact H2_)|(have H2_:=(Option.bind_some _ _).symm.trans H;with_reducible exact H2_)|with_reducible exact H|(rw [hy195];exact H)|exact H
      have Ny195:=Aside0.mk hy195
      clear hy195
      by_cases c21 : t185 = 1
      ·rw [if_pos c21] at H
       have c21b0 : (t185 == 1) = true:=beq_iff_eq.mpr c21
       have c21b1 : (t185 != 1) = false:=bne_eq_false_iff_eq.mpr c21
       clear c21
       replace H:=Option.bind_eq_some_iff.mp H
       obtain ⟨⟨t196,t197,t198⟩,A220,H⟩:=H
       replace H : (if t196 = true then (spec_l01Src_matrix.l0 k1 a1 a2 t185 (wrap64 (x9_1 + 1)) s0_0 t197 t198 t179 t180 (y195.set (x9_1 : Int).toNat 0)) else (spec_l01Src_matrix.l0 k1 a1 a2 t185 (wrap64 (x9_1 + 1)) s0_0 t197 t198 t179 t180 y195)) = some (r1,r2,r3,r4,r5):=H
       have A22:=Aside0.mk A220
       clear A220
       by_cases c23 : t196 = true
       ·subst c23
        have H1 : (spec_l01Src_matrix.l0 k1 a1 a2 t185 (wrap64 (x9_1 + 1)) s0_0 t197 t198 t179 t180 (y195.set (x9_1 : Int).toNat 0)) = some (r1,r2,r3,r4,r5):=by rw [if_pos rfl] at H;exact H
        clear H
        have H:=H1
        clear H1
        obtain ⟨y199,hy199⟩ : ∃ y_ : List Int,y_ = (y195.set (x9_1 : Int).toNat 0):=⟨_,rfl⟩
        replace H : (spec_l01Src_matrix.l0 k1 a1 a2 t185 (wrap64 (x9_1 + 1)) s0_0 t197 t198 t179 t180 y199) = some (r1,r2,r3,r4,r5):=by first|(rw [hy199];with_reducible exact H)|(have H2_:=(Option.bind_some _ _).symm.trans H;rw [hy199];with_reducible exact H2_)|(have H2_:=(Option.bind_some _ _).symm.trans H;with_reducible exact H2_)|with_reducible exact H|(rw [hy199];exact H)|exact H
        have Ny199:=Aside0.mk hy199
        clear hy199
        have H':=Aside0.mk H
        clear H
        have hnb25:=NB184_178.out
        have hnc25:=NB178_184.out
        have hnb26:=NB184_0.out
        have hnc26:=NB0_184.out
        have hcz27_0 : wr.cell? ⟨gb184,0,none⟩ = some (.int .i64 t179):=(blk_cell BK184.out 0).trans rfl
        have hcz27_1 : wr.cell? ⟨gb184,1,none⟩ = some (.int .i64 t180):=(blk_cell BK184.out 1).trans rfl
        have hcz27_2 : wr.cell? ⟨gb184,2,none⟩ = some (u185002):=(blk_cell BK184.out 2).trans rfl
        have hfz27_0:=blk_frozen BK184.out 0
        have hfz27_1:=blk_frozen BK184.out 1
        have hfz27_2:=blk_frozen BK184.out 2
        obtain ⟨Ao28,co28,eo28⟩:=Kd.R_slice HO_185002.out
        subst eo28
        try go_wp2
        have n0_:=Aside0.mk (Kd.R_drew HO_185002.out)
        have n1_:=Aside0.mk (blk_drew BK178.out)
        have n2_:=Aside0.mk (blk_drew BK184.out)
        have n3_:=Aside0.mk (IsS171.drew HI0.out)
        have n4_:=Aside0.mk (keep_drew HK.out)
        have n5_:=Aside0.mk (below_drew1 HB.out)
        clear HO_185002 BK178 BK184 HI0 HK HB
        have HO_185002:=n0_
        have BK178:=n1_
        have BK184:=n2_
        have HI0:=n3_
        have HK:=n4_
        have HB:=n5_
        clear n0_ n1_ n2_ n3_ n4_ n5_
        refine start_ (n:=7) (S:=fun w'=>w'.cell? ⟨gb184,0,none⟩ = some (.int .i64 t179) ∧ w'.cell? ⟨gb184,1,none⟩ = some (.int .i64 t180) ∧ w'.cell? ⟨gb184,2,none⟩ = some (.slice Ao28 x185002_1.length co28)) (ds:=[6]) #[false,false,false,false,false,false,false] (by kernel_rfl) rfl rfl ⟨(blk_cell BK184.out 0).trans rfl,(blk_cell BK184.out 1).trans rfl,(blk_cell BK184.out 2).trans rfl⟩ (fun hHeld=>?_)
        generalize wr.drew = w29 at HO_185002 BK178 BK184 HI0 HK HB hHeld ⊢
        refine pure_ (i:=0) (N:=some 24) (v:=?_) (a':=?_) #[true,false,false,false,false,false,false] rfl rfl (by kernel_rfl) (fun _ _ _ h=>h) (Or.inl ⟨by rfl,?_⟩) ?_ ?_
        rotate_left
        ·intro w'
         go_simp
         with_reducible rfl
        rotate_left
        ·simp only [Act.put,List.setIfInBounds_toArray,List.set_cons_zero,List.set_cons_succ,i64_w,i32_w]
         rfl
        refine pure_ (i:=2) (N:=some 26) (v:=?_) (a':=?_) #[true,false,true,false,false,false,false] rfl rfl (by kernel_rfl) (fun _ _ _ h=>h) (Or.inl ⟨by rfl,?_⟩) ?_ ?_
        rotate_left
        ·intro w'
         go_simp
         with_reducible rfl
        rotate_left
        ·simp only [Act.put,List.setIfInBounds_toArray,List.set_cons_zero,List.set_cons_succ,i64_w,i32_w]
         rfl
        refine pure_ (i:=3) (N:=some 27) (v:=?_) (a':=?_) #[true,false,true,true,false,false,false] rfl rfl (by kernel_rfl) (fun _ _ _ h=>h) (Or.inl ⟨by rfl,?_⟩) ?_ ?_
        rotate_left
        ·intro w'
         go_simp
         with_reducible rfl
        rotate_left
        ·simp only [Act.put,List.setIfInBounds_toArray,List.set_cons_zero,List.set_cons_succ,i64_w,i32_w]
         rfl
        refine take_ (i:=1) (N:=some 25) (v:=?_) (a':=?_) #[true,true,true,true,false,false,false] rfl rfl (by kernel_rfl) (fun _ _ _ h=>h) (Or.inl ⟨by rfl,?_⟩) hHeld ?_ ?_
        rotate_left
        ·rintro w' ⟨s0,s1,s2⟩
         go_simp
         with_reducible rfl
        rotate_left
        ·simp only [Act.put,List.setIfInBounds_toArray,List.set_cons_zero,List.set_cons_succ,i64_w,i32_w]
         rfl
        refine one_ (i:=4) (N:=some 28) #[true,true,true,true,true,false,false] rfl rfl (by kernel_rfl) (by decide) (fun K hK=>?_)
        refine goes_ Try.func75 (by kernel_rfl) rfl #[.pointer (some ⟨g,0,none⟩),.int .i64 256] (by rfl) rfl rfl (by (try simp only [List.map_toArray,List.map_cons,List.map_nil]);first|done|rfl) ?_
        with_reducible refine (spec_l01Src_n.calls g s0_0 x1001_1 x1002_1 256 t188 t189 t190 w0 _ ?side1 ?side2 A15.out).mono ?_
        (case side1=>repeat (first|(with_reducible first|exact HI0.out|apply IsS171.alloc|apply IsS171.drewN|apply IsS171.set_1|apply IsS171.set_2|refine IsS171.far ?_ NB0_178.out _|refine IsS171.far ?_ NB0_184.out _)|exact HI0.out))
        (case side2=>repeat (first|(with_reducible first|exact HB.out|apply below_alloc|apply pw_below_drewN|apply below_drew1|refine below_set ?_ (IsS171.ge HI0.out)|refine below_set ?_ GE178.out|refine below_set ?_ GE184.out)|exact HB.out))
        rintro e w30 ⟨rfl,hi,hb,hk⟩
        refine ⟨_,rfl,?_⟩
        have n0_:=Aside0.mk (Kd.R_mono (Kd.R_keep (IsS171.apart (show IsS171 w0 _ g s0_0 x1001_1 x1002_1 from by repeat (first|(with_reducible first|exact HI0.out|apply IsS171.alloc|apply IsS171.drewN|apply IsS171.set_1|apply IsS171.set_2|refine IsS171.far ?_ NB0_178.out _|refine IsS171.far ?_ NB0_184.out _)|exact HI0.out)) (by (with_reducible repeat (first|apply Kd.R_alloc|apply Kd.R_drewN));exact HO_185002.out) (by decide)) hk (fun _ h=>h.2)) (fun _ h=>h.1))
        have n1_:=Aside0.mk (KeepBut.blk hk (g':=gb178) (o:=.cells #[.int .i64 0,.int .i64 0,.slice none 0 0] 27 (0,0)) (by (with_reducible repeat first|refine blk_drewN ?_ _|refine blk_alloc ?_ _);exact BK178.out) NB178_0.out (by simp))
        have n2_:=Aside0.mk (KeepBut.blk hk (g':=gb184) (o:=.cells #[.int .i64 t179,.int .i64 t180,.slice Ao28 x185002_1.length co28] 27 (0,0)) (by (with_reducible repeat first|refine blk_drewN ?_ _|refine blk_alloc ?_ _);exact BK184.out) NB184_0.out (by simp))
        have n3_:=Aside0.mk (KeepBut.trans (by repeat (first|(with_reducible first|exact HK.out|apply KeepBut.set_|apply keep_drewN|apply keep_alloc|refine keep_far ?_ GW178.out _|refine keep_far ?_ GW184.out _)|exact HK.out)) hk (.inl rfl))
        have n4_:=Aside0.mk (hb)
        have n5_:=Aside0.mk (hi)
        clear HO_185002 BK178 BK184 HK HB HI0
        have HO_185002:=n0_
        have BK178:=n1_
        have BK184:=n2_
        have HK:=n3_
        have HB:=n4_
        have HI0:=n5_
        clear n0_ n1_ n2_ n3_ n4_ n5_
        (try clear hb);(try clear hb2);(try clear hk);(try clear hi)
        have p17 : 0 ≤ (x9_1 : Int):=of_decide_eq_true (by first|(with_reducible assumption)|assumption)
        have q17 : (x9_1 : Int) < ((x185002_1.length : Int) : Int):=of_decide_eq_true (by first|(with_reducible assumption)|assumption)
        obtain ⟨go17,co17,eo17,gb17,gl17,cl17,HG17⟩:=Kd.R_form HO_185002.out (by omega)
        (first|cases eo17|(injection eo17 with ea_ en_ ec_;(first|subst ea_|(injection ea_ with ea_;subst ea_));subst ec_;clear en_))
        have GB17:=Aside0.mk gb17
        have GG17:=Aside0.mk HG17
        clear gb17 gl17 HG17
        obtain ⟨hx17_0,hf17_0⟩:=Kd.R_celln 0 HO_185002.out (x9_1 : Int) p17 q17
        replace p17:=eq_true p17
        replace q17:=eq_true q17
        have HN0_go17:=Aside0.mk (show g ≠ go17 from by have h_:=IsS171.own_ne HI0.out HO_185002.out (by decide);intro e_;exact h_ (by rw [e_];rfl))
        have HP31:=Kd.R_putn HO_185002.out (x9_1 : Int) t188
        rw [← Ny191.out] at HP31
        have HQ31:=Aside0.mk HP31
        clear HP31
        refine hK.out _ _ ⟨(blk_cell BK184.out 0).trans rfl,(blk_cell BK184.out 1).trans rfl,(blk_cell BK184.out 2).trans rfl⟩ (fun hHeld=>?_)
        clear hK K
        refine norm_ (a':=?_) ?_ ?_
        rotate_left
        ·show Act.put _ (some 28) _ = _
         simp only [Act.put,List.setIfInBounds_toArray,List.set_cons_zero,List.set_cons_succ,i64_w,i32_w]
         rfl
        refine pure_ (i:=5) (N:=some 29) (v:=?_) (a':=?_) #[true,true,true,true,true,true,false] rfl rfl (by kernel_rfl) (fun _ _ _ h=>h) (Or.inl ⟨by rfl,?_⟩) ?_ ?_
        rotate_left
        ·intro w'
         go_simp
         with_reducible rfl
        rotate_left
        ·simp only [Act.put,List.setIfInBounds_toArray,List.set_cons_zero,List.set_cons_succ,i64_w,i32_w]
         rfl
        refine last_ (i:=6) (N:=none) #[true,true,true,true,true,true,true] rfl rfl (by kernel_rfl) (by decide) (fun K hK=>?_)
        refine skip_ (w1:=?_) (by rfl) rfl ?_ ?_
        rotate_left
        ·go_simp
         rfl
        refine hK.out _ _ ?_
        clear hK K
        refine done_ (by kernel_rfl) ?_
        try go_wp2
        have n0_ : Aside0 (Kd.R (Kd.int .i64) 2 (w30.setCell ⟨go17,(x9_1 : Int).toNat,none⟩ (.int .i64 t188)) w.heap.size (fun _=>True) (.slice (some ⟨go17,0,none⟩) x185002_1.length co28) y191):=⟨by (with_reducible repeat (first|apply Kd.R_alloc|apply Kd.R_drewN));exact HQ31.out⟩
        have n1_ : Aside0 ((w30.setCell ⟨go17,(x9_1 : Int).toNat,none⟩ (.int .i64 t188)).heap[gb178]? = some (.cells #[.int .i64 0,.int .i64 0,.slice none 0 0] 27 (0,0))):=⟨by (with_reducible repeat first|refine blk_drewN ?_ _|refine blk_alloc ?_ _);refine blk_far ?_ (by have h_:=Kd.R_ne HO_185002.out BK178.out (by decide);intro e_;exact h_ (by rw [e_];rfl)) _;(with_reducible repeat first|refine blk_drewN ?_ _|refine blk_alloc ?_ _);exact BK178.out⟩
        have n2_ : Aside0 ((w30.setCell ⟨go17,(x9_1 : Int).toNat,none⟩ (.int .i64 t188)).heap[gb184]? = some (.cells #[.int .i64 t179,.int .i64 t180,.slice (some ⟨go17,0,none⟩) x185002_1.length co28] 27 (0,0))):=⟨by (with_reducible repeat first|refine blk_drewN ?_ _|refine blk_alloc ?_ _);refine blk_far ?_ (by have h_:=Kd.R_ne HO_185002.out BK184.out (by decide);intro e_;exact h_ (by rw [e_];rfl)) _;(with_reducible repeat first|refine blk_drewN ?_ _|refine blk_alloc ?_ _);exact BK184.out⟩
        have n3_ : Aside0 (IsS171 w0 (w30.setCell ⟨go17,(x9_1 : Int).toNat,none⟩ (.int .i64 t188)) g s0_0 t189 t190):=⟨by repeat (first|(with_reducible first|exact HI0.out|apply IsS171.alloc|apply IsS171.drewN|apply IsS171.set_1|apply IsS171.set_2|refine IsS171.far ?_ HN0_go17.out _|refine IsS171.far ?_ NB0_178.out _|refine IsS171.far ?_ NB0_184.out _)|exact HI0.out)⟩
        have n4_ : Aside0 (KeepBut w (w30.setCell ⟨go17,(x9_1 : Int).toNat,none⟩ (.int .i64 t188)) g none):=⟨by repeat (first|(with_reducible first|exact HK.out|apply KeepBut.set_|apply keep_drewN|apply keep_alloc|refine keep_far ?_ GB17.out _|refine keep_far ?_ GW178.out _|refine keep_far ?_ GW184.out _)|exact HK.out)⟩
        have n5_ : Aside0 (Below w0.heap.size w0 (w30.setCell ⟨go17,(x9_1 : Int).toNat,none⟩ (.int .i64 t188))):=⟨by repeat (first|(with_reducible first|exact HB.out|apply below_alloc|apply pw_below_drewN|apply below_drew1|refine below_set ?_ (Nat.le_trans HL.out GB17.out)|refine below_set ?_ (IsS171.ge HI0.out)|refine below_set ?_ GE178.out|refine below_set ?_ GE184.out)|exact HB.out)⟩
        (try clear HO_185002);(try clear BK178);(try clear BK184);(try clear HI0);(try clear HK);(try clear HB)
        generalize (w30.setCell ⟨go17,(x9_1 : Int).toNat,none⟩ (.int .i64 t188)) = w32 at n0_ n1_ n2_ n3_ n4_ n5_ ⊢
        have HO_185002:=n0_
        have BK178:=n1_
        have BK184:=n2_
        have HI0:=n3_
        have HK:=n4_
        have HB:=n5_
        clear n0_ n1_ n2_ n3_ n4_ n5_
        have n0_:=Aside0.mk (Kd.R_drew HO_185002.out)
        have n1_:=Aside0.mk (blk_drew BK178.out)
        have n2_:=Aside0.mk (blk_drew BK184.out)
        have n3_:=Aside0.mk (IsS171.drew HI0.out)
        have n4_:=Aside0.mk (keep_drew HK.out)
        have n5_:=Aside0.mk (below_drew1 HB.out)
        clear HO_185002 BK178 BK184 HI0 HK HB
        have HO_185002:=n0_
        have BK178:=n1_
        have BK184:=n2_
        have HI0:=n3_
        have HK:=n4_
        have HB:=n5_
        clear n0_ n1_ n2_ n3_ n4_ n5_
        refine start_ (n:=7) (S:=fun w'=>w'.cell? ⟨gb184,0,none⟩ = some (.int .i64 t179) ∧ w'.cell? ⟨gb184,1,none⟩ = some (.int .i64 t180) ∧ w'.cell? ⟨gb184,2,none⟩ = some (.slice (some ⟨go17,0,none⟩) x185002_1.length co28)) (ds:=[6]) #[false,false,false,false,false,false,false] (by kernel_rfl) rfl rfl ⟨(blk_cell BK184.out 0).trans rfl,(blk_cell BK184.out 1).trans rfl,(blk_cell BK184.out 2).trans rfl⟩ (fun hHeld=>?_)
        generalize w32.drew = w33 at HO_185002 BK178 BK184 HI0 HK HB HQ31 hHeld ⊢
        refine pure_ (i:=0) (N:=some 32) (v:=?_) (a':=?_) #[true,false,false,false,false,false,false] rfl rfl (by kernel_rfl) (fun _ _ _ h=>h) (Or.inl ⟨by rfl,?_⟩) ?_ ?_
        rotate_left
        ·intro w'
         go_simp
         with_reducible rfl
        rotate_left
        ·simp only [Act.put,List.setIfInBounds_toArray,List.set_cons_zero,List.set_cons_succ,i64_w,i32_w]
         rfl
        refine pure_ (i:=2) (N:=some 34) (v:=?_) (a':=?_) #[true,false,true,false,false,false,false] rfl rfl (by kernel_rfl) (fun _ _ _ h=>h) (Or.inl ⟨by rfl,?_⟩) ?_ ?_
        rotate_left
        ·intro w'
         go_simp
         with_reducible rfl
        rotate_left
        ·simp only [Act.put,List.setIfInBounds_toArray,List.set_cons_zero,List.set_cons_succ,i64_w,i32_w]
         rfl
        refine pure_ (i:=3) (N:=some 35) (v:=?_) (a':=?_) #[true,false,true,true,false,false,false] rfl rfl (by kernel_rfl) (fun _ _ _ h=>h) (Or.inl ⟨by rfl,?_⟩) ?_ ?_
        rotate_left
        ·intro w'
         go_simp
         with_reducible rfl
        rotate_left
        ·simp only [Act.put,List.setIfInBounds_toArray,List.set_cons_zero,List.set_cons_succ,i64_w,i32_w]
         rfl
        refine take_ (i:=1) (N:=some 33) (v:=?_) (a':=?_) #[true,true,true,true,false,false,false] rfl rfl (by kernel_rfl) (fun _ _ _ h=>h) (Or.inl ⟨by rfl,?_⟩) hHeld ?_ ?_
        rotate_left
        ·rintro w' ⟨s0,s1,s2⟩
         go_simp
         with_reducible rfl
        rotate_left
        ·simp only [Act.put,List.setIfInBounds_toArray,List.set_cons_zero,List.set_cons_succ,i64_w,i32_w]
         rfl
        refine one_ (i:=4) (N:=some 36) #[true,true,true,true,true,false,false] rfl rfl (by kernel_rfl) (by decide) (fun K hK=>?_)
        refine goes_ Try.func75 (by kernel_rfl) rfl #[.pointer (some ⟨g,0,none⟩),.int .i64 2] (by rfl) rfl rfl (by (try simp only [List.map_toArray,List.map_cons,List.map_nil]);first|done|rfl) ?_
        with_reducible refine (spec_l01Src_n.calls g s0_0 t189 t190 2 t192 t193 t194 w0 _ ?side1 ?side2 A19.out).mono ?_
        (case side1=>repeat (first|(with_reducible first|exact HI0.out|apply IsS171.alloc|apply IsS171.drewN|apply IsS171.set_1|apply IsS171.set_2|refine IsS171.far ?_ NB0_178.out _|refine IsS171.far ?_ NB0_184.out _)|exact HI0.out))
        (case side2=>repeat (first|(with_reducible first|exact HB.out|apply below_alloc|apply pw_below_drewN|apply below_drew1|refine below_set ?_ (IsS171.ge HI0.out)|refine below_set ?_ GE178.out|refine below_set ?_ GE184.out)|exact HB.out))
        rintro e w34 ⟨rfl,hi,hb,hk⟩
        refine ⟨_,rfl,?_⟩
        have n0_:=Aside0.mk (Kd.R_mono (Kd.R_keep (IsS171.apart (show IsS171 w0 _ g s0_0 t189 t190 from by repeat (first|(with_reducible first|exact HI0.out|apply IsS171.alloc|apply IsS171.drewN|apply IsS171.set_1|apply IsS171.set_2|refine IsS171.far ?_ NB0_178.out _|refine IsS171.far ?_ NB0_184.out _)|exact HI0.out)) (by (with_reducible repeat (first|apply Kd.R_alloc|apply Kd.R_drewN));exact HO_185002.out) (by decide)) hk (fun _ h=>h.2)) (fun _ h=>h.1))
        have n1_:=Aside0.mk (KeepBut.blk hk (g':=gb178) (o:=.cells #[.int .i64 0,.int .i64 0,.slice none 0 0] 27 (0,0)) (by (with_reducible repeat first|refine blk_drewN ?_ _|refine blk_alloc ?_ _);exact BK178.out) NB178_0.out (by simp))
        have n2_:=Aside0.mk (KeepBut.blk hk (g':=gb184) (o:=.cells #[.int .i64 t179,.int .i64 t180,.slice (some ⟨go17,0,none⟩) x185002_1.length co28] 27 (0,0)) (by (with_reducible repeat first|refine blk_drewN ?_ _|refine blk_alloc ?_ _);exact BK184.out) NB184_0.out (by simp))
        have n3_:=Aside0.mk (KeepBut.trans (by repeat (first|(with_reducible first|exact HK.out|apply KeepBut.set_|apply keep_drewN|apply keep_alloc|refine keep_far ?_ GW178.out _|refine keep_far ?_ GW184.out _)|exact HK.out)) hk (.inl rfl))
        have n4_:=Aside0.mk (hb)
        have n5_:=Aside0.mk (hi)
        clear HO_185002 BK178 BK184 HK HB HI0
        have HO_185002:=n0_
        have BK178:=n1_
        have BK184:=n2_
        have HK:=n3_
        have HB:=n4_
        have HI0:=n5_
        clear n0_ n1_ n2_ n3_ n4_ n5_
        (try clear hb);(try clear hb2);(try clear hk);(try clear hi)
        have p20 : 0 ≤ (x9_1 : Int):=of_decide_eq_true (by first|(with_reducible assumption)|assumption)
        have q20 : (x9_1 : Int) < ((x185002_1.length : Int) : Int):=of_decide_eq_true (by first|(with_reducible assumption)|assumption)
        obtain ⟨hx20_0,hf20_0⟩:=Kd.R_celln 0 HO_185002.out (x9_1 : Int) p20 q20
        replace p20:=eq_true p20
        replace q20:=eq_true q20
        have HN0_go17:=Aside0.mk (show g ≠ go17 from by have h_:=IsS171.own_ne HI0.out HO_185002.out (by decide);intro e_;exact h_ (by rw [e_];rfl))
        have HP35:=Kd.R_putn HO_185002.out (x9_1 : Int) t192
        rw [← Ny195.out] at HP35
        have HQ35:=Aside0.mk HP35
        clear HP35
        refine hK.out _ _ ⟨(blk_cell BK184.out 0).trans rfl,(blk_cell BK184.out 1).trans rfl,(blk_cell BK184.out 2).trans rfl⟩ (fun hHeld=>?_)
        clear hK K
        refine norm_ (a':=?_) ?_ ?_
        rotate_left
        ·show Act.put _ (some 36) _ = _
         simp only [Act.put,List.setIfInBounds_toArray,List.set_cons_zero,List.set_cons_succ,i64_w,i32_w]
         rfl
        refine pure_ (i:=5) (N:=some 37) (v:=?_) (a':=?_) #[true,true,true,true,true,true,false] rfl rfl (by kernel_rfl) (fun _ _ _ h=>h) (Or.inl ⟨by rfl,?_⟩) ?_ ?_
        rotate_left
        ·intro w'
         go_simp
         with_reducible rfl
        rotate_left
        ·simp only [Act.put,List.setIfInBounds_toArray,List.set_cons_zero,List.set_cons_succ,i64_w,i32_w]
         rfl
        refine last_ (i:=6) (N:=none) #[true,true,true,true,true,true,true] rfl rfl (by kernel_rfl) (by decide) (fun K hK=>?_)
        refine skip_ (w1:=?_) (by rfl) rfl ?_ ?_
        rotate_left
        ·go_simp
         rfl
        refine hK.out _ _ ?_
        clear hK K
        refine done_ (by kernel_rfl) ?_
        try go_wp2_with (first|(go_at_call 77;(with_reducible refine (spec_l01Src_one.calls g s0_0 t193 t194 2 true t197 t198 w0 _ ?side1 ?side2 A22.out).mono ?_);(case side1=>repeat (first|(with_reducible first|exact HI0.out|apply IsS171.alloc|apply IsS171.drewN|apply IsS171.set_1|apply IsS171.set_2|refine IsS171.far ?_ HN0_go17.out _|refine IsS171.far ?_ NB0_178.out _|refine IsS171.far ?_ NB0_184.out _)|exact HI0.out));(case side2=>repeat (first|(with_reducible first|exact HB.out|apply below_alloc|apply pw_below_drewN|apply below_drew1|refine below_set ?_ (Nat.le_trans HL.out GB17.out)|refine below_set ?_ (IsS171.ge HI0.out)|refine below_set ?_ GE178.out|refine below_set ?_ GE184.out)|exact HB.out));rintro e w36 ⟨rfl,hi,hb,hk⟩;have n0_:=Aside0.mk (Kd.R_mono (Kd.R_keep (IsS171.apart (show IsS171 w0 _ g s0_0 t193 t194 from by repeat (first|(with_reducible first|exact HI0.out|apply IsS171.alloc|apply IsS171.drewN|apply IsS171.set_1|apply IsS171.set_2|refine IsS171.far ?_ HN0_go17.out _|refine IsS171.far ?_ NB0_178.out _|refine IsS171.far ?_ NB0_184.out _)|exact HI0.out)) (by (with_reducible repeat (first|apply Kd.R_alloc|apply Kd.R_drewN));exact HQ35.out) (by decide)) hk (fun _ h=>h.2)) (fun _ h=>h.1));have n1_:=Aside0.mk (KeepBut.blk hk (g':=gb178) (o:=.cells #[.int .i64 0,.int .i64 0,.slice none 0 0] 27 (0,0)) (by (with_reducible repeat first|refine blk_drewN ?_ _|refine blk_alloc ?_ _);refine blk_far ?_ (by have h_:=Kd.R_ne HO_185002.out BK178.out (by decide);intro e_;exact h_ (by rw [e_];rfl)) _;(with_reducible repeat first|refine blk_drewN ?_ _|refine blk_alloc ?_ _);exact BK178.out) NB178_0.out (by simp));have n2_:=Aside0.mk (KeepBut.blk hk (g':=gb184) (o:=.cells #[.int .i64 t179,.int .i64 t180,.slice (some ⟨go17,0,none⟩) x185002_1.length co28] 27 (0,0)) (by (with_reducible repeat first|refine blk_drewN ?_ _|refine blk_alloc ?_ _);refine blk_far ?_ (by have h_:=Kd.R_ne HO_185002.out BK184.out (by decide);intro e_;exact h_ (by rw [e_];rfl)) _;(with_reducible repeat first|refine blk_drewN ?_ _|refine blk_alloc ?_ _);exact BK184.out) NB184_0.out (by simp));have n3_:=Aside0.mk (KeepBut.trans (by repeat (first|(with_reducible first|exact HK.out|apply KeepBut.set_|apply keep_drewN|apply keep_alloc|refine keep_far ?_ GB17.out _|refine keep_far ?_ GW178.out _|refine keep_far ?_ GW184.out _)|exact HK.out)) hk (.inl rfl));have n4_:=Aside0.mk (hb);have n5_:=Aside0.mk (hi);clear HO_185002 BK178 BK184 HK HB HI0;have HO_185002:=n0_;have BK178:=n1_;have BK184:=n2_;have HK:=n3_;have HB:=n4_;have HI0:=n5_;clear n0_ n1_ n2_ n3_ n4_ n5_;(try clear hb);(try clear hb2);(try clear hk);(try clear hi);have hcz37_0 : w36.cell? ⟨gb184,0,none⟩ = some (.int .i64 t179):=(blk_cell BK184.out 0).trans rfl;have hcz37_1 : w36.cell? ⟨gb184,1,none⟩ = some (.int .i64 t180):=(blk_cell BK184.out 1).trans rfl;have hcz37_2 : w36.cell? ⟨gb184,2,none⟩ = some (.slice (some ⟨go17,0,none⟩) x185002_1.length co28):=(blk_cell BK184.out 2).trans rfl;have hfz37_0:=blk_frozen BK184.out 0;have hfz37_1:=blk_frozen BK184.out 1;have hfz37_2:=blk_frozen BK184.out 2;have p24 : 0 ≤ (x9_1 : Int):=of_decide_eq_true (by first|(with_reducible assumption)|assumption);have q24 : (x9_1 : Int) < ((x185002_1.length : Int) : Int):=of_decide_eq_true (by first|(with_reducible assumption)|assumption);obtain ⟨hx24_0,hf24_0⟩:=Kd.R_celln 0 HO_185002.out (x9_1 : Int) p24 q24;replace p24:=eq_true p24;replace q24:=eq_true q24;obtain ⟨hy38_,hz38_⟩:=Kd.R_celln 0 HO_185002.out (x9_1 : Int) (of_decide_eq_true (by first|(with_reducible assumption)|assumption)) (of_decide_eq_true (by first|(with_reducible assumption)|assumption));have HP38:=Kd.R_putg HO_185002.out (x9_1 : Int) 0)|((with_reducible refine gate_store (t:=2) (p:=47) rfl ?_);refine store_event (t:=2) (p:=47) (v:=?vo_w39) (w1:=(w36.setCell ⟨go17,(x9_1 : Int).toNat,none⟩ (.int .i64 0))) ?hg ?ho ?hn ?hr ?_;(case ho=>rfl);(case hg=>rfl);(case hn=>rfl);(case hr=>first|(go_simp;done)|(go_simp;rfl));intro w39 hw;have hg : w36.grownBy w39 (some go17):=(by rw [hw];exact HP38.2);have hp_ : Kd.R (Kd.int .i64) 2 w39 w.heap.size (fun _=>True) (.slice (some ⟨go17,0,none⟩) x185002_1.length co28) y199:=(by rw [hw,Ny199.out];exact HP38.1);clear HP38;have n0_:=Aside0.mk (hp_);have n1_:=Aside0.mk (blk_grown (g:=gb178) (o:=.cells #[.int .i64 0,.int .i64 0,.slice none 0 0] 27 (0,0)) (by (with_reducible repeat first|refine blk_drewN ?_ _|refine blk_alloc ?_ _);exact BK178.out) hg (Kd.R_ne HO_185002.out BK178.out (by decide)));have n2_:=Aside0.mk (blk_grown (g:=gb184) (o:=.cells #[.int .i64 t179,.int .i64 t180,.slice (some ⟨go17,0,none⟩) x185002_1.length co28] 27 (0,0)) (by (with_reducible repeat first|refine blk_drewN ?_ _|refine blk_alloc ?_ _);exact BK184.out) hg (Kd.R_ne HO_185002.out BK184.out (by decide)));have n3_:=Aside0.mk (IsS171.grown (by repeat (first|(with_reducible first|exact HI0.out|apply IsS171.alloc|apply IsS171.drewN|apply IsS171.set_1|apply IsS171.set_2|refine IsS171.far ?_ NB0_178.out _|refine IsS171.far ?_ NB0_184.out _)|exact HI0.out)) hg (IsS171.own_ne HI0.out HO_185002.out (by decide)));have n4_:=Aside0.mk ((by rw [hw];exact below_set (HB.out) (Nat.le_trans HL.out GB17.out) : Below w0.heap.size w0 w39));have n5_:=Aside0.mk (KeepBut.trans (by repeat (first|(with_reducible first|exact HK.out|apply KeepBut.set_|apply keep_drewN|apply keep_alloc|refine keep_far ?_ GW178.out _|refine keep_far ?_ GW184.out _)|exact HK.out)) (KeepBut.of_grown hg g) (Kd.R_base2 HO_185002.out));clear HO_185002 BK178 BK184 HI0 HB HK;have HO_185002:=n0_;have BK178:=n1_;have BK184:=n2_;have HI0:=n3_;have HB:=n4_;have HK:=n5_;clear n0_ n1_ n2_ n3_ n4_ n5_ hg hw hp_))
        go_roundg k1
        case measure=>have:=HK1.out;omega
        case rel=>exact ⟨(wrap64 (x9_1 + 1)),(t197),(t198),(y199),(.slice (some ⟨go17,0,none⟩) x185002_1.length co28),(by first|rfl|(simp;done)|(simp [*];done)),H',⟨by have:=HK1.out;omega⟩,⟨by (with_reducible repeat (first|apply Kd.R_alloc|apply Kd.R_drewN));exact HO_185002.out⟩,⟨by (with_reducible repeat first|refine blk_drewN ?_ _|refine blk_alloc ?_ _);exact BK178.out⟩,⟨by (with_reducible repeat first|refine blk_drewN ?_ _|refine blk_alloc ?_ _);exact BK184.out⟩,⟨by repeat (first|(with_reducible first|exact HI0.out|apply IsS171.alloc|apply IsS171.drewN|apply IsS171.set_1|apply IsS171.set_2|refine IsS171.far ?_ NB0_178.out _|refine IsS171.far ?_ NB0_184.out _)|exact HI0.out)⟩,⟨by repeat (first|(with_reducible first|exact HK.out|apply KeepBut.set_|apply keep_drewN|apply keep_alloc|refine keep_far ?_ GW178.out _|refine keep_far ?_ GW184.out _)|exact HK.out)⟩,⟨by repeat (first|(with_reducible first|exact HB.out|apply below_alloc|apply pw_below_drewN|apply below_drew1|refine below_set ?_ (IsS171.ge HI0.out)|refine below_set ?_ GE178.out|refine below_set ?_ GE184.out)|exact HB.out)⟩⟩
       ·replace c23:=Bool.eq_false_iff.mpr c23
        subst c23
        have H1 : (spec_l01Src_matrix.l0 k1 a1 a2 t185 (wrap64 (x9_1 + 1)) s0_0 t197 t198 t179 t180 y195) = some (r1,r2,r3,r4,r5):=by rw [if_neg (show ¬ (false = true) by decide)] at H;exact H
        clear H
        have H:=H1
        clear H1
        have H':=Aside0.mk H
        clear H
        have hnb40:=NB184_178.out
        have hnc40:=NB178_184.out
        have hnb41:=NB184_0.out
        have hnc41:=NB0_184.out
        have hcz42_0 : wr.cell? ⟨gb184,0,none⟩ = some (.int .i64 t179):=(blk_cell BK184.out 0).trans rfl
        have hcz42_1 : wr.cell? ⟨gb184,1,none⟩ = some (.int .i64 t180):=(blk_cell BK184.out 1).trans rfl
        have hcz42_2 : wr.cell? ⟨gb184,2,none⟩ = some (u185002):=(blk_cell BK184.out 2).trans rfl
        have hfz42_0:=blk_frozen BK184.out 0
        have hfz42_1:=blk_frozen BK184.out 1
        have hfz42_2:=blk_frozen BK184.out 2
        obtain ⟨Ao43,co43,eo43⟩:=Kd.R_slice HO_185002.out
        subst eo43
        try go_wp2
        have n0_:=Aside0.mk (Kd.R_drew HO_185002.out)
        have n1_:=Aside0.mk (blk_drew BK178.out)
        have n2_:=Aside0.mk (blk_drew BK184.out)
        have n3_:=Aside0.mk (IsS171.drew HI0.out)
        have n4_:=Aside0.mk (keep_drew HK.out)
        have n5_:=Aside0.mk (below_drew1 HB.out)
        clear HO_185002 BK178 BK184 HI0 HK HB
        have HO_185002:=n0_
        have BK178:=n1_
        have BK184:=n2_
        have HI0:=n3_
        have HK:=n4_
        have HB:=n5_
        clear n0_ n1_ n2_ n3_ n4_ n5_
        refine start_ (n:=7) (S:=fun w'=>w'.cell? ⟨gb184,0,none⟩ = some (.int .i64 t179) ∧ w'.cell? ⟨gb184,1,none⟩ = some (.int .i64 t180) ∧ w'.cell? ⟨gb184,2,none⟩ = some (.slice Ao43 x185002_1.length co43)) (ds:=[6]) #[false,false,false,false,false,false,false] (by kernel_rfl) rfl rfl ⟨(blk_cell BK184.out 0).trans rfl,(blk_cell BK184.out 1).trans rfl,(blk_cell BK184.out 2).trans rfl⟩ (fun hHeld=>?_)
        generalize wr.drew = w44 at HO_185002 BK178 BK184 HI0 HK HB hHeld ⊢
        refine pure_ (i:=0) (N:=some 24) (v:=?_) (a':=?_) #[true,false,false,false,false,false,false] rfl rfl (by kernel_rfl) (fun _ _ _ h=>h) (Or.inl ⟨by rfl,?_⟩) ?_ ?_
        rotate_left
        ·intro w'
         go_simp
         with_reducible rfl
        rotate_left
        ·simp only [Act.put,List.setIfInBounds_toArray,List.set_cons_zero,List.set_cons_succ,i64_w,i32_w]
         rfl
        refine pure_ (i:=2) (N:=some 26) (v:=?_) (a':=?_) #[true,false,true,false,false,false,false] rfl rfl (by kernel_rfl) (fun _ _ _ h=>h) (Or.inl ⟨by rfl,?_⟩) ?_ ?_
        rotate_left
        ·intro w'
         go_simp
         with_reducible rfl
        rotate_left
        ·simp only [Act.put,List.setIfInBounds_toArray,List.set_cons_zero,List.set_cons_succ,i64_w,i32_w]
         rfl
        refine pure_ (i:=3) (N:=some 27) (v:=?_) (a':=?_) #[true,false,true,true,false,false,false] rfl rfl (by kernel_rfl) (fun _ _ _ h=>h) (Or.inl ⟨by rfl,?_⟩) ?_ ?_
        rotate_left
        ·intro w'
         go_simp
         with_reducible rfl
        rotate_left
        ·simp only [Act.put,List.setIfInBounds_toArray,List.set_cons_zero,List.set_cons_succ,i64_w,i32_w]
         rfl
        refine take_ (i:=1) (N:=some 25) (v:=?_) (a':=?_) #[true,true,true,true,false,false,false] rfl rfl (by kernel_rfl) (fun _ _ _ h=>h) (Or.inl ⟨by rfl,?_⟩) hHeld ?_ ?_
        rotate_left
        ·rintro w' ⟨s0,s1,s2⟩
         go_simp
         with_reducible rfl
        rotate_left
        ·simp only [Act.put,List.setIfInBounds_toArray,List.set_cons_zero,List.set_cons_succ,i64_w,i32_w]
         rfl
        refine one_ (i:=4) (N:=some 28) #[true,true,true,true,true,false,false] rfl rfl (by kernel_rfl) (by decide) (fun K hK=>?_)
        refine goes_ Try.func75 (by kernel_rfl) rfl #[.pointer (some ⟨g,0,none⟩),.int .i64 256] (by rfl) rfl rfl (by (try simp only [List.map_toArray,List.map_cons,List.map_nil]);first|done|rfl) ?_
        with_reducible refine (spec_l01Src_n.calls g s0_0 x1001_1 x1002_1 256 t188 t189 t190 w0 _ ?side1 ?side2 A15.out).mono ?_
        (case side1=>repeat (first|(with_reducible first|exact HI0.out|apply IsS171.alloc|apply IsS171.drewN|apply IsS171.set_1|apply IsS171.set_2|refine IsS171.far ?_ NB0_178.out _|refine IsS171.far ?_ NB0_184.out _)|exact HI0.out))
        (case side2=>repeat (first|(with_reducible first|exact HB.out|apply below_alloc|apply pw_below_drewN|apply below_drew1|refine below_set ?_ (IsS171.ge HI0.out)|refine below_set ?_ GE178.out|refine below_set ?_ GE184.out)|exact HB.out))
        rintro e w45 ⟨rfl,hi,hb,hk⟩
        refine ⟨_,rfl,?_⟩
        have n0_:=Aside0.mk (Kd.R_mono (Kd.R_keep (IsS171.apart (show IsS171 w0 _ g s0_0 x1001_1 x1002_1 from by repeat (first|(with_reducible first|exact HI0.out|apply IsS171.alloc|apply IsS171.drewN|apply IsS171.set_1|apply IsS171.set_2|refine IsS171.far ?_ NB0_178.out _|refine IsS171.far ?_ NB0_184.out _)|exact HI0.out)) (by (with_reducible repeat (first|apply Kd.R_alloc|apply Kd.R_drewN));exact HO_185002.out) (by decide)) hk (fun _ h=>h.2)) (fun _ h=>h.1))
        have n1_:=Aside0.mk (KeepBut.blk hk (g':=gb178) (o:=.cells #[.int .i64 0,.int .i64 0,.slice none 0 0] 27 (0,0)) (by (with_reducible repeat first|refine blk_drewN ?_ _|refine blk_alloc ?_ _);exact BK178.out) NB178_0.out (by simp))
        have n2_:=Aside0.mk (KeepBut.blk hk (g':=gb184) (o:=.cells #[.int .i64 t179,.int .i64 t180,.slice Ao43 x185002_1.length co43] 27 (0,0)) (by (with_reducible repeat first|refine blk_drewN ?_ _|refine blk_alloc ?_ _);exact BK184.out) NB184_0.out (by simp))
        have n3_:=Aside0.mk (KeepBut.trans (by repeat (first|(with_reducible first|exact HK.out|apply KeepBut.set_|apply keep_drewN|apply keep_alloc|refine keep_far ?_ GW178.out _|refine keep_far ?_ GW184.out _)|exact HK.out)) hk (.inl rfl))
        have n4_:=Aside0.mk (hb)
        have n5_:=Aside0.mk (hi)
        clear HO_185002 BK178 BK184 HK HB HI0
        have HO_185002:=n0_
        have BK178:=n1_
        have BK184:=n2_
        have HK:=n3_
        have HB:=n4_
        have HI0:=n5_
        clear n0_ n1_ n2_ n3_ n4_ n5_
        (try clear hb);(try clear hb2);(try clear hk);(try clear hi)
        have p17 : 0 ≤ (x9_1 : Int):=of_decide_eq_true (by first|(with_reducible assumption)|assumption)
        have q17 : (x9_1 : Int) < ((x185002_1.length : Int) : Int):=of_decide_eq_true (by first|(with_reducible assumption)|assumption)
        obtain ⟨go17,co17,eo17,gb17,gl17,cl17,HG17⟩:=Kd.R_form HO_185002.out (by omega)
        (first|cases eo17|(injection eo17 with ea_ en_ ec_;(first|subst ea_|(injection ea_ with ea_;subst ea_));subst ec_;clear en_))
        have GB17:=Aside0.mk gb17
        have GG17:=Aside0.mk HG17
        clear gb17 gl17 HG17
        obtain ⟨hx17_0,hf17_0⟩:=Kd.R_celln 0 HO_185002.out (x9_1 : Int) p17 q17
        replace p17:=eq_true p17
        replace q17:=eq_true q17
        have HN0_go17:=Aside0.mk (show g ≠ go17 from by have h_:=IsS171.own_ne HI0.out HO_185002.out (by decide);intro e_;exact h_ (by rw [e_];rfl))
        have HP46:=Kd.R_putn HO_185002.out (x9_1 : Int) t188
        rw [← Ny191.out] at HP46
        have HQ46:=Aside0.mk HP46
        clear HP46
        refine hK.out _ _ ⟨(blk_cell BK184.out 0).trans rfl,(blk_cell BK184.out 1).trans rfl,(blk_cell BK184.out 2).trans rfl⟩ (fun hHeld=>?_)
        clear hK K
        refine norm_ (a':=?_) ?_ ?_
        rotate_left
        ·show Act.put _ (some 28) _ = _
         simp only [Act.put,List.setIfInBounds_toArray,List.set_cons_zero,List.set_cons_succ,i64_w,i32_w]
         rfl
        refine pure_ (i:=5) (N:=some 29) (v:=?_) (a':=?_) #[true,true,true,true,true,true,false] rfl rfl (by kernel_rfl) (fun _ _ _ h=>h) (Or.inl ⟨by rfl,?_⟩) ?_ ?_
        rotate_left
        ·intro w'
         go_simp
         with_reducible rfl
        rotate_left
        ·simp only [Act.put,List.setIfInBounds_toArray,List.set_cons_zero,List.set_cons_succ,i64_w,i32_w]
         rfl
        refine last_ (i:=6) (N:=none) #[true,true,true,true,true,true,true] rfl rfl (by kernel_rfl) (by decide) (fun K hK=>?_)
        refine skip_ (w1:=?_) (by rfl) rfl ?_ ?_
        rotate_left
        ·go_simp
         rfl
        refine hK.out _ _ ?_
        clear hK K
        refine done_ (by kernel_rfl) ?_
        try go_wp2
        have n0_ : Aside0 (Kd.R (Kd.int .i64) 2 (w45.setCell ⟨go17,(x9_1 : Int).toNat,none⟩ (.int .i64 t188)) w.heap.size (fun _=>True) (.slice (some ⟨go17,0,none⟩) x185002_1.length co43) y191):=⟨by (with_reducible repeat (first|apply Kd.R_alloc|apply Kd.R_drewN));exact HQ46.out⟩
        have n1_ : Aside0 ((w45.setCell ⟨go17,(x9_1 : Int).toNat,none⟩ (.int .i64 t188)).heap[gb178]? = some (.cells #[.int .i64 0,.int .i64 0,.slice none 0 0] 27 (0,0))):=⟨by (with_reducible repeat first|refine blk_drewN ?_ _|refine blk_alloc ?_ _);refine blk_far ?_ (by have h_:=Kd.R_ne HO_185002.out BK178.out (by decide);intro e_;exact h_ (by rw [e_];rfl)) _;(with_reducible repeat first|refine blk_drewN ?_ _|refine blk_alloc ?_ _);exact BK178.out⟩
        have n2_ : Aside0 ((w45.setCell ⟨go17,(x9_1 : Int).toNat,none⟩ (.int .i64 t188)).heap[gb184]? = some (.cells #[.int .i64 t179,.int .i64 t180,.slice (some ⟨go17,0,none⟩) x185002_1.length co43] 27 (0,0))):=⟨by (with_reducible repeat first|refine blk_drewN ?_ _|refine blk_alloc ?_ _);refine blk_far ?_ (by have h_:=Kd.R_ne HO_185002.out BK184.out (by decide);intro e_;exact h_ (by rw [e_];rfl)) _;(with_reducible repeat first|refine blk_drewN ?_ _|refine blk_alloc ?_ _);exact BK184.out⟩
        have n3_ : Aside0 (IsS171 w0 (w45.setCell ⟨go17,(x9_1 : Int).toNat,none⟩ (.int .i64 t188)) g s0_0 t189 t190):=⟨by repeat (first|(with_reducible first|exact HI0.out|apply IsS171.alloc|apply IsS171.drewN|apply IsS171.set_1|apply IsS171.set_2|refine IsS171.far ?_ HN0_go17.out _|refine IsS171.far ?_ NB0_178.out _|refine IsS171.far ?_ NB0_184.out _)|exact HI0.out)⟩
        have n4_ : Aside0 (KeepBut w (w45.setCell ⟨go17,(x9_1 : Int).toNat,none⟩ (.int .i64 t188)) g none):=⟨by repeat (first|(with_reducible first|exact HK.out|apply KeepBut.set_|apply keep_drewN|apply keep_alloc|refine keep_far ?_ GB17.out _|refine keep_far ?_ GW178.out _|refine keep_far ?_ GW184.out _)|exact HK.out)⟩
        have n5_ : Aside0 (Below w0.heap.size w0 (w45.setCell ⟨go17,(x9_1 : Int).toNat,none⟩ (.int .i64 t188))):=⟨by repeat (first|(with_reducible first|exact HB.out|apply below_alloc|apply pw_below_drewN|apply below_drew1|refine below_set ?_ (Nat.le_trans HL.out GB17.out)|refine below_set ?_ (IsS171.ge HI0.out)|refine below_set ?_ GE178.out|refine below_set ?_ GE184.out)|exact HB.out)⟩
        (try clear HO_185002);(try clear BK178);(try clear BK184);(try clear HI0);(try clear HK);(try clear HB)
        generalize (w45.setCell ⟨go17,(x9_1 : Int).toNat,none⟩ (.int .i64 t188)) = w47 at n0_ n1_ n2_ n3_ n4_ n5_ ⊢
        have HO_185002:=n0_
        have BK178:=n1_
        have BK184:=n2_
        have HI0:=n3_
        have HK:=n4_
        have HB:=n5_
        clear n0_ n1_ n2_ n3_ n4_ n5_
        have n0_:=Aside0.mk (Kd.R_drew HO_185002.out)
        have n1_:=Aside0.mk (blk_drew BK178.out)
        have n2_:=Aside0.mk (blk_drew BK184.out)
        have n3_:=Aside0.mk (IsS171.drew HI0.out)
        have n4_:=Aside0.mk (keep_drew HK.out)
        have n5_:=Aside0.mk (below_drew1 HB.out)
        clear HO_185002 BK178 BK184 HI0 HK HB
        have HO_185002:=n0_
        have BK178:=n1_
        have BK184:=n2_
        have HI0:=n3_
        have HK:=n4_
        have HB:=n5_
        clear n0_ n1_ n2_ n3_ n4_ n5_
        refine start_ (n:=7) (S:=fun w'=>w'.cell? ⟨gb184,0,none⟩ = some (.int .i64 t179) ∧ w'.cell? ⟨gb184,1,none⟩ = some (.int .i64 t180) ∧ w'.cell? ⟨gb184,2,none⟩ = some (.slice (some ⟨go17,0,none⟩) x185002_1.length co43)) (ds:=[6]) #[false,false,false,false,false,false,false] (by kernel_rfl) rfl rfl ⟨(blk_cell BK184.out 0).trans rfl,(blk_cell BK184.out 1).trans rfl,(blk_cell BK184.out 2).trans rfl⟩ (fun hHeld=>?_)
        generalize w47.drew = w48 at HO_185002 BK178 BK184 HI0 HK HB HQ46 hHeld ⊢
        refine pure_ (i:=0) (N:=some 32) (v:=?_) (a':=?_) #[true,false,false,false,false,false,false] rfl rfl (by kernel_rfl) (fun _ _ _ h=>h) (Or.inl ⟨by rfl,?_⟩) ?_ ?_
        rotate_left
        ·intro w'
         go_simp
         with_reducible rfl
        rotate_left
        ·simp only [Act.put,List.setIfInBounds_toArray,List.set_cons_zero,List.set_cons_succ,i64_w,i32_w]
         rfl
        refine pure_ (i:=2) (N:=some 34) (v:=?_) (a':=?_) #[true,false,true,false,false,false,false] rfl rfl (by kernel_rfl) (fun _ _ _ h=>h) (Or.inl ⟨by rfl,?_⟩) ?_ ?_
        rotate_left
        ·intro w'
         go_simp
         with_reducible rfl
        rotate_left
        ·simp only [Act.put,List.setIfInBounds_toArray,List.set_cons_zero,List.set_cons_succ,i64_w,i32_w]
         rfl
        refine pure_ (i:=3) (N:=some 35) (v:=?_) (a':=?_) #[true,false,true,true,false,false,false] rfl rfl (by kernel_rfl) (fun _ _ _ h=>h) (Or.inl ⟨by rfl,?_⟩) ?_ ?_
        rotate_left
        ·intro w'
         go_simp
         with_reducible rfl
        rotate_left
        ·simp only [Act.put,List.setIfInBounds_toArray,List.set_cons_zero,List.set_cons_succ,i64_w,i32_w]
         rfl
        refine take_ (i:=1) (N:=some 33) (v:=?_) (a':=?_) #[true,true,true,true,false,false,false] rfl rfl (by kernel_rfl) (fun _ _ _ h=>h) (Or.inl ⟨by rfl,?_⟩) hHeld ?_ ?_
        rotate_left
        ·rintro w' ⟨s0,s1,s2⟩
         go_simp
         with_reducible rfl
        rotate_left
        ·simp only [Act.put,List.setIfInBounds_toArray,List.set_cons_zero,List.set_cons_succ,i64_w,i32_w]
         rfl
        refine one_ (i:=4) (N:=some 36) #[true,true,true,true,true,false,false] rfl rfl (by kernel_rfl) (by decide) (fun K hK=>?_)
        refine goes_ Try.func75 (by kernel_rfl) rfl #[.pointer (some ⟨g,0,none⟩),.int .i64 2] (by rfl) rfl rfl (by (try simp only [List.map_toArray,List.map_cons,List.map_nil]);first|done|rfl) ?_
        with_reducible refine (spec_l01Src_n.calls g s0_0 t189 t190 2 t192 t193 t194 w0 _ ?side1 ?side2 A19.out).mono ?_
        (case side1=>repeat (first|(with_reducible first|exact HI0.out|apply IsS171.alloc|apply IsS171.drewN|apply IsS171.set_1|apply IsS171.set_2|refine IsS171.far ?_ NB0_178.out _|refine IsS171.far ?_ NB0_184.out _)|exact HI0.out))
        (case side2=>repeat (first|(with_reducible first|exact HB.out|apply below_alloc|apply pw_below_drewN|apply below_drew1|refine below_set ?_ (IsS171.ge HI0.out)|refine below_set ?_ GE178.out|refine below_set ?_ GE184.out)|exact HB.out))
        rintro e w49 ⟨rfl,hi,hb,hk⟩
        refine ⟨_,rfl,?_⟩
        have n0_:=Aside0.mk (Kd.R_mono (Kd.R_keep (IsS171.apart (show IsS171 w0 _ g s0_0 t189 t190 from by repeat (first|(with_reducible first|exact HI0.out|apply IsS171.alloc|apply IsS171.drewN|apply IsS171.set_1|apply IsS171.set_2|refine IsS171.far ?_ NB0_178.out _|refine IsS171.far ?_ NB0_184.out _)|exact HI0.out)) (by (with_reducible repeat (first|apply Kd.R_alloc|apply Kd.R_drewN));exact HO_185002.out) (by decide)) hk (fun _ h=>h.2)) (fun _ h=>h.1))
        have n1_:=Aside0.mk (KeepBut.blk hk (g':=gb178) (o:=.cells #[.int .i64 0,.int .i64 0,.slice none 0 0] 27 (0,0)) (by (with_reducible repeat first|refine blk_drewN ?_ _|refine blk_alloc ?_ _);exact BK178.out) NB178_0.out (by simp))
        have n2_:=Aside0.mk (KeepBut.blk hk (g':=gb184) (o:=.cells #[.int .i64 t179,.int .i64 t180,.slice (some ⟨go17,0,none⟩) x185002_1.length co43] 27 (0,0)) (by (with_reducible repeat first|refine blk_drewN ?_ _|refine blk_alloc ?_ _);exact BK184.out) NB184_0.out (by simp))
        have n3_:=Aside0.mk (KeepBut.trans (by repeat (first|(with_reducible first|exact HK.out|apply KeepBut.set_|apply keep_drewN|apply keep_alloc|refine keep_far ?_ GW178.out _|refine keep_far ?_ GW184.out _)|exact HK.out)) hk (.inl rfl))
        have n4_:=Aside0.mk (hb)
        have n5_:=Aside0.mk (hi)
        clear HO_185002 BK178 BK184 HK HB HI0
        have HO_185002:=n0_
        have BK178:=n1_
        have BK184:=n2_
        have HK:=n3_
        have HB:=n4_
        have HI0:=n5_
        clear n0_ n1_ n2_ n3_ n4_ n5_
        (try clear hb);(try clear hb2);(try clear hk);(try clear hi)
        have p20 : 0 ≤ (x9_1 : Int):=of_decide_eq_true (by first|(with_reducible assumption)|assumption)
        have q20 : (x9_1 : Int) < ((x185002_1.length : Int) : Int):=of_decide_eq_true (by first|(with_reducible assumption)|assumption)
        obtain ⟨hx20_0,hf20_0⟩:=Kd.R_celln 0 HO_185002.out (x9_1 : Int) p20 q20
        replace p20:=eq_true p20
        replace q20:=eq_true q20
        have HN0_go17:=Aside0.mk (show g ≠ go17 from by have h_:=IsS171.own_ne HI0.out HO_185002.out (by decide);intro e_;exact h_ (by rw [e_];rfl))
        have HP50:=Kd.R_putn HO_185002.out (x9_1 : Int) t192
        rw [← Ny195.out] at HP50
        have HQ50:=Aside0.mk HP50
        clear HP50
        refine hK.out _ _ ⟨(blk_cell BK184.out 0).trans rfl,(blk_cell BK184.out 1).trans rfl,(blk_cell BK184.out 2).trans rfl⟩ (fun hHeld=>?_)
        clear hK K
        refine norm_ (a':=?_) ?_ ?_
        rotate_left
        ·show Act.put _ (some 36) _ = _
         simp only [Act.put,List.setIfInBounds_toArray,List.set_cons_zero,List.set_cons_succ,i64_w,i32_w]
         rfl
        refine pure_ (i:=5) (N:=some 37) (v:=?_) (a':=?_) #[true,true,true,true,true,true,false] rfl rfl (by kernel_rfl) (fun _ _ _ h=>h) (Or.inl ⟨by rfl,?_⟩) ?_ ?_
        rotate_left
        ·intro w'
         go_simp
         with_reducible rfl
        rotate_left
        ·simp only [Act.put,List.setIfInBounds_toArray,List.set_cons_zero,List.set_cons_succ,i64_w,i32_w]
         rfl
        refine last_ (i:=6) (N:=none) #[true,true,true,true,true,true,true] rfl rfl (by kernel_rfl) (by decide) (fun K hK=>?_)
        refine skip_ (w1:=?_) (by rfl) rfl ?_ ?_
        rotate_left
        ·go_simp
         rfl
        refine hK.out _ _ ?_
        clear hK K
        refine done_ (by kernel_rfl) ?_
        try go_wp2_with (first|(go_at_call 77;(with_reducible refine (spec_l01Src_one.calls g s0_0 t193 t194 2 false t197 t198 w0 _ ?side1 ?side2 A22.out).mono ?_);(case side1=>repeat (first|(with_reducible first|exact HI0.out|apply IsS171.alloc|apply IsS171.drewN|apply IsS171.set_1|apply IsS171.set_2|refine IsS171.far ?_ HN0_go17.out _|refine IsS171.far ?_ NB0_178.out _|refine IsS171.far ?_ NB0_184.out _)|exact HI0.out));(case side2=>repeat (first|(with_reducible first|exact HB.out|apply below_alloc|apply pw_below_drewN|apply below_drew1|refine below_set ?_ (Nat.le_trans HL.out GB17.out)|refine below_set ?_ (IsS171.ge HI0.out)|refine below_set ?_ GE178.out|refine below_set ?_ GE184.out)|exact HB.out));rintro e w51 ⟨rfl,hi,hb,hk⟩;have n0_:=Aside0.mk (Kd.R_mono (Kd.R_keep (IsS171.apart (show IsS171 w0 _ g s0_0 t193 t194 from by repeat (first|(with_reducible first|exact HI0.out|apply IsS171.alloc|apply IsS171.drewN|apply IsS171.set_1|apply IsS171.set_2|refine IsS171.far ?_ HN0_go17.out _|refine IsS171.far ?_ NB0_178.out _|refine IsS171.far ?_ NB0_184.out _)|exact HI0.out)) (by (with_reducible repeat (first|apply Kd.R_alloc|apply Kd.R_drewN));exact HQ50.out) (by decide)) hk (fun _ h=>h.2)) (fun _ h=>h.1));have n1_:=Aside0.mk (KeepBut.blk hk (g':=gb178) (o:=.cells #[.int .i64 0,.int .i64 0,.slice none 0 0] 27 (0,0)) (by (with_reducible repeat first|refine blk_drewN ?_ _|refine blk_alloc ?_ _);refine blk_far ?_ (by have h_:=Kd.R_ne HO_185002.out BK178.out (by decide);intro e_;exact h_ (by rw [e_];rfl)) _;(with_reducible repeat first|refine blk_drewN ?_ _|refine blk_alloc ?_ _);exact BK178.out) NB178_0.out (by simp));have n2_:=Aside0.mk (KeepBut.blk hk (g':=gb184) (o:=.cells #[.int .i64 t179,.int .i64 t180,.slice (some ⟨go17,0,none⟩) x185002_1.length co43] 27 (0,0)) (by (with_reducible repeat first|refine blk_drewN ?_ _|refine blk_alloc ?_ _);refine blk_far ?_ (by have h_:=Kd.R_ne HO_185002.out BK184.out (by decide);intro e_;exact h_ (by rw [e_];rfl)) _;(with_reducible repeat first|refine blk_drewN ?_ _|refine blk_alloc ?_ _);exact BK184.out) NB184_0.out (by simp));have n3_:=Aside0.mk (KeepBut.trans (by repeat (first|(with_reducible first|exact HK.out|apply KeepBut.set_|apply keep_drewN|apply keep_alloc|refine keep_far ?_ GB17.out _|refine keep_far ?_ GW178.out _|refine keep_far ?_ GW184.out _)|exact HK.out)) hk (.inl rfl));have n4_:=Aside0.mk (hb);have n5_:=Aside0.mk (hi);clear HO_185002 BK178 BK184 HK HB HI0;have HO_185002:=n0_;have BK178:=n1_;have BK184:=n2_;have HK:=n3_;have HB:=n4_;have HI0:=n5_;clear n0_ n1_ n2_ n3_ n4_ n5_;(try clear hb);(try clear hb2);(try clear hk);(try clear hi)))
        go_roundg k1
        case measure=>have:=HK1.out;omega
        case rel=>exact ⟨(wrap64 (x9_1 + 1)),(t197),(t198),(y195),(.slice (some ⟨go17,0,none⟩) x185002_1.length co43),(by first|rfl|(simp;done)|(simp [*];done)),H',⟨by have:=HK1.out;omega⟩,⟨by (with_reducible repeat (first|apply Kd.R_alloc|apply Kd.R_drewN));exact HO_185002.out⟩,⟨by (with_reducible repeat first|refine blk_drewN ?_ _|refine blk_alloc ?_ _);exact BK178.out⟩,⟨by (with_reducible repeat first|refine blk_drewN ?_ _|refine blk_alloc ?_ _);exact BK184.out⟩,⟨by repeat (first|(with_reducible first|exact HI0.out|apply IsS171.alloc|apply IsS171.drewN|apply IsS171.set_1|apply IsS171.set_2|refine IsS171.far ?_ NB0_178.out _|refine IsS171.far ?_ NB0_184.out _)|exact HI0.out)⟩,⟨by repeat (first|(with_reducible first|exact HK.out|apply KeepBut.set_|apply keep_drewN|apply keep_alloc|refine keep_far ?_ GW178.out _|refine keep_far ?_ GW184.out _)|exact HK.out)⟩,⟨by repeat (first|(with_reducible first|exact HB.out|apply below_alloc|apply pw_below_drewN|apply below_drew1|refine below_set ?_ (IsS171.ge HI0.out)|refine below_set ?_ GE178.out|refine below_set ?_ GE184.out)|exact HB.out)⟩⟩
      ·rw [if_neg c21] at H
       have c21b0 : (t185 == 1) = false:=beq_eq_false_iff_ne.mpr c21
       have c21b1 : (t185 != 1) = true:=bne_iff_ne.mpr c21
       have H':=Aside0.mk H
       clear H
       have hnb52:=NB184_178.out
       have hnc52:=NB178_184.out
       have hnb53:=NB184_0.out
       have hnc53:=NB0_184.out
       have hcz54_0 : wr.cell? ⟨gb184,0,none⟩ = some (.int .i64 t179):=(blk_cell BK184.out 0).trans rfl
       have hcz54_1 : wr.cell? ⟨gb184,1,none⟩ = some (.int .i64 t180):=(blk_cell BK184.out 1).trans rfl
       have hcz54_2 : wr.cell? ⟨gb184,2,none⟩ = some (u185002):=(blk_cell BK184.out 2).trans rfl
       have hfz54_0:=blk_frozen BK184.out 0
       have hfz54_1:=blk_frozen BK184.out 1
       have hfz54_2:=blk_frozen BK184.out 2
       obtain ⟨Ao55,co55,eo55⟩:=Kd.R_slice HO_185002.out
       subst eo55
       try go_wp2
       have n0_:=Aside0.mk (Kd.R_drew HO_185002.out)
       have n1_:=Aside0.mk (blk_drew BK178.out)
       have n2_:=Aside0.mk (blk_drew BK184.out)
       have n3_:=Aside0.mk (IsS171.drew HI0.out)
       have n4_:=Aside0.mk (keep_drew HK.out)
       have n5_:=Aside0.mk (below_drew1 HB.out)
       clear HO_185002 BK178 BK184 HI0 HK HB
       have HO_185002:=n0_
       have BK178:=n1_
       have BK184:=n2_
       have HI0:=n3_
       have HK:=n4_
       have HB:=n5_
       clear n0_ n1_ n2_ n3_ n4_ n5_
       refine start_ (n:=7) (S:=fun w'=>w'.cell? ⟨gb184,0,none⟩ = some (.int .i64 t179) ∧ w'.cell? ⟨gb184,1,none⟩ = some (.int .i64 t180) ∧ w'.cell? ⟨gb184,2,none⟩ = some (.slice Ao55 x185002_1.length co55)) (ds:=[6]) #[false,false,false,false,false,false,false] (by kernel_rfl) rfl rfl ⟨(blk_cell BK184.out 0).trans rfl,(blk_cell BK184.out 1).trans rfl,(blk_cell BK184.out 2).trans rfl⟩ (fun hHeld=>?_)
       generalize wr.drew = w56 at HO_185002 BK178 BK184 HI0 HK HB hHeld ⊢
       refine pure_ (i:=0) (N:=some 24) (v:=?_) (a':=?_) #[true,false,false,false,false,false,false] rfl rfl (by kernel_rfl) (fun _ _ _ h=>h) (Or.inl ⟨by rfl,?_⟩) ?_ ?_
       rotate_left
       ·intro w'
        go_simp
        with_reducible rfl
       rotate_left
       ·simp only [Act.put,List.setIfInBounds_toArray,List.set_cons_zero,List.set_cons_succ,i64_w,i32_w]
        rfl
       refine pure_ (i:=2) (N:=some 26) (v:=?_) (a':=?_) #[true,false,true,false,false,false,false] rfl rfl (by kernel_rfl) (fun _ _ _ h=>h) (Or.inl ⟨by rfl,?_⟩) ?_ ?_
       rotate_left
       ·intro w'
        go_simp
        with_reducible rfl
       rotate_left
       ·simp only [Act.put,List.setIfInBounds_toArray,List.set_cons_zero,List.set_cons_succ,i64_w,i32_w]
        rfl
       refine pure_ (i:=3) (N:=some 27) (v:=?_) (a':=?_) #[true,false,true,true,false,false,false] rfl rfl (by kernel_rfl) (fun _ _ _ h=>h) (Or.inl ⟨by rfl,?_⟩) ?_ ?_
       rotate_left
       ·intro w'
        go_simp
        with_reducible rfl
       rotate_left
       ·simp only [Act.put,List.setIfInBounds_toArray,List.set_cons_zero,List.set_cons_succ,i64_w,i32_w]
        rfl
       refine take_ (i:=1) (N:=some 25) (v:=?_) (a':=?_) #[true,true,true,true,false,false,false] rfl rfl (by kernel_rfl) (fun _ _ _ h=>h) (Or.inl ⟨by rfl,?_⟩) hHeld ?_ ?_
       rotate_left
       ·rintro w' ⟨s0,s1,s2⟩
        go_simp
        with_reducible rfl
       rotate_left
       ·simp only [Act.put,List.setIfInBounds_toArray,List.set_cons_zero,List.set_cons_succ,i64_w,i32_w]
        rfl
       refine one_ (i:=4) (N:=some 28) #[true,true,true,true,true,false,false] rfl rfl (by kernel_rfl) (by decide) (fun K hK=>?_)
       refine goes_ Try.func75 (by kernel_rfl) rfl #[.pointer (some ⟨g,0,none⟩),.int .i64 256] (by rfl) rfl rfl (by (try simp only [List.map_toArray,List.map_cons,List.map_nil]);first|done|rfl) ?_
       with_reducible refine (spec_l01Src_n.calls g s0_0 x1001_1 x1002_1 256 t188 t189 t190 w0 _ ?side1 ?side2 A15.out).mono ?_
       (case side1=>repeat (first|(with_reducible first|exact HI0.out|apply IsS171.alloc|apply IsS171.drewN|apply IsS171.set_1|apply IsS171.set_2|refine IsS171.far ?_ NB0_178.out _|refine IsS171.far ?_ NB0_184.out _)|exact HI0.out))
       (case side2=>repeat (first|(with_reducible first|exact HB.out|apply below_alloc|apply pw_below_drewN|apply below_drew1|refine below_set ?_ (IsS171.ge HI0.out)|refine below_set ?_ GE178.out|refine below_set ?_ GE184.out)|exact HB.out))
       rintro e w57 ⟨rfl,hi,hb,hk⟩
       refine ⟨_,rfl,?_⟩
       have n0_:=Aside0.mk (Kd.R_mono (Kd.R_keep (IsS171.apart (show IsS171 w0 _ g s0_0 x1001_1 x1002_1 from by repeat (first|(with_reducible first|exact HI0.out|apply IsS171.alloc|apply IsS171.drewN|apply IsS171.set_1|apply IsS171.set_2|refine IsS171.far ?_ NB0_178.out _|refine IsS171.far ?_ NB0_184.out _)|exact HI0.out)) (by (with_reducible repeat (first|apply Kd.R_alloc|apply Kd.R_drewN));exact HO_185002.out) (by decide)) hk (fun _ h=>h.2)) (fun _ h=>h.1))
       have n1_:=Aside0.mk (KeepBut.blk hk (g':=gb178) (o:=.cells #[.int .i64 0,.int .i64 0,.slice none 0 0] 27 (0,0)) (by (with_reducible repeat first|refine blk_drewN ?_ _|refine blk_alloc ?_ _);exact BK178.out) NB178_0.out (by simp))
       have n2_:=Aside0.mk (KeepBut.blk hk (g':=gb184) (o:=.cells #[.int .i64 t179,.int .i64 t180,.slice Ao55 x185002_1.length co55] 27 (0,0)) (by (with_reducible repeat first|refine blk_drewN ?_ _|refine blk_alloc ?_ _);exact BK184.out) NB184_0.out (by simp))
       have n3_:=Aside0.mk (KeepBut.trans (by repeat (first|(with_reducible first|exact HK.out|apply KeepBut.set_|apply keep_drewN|apply keep_alloc|refine keep_far ?_ GW178.out _|refine keep_far ?_ GW184.out _)|exact HK.out)) hk (.inl rfl))
       have n4_:=Aside0.mk (hb)
       have n5_:=Aside0.mk (hi)
       clear HO_185002 BK178 BK184 HK HB HI0
       have HO_185002:=n0_
       have BK178:=n1_
       have BK184:=n2_
       have HK:=n3_
       have HB:=n4_
       have HI0:=n5_
       clear n0_ n1_ n2_ n3_ n4_ n5_
       (try clear hb);(try clear hb2);(try clear hk);(try clear hi)
       have p17 : 0 ≤ (x9_1 : Int):=of_decide_eq_true (by first|(with_reducible assumption)|assumption)
       have q17 : (x9_1 : Int) < ((x185002_1.length : Int) : Int):=of_decide_eq_true (by first|(with_reducible assumption)|assumption)
       obtain ⟨go17,co17,eo17,gb17,gl17,cl17,HG17⟩:=Kd.R_form HO_185002.out (by omega)
       (first|cases eo17|(injection eo17 with ea_ en_ ec_;(first|subst ea_|(injection ea_ with ea_;subst ea_));subst ec_;clear en_))
       have GB17:=Aside0.mk gb17
       have GG17:=Aside0.mk HG17
       clear gb17 gl17 HG17
       obtain ⟨hx17_0,hf17_0⟩:=Kd.R_celln 0 HO_185002.out (x9_1 : Int) p17 q17
       replace p17:=eq_true p17
       replace q17:=eq_true q17
       have HN0_go17:=Aside0.mk (show g ≠ go17 from by have h_:=IsS171.own_ne HI0.out HO_185002.out (by decide);intro e_;exact h_ (by rw [e_];rfl))
       have HP58:=Kd.R_putn HO_185002.out (x9_1 : Int) t188
       rw [← Ny191.out] at HP58
       have HQ58:=Aside0.mk HP58
       clear HP58
       refine hK.out _ _ ⟨(blk_cell BK184.out 0).trans rfl,(blk_cell BK184.out 1).trans rfl,(blk_cell BK184.out 2).trans rfl⟩ (fun hHeld=>?_)
       clear hK K
       refine norm_ (a':=?_) ?_ ?_
       rotate_left
       ·show Act.put _ (some 28) _ = _
        simp only [Act.put,List.setIfInBounds_toArray,List.set_cons_zero,List.set_cons_succ,i64_w,i32_w]
        rfl
       refine pure_ (i:=5) (N:=some 29) (v:=?_) (a':=?_) #[true,true,true,true,true,true,false] rfl rfl (by kernel_rfl) (fun _ _ _ h=>h) (Or.inl ⟨by rfl,?_⟩) ?_ ?_
       rotate_left
       ·intro w'
        go_simp
        with_reducible rfl
       rotate_left
       ·simp only [Act.put,List.setIfInBounds_toArray,List.set_cons_zero,List.set_cons_succ,i64_w,i32_w]
        rfl
       refine last_ (i:=6) (N:=none) #[true,true,true,true,true,true,true] rfl rfl (by kernel_rfl) (by decide) (fun K hK=>?_)
       refine skip_ (w1:=?_) (by rfl) rfl ?_ ?_
       rotate_left
       ·go_simp
        rfl
       refine hK.out _ _ ?_
       clear hK K
       refine done_ (by kernel_rfl) ?_
       try go_wp2
       have n0_ : Aside0 (Kd.R (Kd.int .i64) 2 (w57.setCell ⟨go17,(x9_1 : Int).toNat,none⟩ (.int .i64 t188)) w.heap.size (fun _=>True) (.slice (some ⟨go17,0,none⟩) x185002_1.length co55) y191):=⟨by (with_reducible repeat (first|apply Kd.R_alloc|apply Kd.R_drewN));exact HQ58.out⟩
       have n1_ : Aside0 ((w57.setCell ⟨go17,(x9_1 : Int).toNat,none⟩ (.int .i64 t188)).heap[gb178]? = some (.cells #[.int .i64 0,.int .i64 0,.slice none 0 0] 27 (0,0))):=⟨by (with_reducible repeat first|refine blk_drewN ?_ _|refine blk_alloc ?_ _);refine blk_far ?_ (by have h_:=Kd.R_ne HO_185002.out BK178.out (by decide);intro e_;exact h_ (by rw [e_];rfl)) _;(with_reducible repeat first|refine blk_drewN ?_ _|refine blk_alloc ?_ _);exact BK178.out⟩
       have n2_ : Aside0 ((w57.setCell ⟨go17,(x9_1 : Int).toNat,none⟩ (.int .i64 t188)).heap[gb184]? = some (.cells #[.int .i64 t179,.int .i64 t180,.slice (some ⟨go17,0,none⟩) x185002_1.length co55] 27 (0,0))):=⟨by (with_reducible repeat first|refine blk_drewN ?_ _|refine blk_alloc ?_ _);refine blk_far ?_ (by have h_:=Kd.R_ne HO_185002.out BK184.out (by decide);intro e_;exact h_ (by rw [e_];rfl)) _;(with_reducible repeat first|refine blk_drewN ?_ _|refine blk_alloc ?_ _);exact BK184.out⟩
       have n3_ : Aside0 (IsS171 w0 (w57.setCell ⟨go17,(x9_1 : Int).toNat,none⟩ (.int .i64 t188)) g s0_0 t189 t190):=⟨by repeat (first|(with_reducible first|exact HI0.out|apply IsS171.alloc|apply IsS171.drewN|apply IsS171.set_1|apply IsS171.set_2|refine IsS171.far ?_ HN0_go17.out _|refine IsS171.far ?_ NB0_178.out _|refine IsS171.far ?_ NB0_184.out _)|exact HI0.out)⟩
       have n4_ : Aside0 (KeepBut w (w57.setCell ⟨go17,(x9_1 : Int).toNat,none⟩ (.int .i64 t188)) g none):=⟨by repeat (first|(with_reducible first|exact HK.out|apply KeepBut.set_|apply keep_drewN|apply keep_alloc|refine keep_far ?_ GB17.out _|refine keep_far ?_ GW178.out _|refine keep_far ?_ GW184.out _)|exact HK.out)⟩
       have n5_ : Aside0 (Below w0.heap.size w0 (w57.setCell ⟨go17,(x9_1 : Int).toNat,none⟩ (.int .i64 t188))):=⟨by repeat (first|(with_reducible first|exact HB.out|apply below_alloc|apply pw_below_drewN|apply below_drew1|refine below_set ?_ (Nat.le_trans HL.out GB17.out)|refine below_set ?_ (IsS171.ge HI0.out)|refine below_set ?_ GE178.out|refine below_set ?_ GE184.out)|exact HB.out)⟩
       (try clear HO_185002);(try clear BK178);(try clear BK184);(try clear HI0);(try clear HK);(try clear HB)
       generalize (w57.setCell ⟨go17,(x9_1 : Int).toNat,none⟩ (.int .i64 t188)) = w59 at n0_ n1_ n2_ n3_ n4_ n5_ ⊢
       have HO_185002:=n0_
       have BK178:=n1_
       have BK184:=n2_
       have HI0:=n3_
       have HK:=n4_
       have HB:=n5_
       clear n0_ n1_ n2_ n3_ n4_ n5_
       have n0_:=Aside0.mk (Kd.R_drew HO_185002.out)
       have n1_:=Aside0.mk (blk_drew BK178.out)
       have n2_:=Aside0.mk (blk_drew BK184.out)
       have n3_:=Aside0.mk (IsS171.drew HI0.out)
       have n4_:=Aside0.mk (keep_drew HK.out)
       have n5_:=Aside0.mk (below_drew1 HB.out)
       clear HO_185002 BK178 BK184 HI0 HK HB
       have HO_185002:=n0_
       have BK178:=n1_
       have BK184:=n2_
       have HI0:=n3_
       have HK:=n4_
       have HB:=n5_
       clear n0_ n1_ n2_ n3_ n4_ n5_
       refine start_ (n:=7) (S:=fun w'=>w'.cell? ⟨gb184,0,none⟩ = some (.int .i64 t179) ∧ w'.cell? ⟨gb184,1,none⟩ = some (.int .i64 t180) ∧ w'.cell? ⟨gb184,2,none⟩ = some (.slice (some ⟨go17,0,none⟩) x185002_1.length co55)) (ds:=[6]) #[false,false,false,false,false,false,false] (by kernel_rfl) rfl rfl ⟨(blk_cell BK184.out 0).trans rfl,(blk_cell BK184.out 1).trans rfl,(blk_cell BK184.out 2).trans rfl⟩ (fun hHeld=>?_)
       generalize w59.drew = w60 at HO_185002 BK178 BK184 HI0 HK HB HQ58 hHeld ⊢
       refine pure_ (i:=0) (N:=some 32) (v:=?_) (a':=?_) #[true,false,false,false,false,false,false] rfl rfl (by kernel_rfl) (fun _ _ _ h=>h) (Or.inl ⟨by rfl,?_⟩) ?_ ?_
       rotate_left
       ·intro w'
        go_simp
        with_reducible rfl
       rotate_left
       ·simp only [Act.put,List.setIfInBounds_toArray,List.set_cons_zero,List.set_cons_succ,i64_w,i32_w]
        rfl
       refine pure_ (i:=2) (N:=some 34) (v:=?_) (a':=?_) #[true,false,true,false,false,false,false] rfl rfl (by kernel_rfl) (fun _ _ _ h=>h) (Or.inl ⟨by rfl,?_⟩) ?_ ?_
       rotate_left
       ·intro w'
        go_simp
        with_reducible rfl
       rotate_left
       ·simp only [Act.put,List.setIfInBounds_toArray,List.set_cons_zero,List.set_cons_succ,i64_w,i32_w]
        rfl
       refine pure_ (i:=3) (N:=some 35) (v:=?_) (a':=?_) #[true,false,true,true,false,false,false] rfl rfl (by kernel_rfl) (fun _ _ _ h=>h) (Or.inl ⟨by rfl,?_⟩) ?_ ?_
       rotate_left
       ·intro w'
        go_simp
        with_reducible rfl
       rotate_left
       ·simp only [Act.put,List.setIfInBounds_toArray,List.set_cons_zero,List.set_cons_succ,i64_w,i32_w]
        rfl
       refine take_ (i:=1) (N:=some 33) (v:=?_) (a':=?_) #[true,true,true,true,false,false,false] rfl rfl (by kernel_rfl) (fun _ _ _ h=>h) (Or.inl ⟨by rfl,?_⟩) hHeld ?_ ?_
       rotate_left
       ·rintro w' ⟨s0,s1,s2⟩
        go_simp
        with_reducible rfl
       rotate_left
       ·simp only [Act.put,List.setIfInBounds_toArray,List.set_cons_zero,List.set_cons_succ,i64_w,i32_w]
        rfl
       refine one_ (i:=4) (N:=some 36) #[true,true,true,true,true,false,false] rfl rfl (by kernel_rfl) (by decide) (fun K hK=>?_)
       refine goes_ Try.func75 (by kernel_rfl) rfl #[.pointer (some ⟨g,0,none⟩),.int .i64 2] (by rfl) rfl rfl (by (try simp only [List.map_toArray,List.map_cons,List.map_nil]);first|done|rfl) ?_
       with_reducible refine (spec_l01Src_n.calls g s0_0 t189 t190 2 t192 t193 t194 w0 _ ?side1 ?side2 A19.out).mono ?_
       (case side1=>repeat (first|(with_reducible first|exact HI0.out|apply IsS171.alloc|apply IsS171.drewN|apply IsS171.set_1|apply IsS171.set_2|refine IsS171.far ?_ NB0_178.out _|refine IsS171.far ?_ NB0_184.out _)|exact HI0.out))
       (case side2=>repeat (first|(with_reducible first|exact HB.out|apply below_alloc|apply pw_below_drewN|apply below_drew1|refine below_set ?_ (IsS171.ge HI0.out)|refine below_set ?_ GE178.out|refine below_set ?_ GE184.out)|exact HB.out))
       rintro e w61 ⟨rfl,hi,hb,hk⟩
       refine ⟨_,rfl,?_⟩
       have n0_:=Aside0.mk (Kd.R_mono (Kd.R_keep (IsS171.apart (show IsS171 w0 _ g s0_0 t189 t190 from by repeat (first|(with_reducible first|exact HI0.out|apply IsS171.alloc|apply IsS171.drewN|apply IsS171.set_1|apply IsS171.set_2|refine IsS171.far ?_ NB0_178.out _|refine IsS171.far ?_ NB0_184.out _)|exact HI0.out)) (by (with_reducible repeat (first|apply Kd.R_alloc|apply Kd.R_drewN));exact HO_185002.out) (by decide)) hk (fun _ h=>h.2)) (fun _ h=>h.1))
       have n1_:=Aside0.mk (KeepBut.blk hk (g':=gb178) (o:=.cells #[.int .i64 0,.int .i64 0,.slice none 0 0] 27 (0,0)) (by (with_reducible repeat first|refine blk_drewN ?_ _|refine blk_alloc ?_ _);exact BK178.out) NB178_0.out (by simp))
       have n2_:=Aside0.mk (KeepBut.blk hk (g':=gb184) (o:=.cells #[.int .i64 t179,.int .i64 t180,.slice (some ⟨go17,0,none⟩) x185002_1.length co55] 27 (0,0)) (by (with_reducible repeat first|refine blk_drewN ?_ _|refine blk_alloc ?_ _);exact BK184.out) NB184_0.out (by simp))
       have n3_:=Aside0.mk (KeepBut.trans (by repeat (first|(with_reducible first|exact HK.out|apply KeepBut.set_|apply keep_drewN|apply keep_alloc|refine keep_far ?_ GW178.out _|refine keep_far ?_ GW184.out _)|exact HK.out)) hk (.inl rfl))
       have n4_:=Aside0.mk (hb)
       have n5_:=Aside0.mk (hi)
       clear HO_185002 BK178 BK184 HK HB HI0
       have HO_185002:=n0_
       have BK178:=n1_
       have BK184:=n2_
       have HK:=n3_
       have HB:=n4_
       have HI0:=n5_
       clear n0_ n1_ n2_ n3_ n4_ n5_
       (try clear hb);(try clear hb2);(try clear hk);(try clear hi)
       have p20 : 0 ≤ (x9_1 : Int):=of_decide_eq_true (by first|(with_reducible assumption)|assumption)
       have q20 : (x9_1 : Int) < ((x185002_1.length : Int) : Int):=of_decide_eq_true (by first|(with_reducible assumption)|assumption)
       obtain ⟨hx20_0,hf20_0⟩:=Kd.R_celln 0 HO_185002.out (x9_1 : Int) p20 q20
       replace p20:=eq_true p20
       replace q20:=eq_true q20
       have HN0_go17:=Aside0.mk (show g ≠ go17 from by have h_:=IsS171.own_ne HI0.out HO_185002.out (by decide);intro e_;exact h_ (by rw [e_];rfl))
       have HP62:=Kd.R_putn HO_185002.out (x9_1 : Int) t192
       rw [← Ny195.out] at HP62
       have HQ62:=Aside0.mk HP62
       clear HP62
       refine hK.out _ _ ⟨(blk_cell BK184.out 0).trans rfl,(blk_cell BK184.out 1).trans rfl,(blk_cell BK184.out 2).trans rfl⟩ (fun hHeld=>?_)
       clear hK K
       refine norm_ (a':=?_) ?_ ?_
       rotate_left
       ·show Act.put _ (some 36) _ = _
        simp only [Act.put,List.setIfInBounds_toArray,List.set_cons_zero,List.set_cons_succ,i64_w,i32_w]
        rfl
       refine pure_ (i:=5) (N:=some 37) (v:=?_) (a':=?_) #[true,true,true,true,true,true,false] rfl rfl (by kernel_rfl) (fun _ _ _ h=>h) (Or.inl ⟨by rfl,?_⟩) ?_ ?_
       rotate_left
       ·intro w'
        go_simp
        with_reducible rfl
       rotate_left
       ·simp only [Act.put,List.setIfInBounds_toArray,List.set_cons_zero,List.set_cons_succ,i64_w,i32_w]
        rfl
       refine last_ (i:=6) (N:=none) #[true,true,true,true,true,true,true] rfl rfl (by kernel_rfl) (by decide) (fun K hK=>?_)
       refine skip_ (w1:=?_) (by rfl) rfl ?_ ?_
       rotate_left
       ·go_simp
        rfl
       refine hK.out _ _ ?_
       clear hK K
       refine done_ (by kernel_rfl) ?_
       try go_wp2
       go_roundg k1
       case measure=>have:=HK1.out;omega
       case rel=>exact ⟨(wrap64 (x9_1 + 1)),(t193),(t194),(y195),(.slice (some ⟨go17,0,none⟩) x185002_1.length co55),(by first|rfl|(simp;done)|(simp [*];done)),H',⟨by have:=HK1.out;omega⟩,⟨by (with_reducible repeat (first|apply Kd.R_alloc|apply Kd.R_drewN));exact HQ62.out⟩,⟨by (with_reducible repeat first|refine blk_drewN ?_ _|refine blk_alloc ?_ _);refine blk_far ?_ (by have h_:=Kd.R_ne HO_185002.out BK178.out (by decide);intro e_;exact h_ (by rw [e_];rfl)) _;(with_reducible repeat first|refine blk_drewN ?_ _|refine blk_alloc ?_ _);exact BK178.out⟩,⟨by (with_reducible repeat first|refine blk_drewN ?_ _|refine blk_alloc ?_ _);refine blk_far ?_ (by have h_:=Kd.R_ne HO_185002.out BK184.out (by decide);intro e_;exact h_ (by rw [e_];rfl)) _;(with_reducible repeat first|refine blk_drewN ?_ _|refine blk_alloc ?_ _);exact BK184.out⟩,⟨by repeat (first|(with_reducible first|exact HI0.out|apply IsS171.alloc|apply IsS171.drewN|apply IsS171.set_1|apply IsS171.set_2|refine IsS171.far ?_ HN0_go17.out _|refine IsS171.far ?_ NB0_178.out _|refine IsS171.far ?_ NB0_184.out _)|exact HI0.out)⟩,⟨by repeat (first|(with_reducible first|exact HK.out|apply KeepBut.set_|apply keep_drewN|apply keep_alloc|refine keep_far ?_ GB17.out _|refine keep_far ?_ GW178.out _|refine keep_far ?_ GW184.out _)|exact HK.out)⟩,⟨by repeat (first|(with_reducible first|exact HB.out|apply below_alloc|apply pw_below_drewN|apply below_drew1|refine below_set ?_ (Nat.le_trans HL.out GB17.out)|refine below_set ?_ (IsS171.ge HI0.out)|refine below_set ?_ GE178.out|refine below_set ?_ GE184.out)|exact HB.out)⟩⟩
     ·rw [if_neg c18] at H
      have c18b0 : (t185 == 0) = false:=beq_eq_false_iff_ne.mpr c18
      have c18b1 : (t185 != 0) = true:=bne_iff_ne.mpr c18
      by_cases c63 : t185 = 1
      ·rw [if_pos c63] at H
       have c63b0 : (t185 == 1) = true:=beq_iff_eq.mpr c63
       have c63b1 : (t185 != 1) = false:=bne_eq_false_iff_eq.mpr c63
       clear c63
       replace H:=Option.bind_eq_some_iff.mp H
       obtain ⟨⟨t200,t201,t202⟩,A640,H⟩:=H
       replace H : (if t200 = true then (spec_l01Src_matrix.l0 k1 a1 a2 t185 (wrap64 (x9_1 + 1)) s0_0 t201 t202 t179 t180 (y191.set (x9_1 : Int).toNat 0)) else (spec_l01Src_matrix.l0 k1 a1 a2 t185 (wrap64 (x9_1 + 1)) s0_0 t201 t202 t179 t180 y191)) = some (r1,r2,r3,r4,r5):=H
       have A64:=Aside0.mk A640
       clear A640
       by_cases c65 : t200 = true
       ·subst c65
        have H1 : (spec_l01Src_matrix.l0 k1 a1 a2 t185 (wrap64 (x9_1 + 1)) s0_0 t201 t202 t179 t180 (y191.set (x9_1 : Int).toNat 0)) = some (r1,r2,r3,r4,r5):=by rw [if_pos rfl] at H;exact H
        clear H
        have H:=H1
        clear H1
        obtain ⟨y203,hy203⟩ : ∃ y_ : List Int,y_ = (y191.set (x9_1 : Int).toNat 0):=⟨_,rfl⟩
        replace H : (spec_l01Src_matrix.l0 k1 a1 a2 t185 (wrap64 (x9_1 + 1)) s0_0 t201 t202 t179 t180 y203) = some (r1,r2,r3,r4,r5):=by first|(rw [hy203];with_reducible exact H)|(have H2_:=(Option.bind_some _ _).symm.trans H;rw [hy203];with_reducible exact H2_)|(have H2_:=(Option.bind_some _ _).symm.trans H;with_reducible exact H2_)|with_reducible exact H|(rw [hy203];exact H)|exact H
        have Ny203:=Aside0.mk hy203
        clear hy203
        have H':=Aside0.mk H
        clear H
        have hnb67:=NB184_178.out
        have hnc67:=NB178_184.out
        have hnb68:=NB184_0.out
        have hnc68:=NB0_184.out
        have hcz69_0 : wr.cell? ⟨gb184,0,none⟩ = some (.int .i64 t179):=(blk_cell BK184.out 0).trans rfl
        have hcz69_1 : wr.cell? ⟨gb184,1,none⟩ = some (.int .i64 t180):=(blk_cell BK184.out 1).trans rfl
        have hcz69_2 : wr.cell? ⟨gb184,2,none⟩ = some (u185002):=(blk_cell BK184.out 2).trans rfl
        have hfz69_0:=blk_frozen BK184.out 0
        have hfz69_1:=blk_frozen BK184.out 1
        have hfz69_2:=blk_frozen BK184.out 2
        obtain ⟨Ao70,co70,eo70⟩:=Kd.R_slice HO_185002.out
        subst eo70
        try go_wp2
        have n0_:=Aside0.mk (Kd.R_drew HO_185002.out)
        have n1_:=Aside0.mk (blk_drew BK178.out)
        have n2_:=Aside0.mk (blk_drew BK184.out)
        have n3_:=Aside0.mk (IsS171.drew HI0.out)
        have n4_:=Aside0.mk (keep_drew HK.out)
        have n5_:=Aside0.mk (below_drew1 HB.out)
        clear HO_185002 BK178 BK184 HI0 HK HB
        have HO_185002:=n0_
        have BK178:=n1_
        have BK184:=n2_
        have HI0:=n3_
        have HK:=n4_
        have HB:=n5_
        clear n0_ n1_ n2_ n3_ n4_ n5_
        refine start_ (n:=7) (S:=fun w'=>w'.cell? ⟨gb184,0,none⟩ = some (.int .i64 t179) ∧ w'.cell? ⟨gb184,1,none⟩ = some (.int .i64 t180) ∧ w'.cell? ⟨gb184,2,none⟩ = some (.slice Ao70 x185002_1.length co70)) (ds:=[6]) #[false,false,false,false,false,false,false] (by kernel_rfl) rfl rfl ⟨(blk_cell BK184.out 0).trans rfl,(blk_cell BK184.out 1).trans rfl,(blk_cell BK184.out 2).trans rfl⟩ (fun hHeld=>?_)
        generalize wr.drew = w71 at HO_185002 BK178 BK184 HI0 HK HB hHeld ⊢
        refine pure_ (i:=0) (N:=some 24) (v:=?_) (a':=?_) #[true,false,false,false,false,false,false] rfl rfl (by kernel_rfl) (fun _ _ _ h=>h) (Or.inl ⟨by rfl,?_⟩) ?_ ?_
        rotate_left
        ·intro w'
         go_simp
         with_reducible rfl
        rotate_left
        ·simp only [Act.put,List.setIfInBounds_toArray,List.set_cons_zero,List.set_cons_succ,i64_w,i32_w]
         rfl
        refine pure_ (i:=2) (N:=some 26) (v:=?_) (a':=?_) #[true,false,true,false,false,false,false] rfl rfl (by kernel_rfl) (fun _ _ _ h=>h) (Or.inl ⟨by rfl,?_⟩) ?_ ?_
        rotate_left
        ·intro w'
         go_simp
         with_reducible rfl
        rotate_left
        ·simp only [Act.put,List.setIfInBounds_toArray,List.set_cons_zero,List.set_cons_succ,i64_w,i32_w]
         rfl
        refine pure_ (i:=3) (N:=some 27) (v:=?_) (a':=?_) #[true,false,true,true,false,false,false] rfl rfl (by kernel_rfl) (fun _ _ _ h=>h) (Or.inl ⟨by rfl,?_⟩) ?_ ?_
        rotate_left
        ·intro w'
         go_simp
         with_reducible rfl
        rotate_left
        ·simp only [Act.put,List.setIfInBounds_toArray,List.set_cons_zero,List.set_cons_succ,i64_w,i32_w]
         rfl
        refine take_ (i:=1) (N:=some 25) (v:=?_) (a':=?_) #[true,true,true,true,false,false,false] rfl rfl (by kernel_rfl) (fun _ _ _ h=>h) (Or.inl ⟨by rfl,?_⟩) hHeld ?_ ?_
        rotate_left
        ·rintro w' ⟨s0,s1,s2⟩
         go_simp
         with_reducible rfl
        rotate_left
        ·simp only [Act.put,List.setIfInBounds_toArray,List.set_cons_zero,List.set_cons_succ,i64_w,i32_w]
         rfl
        refine one_ (i:=4) (N:=some 28) #[true,true,true,true,true,false,false] rfl rfl (by kernel_rfl) (by decide) (fun K hK=>?_)
        refine goes_ Try.func75 (by kernel_rfl) rfl #[.pointer (some ⟨g,0,none⟩),.int .i64 256] (by rfl) rfl rfl (by (try simp only [List.map_toArray,List.map_cons,List.map_nil]);first|done|rfl) ?_
        with_reducible refine (spec_l01Src_n.calls g s0_0 x1001_1 x1002_1 256 t188 t189 t190 w0 _ ?side1 ?side2 A15.out).mono ?_
        (case side1=>repeat (first|(with_reducible first|exact HI0.out|apply IsS171.alloc|apply IsS171.drewN|apply IsS171.set_1|apply IsS171.set_2|refine IsS171.far ?_ NB0_178.out _|refine IsS171.far ?_ NB0_184.out _)|exact HI0.out))
        (case side2=>repeat (first|(with_reducible first|exact HB.out|apply below_alloc|apply pw_below_drewN|apply below_drew1|refine below_set ?_ (IsS171.ge HI0.out)|refine below_set ?_ GE178.out|refine below_set ?_ GE184.out)|exact HB.out))
        rintro e w72 ⟨rfl,hi,hb,hk⟩
        refine ⟨_,rfl,?_⟩
        have n0_:=Aside0.mk (Kd.R_mono (Kd.R_keep (IsS171.apart (show IsS171 w0 _ g s0_0 x1001_1 x1002_1 from by repeat (first|(with_reducible first|exact HI0.out|apply IsS171.alloc|apply IsS171.drewN|apply IsS171.set_1|apply IsS171.set_2|refine IsS171.far ?_ NB0_178.out _|refine IsS171.far ?_ NB0_184.out _)|exact HI0.out)) (by (with_reducible repeat (first|apply Kd.R_alloc|apply Kd.R_drewN));exact HO_185002.out) (by decide)) hk (fun _ h=>h.2)) (fun _ h=>h.1))
        have n1_:=Aside0.mk (KeepBut.blk hk (g':=gb178) (o:=.cells #[.int .i64 0,.int .i64 0,.slice none 0 0] 27 (0,0)) (by (with_reducible repeat first|refine blk_drewN ?_ _|refine blk_alloc ?_ _);exact BK178.out) NB178_0.out (by simp))
        have n2_:=Aside0.mk (KeepBut.blk hk (g':=gb184) (o:=.cells #[.int .i64 t179,.int .i64 t180,.slice Ao70 x185002_1.length co70] 27 (0,0)) (by (with_reducible repeat first|refine blk_drewN ?_ _|refine blk_alloc ?_ _);exact BK184.out) NB184_0.out (by simp))
        have n3_:=Aside0.mk (KeepBut.trans (by repeat (first|(with_reducible first|exact HK.out|apply KeepBut.set_|apply keep_drewN|apply keep_alloc|refine keep_far ?_ GW178.out _|refine keep_far ?_ GW184.out _)|exact HK.out)) hk (.inl rfl))
        have n4_:=Aside0.mk (hb)
        have n5_:=Aside0.mk (hi)
        clear HO_185002 BK178 BK184 HK HB HI0
        have HO_185002:=n0_
        have BK178:=n1_
        have BK184:=n2_
        have HK:=n3_
        have HB:=n4_
        have HI0:=n5_
        clear n0_ n1_ n2_ n3_ n4_ n5_
        (try clear hb);(try clear hb2);(try clear hk);(try clear hi)
        have p17 : 0 ≤ (x9_1 : Int):=of_decide_eq_true (by first|(with_reducible assumption)|assumption)
        have q17 : (x9_1 : Int) < ((x185002_1.length : Int) : Int):=of_decide_eq_true (by first|(with_reducible assumption)|assumption)
        obtain ⟨go17,co17,eo17,gb17,gl17,cl17,HG17⟩:=Kd.R_form HO_185002.out (by omega)
        (first|cases eo17|(injection eo17 with ea_ en_ ec_;(first|subst ea_|(injection ea_ with ea_;subst ea_));subst ec_;clear en_))
        have GB17:=Aside0.mk gb17
        have GG17:=Aside0.mk HG17
        clear gb17 gl17 HG17
        obtain ⟨hx17_0,hf17_0⟩:=Kd.R_celln 0 HO_185002.out (x9_1 : Int) p17 q17
        replace p17:=eq_true p17
        replace q17:=eq_true q17
        have HN0_go17:=Aside0.mk (show g ≠ go17 from by have h_:=IsS171.own_ne HI0.out HO_185002.out (by decide);intro e_;exact h_ (by rw [e_];rfl))
        have HP73:=Kd.R_putn HO_185002.out (x9_1 : Int) t188
        rw [← Ny191.out] at HP73
        have HQ73:=Aside0.mk HP73
        clear HP73
        refine hK.out _ _ ⟨(blk_cell BK184.out 0).trans rfl,(blk_cell BK184.out 1).trans rfl,(blk_cell BK184.out 2).trans rfl⟩ (fun hHeld=>?_)
        clear hK K
        refine norm_ (a':=?_) ?_ ?_
        rotate_left
        ·show Act.put _ (some 28) _ = _
         simp only [Act.put,List.setIfInBounds_toArray,List.set_cons_zero,List.set_cons_succ,i64_w,i32_w]
         rfl
        refine pure_ (i:=5) (N:=some 29) (v:=?_) (a':=?_) #[true,true,true,true,true,true,false] rfl rfl (by kernel_rfl) (fun _ _ _ h=>h) (Or.inl ⟨by rfl,?_⟩) ?_ ?_
        rotate_left
        ·intro w'
         go_simp
         with_reducible rfl
        rotate_left
        ·simp only [Act.put,List.setIfInBounds_toArray,List.set_cons_zero,List.set_cons_succ,i64_w,i32_w]
         rfl
        refine last_ (i:=6) (N:=none) #[true,true,true,true,true,true,true] rfl rfl (by kernel_rfl) (by decide) (fun K hK=>?_)
        refine skip_ (w1:=?_) (by rfl) rfl ?_ ?_
        rotate_left
        ·go_simp
         rfl
        refine hK.out _ _ ?_
        clear hK K
        refine done_ (by kernel_rfl) ?_
        try go_wp2_with (first|(go_at_call 77;(with_reducible refine (spec_l01Src_one.calls g s0_0 t189 t190 2 true t201 t202 w0 _ ?side1 ?side2 A64.out).mono ?_);(case side1=>repeat (first|(with_reducible first|exact HI0.out|apply IsS171.alloc|apply IsS171.drewN|apply IsS171.set_1|apply IsS171.set_2|refine IsS171.far ?_ HN0_go17.out _|refine IsS171.far ?_ NB0_178.out _|refine IsS171.far ?_ NB0_184.out _)|exact HI0.out));(case side2=>repeat (first|(with_reducible first|exact HB.out|apply below_alloc|apply pw_below_drewN|apply below_drew1|refine below_set ?_ (Nat.le_trans HL.out GB17.out)|refine below_set ?_ (IsS171.ge HI0.out)|refine below_set ?_ GE178.out|refine below_set ?_ GE184.out)|exact HB.out));rintro e w74 ⟨rfl,hi,hb,hk⟩;have n0_:=Aside0.mk (Kd.R_mono (Kd.R_keep (IsS171.apart (show IsS171 w0 _ g s0_0 t189 t190 from by repeat (first|(with_reducible first|exact HI0.out|apply IsS171.alloc|apply IsS171.drewN|apply IsS171.set_1|apply IsS171.set_2|refine IsS171.far ?_ HN0_go17.out _|refine IsS171.far ?_ NB0_178.out _|refine IsS171.far ?_ NB0_184.out _)|exact HI0.out)) (by (with_reducible repeat (first|apply Kd.R_alloc|apply Kd.R_drewN));exact HQ73.out) (by decide)) hk (fun _ h=>h.2)) (fun _ h=>h.1));have n1_:=Aside0.mk (KeepBut.blk hk (g':=gb178) (o:=.cells #[.int .i64 0,.int .i64 0,.slice none 0 0] 27 (0,0)) (by (with_reducible repeat first|refine blk_drewN ?_ _|refine blk_alloc ?_ _);refine blk_far ?_ (by have h_:=Kd.R_ne HO_185002.out BK178.out (by decide);intro e_;exact h_ (by rw [e_];rfl)) _;(with_reducible repeat first|refine blk_drewN ?_ _|refine blk_alloc ?_ _);exact BK178.out) NB178_0.out (by simp));have n2_:=Aside0.mk (KeepBut.blk hk (g':=gb184) (o:=.cells #[.int .i64 t179,.int .i64 t180,.slice (some ⟨go17,0,none⟩) x185002_1.length co70] 27 (0,0)) (by (with_reducible repeat first|refine blk_drewN ?_ _|refine blk_alloc ?_ _);refine blk_far ?_ (by have h_:=Kd.R_ne HO_185002.out BK184.out (by decide);intro e_;exact h_ (by rw [e_];rfl)) _;(with_reducible repeat first|refine blk_drewN ?_ _|refine blk_alloc ?_ _);exact BK184.out) NB184_0.out (by simp));have n3_:=Aside0.mk (KeepBut.trans (by repeat (first|(with_reducible first|exact HK.out|apply KeepBut.set_|apply keep_drewN|apply keep_alloc|refine keep_far ?_ GB17.out _|refine keep_far ?_ GW178.out _|refine keep_far ?_ GW184.out _)|exact HK.out)) hk (.inl rfl));have n4_:=Aside0.mk (hb);have n5_:=Aside0.mk (hi);clear HO_185002 BK178 BK184 HK HB HI0;have HO_185002:=n0_;have BK178:=n1_;have BK184:=n2_;have HK:=n3_;have HB:=n4_;have HI0:=n5_;clear n0_ n1_ n2_ n3_ n4_ n5_;(try clear hb);(try clear hb2);(try clear hk);(try clear hi);have hcz75_0 : w74.cell? ⟨gb184,0,none⟩ = some (.int .i64 t179):=(blk_cell BK184.out 0).trans rfl;have hcz75_1 : w74.cell? ⟨gb184,1,none⟩ = some (.int .i64 t180):=(blk_cell BK184.out 1).trans rfl;have hcz75_2 : w74.cell? ⟨gb184,2,none⟩ = some (.slice (some ⟨go17,0,none⟩) x185002_1.length co70):=(blk_cell BK184.out 2).trans rfl;have hfz75_0:=blk_frozen BK184.out 0;have hfz75_1:=blk_frozen BK184.out 1;have hfz75_2:=blk_frozen BK184.out 2;have p66 : 0 ≤ (x9_1 : Int):=of_decide_eq_true (by first|(with_reducible assumption)|assumption);have q66 : (x9_1 : Int) < ((x185002_1.length : Int) : Int):=of_decide_eq_true (by first|(with_reducible assumption)|assumption);obtain ⟨hx66_0,hf66_0⟩:=Kd.R_celln 0 HO_185002.out (x9_1 : Int) p66 q66;replace p66:=eq_true p66;replace q66:=eq_true q66;obtain ⟨hy76_,hz76_⟩:=Kd.R_celln 0 HO_185002.out (x9_1 : Int) (of_decide_eq_true (by first|(with_reducible assumption)|assumption)) (of_decide_eq_true (by first|(with_reducible assumption)|assumption));have HP76:=Kd.R_putg HO_185002.out (x9_1 : Int) 0)|((with_reducible refine gate_store (t:=2) (p:=47) rfl ?_);refine store_event (t:=2) (p:=47) (v:=?vo_w77) (w1:=(w74.setCell ⟨go17,(x9_1 : Int).toNat,none⟩ (.int .i64 0))) ?hg ?ho ?hn ?hr ?_;(case ho=>rfl);(case hg=>rfl);(case hn=>rfl);(case hr=>first|(go_simp;done)|(go_simp;rfl));intro w77 hw;have hg : w74.grownBy w77 (some go17):=(by rw [hw];exact HP76.2);have hp_ : Kd.R (Kd.int .i64) 2 w77 w.heap.size (fun _=>True) (.slice (some ⟨go17,0,none⟩) x185002_1.length co70) y203:=(by rw [hw,Ny203.out];exact HP76.1);clear HP76;have n0_:=Aside0.mk (hp_);have n1_:=Aside0.mk (blk_grown (g:=gb178) (o:=.cells #[.int .i64 0,.int .i64 0,.slice none 0 0] 27 (0,0)) (by (with_reducible repeat first|refine blk_drewN ?_ _|refine blk_alloc ?_ _);exact BK178.out) hg (Kd.R_ne HO_185002.out BK178.out (by decide)));have n2_:=Aside0.mk (blk_grown (g:=gb184) (o:=.cells #[.int .i64 t179,.int .i64 t180,.slice (some ⟨go17,0,none⟩) x185002_1.length co70] 27 (0,0)) (by (with_reducible repeat first|refine blk_drewN ?_ _|refine blk_alloc ?_ _);exact BK184.out) hg (Kd.R_ne HO_185002.out BK184.out (by decide)));have n3_:=Aside0.mk (IsS171.grown (by repeat (first|(with_reducible first|exact HI0.out|apply IsS171.alloc|apply IsS171.drewN|apply IsS171.set_1|apply IsS171.set_2|refine IsS171.far ?_ NB0_178.out _|refine IsS171.far ?_ NB0_184.out _)|exact HI0.out)) hg (IsS171.own_ne HI0.out HO_185002.out (by decide)));have n4_:=Aside0.mk ((by rw [hw];exact below_set (HB.out) (Nat.le_trans HL.out GB17.out) : Below w0.heap.size w0 w77));have n5_:=Aside0.mk (KeepBut.trans (by repeat (first|(with_reducible first|exact HK.out|apply KeepBut.set_|apply keep_drewN|apply keep_alloc|refine keep_far ?_ GW178.out _|refine keep_far ?_ GW184.out _)|exact HK.out)) (KeepBut.of_grown hg g) (Kd.R_base2 HO_185002.out));clear HO_185002 BK178 BK184 HI0 HB HK;have HO_185002:=n0_;have BK178:=n1_;have BK184:=n2_;have HI0:=n3_;have HB:=n4_;have HK:=n5_;clear n0_ n1_ n2_ n3_ n4_ n5_ hg hw hp_))
        go_roundg k1
        case measure=>have:=HK1.out;omega
        case rel=>exact ⟨(wrap64 (x9_1 + 1)),(t201),(t202),(y203),(.slice (some ⟨go17,0,none⟩) x185002_1.length co70),(by first|rfl|(simp;done)|(simp [*];done)),H',⟨by have:=HK1.out;omega⟩,⟨by (with_reducible repeat (first|apply Kd.R_alloc|apply Kd.R_drewN));exact HO_185002.out⟩,⟨by (with_reducible repeat first|refine blk_drewN ?_ _|refine blk_alloc ?_ _);exact BK178.out⟩,⟨by (with_reducible repeat first|refine blk_drewN ?_ _|refine blk_alloc ?_ _);exact BK184.out⟩,⟨by repeat (first|(with_reducible first|exact HI0.out|apply IsS171.alloc|apply IsS171.drewN|apply IsS171.set_1|apply IsS171.set_2|refine IsS171.far ?_ NB0_178.out _|refine IsS171.far ?_ NB0_184.out _)|exact HI0.out)⟩,⟨by repeat (first|(with_reducible first|exact HK.out|apply KeepBut.set_|apply keep_drewN|apply keep_alloc|refine keep_far ?_ GW178.out _|refine keep_far ?_ GW184.out _)|exact HK.out)⟩,⟨by repeat (first|(with_reducible first|exact HB.out|apply below_alloc|apply pw_below_drewN|apply below_drew1|refine below_set ?_ (IsS171.ge HI0.out)|refine below_set ?_ GE178.out|refine below_set ?_ GE184.out)|exact HB.out)⟩⟩
       ·replace c65:=Bool.eq_false_iff.mpr c65
        subst c65
        have H1 : (spec_l01Src_matrix.l0 k1 a1 a2 t185 (wrap64 (x9_1 + 1)) s0_0 t201 t202 t179 t180 y191) = some (r1,r2,r3,r4,r5):=by rw [if_neg (show ¬ (false = true) by decide)] at H;exact H
        clear H
        have H:=H1
        clear H1
        have H':=Aside0.mk H
        clear H
        have hnb78:=NB184_178.out
        have hnc78:=NB178_184.out
        have hnb79:=NB184_0.out
        have hnc79:=NB0_184.out
        have hcz80_0 : wr.cell? ⟨gb184,0,none⟩ = some (.int .i64 t179):=(blk_cell BK184.out 0).trans rfl
        have hcz80_1 : wr.cell? ⟨gb184,1,none⟩ = some (.int .i64 t180):=(blk_cell BK184.out 1).trans rfl
        have hcz80_2 : wr.cell? ⟨gb184,2,none⟩ = some (u185002):=(blk_cell BK184.out 2).trans rfl
        have hfz80_0:=blk_frozen BK184.out 0
        have hfz80_1:=blk_frozen BK184.out 1
        have hfz80_2:=blk_frozen BK184.out 2
        obtain ⟨Ao81,co81,eo81⟩:=Kd.R_slice HO_185002.out
        subst eo81
        try go_wp2
        have n0_:=Aside0.mk (Kd.R_drew HO_185002.out)
        have n1_:=Aside0.mk (blk_drew BK178.out)
        have n2_:=Aside0.mk (blk_drew BK184.out)
        have n3_:=Aside0.mk (IsS171.drew HI0.out)
        have n4_:=Aside0.mk (keep_drew HK.out)
        have n5_:=Aside0.mk (below_drew1 HB.out)
        clear HO_185002 BK178 BK184 HI0 HK HB
        have HO_185002:=n0_
        have BK178:=n1_
        have BK184:=n2_
        have HI0:=n3_
        have HK:=n4_
        have HB:=n5_
        clear n0_ n1_ n2_ n3_ n4_ n5_
        refine start_ (n:=7) (S:=fun w'=>w'.cell? ⟨gb184,0,none⟩ = some (.int .i64 t179) ∧ w'.cell? ⟨gb184,1,none⟩ = some (.int .i64 t180) ∧ w'.cell? ⟨gb184,2,none⟩ = some (.slice Ao81 x185002_1.length co81)) (ds:=[6]) #[false,false,false,false,false,false,false] (by kernel_rfl) rfl rfl ⟨(blk_cell BK184.out 0).trans rfl,(blk_cell BK184.out 1).trans rfl,(blk_cell BK184.out 2).trans rfl⟩ (fun hHeld=>?_)
        generalize wr.drew = w82 at HO_185002 BK178 BK184 HI0 HK HB hHeld ⊢
        refine pure_ (i:=0) (N:=some 24) (v:=?_) (a':=?_) #[true,false,false,false,false,false,false] rfl rfl (by kernel_rfl) (fun _ _ _ h=>h) (Or.inl ⟨by rfl,?_⟩) ?_ ?_
        rotate_left
        ·intro w'
         go_simp
         with_reducible rfl
        rotate_left
        ·simp only [Act.put,List.setIfInBounds_toArray,List.set_cons_zero,List.set_cons_succ,i64_w,i32_w]
         rfl
        refine pure_ (i:=2) (N:=some 26) (v:=?_) (a':=?_) #[true,false,true,false,false,false,false] rfl rfl (by kernel_rfl) (fun _ _ _ h=>h) (Or.inl ⟨by rfl,?_⟩) ?_ ?_
        rotate_left
        ·intro w'
         go_simp
         with_reducible rfl
        rotate_left
        ·simp only [Act.put,List.setIfInBounds_toArray,List.set_cons_zero,List.set_cons_succ,i64_w,i32_w]
         rfl
        refine pure_ (i:=3) (N:=some 27) (v:=?_) (a':=?_) #[true,false,true,true,false,false,false] rfl rfl (by kernel_rfl) (fun _ _ _ h=>h) (Or.inl ⟨by rfl,?_⟩) ?_ ?_
        rotate_left
        ·intro w'
         go_simp
         with_reducible rfl
        rotate_left
        ·simp only [Act.put,List.setIfInBounds_toArray,List.set_cons_zero,List.set_cons_succ,i64_w,i32_w]
         rfl
        refine take_ (i:=1) (N:=some 25) (v:=?_) (a':=?_) #[true,true,true,true,false,false,false] rfl rfl (by kernel_rfl) (fun _ _ _ h=>h) (Or.inl ⟨by rfl,?_⟩) hHeld ?_ ?_
        rotate_left
        ·rintro w' ⟨s0,s1,s2⟩
         go_simp
         with_reducible rfl
        rotate_left
        ·simp only [Act.put,List.setIfInBounds_toArray,List.set_cons_zero,List.set_cons_succ,i64_w,i32_w]
         rfl
        refine one_ (i:=4) (N:=some 28) #[true,true,true,true,true,false,false] rfl rfl (by kernel_rfl) (by decide) (fun K hK=>?_)
        refine goes_ Try.func75 (by kernel_rfl) rfl #[.pointer (some ⟨g,0,none⟩),.int .i64 256] (by rfl) rfl rfl (by (try simp only [List.map_toArray,List.map_cons,List.map_nil]);first|done|rfl) ?_
        with_reducible refine (spec_l01Src_n.calls g s0_0 x1001_1 x1002_1 256 t188 t189 t190 w0 _ ?side1 ?side2 A15.out).mono ?_
        (case side1=>repeat (first|(with_reducible first|exact HI0.out|apply IsS171.alloc|apply IsS171.drewN|apply IsS171.set_1|apply IsS171.set_2|refine IsS171.far ?_ NB0_178.out _|refine IsS171.far ?_ NB0_184.out _)|exact HI0.out))
        (case side2=>repeat (first|(with_reducible first|exact HB.out|apply below_alloc|apply pw_below_drewN|apply below_drew1|refine below_set ?_ (IsS171.ge HI0.out)|refine below_set ?_ GE178.out|refine below_set ?_ GE184.out)|exact HB.out))
        rintro e w83 ⟨rfl,hi,hb,hk⟩
        refine ⟨_,rfl,?_⟩
        have n0_:=Aside0.mk (Kd.R_mono (Kd.R_keep (IsS171.apart (show IsS171 w0 _ g s0_0 x1001_1 x1002_1 from by repeat (first|(with_reducible first|exact HI0.out|apply IsS171.alloc|apply IsS171.drewN|apply IsS171.set_1|apply IsS171.set_2|refine IsS171.far ?_ NB0_178.out _|refine IsS171.far ?_ NB0_184.out _)|exact HI0.out)) (by (with_reducible repeat (first|apply Kd.R_alloc|apply Kd.R_drewN));exact HO_185002.out) (by decide)) hk (fun _ h=>h.2)) (fun _ h=>h.1))
        have n1_:=Aside0.mk (KeepBut.blk hk (g':=gb178) (o:=.cells #[.int .i64 0,.int .i64 0,.slice none 0 0] 27 (0,0)) (by (with_reducible repeat first|refine blk_drewN ?_ _|refine blk_alloc ?_ _);exact BK178.out) NB178_0.out (by simp))
        have n2_:=Aside0.mk (KeepBut.blk hk (g':=gb184) (o:=.cells #[.int .i64 t179,.int .i64 t180,.slice Ao81 x185002_1.length co81] 27 (0,0)) (by (with_reducible repeat first|refine blk_drewN ?_ _|refine blk_alloc ?_ _);exact BK184.out) NB184_0.out (by simp))
        have n3_:=Aside0.mk (KeepBut.trans (by repeat (first|(with_reducible first|exact HK.out|apply KeepBut.set_|apply keep_drewN|apply keep_alloc|refine keep_far ?_ GW178.out _|refine keep_far ?_ GW184.out _)|exact HK.out)) hk (.inl rfl))
        have n4_:=Aside0.mk (hb)
        have n5_:=Aside0.mk (hi)
        clear HO_185002 BK178 BK184 HK HB HI0
        have HO_185002:=n0_
        have BK178:=n1_
        have BK184:=n2_
        have HK:=n3_
        have HB:=n4_
        have HI0:=n5_
        clear n0_ n1_ n2_ n3_ n4_ n5_
        (try clear hb);(try clear hb2);(try clear hk);(try clear hi)
        have p17 : 0 ≤ (x9_1 : Int):=of_decide_eq_true (by first|(with_reducible assumption)|assumption)
        have q17 : (x9_1 : Int) < ((x185002_1.length : Int) : Int):=of_decide_eq_true (by first|(with_reducible assumption)|assumption)
        obtain ⟨go17,co17,eo17,gb17,gl17,cl17,HG17⟩:=Kd.R_form HO_185002.out (by omega)
        (first|cases eo17|(injection eo17 with ea_ en_ ec_;(first|subst ea_|(injection ea_ with ea_;subst ea_));subst ec_;clear en_))
        have GB17:=Aside0.mk gb17
        have GG17:=Aside0.mk HG17
        clear gb17 gl17 HG17
        obtain ⟨hx17_0,hf17_0⟩:=Kd.R_celln 0 HO_185002.out (x9_1 : Int) p17 q17
        replace p17:=eq_true p17
        replace q17:=eq_true q17
        have HN0_go17:=Aside0.mk (show g ≠ go17 from by have h_:=IsS171.own_ne HI0.out HO_185002.out (by decide);intro e_;exact h_ (by rw [e_];rfl))
        have HP84:=Kd.R_putn HO_185002.out (x9_1 : Int) t188
        rw [← Ny191.out] at HP84
        have HQ84:=Aside0.mk HP84
        clear HP84
        refine hK.out _ _ ⟨(blk_cell BK184.out 0).trans rfl,(blk_cell BK184.out 1).trans rfl,(blk_cell BK184.out 2).trans rfl⟩ (fun hHeld=>?_)
        clear hK K
        refine norm_ (a':=?_) ?_ ?_
        rotate_left
        ·show Act.put _ (some 28) _ = _
         simp only [Act.put,List.setIfInBounds_toArray,List.set_cons_zero,List.set_cons_succ,i64_w,i32_w]
         rfl
        refine pure_ (i:=5) (N:=some 29) (v:=?_) (a':=?_) #[true,true,true,true,true,true,false] rfl rfl (by kernel_rfl) (fun _ _ _ h=>h) (Or.inl ⟨by rfl,?_⟩) ?_ ?_
        rotate_left
        ·intro w'
         go_simp
         with_reducible rfl
        rotate_left
        ·simp only [Act.put,List.setIfInBounds_toArray,List.set_cons_zero,List.set_cons_succ,i64_w,i32_w]
         rfl
        refine last_ (i:=6) (N:=none) #[true,true,true,true,true,true,true] rfl rfl (by kernel_rfl) (by decide) (fun K hK=>?_)
        refine skip_ (w1:=?_) (by rfl) rfl ?_ ?_
        rotate_left
        ·go_simp
         rfl
        refine hK.out _ _ ?_
        clear hK K
        refine done_ (by kernel_rfl) ?_
        try go_wp2_with (first|(go_at_call 77;(with_reducible refine (spec_l01Src_one.calls g s0_0 t189 t190 2 false t201 t202 w0 _ ?side1 ?side2 A64.out).mono ?_);(case side1=>repeat (first|(with_reducible first|exact HI0.out|apply IsS171.alloc|apply IsS171.drewN|apply IsS171.set_1|apply IsS171.set_2|refine IsS171.far ?_ HN0_go17.out _|refine IsS171.far ?_ NB0_178.out _|refine IsS171.far ?_ NB0_184.out _)|exact HI0.out));(case side2=>repeat (first|(with_reducible first|exact HB.out|apply below_alloc|apply pw_below_drewN|apply below_drew1|refine below_set ?_ (Nat.le_trans HL.out GB17.out)|refine below_set ?_ (IsS171.ge HI0.out)|refine below_set ?_ GE178.out|refine below_set ?_ GE184.out)|exact HB.out));rintro e w85 ⟨rfl,hi,hb,hk⟩;have n0_:=Aside0.mk (Kd.R_mono (Kd.R_keep (IsS171.apart (show IsS171 w0 _ g s0_0 t189 t190 from by repeat (first|(with_reducible first|exact HI0.out|apply IsS171.alloc|apply IsS171.drewN|apply IsS171.set_1|apply IsS171.set_2|refine IsS171.far ?_ HN0_go17.out _|refine IsS171.far ?_ NB0_178.out _|refine IsS171.far ?_ NB0_184.out _)|exact HI0.out)) (by (with_reducible repeat (first|apply Kd.R_alloc|apply Kd.R_drewN));exact HQ84.out) (by decide)) hk (fun _ h=>h.2)) (fun _ h=>h.1));have n1_:=Aside0.mk (KeepBut.blk hk (g':=gb178) (o:=.cells #[.int .i64 0,.int .i64 0,.slice none 0 0] 27 (0,0)) (by (with_reducible repeat first|refine blk_drewN ?_ _|refine blk_alloc ?_ _);refine blk_far ?_ (by have h_:=Kd.R_ne HO_185002.out BK178.out (by decide);intro e_;exact h_ (by rw [e_];rfl)) _;(with_reducible repeat first|refine blk_drewN ?_ _|refine blk_alloc ?_ _);exact BK178.out) NB178_0.out (by simp));have n2_:=Aside0.mk (KeepBut.blk hk (g':=gb184) (o:=.cells #[.int .i64 t179,.int .i64 t180,.slice (some ⟨go17,0,none⟩) x185002_1.length co81] 27 (0,0)) (by (with_reducible repeat first|refine blk_drewN ?_ _|refine blk_alloc ?_ _);refine blk_far ?_ (by have h_:=Kd.R_ne HO_185002.out BK184.out (by decide);intro e_;exact h_ (by rw [e_];rfl)) _;(with_reducible repeat first|refine blk_drewN ?_ _|refine blk_alloc ?_ _);exact BK184.out) NB184_0.out (by simp));have n3_:=Aside0.mk (KeepBut.trans (by repeat (first|(with_reducible first|exact HK.out|apply KeepBut.set_|apply keep_drewN|apply keep_alloc|refine keep_far ?_ GB17.out _|refine keep_far ?_ GW178.out _|refine keep_far ?_ GW184.out _)|exact HK.out)) hk (.inl rfl));have n4_:=Aside0.mk (hb);have n5_:=Aside0.mk (hi);clear HO_185002 BK178 BK184 HK HB HI0;have HO_185002:=n0_;have BK178:=n1_;have BK184:=n2_;have HK:=n3_;have HB:=n4_;have HI0:=n5_;clear n0_ n1_ n2_ n3_ n4_ n5_;(try clear hb);(try clear hb2);(try clear hk);(try clear hi)))
        go_roundg k1
        case measure=>have:=HK1.out;omega
        case rel=>exact ⟨(wrap64 (x9_1 + 1)),(t201),(t202),(y191),(.slice (some ⟨go17,0,none⟩) x185002_1.length co81),(by first|rfl|(simp;done)|(simp [*];done)),H',⟨by have:=HK1.out;omega⟩,⟨by (with_reducible repeat (first|apply Kd.R_alloc|apply Kd.R_drewN));exact HO_185002.out⟩,⟨by (with_reducible repeat first|refine blk_drewN ?_ _|refine blk_alloc ?_ _);exact BK178.out⟩,⟨by (with_reducible repeat first|refine blk_drewN ?_ _|refine blk_alloc ?_ _);exact BK184.out⟩,⟨by repeat (first|(with_reducible first|exact HI0.out|apply IsS171.alloc|apply IsS171.drewN|apply IsS171.set_1|apply IsS171.set_2|refine IsS171.far ?_ NB0_178.out _|refine IsS171.far ?_ NB0_184.out _)|exact HI0.out)⟩,⟨by repeat (first|(with_reducible first|exact HK.out|apply KeepBut.set_|apply keep_drewN|apply keep_alloc|refine keep_far ?_ GW178.out _|refine keep_far ?_ GW184.out _)|exact HK.out)⟩,⟨by repeat (first|(with_reducible first|exact HB.out|apply below_alloc|apply pw_below_drewN|apply below_drew1|refine below_set ?_ (IsS171.ge HI0.out)|refine below_set ?_ GE178.out|refine below_set ?_ GE184.out)|exact HB.out)⟩⟩
      ·rw [if_neg c63] at H
       have c63b0 : (t185 == 1) = false:=beq_eq_false_iff_ne.mpr c63
       have c63b1 : (t185 != 1) = true:=bne_iff_ne.mpr c63
       have H':=Aside0.mk H
       clear H
       have hnb86:=NB184_178.out
       have hnc86:=NB178_184.out
       have hnb87:=NB184_0.out
       have hnc87:=NB0_184.out
       have hcz88_0 : wr.cell? ⟨gb184,0,none⟩ = some (.int .i64 t179):=(blk_cell BK184.out 0).trans rfl
       have hcz88_1 : wr.cell? ⟨gb184,1,none⟩ = some (.int .i64 t180):=(blk_cell BK184.out 1).trans rfl
       have hcz88_2 : wr.cell? ⟨gb184,2,none⟩ = some (u185002):=(blk_cell BK184.out 2).trans rfl
       have hfz88_0:=blk_frozen BK184.out 0
       have hfz88_1:=blk_frozen BK184.out 1
       have hfz88_2:=blk_frozen BK184.out 2
       obtain ⟨Ao89,co89,eo89⟩:=Kd.R_slice HO_185002.out
       subst eo89
       try go_wp2
       have n0_:=Aside0.mk (Kd.R_drew HO_185002.out)
       have n1_:=Aside0.mk (blk_drew BK178.out)
       have n2_:=Aside0.mk (blk_drew BK184.out)
       have n3_:=Aside0.mk (IsS171.drew HI0.out)
       have n4_:=Aside0.mk (keep_drew HK.out)
       have n5_:=Aside0.mk (below_drew1 HB.out)
       clear HO_185002 BK178 BK184 HI0 HK HB
       have HO_185002:=n0_
       have BK178:=n1_
       have BK184:=n2_
       have HI0:=n3_
       have HK:=n4_
       have HB:=n5_
       clear n0_ n1_ n2_ n3_ n4_ n5_
       refine start_ (n:=7) (S:=fun w'=>w'.cell? ⟨gb184,0,none⟩ = some (.int .i64 t179) ∧ w'.cell? ⟨gb184,1,none⟩ = some (.int .i64 t180) ∧ w'.cell? ⟨gb184,2,none⟩ = some (.slice Ao89 x185002_1.length co89)) (ds:=[6]) #[false,false,false,false,false,false,false] (by kernel_rfl) rfl rfl ⟨(blk_cell BK184.out 0).trans rfl,(blk_cell BK184.out 1).trans rfl,(blk_cell BK184.out 2).trans rfl⟩ (fun hHeld=>?_)
       generalize wr.drew = w90 at HO_185002 BK178 BK184 HI0 HK HB hHeld ⊢
       refine pure_ (i:=0) (N:=some 24) (v:=?_) (a':=?_) #[true,false,false,false,false,false,false] rfl rfl (by kernel_rfl) (fun _ _ _ h=>h) (Or.inl ⟨by rfl,?_⟩) ?_ ?_
       rotate_left
       ·intro w'
        go_simp
        with_reducible rfl
       rotate_left
       ·simp only [Act.put,List.setIfInBounds_toArray,List.set_cons_zero,List.set_cons_succ,i64_w,i32_w]
        rfl
       refine pure_ (i:=2) (N:=some 26) (v:=?_) (a':=?_) #[true,false,true,false,false,false,false] rfl rfl (by kernel_rfl) (fun _ _ _ h=>h) (Or.inl ⟨by rfl,?_⟩) ?_ ?_
       rotate_left
       ·intro w'
        go_simp
        with_reducible rfl
       rotate_left
       ·simp only [Act.put,List.setIfInBounds_toArray,List.set_cons_zero,List.set_cons_succ,i64_w,i32_w]
        rfl
       refine pure_ (i:=3) (N:=some 27) (v:=?_) (a':=?_) #[true,false,true,true,false,false,false] rfl rfl (by kernel_rfl) (fun _ _ _ h=>h) (Or.inl ⟨by rfl,?_⟩) ?_ ?_
       rotate_left
       ·intro w'
        go_simp
        with_reducible rfl
       rotate_left
       ·simp only [Act.put,List.setIfInBounds_toArray,List.set_cons_zero,List.set_cons_succ,i64_w,i32_w]
        rfl
       refine take_ (i:=1) (N:=some 25) (v:=?_) (a':=?_) #[true,true,true,true,false,false,false] rfl rfl (by kernel_rfl) (fun _ _ _ h=>h) (Or.inl ⟨by rfl,?_⟩) hHeld ?_ ?_
       rotate_left
       ·rintro w' ⟨s0,s1,s2⟩
        go_simp
        with_reducible rfl
       rotate_left
       ·simp only [Act.put,List.setIfInBounds_toArray,List.set_cons_zero,List.set_cons_succ,i64_w,i32_w]
        rfl
       refine one_ (i:=4) (N:=some 28) #[true,true,true,true,true,false,false] rfl rfl (by kernel_rfl) (by decide) (fun K hK=>?_)
       refine goes_ Try.func75 (by kernel_rfl) rfl #[.pointer (some ⟨g,0,none⟩),.int .i64 256] (by rfl) rfl rfl (by (try simp only [List.map_toArray,List.map_cons,List.map_nil]);first|done|rfl) ?_
       with_reducible refine (spec_l01Src_n.calls g s0_0 x1001_1 x1002_1 256 t188 t189 t190 w0 _ ?side1 ?side2 A15.out).mono ?_
       (case side1=>repeat (first|(with_reducible first|exact HI0.out|apply IsS171.alloc|apply IsS171.drewN|apply IsS171.set_1|apply IsS171.set_2|refine IsS171.far ?_ NB0_178.out _|refine IsS171.far ?_ NB0_184.out _)|exact HI0.out))
       (case side2=>repeat (first|(with_reducible first|exact HB.out|apply below_alloc|apply pw_below_drewN|apply below_drew1|refine below_set ?_ (IsS171.ge HI0.out)|refine below_set ?_ GE178.out|refine below_set ?_ GE184.out)|exact HB.out))
       rintro e w91 ⟨rfl,hi,hb,hk⟩
       refine ⟨_,rfl,?_⟩
       have n0_:=Aside0.mk (Kd.R_mono (Kd.R_keep (IsS171.apart (show IsS171 w0 _ g s0_0 x1001_1 x1002_1 from by repeat (first|(with_reducible first|exact HI0.out|apply IsS171.alloc|apply IsS171.drewN|apply IsS171.set_1|apply IsS171.set_2|refine IsS171.far ?_ NB0_178.out _|refine IsS171.far ?_ NB0_184.out _)|exact HI0.out)) (by (with_reducible repeat (first|apply Kd.R_alloc|apply Kd.R_drewN));exact HO_185002.out) (by decide)) hk (fun _ h=>h.2)) (fun _ h=>h.1))
       have n1_:=Aside0.mk (KeepBut.blk hk (g':=gb178) (o:=.cells #[.int .i64 0,.int .i64 0,.slice none 0 0] 27 (0,0)) (by (with_reducible repeat first|refine blk_drewN ?_ _|refine blk_alloc ?_ _);exact BK178.out) NB178_0.out (by simp))
       have n2_:=Aside0.mk (KeepBut.blk hk (g':=gb184) (o:=.cells #[.int .i64 t179,.int .i64 t180,.slice Ao89 x185002_1.length co89] 27 (0,0)) (by (with_reducible repeat first|refine blk_drewN ?_ _|refine blk_alloc ?_ _);exact BK184.out) NB184_0.out (by simp))
       have n3_:=Aside0.mk (KeepBut.trans (by repeat (first|(with_reducible first|exact HK.out|apply KeepBut.set_|apply keep_drewN|apply keep_alloc|refine keep_far ?_ GW178.out _|refine keep_far ?_ GW184.out _)|exact HK.out)) hk (.inl rfl))
       have n4_:=Aside0.mk (hb)
       have n5_:=Aside0.mk (hi)
       clear HO_185002 BK178 BK184 HK HB HI0
       have HO_185002:=n0_
       have BK178:=n1_
       have BK184:=n2_
       have HK:=n3_
       have HB:=n4_
       have HI0:=n5_
       clear n0_ n1_ n2_ n3_ n4_ n5_
       (try clear hb);(try clear hb2);(try clear hk);(try clear hi)
       have p17 : 0 ≤ (x9_1 : Int):=of_decide_eq_true (by first|(with_reducible assumption)|assumption)
       have q17 : (x9_1 : Int) < ((x185002_1.length : Int) : Int):=of_decide_eq_true (by first|(with_reducible assumption)|assumption)
       obtain ⟨go17,co17,eo17,gb17,gl17,cl17,HG17⟩:=Kd.R_form HO_185002.out (by omega)
       (first|cases eo17|(injection eo17 with ea_ en_ ec_;(first|subst ea_|(injection ea_ with ea_;subst ea_));subst ec_;clear en_))
       have GB17:=Aside0.mk gb17
       have GG17:=Aside0.mk HG17
       clear gb17 gl17 HG17
       obtain ⟨hx17_0,hf17_0⟩:=Kd.R_celln 0 HO_185002.out (x9_1 : Int) p17 q17
       replace p17:=eq_true p17
       replace q17:=eq_true q17
       have HN0_go17:=Aside0.mk (show g ≠ go17 from by have h_:=IsS171.own_ne HI0.out HO_185002.out (by decide);intro e_;exact h_ (by rw [e_];rfl))
       have HP92:=Kd.R_putn HO_185002.out (x9_1 : Int) t188
       rw [← Ny191.out] at HP92
       have HQ92:=Aside0.mk HP92
       clear HP92
       refine hK.out _ _ ⟨(blk_cell BK184.out 0).trans rfl,(blk_cell BK184.out 1).trans rfl,(blk_cell BK184.out 2).trans rfl⟩ (fun hHeld=>?_)
       clear hK K
       refine norm_ (a':=?_) ?_ ?_
       rotate_left
       ·show Act.put _ (some 28) _ = _
        simp only [Act.put,List.setIfInBounds_toArray,List.set_cons_zero,List.set_cons_succ,i64_w,i32_w]
        rfl
       refine pure_ (i:=5) (N:=some 29) (v:=?_) (a':=?_) #[true,true,true,true,true,true,false] rfl rfl (by kernel_rfl) (fun _ _ _ h=>h) (Or.inl ⟨by rfl,?_⟩) ?_ ?_
       rotate_left
       ·intro w'
        go_simp
        with_reducible rfl
       rotate_left
       ·simp only [Act.put,List.setIfInBounds_toArray,List.set_cons_zero,List.set_cons_succ,i64_w,i32_w]
        rfl
       refine last_ (i:=6) (N:=none) #[true,true,true,true,true,true,true] rfl rfl (by kernel_rfl) (by decide) (fun K hK=>?_)
       refine skip_ (w1:=?_) (by rfl) rfl ?_ ?_
       rotate_left
       ·go_simp
        rfl
       refine hK.out _ _ ?_
       clear hK K
       refine done_ (by kernel_rfl) ?_
       try go_wp2
       go_roundg k1
       case measure=>have:=HK1.out;omega
       case rel=>exact ⟨(wrap64 (x9_1 + 1)),(t189),(t190),(y191),(.slice (some ⟨go17,0,none⟩) x185002_1.length co89),(by first|rfl|(simp;done)|(simp [*];done)),H',⟨by have:=HK1.out;omega⟩,⟨by (with_reducible repeat (first|apply Kd.R_alloc|apply Kd.R_drewN));exact HQ92.out⟩,⟨by (with_reducible repeat first|refine blk_drewN ?_ _|refine blk_alloc ?_ _);refine blk_far ?_ (by have h_:=Kd.R_ne HO_185002.out BK178.out (by decide);intro e_;exact h_ (by rw [e_];rfl)) _;(with_reducible repeat first|refine blk_drewN ?_ _|refine blk_alloc ?_ _);exact BK178.out⟩,⟨by (with_reducible repeat first|refine blk_drewN ?_ _|refine blk_alloc ?_ _);refine blk_far ?_ (by have h_:=Kd.R_ne HO_185002.out BK184.out (by decide);intro e_;exact h_ (by rw [e_];rfl)) _;(with_reducible repeat first|refine blk_drewN ?_ _|refine blk_alloc ?_ _);exact BK184.out⟩,⟨by repeat (first|(with_reducible first|exact HI0.out|apply IsS171.alloc|apply IsS171.drewN|apply IsS171.set_1|apply IsS171.set_2|refine IsS171.far ?_ HN0_go17.out _|refine IsS171.far ?_ NB0_178.out _|refine IsS171.far ?_ NB0_184.out _)|exact HI0.out)⟩,⟨by repeat (first|(with_reducible first|exact HK.out|apply KeepBut.set_|apply keep_drewN|apply keep_alloc|refine keep_far ?_ GB17.out _|refine keep_far ?_ GW178.out _|refine keep_far ?_ GW184.out _)|exact HK.out)⟩,⟨by repeat (first|(with_reducible first|exact HB.out|apply below_alloc|apply pw_below_drewN|apply below_drew1|refine below_set ?_ (Nat.le_trans HL.out GB17.out)|refine below_set ?_ (IsS171.ge HI0.out)|refine below_set ?_ GE178.out|refine below_set ?_ GE184.out)|exact HB.out)⟩⟩
    ·rw [if_neg c16] at H
     exact absurd H (by simp)
   ·rw [if_neg c14] at H
    have c14b0 : decide (x9_1 < (x185002_1.length : Int)) = false:=decide_eq_false c14
    clear c14
    have HC93:=Aside0.mk H
    clear H
    have hnb94:=NB184_178.out
    have hnc94:=NB178_184.out
    have hnb95:=NB184_0.out
    have hnc95:=NB0_184.out
    have hcz96_0 : wr.cell? ⟨gb184,0,none⟩ = some (.int .i64 t179):=(blk_cell BK184.out 0).trans rfl
    have hcz96_1 : wr.cell? ⟨gb184,1,none⟩ = some (.int .i64 t180):=(blk_cell BK184.out 1).trans rfl
    have hcz96_2 : wr.cell? ⟨gb184,2,none⟩ = some (u185002):=(blk_cell BK184.out 2).trans rfl
    have hfz96_0:=blk_frozen BK184.out 0
    have hfz96_1:=blk_frozen BK184.out 1
    have hfz96_2:=blk_frozen BK184.out 2
    obtain ⟨Ao97,co97,eo97⟩:=Kd.R_slice HO_185002.out
    subst eo97
    go_upto_region 11 with (fail)
    go_cut [53] (fun v53 wc=>∃ (kq : Nat) (x53_92 : Bool),v53 = .bool x53_92 ∧ Aside0 (spec_l01Src_matrix.j1 kq a1 a2 x53_92 s0_0 x1001_1 x1002_1 t179 t180 x185002_1 = some (r1,r2,r3,r4,r5)) ∧ Aside0 (kq ≤ k1) ∧ Aside0 (Kd.R (Kd.int .i64) 2 wc w.heap.size (fun _=>True) (.slice Ao97 x185002_1.length co97) x185002_1) ∧ Aside0 (wc.heap[gb178]? = some (.cells #[.int .i64 0,.int .i64 0,(.slice none 0 0)] 27 (0,0))) ∧ Aside0 (wc.heap[gb184]? = some (.cells #[.int .i64 t179,.int .i64 t180,(.slice Ao97 x185002_1.length co97)] 27 (0,0))) ∧ Aside0 (IsS171 w0 wc g s0_0 x1001_1 x1002_1) ∧ Aside0 (KeepBut w wc g none) ∧ Aside0 (Below w0.heap.size w0 wc))
    case first=>
     have H:=HC93.out
     clear HC93
     by_cases c98 : t185 = 2
     ·rw [if_pos c98] at H
      have c98b0 : (t185 == 2) = true:=beq_iff_eq.mpr c98
      have c98b1 : (t185 != 2) = false:=bne_eq_false_iff_eq.mpr c98
      clear c98
      (first|rw [c98b0]|(simp only [i64_w,i32_w];rw [c98b0])|skip)
      have H':=Aside0.mk H
      clear H
      go_wp2
      go_meet
      case rel=>exact ⟨_,(decide (a1 > 1)),(by first|rfl|(simp;done)|(simp [*];done)),H',⟨by have:=HK1.out;first|omega|exact Nat.le_refl _⟩,⟨by (with_reducible repeat (first|apply Kd.R_alloc|apply Kd.R_drewN));exact HO_185002.out⟩,⟨by (with_reducible repeat first|refine blk_drewN ?_ _|refine blk_alloc ?_ _);exact BK178.out⟩,⟨by (with_reducible repeat first|refine blk_drewN ?_ _|refine blk_alloc ?_ _);exact BK184.out⟩,⟨by repeat (first|(with_reducible first|exact HI0.out|apply IsS171.alloc|apply IsS171.drewN|apply IsS171.set_1|apply IsS171.set_2|refine IsS171.far ?_ NB0_178.out _|refine IsS171.far ?_ NB0_184.out _)|exact HI0.out)⟩,⟨by repeat (first|(with_reducible first|exact HK.out|apply KeepBut.set_|apply keep_drewN|apply keep_alloc|refine keep_far ?_ GW178.out _|refine keep_far ?_ GW184.out _)|exact HK.out)⟩,⟨by repeat (first|(with_reducible first|exact HB.out|apply below_alloc|apply pw_below_drewN|apply below_drew1|refine below_set ?_ (IsS171.ge HI0.out)|refine below_set ?_ GE178.out|refine below_set ?_ GE184.out)|exact HB.out)⟩⟩
     ·rw [if_neg c98] at H
      have c98b0 : (t185 == 2) = false:=beq_eq_false_iff_ne.mpr c98
      have c98b1 : (t185 != 2) = true:=bne_iff_ne.mpr c98
      (first|rw [c98b0]|(simp only [i64_w,i32_w];rw [c98b0])|skip)
      have H':=Aside0.mk H
      clear H
      go_wp2
      go_meet
      case rel=>exact ⟨_,(false),(by first|rfl|(simp;done)|(simp [*];done)),H',⟨by have:=HK1.out;first|omega|exact Nat.le_refl _⟩,⟨by (with_reducible repeat (first|apply Kd.R_alloc|apply Kd.R_drewN));exact HO_185002.out⟩,⟨by (with_reducible repeat first|refine blk_drewN ?_ _|refine blk_alloc ?_ _);exact BK178.out⟩,⟨by (with_reducible repeat first|refine blk_drewN ?_ _|refine blk_alloc ?_ _);exact BK184.out⟩,⟨by repeat (first|(with_reducible first|exact HI0.out|apply IsS171.alloc|apply IsS171.drewN|apply IsS171.set_1|apply IsS171.set_2|refine IsS171.far ?_ NB0_178.out _|refine IsS171.far ?_ NB0_184.out _)|exact HI0.out)⟩,⟨by repeat (first|(with_reducible first|exact HK.out|apply KeepBut.set_|apply keep_drewN|apply keep_alloc|refine keep_far ?_ GW178.out _|refine keep_far ?_ GW184.out _)|exact HK.out)⟩,⟨by repeat (first|(with_reducible first|exact HB.out|apply below_alloc|apply pw_below_drewN|apply below_drew1|refine below_set ?_ (IsS171.ge HI0.out)|refine below_set ?_ GE178.out|refine below_set ?_ GE184.out)|exact HB.out)⟩⟩
    case rest=>
     clear HC93
     (try clear c1);(try clear p1);(try clear q1);(try clear hx1);(try clear p2);(try clear q2);(try clear hx2);(try clear c6);(try clear p6);(try clear q6);(try clear hx6);(try clear hf6);(try clear c7);(try clear c8);(try clear c9);(try clear c14);(try clear c14b0);(try clear c16);(try clear p17);(try clear q17);(try clear hx17);(try clear hf17);(try clear c18);(try clear c18b0);(try clear c18b1);(try clear p20);(try clear q20);(try clear hx20);(try clear hf20);(try clear c63);(try clear c63b0);(try clear c63b1);(try clear p64);(try clear c65);(try clear p66);(try clear q66);(try clear hx66);(try clear hf66);(try clear c67);(try clear c68);(try clear c75);(try clear c78);(try clear c79);(try clear c86);(try clear c87);(try clear c94);(try clear c95);(try clear c98);(try clear c98b0);(try clear c98b1);(try clear hcz69_0);(try clear hcz69_1);(try clear hcz69_2);(try clear hcz75_0);(try clear hcz75_1);(try clear hcz75_2);(try clear hcz80_0);(try clear hcz80_1);(try clear hcz80_2);(try clear hcz88_0);(try clear hcz88_1);(try clear hcz88_2);(try clear hcz96_0);(try clear hcz96_1);(try clear hcz96_2);(try clear hfz69_0);(try clear hfz69_1);(try clear hfz69_2);(try clear hfz75_0);(try clear hfz75_1);(try clear hfz75_2);(try clear hfz80_0);(try clear hfz80_1);(try clear hfz80_2);(try clear hfz88_0);(try clear hfz88_1);(try clear hfz88_2);(try clear hfz96_0);(try clear hfz96_1);(try clear hfz96_2);(try clear hx17_0);(try clear hx20_0);(try clear hx66_0);(try clear p17);(try clear p20);(try clear p66);(try clear q17);(try clear q20);(try clear q66)
     obtain ⟨kq,x53_92,rfl,HA,HJ92,HO_185002,BK178,BK184,HI0,HK,HB⟩:=hcut
     cases kq with
     | zero=>exact absurd HA.out (by simp [spec_l01Src_matrix.j1])
     | succ kj92=>
      have H:=HA.out
      clear HA
      simp only [spec_l01Src_matrix.j1] at H
      by_cases c99 : x53_92 = true
      ·subst c99
       have H1 : ((spec_l01Src_n.f s0_0 x1001_1 x1002_1 256).bind fun bt204=>(spec_l01Src_matrix.l1 kj92 a1 a2 bt204.1 0 s0_0 bt204.2.1 bt204.2.2 t179 t180 x185002_1)) = some (r1,r2,r3,r4,r5):=by rw [if_pos rfl] at H;exact H
       clear H
       have H:=H1
       clear H1
       replace H:=Option.bind_eq_some_iff.mp H
       obtain ⟨⟨t204,t205,t206⟩,A1000,H⟩:=H
       replace H : (spec_l01Src_matrix.l1 kj92 a1 a2 t204 0 s0_0 t205 t206 t179 t180 x185002_1) = some (r1,r2,r3,r4,r5):=H
       have A100:=Aside0.mk A1000
       clear A1000
       have H':=Aside0.mk H
       clear H
       go_wp2_with (first|((with_reducible refine gate_callee (f:=75) rfl ?_);refine goesL_ (some 55) rfl rfl Try.func75 (by kernel_rfl) rfl #[.pointer (some ⟨g,0,none⟩),.int .i64 256] rfl (by (try simp only [List.map_toArray,List.map_cons,List.map_nil]);first|done|rfl) ?_;(with_reducible refine (spec_l01Src_n.calls g s0_0 x1001_1 x1002_1 256 t204 t205 t206 w0 _ ?side1 ?side2 A100.out).mono ?_);(case side1=>repeat (first|(with_reducible first|exact HI0.out|apply IsS171.alloc|apply IsS171.drewN|apply IsS171.set_1|apply IsS171.set_2|refine IsS171.far ?_ NB0_178.out _|refine IsS171.far ?_ NB0_184.out _)|exact HI0.out));(case side2=>repeat (first|(with_reducible first|exact HB.out|apply below_alloc|apply pw_below_drewN|apply below_drew1|refine below_set ?_ (IsS171.ge HI0.out)|refine below_set ?_ GE178.out|refine below_set ?_ GE184.out)|exact HB.out));rintro e w101 ⟨rfl,hi,hb,hk⟩;refine ⟨_,rfl,?_⟩;have n0_:=Aside0.mk (Kd.R_mono (Kd.R_keep (IsS171.apart (show IsS171 w0 _ g s0_0 x1001_1 x1002_1 from by repeat (first|(with_reducible first|exact HI0.out|apply IsS171.alloc|apply IsS171.drewN|apply IsS171.set_1|apply IsS171.set_2|refine IsS171.far ?_ NB0_178.out _|refine IsS171.far ?_ NB0_184.out _)|exact HI0.out)) (by (with_reducible repeat (first|apply Kd.R_alloc|apply Kd.R_drewN));exact HO_185002.out) (by decide)) hk (fun _ h=>h.2)) (fun _ h=>h.1));have n1_:=Aside0.mk (KeepBut.blk hk (g':=gb178) (o:=.cells #[.int .i64 0,.int .i64 0,.slice none 0 0] 27 (0,0)) (by (with_reducible repeat first|refine blk_drewN ?_ _|refine blk_alloc ?_ _);exact BK178.out) NB178_0.out (by simp));have n2_:=Aside0.mk (KeepBut.blk hk (g':=gb184) (o:=.cells #[.int .i64 t179,.int .i64 t180,.slice Ao97 x185002_1.length co97] 27 (0,0)) (by (with_reducible repeat first|refine blk_drewN ?_ _|refine blk_alloc ?_ _);exact BK184.out) NB184_0.out (by simp));have n3_:=Aside0.mk (KeepBut.trans (by repeat (first|(with_reducible first|exact HK.out|apply KeepBut.set_|apply keep_drewN|apply keep_alloc|refine keep_far ?_ GW178.out _|refine keep_far ?_ GW184.out _)|exact HK.out)) hk (.inl rfl));have n4_:=Aside0.mk (hb);have n5_:=Aside0.mk (hi);clear HO_185002 BK178 BK184 HK HB HI0;have HO_185002:=n0_;have BK178:=n1_;have BK184:=n2_;have HK:=n3_;have HB:=n4_;have HI0:=n5_;clear n0_ n1_ n2_ n3_ n4_ n5_;(try clear hb);(try clear hb2);(try clear hk);(try clear hi)))
       go_loopg [11] kj92 (fun kq v11 w'=>∃ (x11_3 : Int) (x185002_3 : List Int) (u185002 : Value),v11 = .int .i64 x11_3 ∧ Aside0 (spec_l01Src_matrix.l1 kq a1 a2 t204 x11_3 s0_0 t205 t206 t179 t180 x185002_3 = some (r1,r2,r3,r4,r5)) ∧ Aside0 (kq ≤ kj92) ∧ Aside0 (Kd.R (Kd.int .i64) 2 w' w.heap.size (fun _=>True) u185002 x185002_3) ∧ Aside0 (w'.heap[gb178]? = some (.cells #[.int .i64 0,.int .i64 0,(.slice none 0 0)] 27 (0,0))) ∧ Aside0 (w'.heap[gb184]? = some (.cells #[.int .i64 t179,.int .i64 t180,u185002] 27 (0,0))) ∧ Aside0 (IsS171 w0 w' g s0_0 t205 t206) ∧ Aside0 (KeepBut w w' g none) ∧ Aside0 (Below w0.heap.size w0 w'))
       case atStart=>exact ⟨(0),(x185002_1),(.slice Ao97 x185002_1.length co97),(by first|rfl|(simp;done)|(simp [*];done)),H',⟨Nat.le_refl _⟩,⟨by (with_reducible repeat (first|apply Kd.R_alloc|apply Kd.R_drewN));exact HO_185002.out⟩,⟨by (with_reducible repeat first|refine blk_drewN ?_ _|refine blk_alloc ?_ _);exact BK178.out⟩,⟨by (with_reducible repeat first|refine blk_drewN ?_ _|refine blk_alloc ?_ _);exact BK184.out⟩,⟨by repeat (first|(with_reducible first|exact HI0.out|apply IsS171.alloc|apply IsS171.drewN|apply IsS171.set_1|apply IsS171.set_2|refine IsS171.far ?_ NB0_178.out _|refine IsS171.far ?_ NB0_184.out _)|exact HI0.out)⟩,⟨by repeat (first|(with_reducible first|exact HK.out|apply KeepBut.set_|apply keep_drewN|apply keep_alloc|refine keep_far ?_ GW178.out _|refine keep_far ?_ GW184.out _)|exact HK.out)⟩,⟨by repeat (first|(with_reducible first|exact HB.out|apply below_alloc|apply pw_below_drewN|apply below_drew1|refine below_set ?_ (IsS171.ge HI0.out)|refine below_set ?_ GE178.out|refine below_set ?_ GE184.out)|exact HB.out)⟩⟩
       case round=>
        clear H'
        (try clear c1);(try clear p1);(try clear q1);(try clear hx1);(try clear p2);(try clear q2);(try clear hx2);(try clear c6);(try clear p6);(try clear q6);(try clear hx6);(try clear hf6);(try clear c7);(try clear c8);(try clear c9);(try clear c14);(try clear c14b0);(try clear c16);(try clear p17);(try clear q17);(try clear hx17);(try clear hf17);(try clear c18);(try clear c18b0);(try clear c18b1);(try clear p20);(try clear q20);(try clear hx20);(try clear hf20);(try clear c63);(try clear c63b0);(try clear c63b1);(try clear p64);(try clear c65);(try clear p66);(try clear q66);(try clear hx66);(try clear hf66);(try clear c67);(try clear c68);(try clear c75);(try clear c78);(try clear c79);(try clear c86);(try clear c87);(try clear c94);(try clear c95);(try clear c98);(try clear c98b0);(try clear c98b1);(try clear c99);(try clear hcz69_0);(try clear hcz69_1);(try clear hcz69_2);(try clear hcz75_0);(try clear hcz75_1);(try clear hcz75_2);(try clear hcz80_0);(try clear hcz80_1);(try clear hcz80_2);(try clear hcz88_0);(try clear hcz88_1);(try clear hcz88_2);(try clear hcz96_0);(try clear hcz96_1);(try clear hcz96_2);(try clear hfz69_0);(try clear hfz69_1);(try clear hfz69_2);(try clear hfz75_0);(try clear hfz75_1);(try clear hfz75_2);(try clear hfz80_0);(try clear hfz80_1);(try clear hfz80_2);(try clear hfz88_0);(try clear hfz88_1);(try clear hfz88_2);(try clear hfz96_0);(try clear hfz96_1);(try clear hfz96_2);(try clear hx17_0);(try clear hx20_0);(try clear hx66_0);(try clear p1);(try clear p17);(try clear p2);(try clear p20);(try clear p6);(try clear p64);(try clear p66);(try clear q1);(try clear q17);(try clear q2);(try clear q20);(try clear q6);(try clear q66)
        obtain ⟨x11_3,x185002_3,u185002,rfl,HA,HK3,HO_185002,BK178,BK184,HI0,HK,HB⟩:=hrel
        cases gk with
        | zero=>exact absurd HA.out (by simp [spec_l01Src_matrix.l1])
        | succ k3=>
         have H:=HA.out
         clear HA
         simp only [spec_l01Src_matrix.l1] at H
         by_cases c102 : x11_3 < a2
         ·rw [if_pos c102] at H
          have c102b0 : decide (x11_3 < a2) = true:=decide_eq_true c102
          clear c102
          by_cases c103 : 0 ≤ x11_3
          ·rw [if_pos c103] at H
           have c103b0 : decide (0 ≤ x11_3) = true:=decide_eq_true c103
           clear c103
           by_cases c104 : x11_3 < (x185002_3.length : Int)
           ·rw [if_pos c104] at H
            have c104b0 : decide (x11_3 < (x185002_3.length : Int)) = true:=decide_eq_true c104
            clear c104
            replace H:=Option.bind_eq_some_iff.mp H
            obtain ⟨t208,A1050,H⟩:=H
            replace H : (if 0 ≤ (wrap64 ((wrap64 ((wrap64 (a1 - 1)) * a2)) + x11_3)) then (if (wrap64 ((wrap64 ((wrap64 (a1 - 1)) * a2)) + x11_3)) < (x185002_3.length : Int) then (spec_l01Src_matrix.l1 k3 a1 a2 t204 (wrap64 (x11_3 + 1)) s0_0 t205 t206 t179 t180 (x185002_3.set ((wrap64 ((wrap64 ((wrap64 (a1 - 1)) * a2)) + x11_3)) : Int).toNat t208)) else (none)) else (none)) = some (r1,r2,r3,r4,r5):=H
            have A105:=Aside0.mk A1050
            clear A1050
            obtain ⟨ji106,hji106⟩ : ∃ j_ : Int,(wrap64 ((wrap64 ((wrap64 (a1 - 1)) * a2)) + x11_3)) = j_:=⟨_,rfl⟩
            replace H : (if 0 ≤ (ji106) then (if (ji106) < (x185002_3.length : Int) then (spec_l01Src_matrix.l1 k3 a1 a2 t204 (wrap64 (x11_3 + 1)) s0_0 t205 t206 t179 t180 (x185002_3.set ((ji106) : Int).toNat t208)) else (none)) else (none)) = some (r1,r2,r3,r4,r5):=by first|(rw [hji106] at H;exact H)|(simp only [hji106] at H ⊢;exact H)
            (try rw [hji106] at A105)
            have hji106w : (IntKind.i64.wrap ((wrap64 ((wrap64 (a1 - 1)) * a2)) + x11_3)) = ji106:=(i64_w _).trans hji106
            by_cases c107 : 0 ≤ (ji106)
            ·rw [if_pos c107] at H
             have c107b0 : decide (0 ≤ (ji106)) = true:=decide_eq_true c107
             clear c107
             by_cases c108 : (ji106) < (x185002_3.length : Int)
             ·rw [if_pos c108] at H
              have c108b0 : decide ((ji106) < (x185002_3.length : Int)) = true:=decide_eq_true c108
              clear c108
              obtain ⟨y209,hy209⟩ : ∃ y_ : List Int,y_ = (x185002_3.set ((ji106) : Int).toNat t208):=⟨_,rfl⟩
              replace H : (spec_l01Src_matrix.l1 k3 a1 a2 t204 (wrap64 (x11_3 + 1)) s0_0 t205 t206 t179 t180 y209) = some (r1,r2,r3,r4,r5):=by first|(rw [hy209];with_reducible exact H)|(have H2_:=(Option.bind_some _ _).symm.trans H;rw [hy209];with_reducible exact H2_)|(have H2_:=(Option.bind_some _ _).symm.trans H;with_reducible exact H2_)|with_reducible exact H|(rw [hy209];exact H)|exact H
              have Ny209:=Aside0.mk hy209
              clear hy209
              have H':=Aside0.mk H
              clear H
              try go_wp2
              have n0_:=Aside0.mk (Kd.R_drew HO_185002.out)
              have n1_:=Aside0.mk (blk_drew BK178.out)
              have n2_:=Aside0.mk (blk_drew BK184.out)
              have n3_:=Aside0.mk (IsS171.drew HI0.out)
              have n4_:=Aside0.mk (keep_drew HK.out)
              have n5_:=Aside0.mk (below_drew1 HB.out)
              clear HO_185002 BK178 BK184 HI0 HK HB
              have HO_185002:=n0_
              have BK178:=n1_
              have BK184:=n2_
              have HI0:=n3_
              have HK:=n4_
              have HB:=n5_
              clear n0_ n1_ n2_ n3_ n4_ n5_
              obtain ⟨Ao111,co111,eo111⟩:=Kd.R_slice HO_185002.out
              (first|subst eo111|(injection eo111 with f1_ f2_ f3_;have f4_:=f1_.symm;have f5_:=f3_.symm;clear f1_ f2_ f3_;subst f4_;subst f5_))
              have p207 : 0 ≤ (x11_3 : Int):=of_decide_eq_true (by first|(with_reducible assumption)|assumption)
              have q207 : x11_3 < (x185002_3.length : Int):=of_decide_eq_true (by first|(with_reducible assumption)|assumption)
              obtain ⟨ad207,e207,hx207_0⟩:=Kd.at_int (Kd.R_reads' HO_185002.out).2.2 x11_3 p207 q207
              cases e207
              replace p207:=eq_true p207
              replace q207:=eq_true q207
              refine start_ (n:=17) (S:=fun w'=>w'.cell? ⟨gb184,0,none⟩ = some (.int .i64 t179) ∧ w'.cell? ⟨gb184,1,none⟩ = some (.int .i64 t180) ∧ w'.cell? ⟨gb184,2,none⟩ = some (.slice (some ad207) x185002_3.length co111) ∧ w'.cell? (ad207.add (x11_3).toNat) = some (.int .i64 (rd x185002_3 x11_3))) (ds:=[16]) #[false,false,false,false,false,false,false,false,false,false,false,false,false,false,false,false,false] (by kernel_rfl) rfl rfl ⟨(blk_cell BK184.out 0).trans rfl,(blk_cell BK184.out 1).trans rfl,(blk_cell BK184.out 2).trans rfl,hx207_0⟩ (fun hHeld=>?_);refine with_tabW spec_l01Src_matrix.tab16 spec_l01Src_matrix.bits16 (fun HT_ HW_=>?_)
              generalize wr.drew = w110 at HO_185002 BK178 BK184 HI0 HK HB hx207_0 hHeld ⊢
              refine pure_ (i:=0) (N:=some 61) (v:=?_) (a':=?_) #[true,false,false,false,false,false,false,false,false,false,false,false,false,false,false,false,false] rfl rfl (any_of HT_.out (by kernel_rfl)) (fun _ _ _ h=>h) (Or.inl ⟨by rfl,?_⟩) ?_ ?_
              rotate_left
              ·intro w'
               go_simp
               with_reducible rfl
              rotate_left
              ·simp only [Act.put,List.setIfInBounds_toArray,List.set_cons_zero,List.set_cons_succ,i64_w,i32_w]
               rfl
              refine pure_ (i:=2) (N:=some 63) (v:=?_) (a':=?_) #[true,false,true,false,false,false,false,false,false,false,false,false,false,false,false,false,false] rfl rfl (any_of HT_.out (by kernel_rfl)) (fun _ _ _ h=>h) (Or.inl ⟨by rfl,?_⟩) ?_ ?_
              rotate_left
              ·intro w'
               go_simp
               with_reducible rfl
              rotate_left
              ·simp only [Act.put,List.setIfInBounds_toArray,List.set_cons_zero,List.set_cons_succ,i64_w,i32_w]
               rfl
              refine pure_ (i:=3) (N:=some 64) (v:=?_) (a':=?_) #[true,false,true,true,false,false,false,false,false,false,false,false,false,false,false,false,false] rfl rfl (any_of HT_.out (by kernel_rfl)) (fun _ _ _ h=>h) (Or.inl ⟨by rfl,?_⟩) ?_ ?_
              rotate_left
              ·intro w'
               go_simp
               with_reducible rfl
              rotate_left
              ·simp only [Act.put,List.setIfInBounds_toArray,List.set_cons_zero,List.set_cons_succ,i64_w,i32_w]
               rfl
              refine pure_ (i:=4) (N:=some 65) (v:=?_) (a':=?_) #[true,false,true,true,true,false,false,false,false,false,false,false,false,false,false,false,false] rfl rfl (any_of HT_.out (by kernel_rfl)) (fun _ _ _ h=>h) (Or.inl ⟨by rfl,?_⟩) ?_ ?_
              rotate_left
              ·intro w'
               go_simp
               with_reducible rfl
              rotate_left
              ·simp only [Act.put,List.setIfInBounds_toArray,List.set_cons_zero,List.set_cons_succ,i64_w,i32_w]
               rfl
              refine pure_ (i:=5) (N:=some 66) (v:=?_) (a':=?_) #[true,false,true,true,true,true,false,false,false,false,false,false,false,false,false,false,false] rfl rfl (any_of HT_.out (by kernel_rfl)) (fun _ _ _ h=>h) (Or.inl ⟨by rfl,?_⟩) ?_ ?_
              rotate_left
              ·intro w'
               go_simp
               with_reducible rfl
              rotate_left
              ·simp only [Act.put,List.setIfInBounds_toArray,List.set_cons_zero,List.set_cons_succ,i64_w,i32_w]
               rfl
              refine pure_ (i:=6) (N:=some 67) (v:=?_) (a':=?_) #[true,false,true,true,true,true,true,false,false,false,false,false,false,false,false,false,false] rfl rfl (any_of HT_.out (by kernel_rfl)) (fun _ _ _ h=>h) (Or.inl ⟨by rfl,?_⟩) ?_ ?_
              rotate_left
              ·intro w'
               go_simp
               with_reducible rfl
              rotate_left
              ·simp only [Act.put,List.setIfInBounds_toArray,List.set_cons_zero,List.set_cons_succ,i64_w,i32_w]
               rfl
              refine pure_ (i:=7) (N:=some 68) (v:=?_) (a':=?_) #[true,false,true,true,true,true,true,true,false,false,false,false,false,false,false,false,false] rfl rfl (any_of HT_.out (by kernel_rfl)) (fun _ _ _ h=>h) (Or.inl ⟨by rfl,?_⟩) ?_ ?_
              rotate_left
              ·intro w'
               go_simp
               with_reducible rfl
              rotate_left
              ·simp only [Act.put,List.setIfInBounds_toArray,List.set_cons_zero,List.set_cons_succ,i64_w,i32_w]
               rfl
              refine pure_ (i:=8) (N:=some 69) (v:=?_) (a':=?_) #[true,false,true,true,true,true,true,true,true,false,false,false,false,false,false,false,false] rfl rfl (any_of HT_.out (by kernel_rfl)) (fun _ _ _ h=>h) (Or.inl ⟨by rfl,?_⟩) ?_ ?_
              rotate_left
              ·intro w'
               go_simp
               with_reducible rfl
              rotate_left
              ·simp only [Act.put,List.setIfInBounds_toArray,List.set_cons_zero,List.set_cons_succ,i64_w,i32_w]
               rfl
              refine pure_ (i:=9) (N:=some 70) (v:=?_) (a':=?_) #[true,false,true,true,true,true,true,true,true,true,false,false,false,false,false,false,false] rfl rfl (any_of HT_.out (by kernel_rfl)) (fun _ _ _ h=>h) (Or.inl ⟨by rfl,?_⟩) ?_ ?_
              rotate_left
              ·intro w'
               go_simp
               with_reducible rfl
              rotate_left
              ·simp only [Act.put,List.setIfInBounds_toArray,List.set_cons_zero,List.set_cons_succ,i64_w,i32_w]
               rfl
              refine pure_ (i:=11) (N:=some 72) (v:=?_) (a':=?_) #[true,false,true,true,true,true,true,true,true,true,false,true,false,false,false,false,false] rfl rfl (any_of HT_.out (by kernel_rfl)) (fun _ _ _ h=>h) (Or.inl ⟨by rfl,?_⟩) ?_ ?_
              rotate_left
              ·intro w'
               go_simp
               with_reducible rfl
              rotate_left
              ·simp only [Act.put,List.setIfInBounds_toArray,List.set_cons_zero,List.set_cons_succ,i64_w,i32_w]
               rfl
              refine take_ (i:=1) (N:=some 62) (v:=?_) (a':=?_) #[true,true,true,true,true,true,true,true,true,true,false,true,false,false,false,false,false] rfl rfl (take_ofW HT_.out HW_.out (by kernel_rfl)) (fun _ _ _ h=>h) (Or.inl ⟨by rfl,?_⟩) hHeld ?_ ?_
              rotate_left
              ·rintro w' ⟨s0,s1,s2,s3⟩
               go_simp
               with_reducible rfl
              rotate_left
              ·simp only [Act.put,List.setIfInBounds_toArray,List.set_cons_zero,List.set_cons_succ,i64_w,i32_w]
               rfl
              refine take_ (i:=10) (N:=some 71) (v:=?_) (a':=?_) #[true,true,true,true,true,true,true,true,true,true,true,true,false,false,false,false,false] rfl rfl (take_ofW HT_.out HW_.out (by kernel_rfl)) (fun _ _ _ h=>h) (Or.inl ⟨by rfl,?_⟩) hHeld ?_ ?_
              rotate_left
              ·rintro w' ⟨s0,s1,s2,s3⟩
               go_simp
               with_reducible rfl
              rotate_left
              ·simp only [Act.put,List.setIfInBounds_toArray,List.set_cons_zero,List.set_cons_succ,i64_w,i32_w]
               rfl
              refine pure_ (i:=12) (N:=some 73) (v:=?_) (a':=?_) #[true,true,true,true,true,true,true,true,true,true,true,true,true,false,false,false,false] rfl rfl (any_of HT_.out (by kernel_rfl)) (fun _ _ _ h=>h) (Or.inl ⟨by rfl,?_⟩) ?_ ?_
              rotate_left
              ·intro w'
               go_simp
               with_reducible rfl
              rotate_left
              ·simp only [Act.put,List.setIfInBounds_toArray,List.set_cons_zero,List.set_cons_succ,i64_w,i32_w]
               rfl
              refine take_ (i:=13) (N:=some 74) (v:=?_) (a':=?_) #[true,true,true,true,true,true,true,true,true,true,true,true,true,true,false,false,false] rfl rfl (take_ofW HT_.out HW_.out (by kernel_rfl)) (fun _ _ _ h=>h) (Or.inl ⟨by rfl,?_⟩) hHeld ?_ ?_
              rotate_left
              ·rintro w' ⟨s0,s1,s2,s3⟩
               go_simp
               with_reducible rfl
              rotate_left
              ·simp only [Act.put,List.setIfInBounds_toArray,List.set_cons_zero,List.set_cons_succ,i64_w,i32_w]
               rfl
              refine one_ (i:=14) (N:=some 75) #[true,true,true,true,true,true,true,true,true,true,true,true,true,true,true,false,false] rfl rfl (one_of HT_.out (by kernel_rfl)) (by decide) (fun K hK=>?_)
              refine goes_ Try.func124 (by kernel_rfl) rfl #[.int .i64 t204,.int .i64 (rd x185002_3 x11_3)] (by rfl) rfl rfl (by (try simp only [List.map_toArray,List.map_cons,List.map_nil]);first|done|rfl) ?_
              with_reducible refine (spec_Mul8.calls k3 t204 (rd x185002_3 x11_3) t208 _ A105.out).mono ?_
              rintro e w' ⟨rfl,⟨nd,rfl⟩⟩
              refine ⟨_,rfl,?_⟩
              have p109 : 0 ≤ ((ji106) : Int):=of_decide_eq_true (by first|(with_reducible assumption)|assumption)
              have q109 : ((ji106) : Int) < ((x185002_3.length : Int) : Int):=of_decide_eq_true (by first|(with_reducible assumption)|assumption)
              obtain ⟨go109,co109,eo109,gb109,gl109,cl109,HG109⟩:=Kd.R_form HO_185002.out (by omega)
              (first|cases eo109|(injection eo109 with ea_ en_ ec_;(first|subst ea_|(injection ea_ with ea_;subst ea_));subst ec_;clear en_))
              have GB109:=Aside0.mk gb109
              have GG109:=Aside0.mk HG109
              clear gb109 gl109 HG109
              (first|simp only [add_plain] at hx207_0|skip)
              obtain ⟨hx109_0,hf109_0⟩:=Kd.R_celln 0 HO_185002.out ((ji106) : Int) p109 q109
              replace p109:=eq_true p109
              replace q109:=eq_true q109
              have HN0_go109:=Aside0.mk (show g ≠ go109 from by have h_:=IsS171.own_ne HI0.out HO_185002.out (by decide);intro e_;exact h_ (by rw [e_];rfl))
              have HP112:=Kd.R_putn HO_185002.out ((ji106) : Int) t208
              rw [← Ny209.out] at HP112
              have HQ112:=Aside0.mk HP112
              clear HP112
              refine hK.out _ _ ⟨(blk_cell BK184.out 0).trans rfl,(blk_cell BK184.out 1).trans rfl,(blk_cell BK184.out 2).trans rfl,hHeld.2.2.2⟩ (fun hHeld=>?_)
              clear hK K
              refine norm_ (a':=?_) ?_ ?_
              rotate_left
              ·show Act.put _ (some 75) _ = _
               simp only [Act.put,List.setIfInBounds_toArray,List.set_cons_zero,List.set_cons_succ,i64_w,i32_w]
               rfl
              refine pure_ (i:=15) (N:=some 76) (v:=?_) (a':=?_) #[true,true,true,true,true,true,true,true,true,true,true,true,true,true,true,true,false] rfl rfl (any_of HT_.out (by kernel_rfl)) (fun _ _ _ h=>h) (Or.inl ⟨by rfl,?_⟩) ?_ ?_
              rotate_left
              ·intro w'
               go_simp
               with_reducible rfl
              rotate_left
              ·simp only [Act.put,List.setIfInBounds_toArray,List.set_cons_zero,List.set_cons_succ,i64_w,i32_w]
               rfl
              refine last_ (i:=16) (N:=none) #[true,true,true,true,true,true,true,true,true,true,true,true,true,true,true,true,true] rfl rfl (one_of HT_.out (by kernel_rfl)) (by decide) (fun K hK=>?_)
              refine skip_ (w1:=?_) (by rfl) rfl ?_ ?_
              rotate_left
              ·go_simp
               rfl
              refine hK.out _ _ ?_
              clear hK K
              refine done_ (done_of HT_.out (by kernel_rfl)) ?_
              try go_wp2
              go_roundg k3
              case measure=>have:=HK1.out;have:=HJ92.out;have:=HK3.out;omega
              case rel=>exact ⟨(wrap64 (x11_3 + 1)),(y209),(.slice (some ⟨go109,0,none⟩) x185002_3.length co111),(by first|rfl|(simp;done)|(simp [*];done)),H',⟨by have:=HK1.out;have:=HJ92.out;have:=HK3.out;omega⟩,⟨by (with_reducible repeat (first|apply Kd.R_alloc|apply Kd.R_drewN));exact HQ112.out⟩,⟨by (with_reducible repeat first|refine blk_drewN ?_ _|refine blk_alloc ?_ _);refine blk_far ?_ (by have h_:=Kd.R_ne HO_185002.out BK178.out (by decide);intro e_;exact h_ (by rw [e_];rfl)) _;(with_reducible repeat first|refine blk_drewN ?_ _|refine blk_alloc ?_ _);exact BK178.out⟩,⟨by (with_reducible repeat first|refine blk_drewN ?_ _|refine blk_alloc ?_ _);refine blk_far ?_ (by have h_:=Kd.R_ne HO_185002.out BK184.out (by decide);intro e_;exact h_ (by rw [e_];rfl)) _;(with_reducible repeat first|refine blk_drewN ?_ _|refine blk_alloc ?_ _);exact BK184.out⟩,⟨by repeat (first|(with_reducible first|exact HI0.out|apply IsS171.alloc|apply IsS171.drewN|apply IsS171.set_1|apply IsS171.set_2|refine IsS171.far ?_ HN0_go109.out _|refine IsS171.far ?_ NB0_178.out _|refine IsS171.far ?_ NB0_184.out _)|exact HI0.out)⟩,⟨by repeat (first|(with_reducible first|exact HK.out|apply KeepBut.set_|apply keep_drewN|apply keep_alloc|refine keep_far ?_ GB109.out _|refine keep_far ?_ GW178.out _|refine keep_far ?_ GW184.out _)|exact HK.out)⟩,⟨by repeat (first|(with_reducible first|exact HB.out|apply below_alloc|apply pw_below_drewN|apply below_drew1|refine below_set ?_ (Nat.le_trans HL.out GB109.out)|refine below_set ?_ (IsS171.ge HI0.out)|refine below_set ?_ GE178.out|refine below_set ?_ GE184.out)|exact HB.out)⟩⟩
             ·rw [if_neg c108] at H
              exact absurd H (by simp)
            ·rw [if_neg c107] at H
             exact absurd H (by simp)
           ·rw [if_neg c104] at H
            exact absurd H (by simp)
          ·rw [if_neg c103] at H
           exact absurd H (by simp)
         ·rw [if_neg c102] at H
          have c102b0 : decide (x11_3 < a2) = false:=decide_eq_false c102
          clear c102
          simp only [Option.some.injEq,Prod.mk.injEq] at H
          obtain ⟨rfl,rfl,rfl,rfl,rfl⟩:=H
          have hnb113:=NB184_178.out
          have hnc113:=NB178_184.out
          have hnb114:=NB184_0.out
          have hnc114:=NB0_184.out
          have hcz115_0 : wr.cell? ⟨gb184,0,none⟩ = some (.int .i64 t179):=(blk_cell BK184.out 0).trans rfl
          have hcz115_1 : wr.cell? ⟨gb184,1,none⟩ = some (.int .i64 t180):=(blk_cell BK184.out 1).trans rfl
          have hcz115_2 : wr.cell? ⟨gb184,2,none⟩ = some (u185002):=(blk_cell BK184.out 2).trans rfl
          have hfz115_0:=blk_frozen BK184.out 0
          have hfz115_1:=blk_frozen BK184.out 1
          have hfz115_2:=blk_frozen BK184.out 2
          have hnb116:=NB178_0.out
          have hnc116:=NB0_178.out
          have hcz117_0 : wr.cell? ⟨gb178,0,none⟩ = some (.int .i64 0):=(blk_cell BK178.out 0).trans rfl
          have hcz117_1 : wr.cell? ⟨gb178,1,none⟩ = some (.int .i64 0):=(blk_cell BK178.out 1).trans rfl
          have hcz117_2 : wr.cell? ⟨gb178,2,none⟩ = some (.slice none 0 0):=(blk_cell BK178.out 2).trans rfl
          have hfz117_0:=blk_frozen BK178.out 0
          have hfz117_1:=blk_frozen BK178.out 1
          have hfz117_2:=blk_frozen BK178.out 2
          obtain ⟨Ao118,co118,eo118⟩:=Kd.R_slice HO_185002.out
          subst eo118
          go_wp2
          refine bodyPost_ret (results_cell_row rfl _ _ gb178 27 #[.int .i64 t179,.int .i64 t180,.slice Ao118 x185002_3.length co118] (0,0) _ rfl (by (with_reducible repeat first|refine blk_drewN ?_ _|refine blk_alloc ?_ _);refine blk_put (cs:=#[.int .i64 t179,.int .i64 t180,.slice none 0 0]) ?_ 2 _ rfl;(with_reducible repeat first|refine blk_drewN ?_ _|refine blk_alloc ?_ _);refine blk_put (cs:=#[.int .i64 t179,.int .i64 0,.slice none 0 0]) ?_ 1 _ rfl;(with_reducible repeat first|refine blk_drewN ?_ _|refine blk_alloc ?_ _);refine blk_put (cs:=#[.int .i64 0,.int .i64 0,.slice none 0 0]) ?_ 0 _ rfl;(with_reducible repeat first|refine blk_drewN ?_ _|refine blk_alloc ?_ _);exact BK178.out) Try.underlying27 rfl (by kernel_rfl)) rfl ?_
          exact ⟨_,by first|rfl|(simp [errW_none,errW_some] <;> rfl)|(simp [*,errW_none,errW_some] <;> rfl),by (with_reducible repeat (first|apply Kd.R_alloc|apply Kd.R_drewN));exact Kd.R_mono (Kd.R_far (p:=⟨gb178,2,none⟩) (Kd.R_far (p:=⟨gb178,1,none⟩) (Kd.R_far (p:=⟨gb178,0,none⟩) (Kd.R_types HO_185002.out BK178.out (by decide)) (fun _ hk=>hk.2) (.int .i64 t179)) (fun _ hk=>hk.2) (.int .i64 t180)) (fun _ hk=>hk.2) (.slice Ao118 x185002_3.length co118)) (fun _ hk=>trivial),by repeat (first|(with_reducible first|exact HI0.out|apply IsS171.alloc|apply IsS171.drewN|apply IsS171.set_1|apply IsS171.set_2|refine IsS171.far ?_ NB0_178.out _|refine IsS171.far ?_ NB0_184.out _)|exact HI0.out),by repeat (first|(with_reducible first|exact HB.out|apply below_alloc|apply pw_below_drewN|apply below_drew1|refine below_set ?_ (IsS171.ge HI0.out)|refine below_set ?_ GE178.out|refine below_set ?_ GE184.out)|exact HB.out),by repeat (first|(with_reducible first|exact HK.out|apply KeepBut.set_|apply keep_drewN|apply keep_alloc|refine keep_far ?_ GW178.out _|refine keep_far ?_ GW184.out _)|exact HK.out)⟩
      ·replace c99:=Bool.eq_false_iff.mpr c99
       subst c99
       have H1 : (some (t179,t180,x185002_1,x1001_1,x1002_1)) = some (r1,r2,r3,r4,r5):=by rw [if_neg (show ¬ (false = true) by decide)] at H;exact H
       clear H
       have H:=H1
       clear H1
       simp only [Option.some.injEq,Prod.mk.injEq] at H
       obtain ⟨rfl,rfl,rfl,rfl,rfl⟩:=H
       have hnb119:=NB184_178.out
       have hnc119:=NB178_184.out
       have hnb120:=NB184_0.out
       have hnc120:=NB0_184.out
       have hcz121_0 : wc.cell? ⟨gb184,0,none⟩ = some (.int .i64 t179):=(blk_cell BK184.out 0).trans rfl
       have hcz121_1 : wc.cell? ⟨gb184,1,none⟩ = some (.int .i64 t180):=(blk_cell BK184.out 1).trans rfl
       have hcz121_2 : wc.cell? ⟨gb184,2,none⟩ = some (.slice Ao97 x185002_1.length co97):=(blk_cell BK184.out 2).trans rfl
       have hfz121_0:=blk_frozen BK184.out 0
       have hfz121_1:=blk_frozen BK184.out 1
       have hfz121_2:=blk_frozen BK184.out 2
       have hnb122:=NB178_0.out
       have hnc122:=NB0_178.out
       have hcz123_0 : wc.cell? ⟨gb178,0,none⟩ = some (.int .i64 0):=(blk_cell BK178.out 0).trans rfl
       have hcz123_1 : wc.cell? ⟨gb178,1,none⟩ = some (.int .i64 0):=(blk_cell BK178.out 1).trans rfl
       have hcz123_2 : wc.cell? ⟨gb178,2,none⟩ = some (.slice none 0 0):=(blk_cell BK178.out 2).trans rfl
       have hfz123_0:=blk_frozen BK178.out 0
       have hfz123_1:=blk_frozen BK178.out 1
       have hfz123_2:=blk_frozen BK178.out 2
       go_wp2
       refine bodyPost_ret (results_cell_row rfl _ _ gb178 27 #[.int .i64 t179,.int .i64 t180,.slice Ao97 x185002_1.length co97] (0,0) _ rfl (by (with_reducible repeat first|refine blk_drewN ?_ _|refine blk_alloc ?_ _);refine blk_put (cs:=#[.int .i64 t179,.int .i64 t180,.slice none 0 0]) ?_ 2 _ rfl;(with_reducible repeat first|refine blk_drewN ?_ _|refine blk_alloc ?_ _);refine blk_put (cs:=#[.int .i64 t179,.int .i64 0,.slice none 0 0]) ?_ 1 _ rfl;(with_reducible repeat first|refine blk_drewN ?_ _|refine blk_alloc ?_ _);refine blk_put (cs:=#[.int .i64 0,.int .i64 0,.slice none 0 0]) ?_ 0 _ rfl;(with_reducible repeat first|refine blk_drewN ?_ _|refine blk_alloc ?_ _);exact BK178.out) Try.underlying27 rfl (by kernel_rfl)) rfl ?_
       exact ⟨_,by first|rfl|(simp [errW_none,errW_some] <;> rfl)|(simp [*,errW_none,errW_some] <;> rfl),by (with_reducible repeat (first|apply Kd.R_alloc|apply Kd.R_drewN));exact Kd.R_mono (Kd.R_far (p:=⟨gb178,2,none⟩) (Kd.R_far (p:=⟨gb178,1,none⟩) (Kd.R_far (p:=⟨gb178,0,none⟩) (Kd.R_types HO_185002.out BK178.out (by decide)) (fun _ hk=>hk.2) (.int .i64 t179)) (fun _ hk=>hk.2) (.int .i64 t180)) (fun _ hk=>hk.2) (.slice Ao97 x185002_1.length co97)) (fun _ hk=>trivial),by repeat (first|(with_reducible first|exact HI0.out|apply IsS171.alloc|apply IsS171.drewN|apply IsS171.set_1|apply IsS171.set_2|refine IsS171.far ?_ NB0_178.out _|refine IsS171.far ?_ NB0_184.out _)|exact HI0.out),by repeat (first|(with_reducible first|exact HB.out|apply below_alloc|apply pw_below_drewN|apply below_drew1|refine below_set ?_ (IsS171.ge HI0.out)|refine below_set ?_ GE178.out|refine below_set ?_ GE184.out)|exact HB.out),by repeat (first|(with_reducible first|exact HK.out|apply KeepBut.set_|apply keep_drewN|apply keep_alloc|refine keep_far ?_ GW178.out _|refine keep_far ?_ GW184.out _)|exact HK.out)⟩

end Go.Proofs.Ytffhbpepppodeaa.PFnInverse
