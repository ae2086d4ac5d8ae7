import Derived.Test.YtffhbpepppodeaaPFnExactDecodeShardsx0
import Derived.Test.YtffhbpepppodeaaPFnExactDecodeShardsx5
import Derived.Test.YtffhbpepppodeaaPFnExactDecodeShardsx6
import Derived.Test.YtffhbpepppodeaaPFnExactDecodeShardsx7
import Derived.Test.YtffhbpepppodeaaPFnExactDecodeShardsx8
import Derived.Test.YtffhbpepppodeaaPFnExactDecodeShardsx10
namespace Go.Proofs.Ytffhbpepppodeaa.PFnExactDecodeShards
private theorem nn {α : Type} {c : Prop} [Decidable c] {a : Option α} {r : α} (h : (if c then a else none) = some r) : c ∧ a = some r:=by
 split at h
 ·exact ⟨‹c›,h⟩
 ·cases h
open Go.RowKit Go.Proofs.YtffhbpepppodeaaW.PrintWords Go.Proofs.YtffhbpepppodeaaW.PrintLast Go.Proofs.YtffhbpepppodeaaW.PrintMore
attribute [local go_sem] max2_int min2_int max_two min_two max_three min_three max_four min_four   -- for this text's walks alone
set_option linter.unusedVariables false
set_option linter.unusedSimpArgs false

/-! ### spec_MatInv: function 17 -/
mutual
def spec_MatInv.j0 : Nat → Bool → Int → Int → List Int → Option (Int × Int × Int × List Int)
 | 0,_,_,_,_=>none
 | k + 1,x21,x256000,x256001,x256002=>if x21 = true then (some (1,0,0,([] : List Int))) else ((spec_l03Rank.f k x256000 x256001 x256002).bind fun t258=>(if t258 < x256000 then (some (5,0,0,([] : List Int))) else ((spec_l03New.f x256000 (wrap64 (2 * x256000))).bind fun bt259=>(spec_MatInv.l0 k x256000 0 x256000 x256001 x256002 bt259.1 bt259.2.1 bt259.2.2))))
def spec_MatInv.l0 : Nat → Int → Int → Int → Int → List Int → Int → Int → List Int → Option (Int × Int × Int × List Int)
 | 0,_,_,_,_,_,_,_,_=>none
 | k + 1,x3,x5,x256000,x256001,x256002,x265000,x265001,x265002=>if x5 < x3 then (spec_MatInv.l1 k x3 x5 0 x256000 x256001 x256002 x265000 x265001 x265002) else (spec_MatInv.l2 k x3 0 x265000 x265001 x265002)
def spec_MatInv.l1 : Nat → Int → Int → Int → Int → Int → List Int → Int → Int → List Int → Option (Int × Int × Int × List Int)
 | 0,_,_,_,_,_,_,_,_,_=>none
 | k + 1,x3,x5,x6,x256000,x256001,x256002,x265000,x265001,x265002=>if x6 < x3 then ((spec_l03At.f x256000 x256001 x256002 x5 x6).bind fun t265=>(if 0 ≤ (wrap64 ((wrap64 ((wrap64 (x5 * 2)) * x3)) + x6)) then (if (wrap64 ((wrap64 ((wrap64 (x5 * 2)) * x3)) + x6)) < (x265002.length : Int) then (spec_MatInv.l1 k x3 x5 (wrap64 (x6 + 1)) x256000 x256001 x256002 x265000 x265001 (x265002.set ((wrap64 ((wrap64 ((wrap64 (x5 * 2)) * x3)) + x6)) : Int).toNat t265)) else (none)) else (none))) else (if 0 ≤ (wrap64 ((wrap64 ((wrap64 ((wrap64 (x5 * 2)) * x3)) + x3)) + x5)) then (if (wrap64 ((wrap64 ((wrap64 ((wrap64 (x5 * 2)) * x3)) + x3)) + x5)) < (x265002.length : Int) then (spec_MatInv.l0 k x3 (wrap64 (x5 + 1)) x256000 x256001 x256002 x265000 x265001 (x265002.set ((wrap64 ((wrap64 ((wrap64 ((wrap64 (x5 * 2)) * x3)) + x3)) + x5)) : Int).toNat 1)) else (none)) else (none))
def spec_MatInv.l2 : Nat → Int → Int → Int → Int → List Int → Option (Int × Int × Int × List Int)
 | 0,_,_,_,_,_=>none
 | k + 1,x3,x7,x265000,x265001,x265002=>if x7 < x3 then (spec_MatInv.l3 k x3 x7 x7 x265000 x265001 x265002) else ((spec_l03New.f x3 x3).bind fun bt271=>(spec_MatInv.l4 k x3 0 x265000 x265001 x265002 bt271.1 bt271.2.1 bt271.2.2))
def spec_MatInv.l3 : Nat → Int → Int → Int → Int → Int → List Int → Option (Int × Int × Int × List Int)
 | 0,_,_,_,_,_,_=>none
 | k + 1,x3,x7,x8,x265000,x265001,x265002=>(spec_l03At.f x265000 x265001 x265002 x8 x7).bind fun t268=>(if t268 = 0 then (spec_MatInv.l3 k x3 x7 (wrap64 (x8 + 1)) x265000 x265001 x265002) else ((spec_l03Swap.f k x265000 x265001 x265002 x7 x8).bind fun t269=>((spec_l03Clear.f k x265000 x265001 t269 x7 x7).bind fun t270=>(spec_MatInv.l2 k x3 (wrap64 (x7 + 1)) x265000 x265001 t270))))
def spec_MatInv.l4 : Nat → Int → Int → Int → Int → List Int → Int → Int → List Int → Option (Int × Int × Int × List Int)
 | 0,_,_,_,_,_,_,_,_=>none
 | k + 1,x3,x10,x265000,x265001,x265002,x277000,x277001,x277002=>if x10 < x3 then (spec_MatInv.l5 k x3 x10 0 x265000 x265001 x265002 x277000 x277001 x277002) else (some (0,x277000,x277001,x277002))
def spec_MatInv.l5 : Nat → Int → Int → Int → Int → Int → List Int → Int → Int → List Int → Option (Int × Int × Int × List Int)
 | 0,_,_,_,_,_,_,_,_,_=>none
 | k + 1,x3,x10,x11,x265000,x265001,x265002,x277000,x277001,x277002=>if x11 < x3 then ((spec_l03At.f x265000 x265001 x265002 x10 (wrap64 (x3 + x11))).bind fun t277=>(if 0 ≤ (wrap64 ((wrap64 (x10 * x3)) + x11)) then (if (wrap64 ((wrap64 (x10 * x3)) + x11)) < (x277002.length : Int) then (spec_MatInv.l5 k x3 x10 (wrap64 (x11 + 1)) x265000 x265001 x265002 x277000 x277001 (x277002.set ((wrap64 ((wrap64 (x10 * x3)) + x11)) : Int).toNat t277)) else (none)) else (none))) else (spec_MatInv.l4 k x3 (wrap64 (x10 + 1)) x265000 x265001 x265002 x277000 x277001 x277002)
end
def spec_MatInv.f (k : Nat) (a0_0 : Int) (a0_1 : Int) (l0_2 : List Int) : Option (Int × Int × Int × List Int):=(spec_MatrixFault.f k a0_0 a0_1 l0_2).bind fun t257=>(if t257 = 0 then (spec_MatInv.j0 k (a0_0 != a0_1) a0_0 a0_1 l0_2) else (spec_MatInv.j0 k true a0_0 a0_1 l0_2))
def spec_MatInv.T13 : Bool × List (List Nat × List Nat):=(true,[([],[]),([0],[0]),([],[]),([2],[2]),([],[]),([3,4],[3,4]),([],[]),([5,6],[5,6]),([],[]),([],[]),([],[]),([8,9,10],[8,9,10]),([1,7,0,1,2,3,4,5,6,7,8,9,10,11],[1,7]),([12,11,11,0,1,2,3,4,5,6,7,8,9,10,11],[11,12])])
def spec_MatInv.B13 : List Nat:=[0,1,0,4,0,28,0,124,0,0,0,1792,4095,8191]
theorem spec_MatInv.tab13 : rtab .any (opsOf Try.f17 13) = spec_MatInv.T13:=by kernel_rfl
theorem spec_MatInv.bits13 : waitsOk spec_MatInv.T13.2 spec_MatInv.B13 = true:=by kernel_rfl
def spec_MatInv.T30 : Bool × List (List Nat × List Nat):=(true,[([],[]),([0],[0]),([],[]),([],[]),([2,3],[2,3]),([],[]),([4,5],[4,5]),([],[]),([],[]),([],[]),([],[]),([9,10],[9,10]),([7,8,11],[7,8,11]),([1,6,0,1,2,3,4,5,6,7,8,9,10,11,12],[1,6]),([13,12,12,0,1,2,3,4,5,6,7,8,9,10,11,12],[12,13])])
def spec_MatInv.B30 : List Nat:=[0,1,0,0,12,0,60,0,0,0,0,1536,3968,8191,16383]
theorem spec_MatInv.tab30 : rtab .any (opsOf Try.f17 30) = spec_MatInv.T30:=by kernel_rfl
theorem spec_MatInv.bits30 : waitsOk spec_MatInv.T30.2 spec_MatInv.B30 = true:=by kernel_rfl
set_option maxHeartbeats 8000000 in
set_option maxRecDepth 100000 in
theorem spec_MatInv.calls (k : Nat) (a0_0 : Int) (a0_1 : Int) (A0_2 : Option Addr) (c0_2 : Nat) (l0_2 : List Int) (r1 : Int) (r2 : Int) (r3 : Int) (r4 : List Int) (w : World) (hr0_2 : Kd.C (Kd.int .i64) w A0_2 l0_2.length l0_2) (hc0_2 : l0_2.length ≤ c0_2) (h : spec_MatInv.f k a0_0 a0_1 l0_2 = some (r1,r2,r3,r4)) :
  Calls Try.prog 17 #[.agg #[.int .i64 a0_0,.int .i64 a0_1,.slice A0_2 l0_2.length c0_2]] w fun e w'=>∃ v3_ : Value,e = .returned (.agg #[.int .i64 r1,.int .i64 r2,.int .i64 r3,v3_]) ∧ Kd.R (Kd.int .i64) 2 w' w.heap.size (fun _=>True) v3_ r4 ∧ Below w.heap.size w w':=by
 have hu27:=Try.underlying27
 have hu32:=Try.underlying32
 have HR0_2:=Aside0.mk hr0_2
 have HC0_2:=Aside0.mk hc0_2
 clear hr0_2 hc0_2
 have HB:=Aside0.mk (Below.refl w.heap.size w)
 have H : ((spec_MatrixFault.f k a0_0 a0_1 l0_2).bind fun t257=>(if t257 = 0 then (spec_MatInv.j0 k (a0_0 != a0_1) a0_0 a0_1 l0_2) else (spec_MatInv.j0 k true a0_0 a0_1 l0_2))) = some (r1,r2,r3,r4):=h
 clear h
 have HC2:=Aside0.mk H
 clear H
 go_enter Try.func17,Try.ntmps17
 go_upto_region 1 with (first|((with_reducible refine gate_dst (N:=1) rfl ?_);refine box_event ?hg (N:=1) ?hd (cs:=#[.int .i64 a0_0,.int .i64 a0_1,.slice A0_2 l0_2.length c0_2]) (t:=27) ?hr ?_;(case hd=>rfl);(case hg=>rfl);(case hr=>(go_simp;done));intro gb255 hg w3 hbox hb;have BK255:=Aside0.mk (hbox);have GW255:=Aside0.mk ((by rw [hg];exact (below_size HB.out) : w.heap.size ≤ gb255));have GE255:=Aside0.mk ((by rw [hg];exact (below_size HB.out) : w.heap.size ≤ gb255));replace HB:=Aside0.mk (below_step HB.out hb);clear hb hbox hg)|((with_reducible refine gate_dst (N:=2) rfl ?_);refine box_event ?hg (N:=2) ?hd (cs:=#[.int .i64 0,.int .i64 0,.int .i64 0,.slice none 0 0]) (t:=32) ?hr ?_;(case hd=>rfl);(case hg=>rfl);(case hr=>(go_simp;done));intro gb256 hg w4 hbox hb;have BK256:=Aside0.mk (hbox);have GW256:=Aside0.mk ((by rw [hg];exact (below_size HB.out) : w.heap.size ≤ gb256));have GE256:=Aside0.mk ((by rw [hg];exact (below_size HB.out) : w.heap.size ≤ gb256));replace HB:=Aside0.mk (below_step HB.out hb);have NB255_256:=Aside0.mk ((by rw [hg];exact Nat.ne_of_lt (blk_lt BK255.out) : gb255 ≠ gb256));have NB256_255:=Aside0.mk ((by rw [hg];exact Nat.ne_of_gt (blk_lt BK255.out) : gb256 ≠ gb255));replace BK255:=Aside0.mk (blk_below BK255.out hb);clear hb hbox hg))
 (try simp only [Act.put,List.setIfInBounds_toArray,List.set_cons_zero,List.set_cons_succ])
 go_cut [21] (fun v21 wc=>∃ (kq : Nat) (x21_1 : Bool),v21 = .bool x21_1 ∧ Aside0 (spec_MatInv.j0 kq x21_1 a0_0 a0_1 l0_2 = some (r1,r2,r3,r4)) ∧ Aside0 (kq ≤ k) ∧ Aside0 (wc.heap[gb255]? = some (.cells #[.int .i64 a0_0,.int .i64 a0_1,(.slice A0_2 l0_2.length c0_2)] 27 (0,0))) ∧ Aside0 (wc.heap[gb256]? = some (.cells #[.int .i64 0,.int .i64 0,.int .i64 0,(.slice none 0 0)] 32 (0,0))) ∧ Aside0 (Below w.heap.size w wc))
 case first=>
  have H:=HC2.out
  clear HC2
  replace H:=Option.bind_eq_some_iff.mp H
  obtain ⟨t257,A50,H⟩:=H
  replace H : (if t257 = 0 then (spec_MatInv.j0 k (a0_0 != a0_1) a0_0 a0_1 l0_2) else (spec_MatInv.j0 k true a0_0 a0_1 l0_2)) = some (r1,r2,r3,r4):=H
  have A5:=Aside0.mk A50
  clear A50
  by_cases c6 : t257 = 0
  ·rw [if_pos c6] at H
   have c6b0 : (t257 == 0) = true:=beq_iff_eq.mpr c6
   have c6b1 : (t257 != 0) = false:=bne_eq_false_iff_eq.mpr c6
   clear c6
   (skip)
   have H':=Aside0.mk H
   clear H
   have hnb7:=NB255_256.out
   have hnc7:=NB256_255.out
   have hcz8_0 : w4.cell? ⟨gb255,0,none⟩ = some (.int .i64 a0_0):=(blk_cell BK255.out 0).trans rfl
   have hcz8_1 : w4.cell? ⟨gb255,1,none⟩ = some (.int .i64 a0_1):=(blk_cell BK255.out 1).trans rfl
   have hcz8_2 : w4.cell? ⟨gb255,2,none⟩ = some (.slice A0_2 l0_2.length c0_2):=(blk_cell BK255.out 2).trans rfl
   have hfz8_0:=blk_frozen BK255.out 0
   have hfz8_1:=blk_frozen BK255.out 1
   have hfz8_2:=blk_frozen BK255.out 2
   go_wp2_with (((with_reducible refine gate_callee (f:=24) rfl ?_);refine goesL_ (some 13) rfl rfl Try.func24 (by kernel_rfl) rfl #[.agg #[.int .i64 a0_0,.int .i64 a0_1,.slice A0_2 l0_2.length c0_2]] rfl (by (try simp only [List.map_toArray,List.map_cons,List.map_nil]);rfl) ?_;(with_reducible refine (spec_MatrixFault.calls k a0_0 a0_1 _ _ l0_2 t257 _ ?side1 ?side2 A5.out).mono ?_);(case side1=>exact (Kd.C_below HR0_2.out HB.out));(case side2=>exact HC0_2.out);rintro e w9 ⟨rfl,hb⟩;refine ⟨_,rfl,?_⟩;replace BK255:=Aside0.mk (blk_below BK255.out hb);replace BK256:=Aside0.mk (blk_below BK256.out hb);replace HB:=Aside0.mk (below_step HB.out hb);(try clear hb);have hcz10_0 : w9.cell? ⟨gb255,0,none⟩ = some (.int .i64 a0_0):=(blk_cell BK255.out 0).trans rfl;have hcz10_1 : w9.cell? ⟨gb255,1,none⟩ = some (.int .i64 a0_1):=(blk_cell BK255.out 1).trans rfl;have hcz10_2 : w9.cell? ⟨gb255,2,none⟩ = some (.slice A0_2 l0_2.length c0_2):=(blk_cell BK255.out 2).trans rfl;have hfz10_0:=blk_frozen BK255.out 0;have hfz10_1:=blk_frozen BK255.out 1;have hfz10_2:=blk_frozen BK255.out 2))
   go_meet
   case rel=>exact ⟨_,((a0_0 != a0_1)),(by rfl),H',⟨by omega⟩,⟨by exact BK255.out⟩,⟨by exact BK256.out⟩,⟨HB.out⟩⟩
  ·rw [if_neg c6] at H
   have c6b0 : (t257 == 0) = false:=beq_eq_false_iff_ne.mpr c6
   have c6b1 : (t257 != 0) = true:=bne_iff_ne.mpr c6
   (skip)
   have H':=Aside0.mk H
   clear H
   have hnb11:=NB255_256.out
   have hnc11:=NB256_255.out
   have hcz12_0 : w4.cell? ⟨gb255,0,none⟩ = some (.int .i64 a0_0):=(blk_cell BK255.out 0).trans rfl
   have hcz12_1 : w4.cell? ⟨gb255,1,none⟩ = some (.int .i64 a0_1):=(blk_cell BK255.out 1).trans rfl
   have hcz12_2 : w4.cell? ⟨gb255,2,none⟩ = some (.slice A0_2 l0_2.length c0_2):=(blk_cell BK255.out 2).trans rfl
   have hfz12_0:=blk_frozen BK255.out 0
   have hfz12_1:=blk_frozen BK255.out 1
   have hfz12_2:=blk_frozen BK255.out 2
   go_wp2_with (((with_reducible refine gate_callee (f:=24) rfl ?_);refine goesL_ (some 13) rfl rfl Try.func24 (by kernel_rfl) rfl #[.agg #[.int .i64 a0_0,.int .i64 a0_1,.slice A0_2 l0_2.length c0_2]] rfl (by (try simp only [List.map_toArray,List.map_cons,List.map_nil]);rfl) ?_;(with_reducible refine (spec_MatrixFault.calls k a0_0 a0_1 _ _ l0_2 t257 _ ?side1 ?side2 A5.out).mono ?_);(case side1=>exact (Kd.C_below HR0_2.out HB.out));(case side2=>exact HC0_2.out);rintro e w13 ⟨rfl,hb⟩;refine ⟨_,rfl,?_⟩;replace BK255:=Aside0.mk (blk_below BK255.out hb);replace BK256:=Aside0.mk (blk_below BK256.out hb);replace HB:=Aside0.mk (below_step HB.out hb);(try clear hb)))
   go_meet
   case rel=>exact ⟨_,(true),(by rfl),H',⟨by omega⟩,⟨by exact BK255.out⟩,⟨by exact BK256.out⟩,⟨HB.out⟩⟩
 case rest=>
  clear HC2
  obtain ⟨kq,x21_1,rfl,HA,HJ1,BK255,BK256,HB⟩:=hcut
  cases kq with
  | zero=>exact absurd HA.out (by simp [spec_MatInv.j0])
  | succ kj1=>
   have H:=HA.out
   clear HA
   simp only [spec_MatInv.j0] at H
   by_cases c14 : x21_1 = true
   ·subst c14
    have H1 : (some (1,0,0,([] : List Int))) = some (r1,r2,r3,r4):=by rw [if_pos rfl] at H;exact H
    clear H
    have H:=H1
    clear H1
    simp only [Option.some.injEq,Prod.mk.injEq] at H
    obtain ⟨rfl,rfl,rfl,rfl⟩:=H
    have hnb15:=NB256_255.out
    have hnc15:=NB255_256.out
    have hcz16_0 : wc.cell? ⟨gb256,0,none⟩ = some (.int .i64 0):=(blk_cell BK256.out 0).trans rfl
    have hcz16_1 : wc.cell? ⟨gb256,1,none⟩ = some (.int .i64 0):=(blk_cell BK256.out 1).trans rfl
    have hcz16_2 : wc.cell? ⟨gb256,2,none⟩ = some (.int .i64 0):=(blk_cell BK256.out 2).trans rfl
    have hcz16_3 : wc.cell? ⟨gb256,3,none⟩ = some (.slice none 0 0):=(blk_cell BK256.out 3).trans rfl
    have hfz16_0:=blk_frozen BK256.out 0
    have hfz16_1:=blk_frozen BK256.out 1
    have hfz16_2:=blk_frozen BK256.out 2
    have hfz16_3:=blk_frozen BK256.out 3
    go_wp2
    refine bodyPost_ret (results_cell_row rfl _ _ gb256 32 #[.int .i64 1,.int .i64 0,.int .i64 0,.slice none 0 0] (0,0) _ rfl (by refine blk_put (cs:=#[.int .i64 1,.int .i64 0,.int .i64 0,.slice none 0 0]) ?_ 3 _ rfl;refine blk_put (cs:=#[.int .i64 1,.int .i64 0,.int .i64 0,.slice none 0 0]) ?_ 2 _ rfl;refine blk_put (cs:=#[.int .i64 1,.int .i64 0,.int .i64 0,.slice none 0 0]) ?_ 1 _ rfl;refine blk_put (cs:=#[.int .i64 0,.int .i64 0,.int .i64 0,.slice none 0 0]) ?_ 0 _ rfl;exact BK256.out) Try.underlying32 rfl (by kernel_rfl)) rfl ?_
    exact ⟨_,by rfl,by exact Kd.R_nil _ _ _ _ _,by repeat ((with_reducible first|exact HB.out|refine below_set ?_ GE256.out))⟩
   ·replace c14:=Bool.eq_false_iff.mpr c14
    subst c14
    have H1 : ((spec_l03Rank.f kj1 a0_0 a0_1 l0_2).bind fun t258=>(if t258 < a0_0 then (some (5,0,0,([] : List Int))) else ((spec_l03New.f a0_0 (wrap64 (2 * a0_0))).bind fun bt259=>(spec_MatInv.l0 kj1 a0_0 0 a0_0 a0_1 l0_2 bt259.1 bt259.2.1 bt259.2.2)))) = some (r1,r2,r3,r4):=by rw [if_neg (show ¬ (false = true) by decide)] at H;exact H
    clear H
    have H:=H1
    clear H1
    replace H:=Option.bind_eq_some_iff.mp H
    obtain ⟨t258,A170,H⟩:=H
    replace H : (if t258 < a0_0 then (some (5,0,0,([] : List Int))) else ((spec_l03New.f a0_0 (wrap64 (2 * a0_0))).bind fun bt259=>(spec_MatInv.l0 kj1 a0_0 0 a0_0 a0_1 l0_2 bt259.1 bt259.2.1 bt259.2.2))) = some (r1,r2,r3,r4):=H
    have A17:=Aside0.mk A170
    clear A170
    by_cases c18 : t258 < a0_0
    ·rw [if_pos c18] at H
     have c18b0:=decide_eq_true c18
     clear c18
     simp only [Option.some.injEq,Prod.mk.injEq] at H
     obtain ⟨rfl,rfl,rfl,rfl⟩:=H
     try go_wp2
     replace BK255:=Aside0.mk (blk_drew BK255.out)
     replace BK256:=Aside0.mk (blk_drew BK256.out)
     replace HB:=Aside0.mk (below_drew1 HB.out)
     refine start_ (n:=5) (S:=fun w'=>w'.cell? ⟨gb255,0,none⟩ = some (.int .i64 a0_0) ∧ w'.cell? ⟨gb255,1,none⟩ = some (.int .i64 a0_1) ∧ w'.cell? ⟨gb255,2,none⟩ = some (.slice A0_2 l0_2.length c0_2)) (ds:=[]) #[false,false,false,false,false] (by kernel_rfl) rfl rfl ⟨(blk_cell BK255.out 0).trans rfl,(blk_cell BK255.out 1).trans rfl,(blk_cell BK255.out 2).trans rfl⟩ (fun hHeld=>?_)
     generalize wc.drew = w19 at BK255 BK256 HB hHeld ⊢
     refine pure_ (i:=2) (N:=some 25) #[false,false,true,false,false] rfl rfl (by kernel_rfl) (fun _ _ _ h=>h) (Or.inl ⟨by rfl,by intro w';go_simp;with_reducible rfl⟩) (by simp only [Act.put,List.setIfInBounds_toArray,List.set_cons_zero,List.set_cons_succ,i64_w,i32_w];rfl) ?_
     refine take_ (i:=0) (N:=some 23) #[true,false,true,false,false] rfl rfl (by kernel_rfl) (fun _ _ _ h=>h) (Or.inl ⟨by rfl,by rintro w' ⟨s0,s1,s2⟩;go_simp;with_reducible rfl⟩) hHeld (by simp only [Act.put,List.setIfInBounds_toArray,List.set_cons_zero,List.set_cons_succ,i64_w,i32_w];rfl) ?_
     refine take_ (i:=3) (N:=some 26) #[true,false,true,true,false] rfl rfl (by kernel_rfl) (fun _ _ _ h=>h) (Or.inl ⟨by rfl,by rintro w' ⟨s0,s1,s2⟩;go_simp;with_reducible rfl⟩) hHeld (by simp only [Act.put,List.setIfInBounds_toArray,List.set_cons_zero,List.set_cons_succ,i64_w,i32_w];rfl) ?_
     refine one_ (i:=1) (N:=some 24) #[true,true,true,true,false] rfl rfl (by kernel_rfl) (by decide) (fun K hK=>?_)
     refine goes_ Try.func59 (by kernel_rfl) rfl #[.agg #[.int .i64 a0_0,.int .i64 a0_1,.slice A0_2 l0_2.length c0_2]] (by rfl) rfl rfl (by (try simp only [List.map_toArray,List.map_cons,List.map_nil]);rfl) ?_
     with_reducible refine (spec_l03Rank.calls kj1 a0_0 a0_1 _ _ l0_2 t258 _ ?side1 ?side2 A17.out).mono ?_
     (case side1=>exact (Kd.C_below HR0_2.out HB.out))
     (case side2=>exact HC0_2.out)
     rintro e w20 ⟨rfl,hb⟩
     refine ⟨_,rfl,?_⟩
     replace BK255:=Aside0.mk (blk_below BK255.out hb)
     replace BK256:=Aside0.mk (blk_below BK256.out hb)
     replace HB:=Aside0.mk (below_step HB.out hb)
     (try clear hb)
     refine hK.out _ _ ⟨(blk_cell BK255.out 0).trans rfl,(blk_cell BK255.out 1).trans rfl,(blk_cell BK255.out 2).trans rfl⟩ (fun hHeld=>?_)
     clear hK K
     refine norm_ (a':=?_) ?_ ?_
     rotate_left
     ·show Act.put _ (some 24) _ = _
      simp only [Act.put,List.setIfInBounds_toArray,List.set_cons_zero,List.set_cons_succ,i64_w,i32_w]
      rfl
     refine pure_ (i:=4) (N:=some 27) #[true,true,true,true,true] rfl rfl (by kernel_rfl) (fun _ _ _ h=>h) (Or.inl ⟨by rfl,by intro w';go_simp;with_reducible rfl⟩) (by simp only [Act.put,List.setIfInBounds_toArray,List.set_cons_zero,List.set_cons_succ,i64_w,i32_w];rfl) ?_
     refine done_ (by kernel_rfl) ?_
     have hnb21:=NB256_255.out
     have hnc21:=NB255_256.out
     have hcz22_0 : w20.cell? ⟨gb256,0,none⟩ = some (.int .i64 0):=(blk_cell BK256.out 0).trans rfl
     have hcz22_1 : w20.cell? ⟨gb256,1,none⟩ = some (.int .i64 0):=(blk_cell BK256.out 1).trans rfl
     have hcz22_2 : w20.cell? ⟨gb256,2,none⟩ = some (.int .i64 0):=(blk_cell BK256.out 2).trans rfl
     have hcz22_3 : w20.cell? ⟨gb256,3,none⟩ = some (.slice none 0 0):=(blk_cell BK256.out 3).trans rfl
     have hfz22_0:=blk_frozen BK256.out 0
     have hfz22_1:=blk_frozen BK256.out 1
     have hfz22_2:=blk_frozen BK256.out 2
     have hfz22_3:=blk_frozen BK256.out 3
     try go_wp2
     refine bodyPost_ret (results_cell_row rfl _ _ gb256 32 #[.int .i64 5,.int .i64 0,.int .i64 0,.slice none 0 0] (0,0) _ rfl (by refine blk_put (cs:=#[.int .i64 5,.int .i64 0,.int .i64 0,.slice none 0 0]) ?_ 3 _ rfl;refine blk_put (cs:=#[.int .i64 5,.int .i64 0,.int .i64 0,.slice none 0 0]) ?_ 2 _ rfl;refine blk_put (cs:=#[.int .i64 5,.int .i64 0,.int .i64 0,.slice none 0 0]) ?_ 1 _ rfl;refine blk_put (cs:=#[.int .i64 0,.int .i64 0,.int .i64 0,.slice none 0 0]) ?_ 0 _ rfl;exact BK256.out) Try.underlying32 rfl (by kernel_rfl)) rfl ?_
     exact ⟨_,by rfl,by exact Kd.R_nil _ _ _ _ _,by repeat ((with_reducible first|exact HB.out|refine below_set ?_ GE256.out))⟩
    ·rw [if_neg c18] at H
     have c18b0:=decide_eq_false c18
     clear c18
     replace H:=Option.bind_eq_some_iff.mp H
     obtain ⟨⟨t259,t260,t261⟩,A230,H⟩:=H
     dsimp only at H
     have A23:=Aside0.mk A230
     clear A230
     have H':=Aside0.mk H
     clear H
     try go_wp2
     replace BK255:=Aside0.mk (blk_drew BK255.out)
     replace BK256:=Aside0.mk (blk_drew BK256.out)
     replace HB:=Aside0.mk (below_drew1 HB.out)
     refine start_ (n:=5) (S:=fun w'=>w'.cell? ⟨gb255,0,none⟩ = some (.int .i64 a0_0) ∧ w'.cell? ⟨gb255,1,none⟩ = some (.int .i64 a0_1) ∧ w'.cell? ⟨gb255,2,none⟩ = some (.slice A0_2 l0_2.length c0_2)) (ds:=[]) #[false,false,false,false,false] (by kernel_rfl) rfl rfl ⟨(blk_cell BK255.out 0).trans rfl,(blk_cell BK255.out 1).trans rfl,(blk_cell BK255.out 2).trans rfl⟩ (fun hHeld=>?_)
     generalize wc.drew = w24 at BK255 BK256 HB hHeld ⊢
     refine pure_ (i:=2) (N:=some 25) #[false,false,true,false,false] rfl rfl (by kernel_rfl) (fun _ _ _ h=>h) (Or.inl ⟨by rfl,by intro w';go_simp;with_reducible rfl⟩) (by simp only [Act.put,List.setIfInBounds_toArray,List.set_cons_zero,List.set_cons_succ,i64_w,i32_w];rfl) ?_
     refine take_ (i:=0) (N:=some 23) #[true,false,true,false,false] rfl rfl (by kernel_rfl) (fun _ _ _ h=>h) (Or.inl ⟨by rfl,by rintro w' ⟨s0,s1,s2⟩;go_simp;with_reducible rfl⟩) hHeld (by simp only [Act.put,List.setIfInBounds_toArray,List.set_cons_zero,List.set_cons_succ,i64_w,i32_w];rfl) ?_
     refine take_ (i:=3) (N:=some 26) #[true,false,true,true,false] rfl rfl (by kernel_rfl) (fun _ _ _ h=>h) (Or.inl ⟨by rfl,by rintro w' ⟨s0,s1,s2⟩;go_simp;with_reducible rfl⟩) hHeld (by simp only [Act.put,List.setIfInBounds_toArray,List.set_cons_zero,List.set_cons_succ,i64_w,i32_w];rfl) ?_
     refine one_ (i:=1) (N:=some 24) #[true,true,true,true,false] rfl rfl (by kernel_rfl) (by decide) (fun K hK=>?_)
     refine goes_ Try.func59 (by kernel_rfl) rfl #[.agg #[.int .i64 a0_0,.int .i64 a0_1,.slice A0_2 l0_2.length c0_2]] (by rfl) rfl rfl (by (try simp only [List.map_toArray,List.map_cons,List.map_nil]);rfl) ?_
     with_reducible refine (spec_l03Rank.calls kj1 a0_0 a0_1 _ _ l0_2 t258 _ ?side1 ?side2 A17.out).mono ?_
     (case side1=>exact (Kd.C_below HR0_2.out HB.out))
     (case side2=>exact HC0_2.out)
     rintro e w25 ⟨rfl,hb⟩
     refine ⟨_,rfl,?_⟩
     replace BK255:=Aside0.mk (blk_below BK255.out hb)
     replace BK256:=Aside0.mk (blk_below BK256.out hb)
     replace HB:=Aside0.mk (below_step HB.out hb)
     (try clear hb)
     refine hK.out _ _ ⟨(blk_cell BK255.out 0).trans rfl,(blk_cell BK255.out 1).trans rfl,(blk_cell BK255.out 2).trans rfl⟩ (fun hHeld=>?_)
     clear hK K
     refine norm_ (a':=?_) ?_ ?_
     rotate_left
     ·show Act.put _ (some 24) _ = _
      simp only [Act.put,List.setIfInBounds_toArray,List.set_cons_zero,List.set_cons_succ,i64_w,i32_w]
      rfl
     refine pure_ (i:=4) (N:=some 27) #[true,true,true,true,true] rfl rfl (by kernel_rfl) (fun _ _ _ h=>h) (Or.inl ⟨by rfl,by intro w';go_simp;with_reducible rfl⟩) (by simp only [Act.put,List.setIfInBounds_toArray,List.set_cons_zero,List.set_cons_succ,i64_w,i32_w];rfl) ?_
     refine done_ (by kernel_rfl) ?_
     have hnb26:=NB255_256.out
     have hnc26:=NB256_255.out
     have hcz27_0 : w25.cell? ⟨gb255,0,none⟩ = some (.int .i64 a0_0):=(blk_cell BK255.out 0).trans rfl
     have hcz27_1 : w25.cell? ⟨gb255,1,none⟩ = some (.int .i64 a0_1):=(blk_cell BK255.out 1).trans rfl
     have hcz27_2 : w25.cell? ⟨gb255,2,none⟩ = some (.slice A0_2 l0_2.length c0_2):=(blk_cell BK255.out 2).trans rfl
     have hfz27_0:=blk_frozen BK255.out 0
     have hfz27_1:=blk_frozen BK255.out 1
     have hfz27_2:=blk_frozen BK255.out 2
     try go_wp2_with (first|((with_reducible refine gate_callee (f:=66) rfl ?_);refine goesL_ (some 34) rfl rfl Try.func66 (by kernel_rfl) rfl #[.int .i64 a0_0,.int .i64 (wrap64 (2 * a0_0))] rfl (by (try simp only [List.map_toArray,List.map_cons,List.map_nil]);rfl) ?_;(with_reducible refine (spec_l03New.calls a0_0 (wrap64 (2 * a0_0)) t259 t260 t261 _ A23.out).mono ?_);rintro e w28 ⟨v262,rfl,ho0,hb⟩;refine ⟨_,rfl,?_⟩;have HO263:=Aside0.mk (Kd.R_lower ho0 (below_size HB.out));replace BK255:=Aside0.mk (blk_below BK255.out hb);replace BK256:=Aside0.mk (blk_below BK256.out hb);replace HB:=Aside0.mk (below_step HB.out hb);(try clear hb);(try clear ho0))|((with_reducible refine gate_dst (N:=4) rfl ?_);refine box_event ?hg (N:=4) ?hd (cs:=#[.int .i64 0,.int .i64 0,.slice none 0 0]) (t:=27) ?hr ?_;(case hd=>rfl);(case hg=>rfl);(case hr=>(go_simp;done));intro gb264 hg w29 hbox hb;replace HO263:=Aside0.mk (Kd.R_below HO263.out hb);have BK264:=Aside0.mk (hbox);have GW264:=Aside0.mk ((by rw [hg];exact (below_size HB.out) : w.heap.size ≤ gb264));have GE264:=Aside0.mk ((by rw [hg];exact (below_size HB.out) : w.heap.size ≤ gb264));replace HB:=Aside0.mk (below_step HB.out hb);have NB255_264:=Aside0.mk ((by rw [hg];exact Nat.ne_of_lt (blk_lt BK255.out) : gb255 ≠ gb264));have NB264_255:=Aside0.mk ((by rw [hg];exact Nat.ne_of_gt (blk_lt BK255.out) : gb264 ≠ gb255));replace BK255:=Aside0.mk (blk_below BK255.out hb);have NB256_264:=Aside0.mk ((by rw [hg];exact Nat.ne_of_lt (blk_lt BK256.out) : gb256 ≠ gb264));have NB264_256:=Aside0.mk ((by rw [hg];exact Nat.ne_of_gt (blk_lt BK256.out) : gb264 ≠ gb256));replace BK256:=Aside0.mk (blk_below BK256.out hb);clear hb hbox hg;have hnb30:=NB264_255.out;have hnc30:=NB255_264.out;have hnb31:=NB264_256.out;have hnc31:=NB256_264.out;have hcz32_0 : w29.cell? ⟨gb264,0,none⟩ = some (.int .i64 0):=(blk_cell BK264.out 0).trans rfl;have hcz32_1 : w29.cell? ⟨gb264,1,none⟩ = some (.int .i64 0):=(blk_cell BK264.out 1).trans rfl;have hcz32_2 : w29.cell? ⟨gb264,2,none⟩ = some (.slice none 0 0):=(blk_cell BK264.out 2).trans rfl;have hfz32_0:=blk_frozen BK264.out 0;have hfz32_1:=blk_frozen BK264.out 1;have hfz32_2:=blk_frozen BK264.out 2;obtain ⟨Ao33,co33,eo33⟩:=Kd.R_slice HO263.out;subst eo33))
     go_loopg [5] kj1 (fun kq v5 w'=>∃ (x5_2 : Int) (x265002_2 : List Int) (u265002 : Value),v5 = .int .i64 x5_2 ∧ Aside0 (spec_MatInv.l0 kq a0_0 x5_2 a0_0 a0_1 l0_2 t259 t260 x265002_2 = some (r1,r2,r3,r4)) ∧ Aside0 (kq ≤ kj1) ∧ Aside0 (Kd.R (Kd.int .i64) 2 w' w.heap.size (fun _=>True) u265002 x265002_2) ∧ Aside0 (w'.heap[gb255]? = some (.cells #[.int .i64 a0_0,.int .i64 a0_1,(.slice A0_2 l0_2.length c0_2)] 27 (0,0))) ∧ Aside0 (w'.heap[gb256]? = some (.cells #[.int .i64 0,.int .i64 0,.int .i64 0,(.slice none 0 0)] 32 (0,0))) ∧ Aside0 (w'.heap[gb264]? = some (.cells #[.int .i64 t259,.int .i64 t260,u265002] 27 (0,0))) ∧ Aside0 (Below w.heap.size w w'))
     case atStart=>exact ⟨(0),(t261),(.slice Ao33 t261.length co33),(by rfl),H',⟨Nat.le_refl _⟩,⟨by exact Kd.R_mono (Kd.R_far (p:=⟨gb264,2,none⟩) (Kd.R_far (p:=⟨gb264,1,none⟩) (Kd.R_far (p:=⟨gb264,0,none⟩) (Kd.R_types HO263.out BK264.out (by decide)) (fun _ hk=>hk.2) (.int .i64 t259)) (fun _ hk=>hk.2) (.int .i64 t260)) (fun _ hk=>hk.2) (.slice Ao33 t261.length co33)) (fun _ hk=>trivial)⟩,⟨by refine blk_far ?_ NB255_264.out _;refine blk_far ?_ NB255_264.out _;refine blk_far ?_ NB255_264.out _;exact BK255.out⟩,⟨by refine blk_far ?_ NB256_264.out _;refine blk_far ?_ NB256_264.out _;refine blk_far ?_ NB256_264.out _;exact BK256.out⟩,⟨by refine blk_put (cs:=#[.int .i64 t259,.int .i64 t260,.slice none 0 0]) ?_ 2 _ rfl;refine blk_put (cs:=#[.int .i64 t259,.int .i64 0,.slice none 0 0]) ?_ 1 _ rfl;refine blk_put (cs:=#[.int .i64 0,.int .i64 0,.slice none 0 0]) ?_ 0 _ rfl;exact BK264.out⟩,⟨by repeat ((with_reducible first|exact HB.out|refine below_set ?_ GE264.out))⟩⟩
     case round=>
      clear H'
      (try clear c18b0);(try clear hcz27_0);(try clear hcz27_1);(try clear hcz27_2);(try clear hcz32_0);(try clear hcz32_1);(try clear hcz32_2);(try clear hfz27_0);(try clear hfz27_1);(try clear hfz27_2);(try clear hfz32_0);(try clear hfz32_1);(try clear hfz32_2)
      obtain ⟨x5_2,x265002_2,u265002,rfl,HA,HK2,HO_265002,BK255,BK256,BK264,HB⟩:=hrel
      cases gk with
      | zero=>exact absurd HA.out (by simp [spec_MatInv.l0])
      | succ k2=>
       have H:=HA.out
       clear HA
       simp only [spec_MatInv.l0] at H
       by_cases c34 : x5_2 < a0_0
       ·rw [if_pos c34] at H
        have c34b0:=decide_eq_true c34
        clear c34
        have H':=Aside0.mk H
        clear H
        go_wp2
        go_loopg [6] k2 (fun kq v6 w'=>∃ (x6_3 : Int) (x265002_3 : List Int) (u265002 : Value),v6 = .int .i64 x6_3 ∧ Aside0 (spec_MatInv.l1 kq a0_0 x5_2 x6_3 a0_0 a0_1 l0_2 t259 t260 x265002_3 = some (r1,r2,r3,r4)) ∧ Aside0 (kq ≤ k2) ∧ Aside0 (Kd.R (Kd.int .i64) 2 w' w.heap.size (fun _=>True) u265002 x265002_3) ∧ Aside0 (w'.heap[gb255]? = some (.cells #[.int .i64 a0_0,.int .i64 a0_1,(.slice A0_2 l0_2.length c0_2)] 27 (0,0))) ∧ Aside0 (w'.heap[gb256]? = some (.cells #[.int .i64 0,.int .i64 0,.int .i64 0,(.slice none 0 0)] 32 (0,0))) ∧ Aside0 (w'.heap[gb264]? = some (.cells #[.int .i64 t259,.int .i64 t260,u265002] 27 (0,0))) ∧ Aside0 (Below w.heap.size w w'))
        case atStart=>exact ⟨(0),(x265002_2),(u265002),(by rfl),H',⟨Nat.le_refl _⟩,⟨by exact HO_265002.out⟩,⟨by exact BK255.out⟩,⟨by exact BK256.out⟩,⟨by exact BK264.out⟩,⟨HB.out⟩⟩
        case round=>
         clear H'
         (try clear c34b0)
         obtain ⟨x6_3,x265002_3,u265002,rfl,HA,HK3,HO_265002,BK255,BK256,BK264,HB⟩:=hrel
         cases gk with
         | zero=>exact absurd HA.out (by simp [spec_MatInv.l1])
         | succ k3=>
          have H:=HA.out
          clear HA
          simp only [spec_MatInv.l1] at H
          by_cases c35 : x6_3 < a0_0
          ·rw [if_pos c35] at H
           have c35b0:=decide_eq_true c35
           clear c35
           replace H:=Option.bind_eq_some_iff.mp H
           obtain ⟨t265,A360,H⟩:=H
           replace H : (if 0 ≤ (wrap64 ((wrap64 ((wrap64 (x5_2 * 2)) * a0_0)) + x6_3)) then (if (wrap64 ((wrap64 ((wrap64 (x5_2 * 2)) * a0_0)) + x6_3)) < (x265002_3.length : Int) then (spec_MatInv.l1 k3 a0_0 x5_2 (wrap64 (x6_3 + 1)) a0_0 a0_1 l0_2 t259 t260 (x265002_3.set ((wrap64 ((wrap64 ((wrap64 (x5_2 * 2)) * a0_0)) + x6_3)) : Int).toNat t265)) else (none)) else (none)) = some (r1,r2,r3,r4):=H
           have A36:=Aside0.mk A360
           clear A360
           obtain ⟨ji37,hji37⟩ : ∃ j_ : Int,(wrap64 ((wrap64 ((wrap64 (x5_2 * 2)) * a0_0)) + x6_3)) = j_:=⟨_,rfl⟩
           replace H : (if 0 ≤ (ji37) then (if (ji37) < (x265002_3.length : Int) then (spec_MatInv.l1 k3 a0_0 x5_2 (wrap64 (x6_3 + 1)) a0_0 a0_1 l0_2 t259 t260 (x265002_3.set ((ji37) : Int).toNat t265)) else (none)) else (none)) = some (r1,r2,r3,r4):=by (rw [hji37] at H;exact H)
           have hji37w : (IntKind.i64.wrap ((wrap64 ((wrap64 (x5_2 * 2)) * a0_0)) + x6_3)) = ji37:=(i64_w _).trans hji37
           obtain ⟨c38,H⟩:=nn H
           have c38b0:=decide_eq_true c38
           clear c38
           obtain ⟨c39,H⟩:=nn H
           have c39b0:=decide_eq_true c39
           clear c39
           obtain ⟨y266,hy266⟩ : ∃ y_ : List Int,y_ = (x265002_3.set ((ji37) : Int).toNat t265):=⟨_,rfl⟩
           rw [← hy266] at H
           have Ny266:=Aside0.mk hy266
           clear hy266
           have H':=Aside0.mk H
           clear H
           try go_wp2
           replace HO_265002:=Aside0.mk (Kd.R_drew HO_265002.out)
           replace BK255:=Aside0.mk (blk_drew BK255.out)
           replace BK256:=Aside0.mk (blk_drew BK256.out)
           replace BK264:=Aside0.mk (blk_drew BK264.out)
           replace HB:=Aside0.mk (below_drew1 HB.out)
           refine start_ (n:=14) (S:=fun w'=>w'.cell? ⟨gb264,0,none⟩ = some (.int .i64 t259) ∧ w'.cell? ⟨gb264,1,none⟩ = some (.int .i64 t260) ∧ w'.cell? ⟨gb264,2,none⟩ = some (u265002) ∧ w'.cell? ⟨gb255,0,none⟩ = some (.int .i64 a0_0) ∧ w'.cell? ⟨gb255,1,none⟩ = some (.int .i64 a0_1) ∧ w'.cell? ⟨gb255,2,none⟩ = some (.slice A0_2 l0_2.length c0_2)) (ds:=[13]) #[false,false,false,false,false,false,false,false,false,false,false,false,false,false] (by kernel_rfl) rfl rfl ⟨(blk_cell BK264.out 0).trans rfl,(blk_cell BK264.out 1).trans rfl,(blk_cell BK264.out 2).trans rfl,(blk_cell BK255.out 0).trans rfl,(blk_cell BK255.out 1).trans rfl,(blk_cell BK255.out 2).trans rfl⟩ (fun hHeld=>?_);refine with_tabW spec_MatInv.tab13 spec_MatInv.bits13 (fun HT_ HW_=>?_)
           generalize wr.drew = w41 at HO_265002 BK255 BK256 BK264 HB hHeld ⊢
           refine pure_ (i:=0) (N:=some 45) #[true,false,false,false,false,false,false,false,false,false,false,false,false,false] rfl rfl (any_of HT_.out (by kernel_rfl)) (fun _ _ _ h=>h) (Or.inl ⟨by rfl,by intro w';go_simp;with_reducible rfl⟩) (by simp only [Act.put,List.setIfInBounds_toArray,List.set_cons_zero,List.set_cons_succ,i64_w,i32_w];rfl) ?_
           refine pure_ (i:=2) (N:=some 47) #[true,false,true,false,false,false,false,false,false,false,false,false,false,false] rfl rfl (any_of HT_.out (by kernel_rfl)) (fun _ _ _ h=>h) (Or.inl ⟨by rfl,by intro w';go_simp;with_reducible rfl⟩) (by simp only [Act.put,List.setIfInBounds_toArray,List.set_cons_zero,List.set_cons_succ,i64_w,i32_w];rfl) ?_
           refine pure_ (i:=3) (N:=some 48) #[true,false,true,true,false,false,false,false,false,false,false,false,false,false] rfl rfl (any_of HT_.out (by kernel_rfl)) (fun _ _ _ h=>h) (Or.inl ⟨by rfl,by intro w';go_simp;with_reducible rfl⟩) (by simp only [Act.put,List.setIfInBounds_toArray,List.set_cons_zero,List.set_cons_succ,i64_w,i32_w];rfl) ?_
           refine pure_ (i:=4) (N:=some 49) #[true,false,true,true,true,false,false,false,false,false,false,false,false,false] rfl rfl (any_of HT_.out (by kernel_rfl)) (fun _ _ _ h=>h) (Or.inl ⟨by rfl,by intro w';go_simp;with_reducible rfl⟩) (by simp only [Act.put,List.setIfInBounds_toArray,List.set_cons_zero,List.set_cons_succ,i64_w,i32_w];rfl) ?_
           refine pure_ (i:=5) (N:=some 50) #[true,false,true,true,true,true,false,false,false,false,false,false,false,false] rfl rfl (any_of HT_.out (by kernel_rfl)) (fun _ _ _ h=>h) (Or.inl ⟨by rfl,by intro w';go_simp;with_reducible rfl⟩) (by simp only [Act.put,List.setIfInBounds_toArray,List.set_cons_zero,List.set_cons_succ,i64_w,i32_w];rfl) ?_
           refine pure_ (i:=6) (N:=some 51) #[true,false,true,true,true,true,true,false,false,false,false,false,false,false] rfl rfl (any_of HT_.out (by kernel_rfl)) (fun _ _ _ h=>h) (Or.inl ⟨by rfl,by intro w';go_simp;with_reducible rfl⟩) (by simp only [Act.put,List.setIfInBounds_toArray,List.set_cons_zero,List.set_cons_succ,i64_w,i32_w];rfl) ?_
           refine pure_ (i:=7) (N:=some 52) #[true,false,true,true,true,true,true,true,false,false,false,false,false,false] rfl rfl (any_of HT_.out (by kernel_rfl)) (fun _ _ _ h=>h) (Or.inl ⟨by rfl,by intro w';go_simp;with_reducible rfl⟩) (by simp only [Act.put,List.setIfInBounds_toArray,List.set_cons_zero,List.set_cons_succ,i64_w,i32_w];rfl) ?_
           refine pure_ (i:=9) (N:=some 54) #[true,false,true,true,true,true,true,true,false,true,false,false,false,false] rfl rfl (any_of HT_.out (by kernel_rfl)) (fun _ _ _ h=>h) (Or.inl ⟨by rfl,by intro w';go_simp;with_reducible rfl⟩) (by simp only [Act.put,List.setIfInBounds_toArray,List.set_cons_zero,List.set_cons_succ,i64_w,i32_w];rfl) ?_
           refine pure_ (i:=10) (N:=some 55) #[true,false,true,true,true,true,true,true,false,true,true,false,false,false] rfl rfl (any_of HT_.out (by kernel_rfl)) (fun _ _ _ h=>h) (Or.inl ⟨by rfl,by intro w';go_simp;with_reducible rfl⟩) (by simp only [Act.put,List.setIfInBounds_toArray,List.set_cons_zero,List.set_cons_succ,i64_w,i32_w];rfl) ?_
           refine take_ (i:=1) (N:=some 46) #[true,true,true,true,true,true,true,true,false,true,true,false,false,false] rfl rfl (take_ofW HT_.out HW_.out (by kernel_rfl)) (fun _ _ _ h=>h) (Or.inl ⟨by rfl,by rintro w' ⟨s0,s1,s2,s3,s4,s5⟩;go_simp;with_reducible rfl⟩) hHeld (by simp only [Act.put,List.setIfInBounds_toArray,List.set_cons_zero,List.set_cons_succ,i64_w,i32_w];rfl) ?_
           refine take_ (i:=8) (N:=some 53) #[true,true,true,true,true,true,true,true,true,true,true,false,false,false] rfl rfl (take_ofW HT_.out HW_.out (by kernel_rfl)) (fun _ _ _ h=>h) (Or.inl ⟨by rfl,by rintro w' ⟨s0,s1,s2,s3,s4,s5⟩;go_simp;with_reducible rfl⟩) hHeld (by simp only [Act.put,List.setIfInBounds_toArray,List.set_cons_zero,List.set_cons_succ,i64_w,i32_w];rfl) ?_
           refine one_ (i:=11) (N:=some 56) #[true,true,true,true,true,true,true,true,true,true,true,true,false,false] rfl rfl (one_of HT_.out (by kernel_rfl)) (by decide) (fun K hK=>?_)
           refine goes_ Try.func67 (by kernel_rfl) rfl #[.agg #[.int .i64 a0_0,.int .i64 a0_1,.slice A0_2 l0_2.length c0_2],.int .i64 x5_2,.int .i64 x6_3] (by rfl) rfl rfl (by (try simp only [List.map_toArray,List.map_cons,List.map_nil]);rfl) ?_
           with_reducible refine (spec_l03At.calls a0_0 a0_1 _ _ l0_2 x5_2 x6_3 t265 _ ?side1 ?side2 A36.out).mono ?_
           (case side1=>exact (Kd.C_below HR0_2.out HB.out))
           (case side2=>exact HC0_2.out)
           rintro e w42 ⟨rfl,hb⟩
           refine ⟨_,rfl,?_⟩
           replace HO_265002:=Aside0.mk (Kd.R_below HO_265002.out hb)
           replace BK255:=Aside0.mk (blk_below BK255.out hb)
           replace BK256:=Aside0.mk (blk_below BK256.out hb)
           replace BK264:=Aside0.mk (blk_below BK264.out hb)
           replace HB:=Aside0.mk (below_step HB.out hb)
           (try clear hb)
           have p40 : 0 ≤ ((ji37) : Int):=of_decide_eq_true (by with_reducible assumption)
           have q40 : ((ji37) : Int) < ((x265002_3.length : Int) : Int):=of_decide_eq_true (by with_reducible assumption)
           obtain ⟨go40,co40,eo40,gb40,gl40,cl40,HG40⟩:=Kd.R_form HO_265002.out (by omega)
           (cases eo40)
           have GB40:=Aside0.mk gb40
           have GG40:=Aside0.mk HG40
           clear gb40 gl40 HG40
           obtain ⟨hx40_0,hf40_0⟩:=Kd.R_celln 0 HO_265002.out ((ji37) : Int) p40 q40
           replace p40:=eq_true p40
           replace q40:=eq_true q40
           have HP43:=Kd.R_putn HO_265002.out ((ji37) : Int) t265
           rw [← Ny266.out] at HP43
           have HQ43:=Aside0.mk HP43
           clear HP43
           refine hK.out _ _ ⟨(blk_cell BK264.out 0).trans rfl,(blk_cell BK264.out 1).trans rfl,(blk_cell BK264.out 2).trans rfl,(blk_cell BK255.out 0).trans rfl,(blk_cell BK255.out 1).trans rfl,(blk_cell BK255.out 2).trans rfl⟩ (fun hHeld=>?_)
           clear hK K
           refine norm_ (a':=?_) ?_ ?_
           rotate_left
           ·show Act.put _ (some 56) _ = _
            simp only [Act.put,List.setIfInBounds_toArray,List.set_cons_zero,List.set_cons_succ,i64_w,i32_w]
            rfl
           refine pure_ (i:=12) (N:=some 57) #[true,true,true,true,true,true,true,true,true,true,true,true,true,false] rfl rfl (any_of HT_.out (by kernel_rfl)) (fun _ _ _ h=>h) (Or.inl ⟨by rfl,by intro w';go_simp;with_reducible rfl⟩) (by simp only [Act.put,List.setIfInBounds_toArray,List.set_cons_zero,List.set_cons_succ,i64_w,i32_w];rfl) ?_
           refine last_ (i:=13) (N:=none) #[true,true,true,true,true,true,true,true,true,true,true,true,true,true] rfl rfl (one_of HT_.out (by kernel_rfl)) (by decide) (fun K hK=>?_)
           refine skip_ (w1:=?_) (by rfl) rfl ?_ ?_
           rotate_left
           ·go_simp
            rfl
           refine hK.out _ _ ?_
           clear hK K
           refine done_ (done_of HT_.out (by kernel_rfl)) ?_
           try go_wp2
           go_roundg k3
           case measure=>have:=HJ1.out;have:=HK2.out;have:=HK3.out;omega
           case rel=>exact ⟨(wrap64 (x6_3 + 1)),(y266),(.slice (some ⟨go40,0,none⟩) x265002_3.length co40),(by rfl),H',⟨by have:=HJ1.out;have:=HK2.out;have:=HK3.out;omega⟩,⟨by exact HQ43.out⟩,⟨by refine blk_far ?_ (by have h_:=Kd.R_ne HO_265002.out BK255.out (by decide);intro e_;exact h_ (by rw [e_];rfl)) _;exact BK255.out⟩,⟨by refine blk_far ?_ (by have h_:=Kd.R_ne HO_265002.out BK256.out (by decide);intro e_;exact h_ (by rw [e_];rfl)) _;exact BK256.out⟩,⟨by refine blk_far ?_ (by have h_:=Kd.R_ne HO_265002.out BK264.out (by decide);intro e_;exact h_ (by rw [e_];rfl)) _;exact BK264.out⟩,⟨by repeat ((with_reducible first|exact HB.out|refine below_set ?_ GB40.out))⟩⟩
          ·rw [if_neg c35] at H
           have c35b0:=decide_eq_false c35
           clear c35
           obtain ⟨ji44,hji44⟩ : ∃ j_ : Int,(wrap64 ((wrap64 ((wrap64 ((wrap64 (x5_2 * 2)) * a0_0)) + a0_0)) + x5_2)) = j_:=⟨_,rfl⟩
           replace H : (if 0 ≤ (ji44) then (if (ji44) < (x265002_3.length : Int) then (spec_MatInv.l0 k3 a0_0 (wrap64 (x5_2 + 1)) a0_0 a0_1 l0_2 t259 t260 (x265002_3.set ((ji44) : Int).toNat 1)) else (none)) else (none)) = some (r1,r2,r3,r4):=by (rw [hji44] at H;exact H)
           have hji44w : (IntKind.i64.wrap ((wrap64 ((wrap64 ((wrap64 (x5_2 * 2)) * a0_0)) + a0_0)) + x5_2)) = ji44:=(i64_w _).trans hji44
           obtain ⟨c45,H⟩:=nn H
           have c45b0:=decide_eq_true c45
           clear c45
           obtain ⟨c46,H⟩:=nn H
           have c46b0:=decide_eq_true c46
           clear c46
           obtain ⟨y267,hy267⟩ : ∃ y_ : List Int,y_ = (x265002_3.set ((ji44) : Int).toNat 1):=⟨_,rfl⟩
           rw [← hy267] at H
           have Ny267:=Aside0.mk hy267
           clear hy267
           have H':=Aside0.mk H
           clear H
           have hnb48:=NB264_255.out
           have hnc48:=NB255_264.out
           have hnb49:=NB264_256.out
           have hnc49:=NB256_264.out
           have hcz50_0 : wr.cell? ⟨gb264,0,none⟩ = some (.int .i64 t259):=(blk_cell BK264.out 0).trans rfl
           have hcz50_1 : wr.cell? ⟨gb264,1,none⟩ = some (.int .i64 t260):=(blk_cell BK264.out 1).trans rfl
           have hcz50_2 : wr.cell? ⟨gb264,2,none⟩ = some (u265002):=(blk_cell BK264.out 2).trans rfl
           have hfz50_0:=blk_frozen BK264.out 0
           have hfz50_1:=blk_frozen BK264.out 1
           have hfz50_2:=blk_frozen BK264.out 2
           have p47 : 0 ≤ ((ji44) : Int):=of_decide_eq_true (by with_reducible assumption)
           have q47 : ((ji44) : Int) < ((x265002_3.length : Int) : Int):=of_decide_eq_true (by with_reducible assumption)
           obtain ⟨go47,co47,eo47,gb47,gl47,cl47,HG47⟩:=Kd.R_form HO_265002.out (by omega)
           (cases eo47)
           have GB47:=Aside0.mk gb47
           have GG47:=Aside0.mk HG47
           clear gb47 gl47 HG47
           obtain ⟨hx47_0,hf47_0⟩:=Kd.R_celln 0 HO_265002.out ((ji44) : Int) p47 q47
           replace p47:=eq_true p47
           replace q47:=eq_true q47
           have HP51:=Kd.R_putg HO_265002.out ((ji44) : Int) 1
           go_wp2_with (((with_reducible refine gate_store (t:=2) (p:=68) rfl ?_);refine store_event (t:=2) (p:=68) (v:=?vo_w52) (w1:=(wr.setCell ⟨go47,((ji44) : Int).toNat,none⟩ (.int .i64 1))) ?hg ?ho ?hn ?hr ?_;(case ho=>rfl);(case hg=>rfl);(case hn=>rfl);(case hr=>(go_simp;done));intro w52 hw;have hg : wr.grownBy w52 (some go47):=(by rw [hw];exact HP51.2);have hp_ : Kd.R (Kd.int .i64) 2 w52 w.heap.size (fun _=>True) (.slice (some ⟨go47,0,none⟩) x265002_3.length co47) y267:=(by rw [hw,Ny267.out];exact HP51.1);clear HP51;replace BK255:=Aside0.mk (blk_grown (g:=gb255) (o:=.cells #[.int .i64 a0_0,.int .i64 a0_1,.slice A0_2 l0_2.length c0_2] 27 (0,0)) BK255.out hg (Kd.R_ne HO_265002.out BK255.out (by decide)));replace BK256:=Aside0.mk (blk_grown (g:=gb256) (o:=.cells #[.int .i64 0,.int .i64 0,.int .i64 0,.slice none 0 0] 32 (0,0)) BK256.out hg (Kd.R_ne HO_265002.out BK256.out (by decide)));replace BK264:=Aside0.mk (blk_grown (g:=gb264) (o:=.cells #[.int .i64 t259,.int .i64 t260,.slice (some ⟨go47,0,none⟩) x265002_3.length co47] 27 (0,0)) BK264.out hg (Kd.R_ne HO_265002.out BK264.out (by decide)));replace HO_265002:=Aside0.mk (hp_);replace HB:=Aside0.mk ((by rw [hw];exact below_set (HB.out) GB47.out : Below w.heap.size w w52));clear hg hw hp_))
           go_roundg k3
           case measure=>have:=HJ1.out;have:=HK2.out;have:=HK3.out;omega
           case rel=>exact ⟨(wrap64 (x5_2 + 1)),(y267),(.slice (some ⟨go47,0,none⟩) x265002_3.length co47),(by rfl),H',⟨by have:=HJ1.out;have:=HK2.out;have:=HK3.out;omega⟩,⟨by exact HO_265002.out⟩,⟨by exact BK255.out⟩,⟨by exact BK256.out⟩,⟨by exact BK264.out⟩,⟨HB.out⟩⟩
       ·rw [if_neg c34] at H
        have c34b0:=decide_eq_false c34
        clear c34
        have H':=Aside0.mk H
        clear H
        go_wp2
        go_loopg [7] k2 (fun kq v7 w'=>∃ (x7_3 : Int) (x265002_3 : List Int) (u265002 : Value),v7 = .int .i64 x7_3 ∧ Aside0 (spec_MatInv.l2 kq a0_0 x7_3 t259 t260 x265002_3 = some (r1,r2,r3,r4)) ∧ Aside0 (kq ≤ k2) ∧ Aside0 (Kd.R (Kd.int .i64) 2 w' w.heap.size (fun _=>True) u265002 x265002_3) ∧ Aside0 (w'.heap[gb255]? = some (.cells #[.int .i64 a0_0,.int .i64 a0_1,(.slice A0_2 l0_2.length c0_2)] 27 (0,0))) ∧ Aside0 (w'.heap[gb256]? = some (.cells #[.int .i64 0,.int .i64 0,.int .i64 0,(.slice none 0 0)] 32 (0,0))) ∧ Aside0 (w'.heap[gb264]? = some (.cells #[.int .i64 t259,.int .i64 t260,u265002] 27 (0,0))) ∧ Aside0 (Below w.heap.size w w'))
        case atStart=>exact ⟨(0),(x265002_2),(u265002),(by rfl),H',⟨Nat.le_refl _⟩,⟨by exact HO_265002.out⟩,⟨by exact BK255.out⟩,⟨by exact BK256.out⟩,⟨by exact BK264.out⟩,⟨HB.out⟩⟩
        case round=>
         clear H'
         (try clear c34b0)
         obtain ⟨x7_3,x265002_3,u265002,rfl,HA,HK3,HO_265002,BK255,BK256,BK264,HB⟩:=hrel
         cases gk with
         | zero=>exact absurd HA.out (by simp [spec_MatInv.l2])
         | succ k3=>
          have H:=HA.out
          clear HA
          simp only [spec_MatInv.l2] at H
          by_cases c53 : x7_3 < a0_0
          ·rw [if_pos c53] at H
           have c53b0:=decide_eq_true c53
           clear c53
           have H':=Aside0.mk H
           clear H
           go_wp2
           go_loopg [8] k3 (fun kq v8 w'=>∃ (x8_4 : Int),v8 = .int .i64 x8_4 ∧ Aside0 (spec_MatInv.l3 kq a0_0 x7_3 x8_4 t259 t260 x265002_3 = some (r1,r2,r3,r4)) ∧ Aside0 (kq ≤ k3) ∧ Aside0 (Kd.R (Kd.int .i64) 2 w' w.heap.size (fun _=>True) u265002 x265002_3) ∧ Aside0 (w'.heap[gb255]? = some (.cells #[.int .i64 a0_0,.int .i64 a0_1,(.slice A0_2 l0_2.length c0_2)] 27 (0,0))) ∧ Aside0 (w'.heap[gb256]? = some (.cells #[.int .i64 0,.int .i64 0,.int .i64 0,(.slice none 0 0)] 32 (0,0))) ∧ Aside0 (w'.heap[gb264]? = some (.cells #[.int .i64 t259,.int .i64 t260,u265002] 27 (0,0))) ∧ Aside0 (Below w.heap.size w w'))
           case atStart=>exact ⟨(x7_3),(by rfl),H',⟨Nat.le_refl _⟩,⟨by exact HO_265002.out⟩,⟨by exact BK255.out⟩,⟨by exact BK256.out⟩,⟨by exact BK264.out⟩,⟨HB.out⟩⟩
           case round=>
            clear H'
            (try clear c53b0)
            obtain ⟨x8_4,rfl,HA,HK4,HO_265002,BK255,BK256,BK264,HB⟩:=hrel
            cases gk with
            | zero=>exact absurd HA.out (by simp [spec_MatInv.l3])
            | succ k4=>
             have H:=HA.out
             clear HA
             simp only [spec_MatInv.l3] at H
             replace H:=Option.bind_eq_some_iff.mp H
             obtain ⟨t268,A540,H⟩:=H
             replace H : (if t268 = 0 then (spec_MatInv.l3 k4 a0_0 x7_3 (wrap64 (x8_4 + 1)) t259 t260 x265002_3) else ((spec_l03Swap.f k4 t259 t260 x265002_3 x7_3 x8_4).bind fun t269=>((spec_l03Clear.f k4 t259 t260 t269 x7_3 x7_3).bind fun t270=>(spec_MatInv.l2 k4 a0_0 (wrap64 (x7_3 + 1)) t259 t260 t270)))) = some (r1,r2,r3,r4):=H
             have A54:=Aside0.mk A540
             clear A540
             by_cases c55 : t268 = 0
             ·rw [if_pos c55] at H
              have c55b0 : (t268 == 0) = true:=beq_iff_eq.mpr c55
              have c55b1 : (t268 != 0) = false:=bne_eq_false_iff_eq.mpr c55
              clear c55
              have H':=Aside0.mk H
              clear H
              have hnb56:=NB264_255.out
              have hnc56:=NB255_264.out
              have hnb57:=NB264_256.out
              have hnc57:=NB256_264.out
              have hcz58_0 : wr.cell? ⟨gb264,0,none⟩ = some (.int .i64 t259):=(blk_cell BK264.out 0).trans rfl
              have hcz58_1 : wr.cell? ⟨gb264,1,none⟩ = some (.int .i64 t260):=(blk_cell BK264.out 1).trans rfl
              have hcz58_2 : wr.cell? ⟨gb264,2,none⟩ = some (u265002):=(blk_cell BK264.out 2).trans rfl
              have hfz58_0:=blk_frozen BK264.out 0
              have hfz58_1:=blk_frozen BK264.out 1
              have hfz58_2:=blk_frozen BK264.out 2
              obtain ⟨Ao59,co59,eo59⟩:=Kd.R_slice HO_265002.out
              subst eo59
              go_wp2_with (((with_reducible refine gate_callee (f:=67) rfl ?_);refine goesL_ (some 78) rfl rfl Try.func67 (by kernel_rfl) rfl #[.agg #[.int .i64 t259,.int .i64 t260,.slice Ao59 x265002_3.length co59],.int .i64 x8_4,.int .i64 x7_3] rfl (by (try simp only [List.map_toArray,List.map_cons,List.map_nil]);rfl) ?_;(with_reducible refine (spec_l03At.calls t259 t260 _ _ x265002_3 x8_4 x7_3 t268 _ ?side1 ?side2 A54.out).mono ?_);(case side1=>exact (Kd.R_reads' HO_265002.out).2.2);(case side2=>exact (Kd.R_reads' HO_265002.out).2.1);rintro e w60 ⟨rfl,hb⟩;refine ⟨_,rfl,?_⟩;replace HO_265002:=Aside0.mk (Kd.R_below HO_265002.out hb);replace BK255:=Aside0.mk (blk_below BK255.out hb);replace BK256:=Aside0.mk (blk_below BK256.out hb);replace BK264:=Aside0.mk (blk_below BK264.out hb);replace HB:=Aside0.mk (below_step HB.out hb);(try clear hb)))
              go_roundg k4
              case measure=>have:=HJ1.out;have:=HK2.out;have:=HK3.out;have:=HK4.out;omega
              case rel=>exact ⟨(wrap64 (x8_4 + 1)),(by rfl),H',⟨by have:=HJ1.out;have:=HK2.out;have:=HK3.out;have:=HK4.out;omega⟩,⟨by exact HO_265002.out⟩,⟨by exact BK255.out⟩,⟨by exact BK256.out⟩,⟨by exact BK264.out⟩,⟨HB.out⟩⟩
             ·rw [if_neg c55] at H
              have c55b0 : (t268 == 0) = false:=beq_eq_false_iff_ne.mpr c55
              have c55b1 : (t268 != 0) = true:=bne_iff_ne.mpr c55
              replace H:=Option.bind_eq_some_iff.mp H
              obtain ⟨t269,A610,H⟩:=H
              replace H : ((spec_l03Clear.f k4 t259 t260 t269 x7_3 x7_3).bind fun t270=>(spec_MatInv.l2 k4 a0_0 (wrap64 (x7_3 + 1)) t259 t260 t270)) = some (r1,r2,r3,r4):=H
              have A61:=Aside0.mk A610
              clear A610
              replace H:=Option.bind_eq_some_iff.mp H
              obtain ⟨t270,A620,H⟩:=H
              replace H : (spec_MatInv.l2 k4 a0_0 (wrap64 (x7_3 + 1)) t259 t260 t270) = some (r1,r2,r3,r4):=H
              have A62:=Aside0.mk A620
              clear A620
              have H':=Aside0.mk H
              clear H
              have hnb63:=NB264_255.out
              have hnc63:=NB255_264.out
              have hnb64:=NB264_256.out
              have hnc64:=NB256_264.out
              have hcz65_0 : wr.cell? ⟨gb264,0,none⟩ = some (.int .i64 t259):=(blk_cell BK264.out 0).trans rfl
              have hcz65_1 : wr.cell? ⟨gb264,1,none⟩ = some (.int .i64 t260):=(blk_cell BK264.out 1).trans rfl
              have hcz65_2 : wr.cell? ⟨gb264,2,none⟩ = some (u265002):=(blk_cell BK264.out 2).trans rfl
              have hfz65_0:=blk_frozen BK264.out 0
              have hfz65_1:=blk_frozen BK264.out 1
              have hfz65_2:=blk_frozen BK264.out 2
              obtain ⟨Ao66,co66,eo66⟩:=Kd.R_slice HO_265002.out
              subst eo66
              go_wp2_with (first|((with_reducible refine gate_callee (f:=67) rfl ?_);refine goesL_ (some 78) rfl rfl Try.func67 (by kernel_rfl) rfl #[.agg #[.int .i64 t259,.int .i64 t260,.slice Ao66 x265002_3.length co66],.int .i64 x8_4,.int .i64 x7_3] rfl (by (try simp only [List.map_toArray,List.map_cons,List.map_nil]);rfl) ?_;(with_reducible refine (spec_l03At.calls t259 t260 _ _ x265002_3 x8_4 x7_3 t268 _ ?side1 ?side2 A54.out).mono ?_);(case side1=>exact (Kd.R_reads' HO_265002.out).2.2);(case side2=>exact (Kd.R_reads' HO_265002.out).2.1);rintro e w67 ⟨rfl,hb⟩;refine ⟨_,rfl,?_⟩;replace HO_265002:=Aside0.mk (Kd.R_below HO_265002.out hb);replace BK255:=Aside0.mk (blk_below BK255.out hb);replace BK256:=Aside0.mk (blk_below BK256.out hb);replace BK264:=Aside0.mk (blk_below BK264.out hb);replace HB:=Aside0.mk (below_step HB.out hb);(try clear hb);have hcz68_0 : w67.cell? ⟨gb264,0,none⟩ = some (.int .i64 t259):=(blk_cell BK264.out 0).trans rfl;have hcz68_1 : w67.cell? ⟨gb264,1,none⟩ = some (.int .i64 t260):=(blk_cell BK264.out 1).trans rfl;have hcz68_2 : w67.cell? ⟨gb264,2,none⟩ = some (.slice Ao66 x265002_3.length co66):=(blk_cell BK264.out 2).trans rfl;have hfz68_0:=blk_frozen BK264.out 0;have hfz68_1:=blk_frozen BK264.out 1;have hfz68_2:=blk_frozen BK264.out 2)|((with_reducible refine gate_callee (f:=68) rfl ?_);refine goesL_ (some 85) rfl rfl Try.func68 (by kernel_rfl) rfl #[.agg #[.int .i64 t259,.int .i64 t260,.slice Ao66 x265002_3.length co66],.int .i64 x7_3,.int .i64 x8_4] rfl (by (try simp only [List.map_toArray,List.map_cons,List.map_nil]);rfl) ?_;(with_reducible refine (spec_l03Swap.calls k4 t259 t260 (fun k_=>some k_ = (.slice Ao66 x265002_3.length co66 : Value).ownBlock) (.slice Ao66 x265002_3.length co66) x265002_3 x7_3 x8_4 t269 w _ ?side1 ?side2 A61.out).mono ?_);(case side1=>repeat ((with_reducible exact HB.out)));(case side2=>exact Kd.R_tight rfl HO_265002.out);rintro e w69 ⟨rfl,hy0,hb,hkp⟩;refine ⟨_,rfl,?_⟩;replace BK255:=Aside0.mk (blk_kept BK255.out hkp (fun hs_=>(fun e_=>(Kd.R_ne HO_265002.out BK255.out (by decide)) e_) hs_));replace BK256:=Aside0.mk (blk_kept BK256.out hkp (fun hs_=>(fun e_=>(Kd.R_ne HO_265002.out BK256.out (by decide)) e_) hs_));replace BK264:=Aside0.mk (blk_kept BK264.out hkp (fun hs_=>(fun e_=>(Kd.R_ne HO_265002.out BK264.out (by decide)) e_) hs_));replace HO_265002:=Aside0.mk (Kd.R_reok rfl hy0 (fun k_ e_=>HO_265002.out.1 k_ e_));replace HB:=Aside0.mk (hb);(try clear hb);(try clear hkp);(try clear hy0);have hcz70_0 : w69.cell? ⟨gb264,0,none⟩ = some (.int .i64 t259):=(blk_cell BK264.out 0).trans rfl;have hcz70_1 : w69.cell? ⟨gb264,1,none⟩ = some (.int .i64 t260):=(blk_cell BK264.out 1).trans rfl;have hcz70_2 : w69.cell? ⟨gb264,2,none⟩ = some (.slice Ao66 x265002_3.length co66):=(blk_cell BK264.out 2).trans rfl;have hfz70_0:=blk_frozen BK264.out 0;have hfz70_1:=blk_frozen BK264.out 1;have hfz70_2:=blk_frozen BK264.out 2)|((with_reducible refine gate_callee (f:=69) rfl ?_);refine goesL_ (some 89) rfl rfl Try.func69 (by kernel_rfl) rfl #[.agg #[.int .i64 t259,.int .i64 t260,.slice Ao66 x265002_3.length co66],.int .i64 x7_3,.int .i64 x7_3] rfl (by (try simp only [List.map_toArray,List.map_cons,List.map_nil]);rfl) ?_;(with_reducible refine (spec_l03Clear.calls k4 t259 t260 (fun k_=>some k_ = (.slice Ao66 x265002_3.length co66 : Value).ownBlock) (.slice Ao66 x265002_3.length co66) t269 x7_3 x7_3 t270 w _ ?side1 ?side2 A62.out).mono ?_);(case side1=>repeat ((with_reducible exact HB.out)));(case side2=>exact Kd.R_tight rfl HO_265002.out);rintro e w71 ⟨rfl,hy0,hb,hkp⟩;refine ⟨_,rfl,?_⟩;replace BK255:=Aside0.mk (blk_kept BK255.out hkp (fun hs_=>(fun e_=>(Kd.R_ne HO_265002.out BK255.out (by decide)) e_) hs_));replace BK256:=Aside0.mk (blk_kept BK256.out hkp (fun hs_=>(fun e_=>(Kd.R_ne HO_265002.out BK256.out (by decide)) e_) hs_));replace BK264:=Aside0.mk (blk_kept BK264.out hkp (fun hs_=>(fun e_=>(Kd.R_ne HO_265002.out BK264.out (by decide)) e_) hs_));replace HO_265002:=Aside0.mk (Kd.R_reok rfl hy0 (fun k_ e_=>HO_265002.out.1 k_ e_));replace HB:=Aside0.mk (hb);(try clear hb);(try clear hkp);(try clear hy0)))
              go_roundg k4
              case measure=>have:=HJ1.out;have:=HK2.out;have:=HK3.out;have:=HK4.out;omega
              case rel=>exact ⟨(wrap64 (x7_3 + 1)),(t270),(.slice Ao66 x265002_3.length co66),(by rfl),H',⟨by have:=HJ1.out;have:=HK2.out;have:=HK3.out;have:=HK4.out;omega⟩,⟨by exact HO_265002.out⟩,⟨by exact BK255.out⟩,⟨by exact BK256.out⟩,⟨by exact BK264.out⟩,⟨HB.out⟩⟩
          ·rw [if_neg c53] at H
           have c53b0:=decide_eq_false c53
           clear c53
           replace H:=Option.bind_eq_some_iff.mp H
           obtain ⟨⟨t271,t272,t273⟩,A720,H⟩:=H
           dsimp only at H
           have A72:=Aside0.mk A720
           clear A720
           have H':=Aside0.mk H
           clear H
           go_wp2_with (first|((with_reducible refine gate_callee (f:=66) rfl ?_);refine goesL_ (some 92) rfl rfl Try.func66 (by kernel_rfl) rfl #[.int .i64 a0_0,.int .i64 a0_0] rfl (by (try simp only [List.map_toArray,List.map_cons,List.map_nil]);rfl) ?_;(with_reducible refine (spec_l03New.calls a0_0 a0_0 t271 t272 t273 _ A72.out).mono ?_);rintro e w73 ⟨v274,rfl,ho0,hb⟩;refine ⟨_,rfl,?_⟩;have HO275:=Aside0.mk (Kd.R_lower (Kd.R_new' ho0 (Kd.R_lt HO_265002.out)) (below_size HB.out));replace HO_265002:=Aside0.mk (Kd.R_elder' HO_265002.out (Kd.R_base ho0) hb);replace BK255:=Aside0.mk (blk_below BK255.out hb);replace BK256:=Aside0.mk (blk_below BK256.out hb);replace BK264:=Aside0.mk (blk_below BK264.out hb);replace HB:=Aside0.mk (below_step HB.out hb);(try clear hb);(try clear ho0))|((with_reducible refine gate_dst (N:=9) rfl ?_);refine box_event ?hg (N:=9) ?hd (cs:=#[.int .i64 0,.int .i64 0,.slice none 0 0]) (t:=27) ?hr ?_;(case hd=>rfl);(case hg=>rfl);(case hr=>(go_simp;done));intro gb276 hg w74 hbox hb;replace HO_265002:=Aside0.mk (Kd.R_below HO_265002.out hb);replace HO275:=Aside0.mk (Kd.R_below HO275.out hb);have BK276:=Aside0.mk (hbox);have GW276:=Aside0.mk ((by rw [hg];exact (below_size HB.out) : w.heap.size ≤ gb276));have GE276:=Aside0.mk ((by rw [hg];exact (below_size HB.out) : w.heap.size ≤ gb276));replace HB:=Aside0.mk (below_step HB.out hb);have NB255_276:=Aside0.mk ((by rw [hg];exact Nat.ne_of_lt (blk_lt BK255.out) : gb255 ≠ gb276));have NB276_255:=Aside0.mk ((by rw [hg];exact Nat.ne_of_gt (blk_lt BK255.out) : gb276 ≠ gb255));replace BK255:=Aside0.mk (blk_below BK255.out hb);have NB256_276:=Aside0.mk ((by rw [hg];exact Nat.ne_of_lt (blk_lt BK256.out) : gb256 ≠ gb276));have NB276_256:=Aside0.mk ((by rw [hg];exact Nat.ne_of_gt (blk_lt BK256.out) : gb276 ≠ gb256));replace BK256:=Aside0.mk (blk_below BK256.out hb);have NB264_276:=Aside0.mk ((by rw [hg];exact Nat.ne_of_lt (blk_lt BK264.out) : gb264 ≠ gb276));have NB276_264:=Aside0.mk ((by rw [hg];exact Nat.ne_of_gt (blk_lt BK264.out) : gb276 ≠ gb264));replace BK264:=Aside0.mk (blk_below BK264.out hb);clear hb hbox hg;have hnb75:=NB276_255.out;have hnc75:=NB255_276.out;have hnb76:=NB276_256.out;have hnc76:=NB256_276.out;have hnb77:=NB276_264.out;have hnc77:=NB264_276.out;have hcz78_0 : w74.cell? ⟨gb276,0,none⟩ = some (.int .i64 0):=(blk_cell BK276.out 0).trans rfl;have hcz78_1 : w74.cell? ⟨gb276,1,none⟩ = some (.int .i64 0):=(blk_cell BK276.out 1).trans rfl;have hcz78_2 : w74.cell? ⟨gb276,2,none⟩ = some (.slice none 0 0):=(blk_cell BK276.out 2).trans rfl;have hfz78_0:=blk_frozen BK276.out 0;have hfz78_1:=blk_frozen BK276.out 1;have hfz78_2:=blk_frozen BK276.out 2;obtain ⟨Ao79,co79,eo79⟩:=Kd.R_slice HO275.out;subst eo79))
           go_loopg [10] k3 (fun kq v10 w'=>∃ (x10_4 : Int) (x265002_4 : List Int) (x277002_4 : List Int) (u265002 : Value) (u277002 : Value),v10 = .int .i64 x10_4 ∧ Aside0 (spec_MatInv.l4 kq a0_0 x10_4 t259 t260 x265002_4 t271 t272 x277002_4 = some (r1,r2,r3,r4)) ∧ Aside0 (kq ≤ k3) ∧ Aside0 (Kd.R (Kd.int .i64) 2 w' w.heap.size (fun k_=>some k_ ≠ (u277002 : Value).ownBlock) u265002 x265002_4) ∧ Aside0 (Kd.R (Kd.int .i64) 2 w' w.heap.size (fun k_=>some k_ ≠ (u265002 : Value).ownBlock) u277002 x277002_4) ∧ Aside0 (w'.heap[gb255]? = some (.cells #[.int .i64 a0_0,.int .i64 a0_1,(.slice A0_2 l0_2.length c0_2)] 27 (0,0))) ∧ Aside0 (w'.heap[gb256]? = some (.cells #[.int .i64 0,.int .i64 0,.int .i64 0,(.slice none 0 0)] 32 (0,0))) ∧ Aside0 (w'.heap[gb264]? = some (.cells #[.int .i64 t259,.int .i64 t260,u265002] 27 (0,0))) ∧ Aside0 (w'.heap[gb276]? = some (.cells #[.int .i64 t271,.int .i64 t272,u277002] 27 (0,0))) ∧ Aside0 (Below w.heap.size w w'))
           case atStart=>exact ⟨(0),(x265002_3),(t273),(u265002),(.slice Ao79 t273.length co79),(by rfl),H',⟨Nat.le_refl _⟩,⟨by exact Kd.R_mono (Kd.R_far (p:=⟨gb276,2,none⟩) (Kd.R_far (p:=⟨gb276,1,none⟩) (Kd.R_far (p:=⟨gb276,0,none⟩) (Kd.R_types HO_265002.out BK276.out (by decide)) (fun _ hk=>hk.2) (.int .i64 t271)) (fun _ hk=>hk.2) (.int .i64 t272)) (fun _ hk=>hk.2) (.slice Ao79 t273.length co79)) (fun _ hk=>hk.1.2)⟩,⟨by exact Kd.R_mono (Kd.R_far (p:=⟨gb276,2,none⟩) (Kd.R_far (p:=⟨gb276,1,none⟩) (Kd.R_far (p:=⟨gb276,0,none⟩) (Kd.R_types HO275.out BK276.out (by decide)) (fun _ hk=>hk.2) (.int .i64 t271)) (fun _ hk=>hk.2) (.int .i64 t272)) (fun _ hk=>hk.2) (.slice Ao79 t273.length co79)) (fun _ hk=>hk.1.2)⟩,⟨by refine blk_far ?_ NB255_276.out _;refine blk_far ?_ NB255_276.out _;refine blk_far ?_ NB255_276.out _;exact BK255.out⟩,⟨by refine blk_far ?_ NB256_276.out _;refine blk_far ?_ NB256_276.out _;refine blk_far ?_ NB256_276.out _;exact BK256.out⟩,⟨by refine blk_far ?_ NB264_276.out _;refine blk_far ?_ NB264_276.out _;refine blk_far ?_ NB264_276.out _;exact BK264.out⟩,⟨by refine blk_put (cs:=#[.int .i64 t271,.int .i64 t272,.slice none 0 0]) ?_ 2 _ rfl;refine blk_put (cs:=#[.int .i64 t271,.int .i64 0,.slice none 0 0]) ?_ 1 _ rfl;refine blk_put (cs:=#[.int .i64 0,.int .i64 0,.slice none 0 0]) ?_ 0 _ rfl;exact BK276.out⟩,⟨by repeat ((with_reducible first|exact HB.out|refine below_set ?_ GE276.out))⟩⟩
           case round=>
            clear H'
            (try clear c53b0);(try clear hcz78_0);(try clear hcz78_1);(try clear hcz78_2);(try clear hfz78_0);(try clear hfz78_1);(try clear hfz78_2)
            obtain ⟨x10_4,x265002_4,x277002_4,u265002,u277002,rfl,HA,HK4,HO_265002,HO_277002,BK255,BK256,BK264,BK276,HB⟩:=hrel
            cases gk with
            | zero=>exact absurd HA.out (by simp [spec_MatInv.l4])
            | succ k4=>
             have H:=HA.out
             clear HA
             simp only [spec_MatInv.l4] at H
             by_cases c80 : x10_4 < a0_0
             ·rw [if_pos c80] at H
              have c80b0:=decide_eq_true c80
              clear c80
              have H':=Aside0.mk H
              clear H
              go_wp2
              go_loopg [11] k4 (fun kq v11 w'=>∃ (x11_5 : Int) (x265002_5 : List Int) (x277002_5 : List Int) (u265002 : Value) (u277002 : Value),v11 = .int .i64 x11_5 ∧ Aside0 (spec_MatInv.l5 kq a0_0 x10_4 x11_5 t259 t260 x265002_5 t271 t272 x277002_5 = some (r1,r2,r3,r4)) ∧ Aside0 (kq ≤ k4) ∧ Aside0 (Kd.R (Kd.int .i64) 2 w' w.heap.size (fun k_=>some k_ ≠ (u277002 : Value).ownBlock) u265002 x265002_5) ∧ Aside0 (Kd.R (Kd.int .i64) 2 w' w.heap.size (fun k_=>some k_ ≠ (u265002 : Value).ownBlock) u277002 x277002_5) ∧ Aside0 (w'.heap[gb255]? = some (.cells #[.int .i64 a0_0,.int .i64 a0_1,(.slice A0_2 l0_2.length c0_2)] 27 (0,0))) ∧ Aside0 (w'.heap[gb256]? = some (.cells #[.int .i64 0,.int .i64 0,.int .i64 0,(.slice none 0 0)] 32 (0,0))) ∧ Aside0 (w'.heap[gb264]? = some (.cells #[.int .i64 t259,.int .i64 t260,u265002] 27 (0,0))) ∧ Aside0 (w'.heap[gb276]? = some (.cells #[.int .i64 t271,.int .i64 t272,u277002] 27 (0,0))) ∧ Aside0 (Below w.heap.size w w'))
              case atStart=>exact ⟨(0),(x265002_4),(x277002_4),(u265002),(u277002),(by rfl),H',⟨Nat.le_refl _⟩,⟨by exact HO_265002.out⟩,⟨by exact HO_277002.out⟩,⟨by exact BK255.out⟩,⟨by exact BK256.out⟩,⟨by exact BK264.out⟩,⟨by exact BK276.out⟩,⟨HB.out⟩⟩
              case round=>
               clear H'
               (try clear c80b0)
               obtain ⟨x11_5,x265002_5,x277002_5,u265002,u277002,rfl,HA,HK5,HO_265002,HO_277002,BK255,BK256,BK264,BK276,HB⟩:=hrel
               cases gk with
               | zero=>exact absurd HA.out (by simp [spec_MatInv.l5])
               | succ k5=>
                have H:=HA.out
                clear HA
                simp only [spec_MatInv.l5] at H
                by_cases c81 : x11_5 < a0_0
                ·rw [if_pos c81] at H
                 have c81b0:=decide_eq_true c81
                 clear c81
                 replace H:=Option.bind_eq_some_iff.mp H
                 obtain ⟨t277,A820,H⟩:=H
                 replace H : (if 0 ≤ (wrap64 ((wrap64 (x10_4 * a0_0)) + x11_5)) then (if (wrap64 ((wrap64 (x10_4 * a0_0)) + x11_5)) < (x277002_5.length : Int) then (spec_MatInv.l5 k5 a0_0 x10_4 (wrap64 (x11_5 + 1)) t259 t260 x265002_5 t271 t272 (x277002_5.set ((wrap64 ((wrap64 (x10_4 * a0_0)) + x11_5)) : Int).toNat t277)) else (none)) else (none)) = some (r1,r2,r3,r4):=H
                 have A82:=Aside0.mk A820
                 clear A820
                 obtain ⟨ji83,hji83⟩ : ∃ j_ : Int,(wrap64 ((wrap64 (x10_4 * a0_0)) + x11_5)) = j_:=⟨_,rfl⟩
                 replace H : (if 0 ≤ (ji83) then (if (ji83) < (x277002_5.length : Int) then (spec_MatInv.l5 k5 a0_0 x10_4 (wrap64 (x11_5 + 1)) t259 t260 x265002_5 t271 t272 (x277002_5.set ((ji83) : Int).toNat t277)) else (none)) else (none)) = some (r1,r2,r3,r4):=by (rw [hji83] at H;exact H)
                 have hji83w : (IntKind.i64.wrap ((wrap64 (x10_4 * a0_0)) + x11_5)) = ji83:=(i64_w _).trans hji83
                 obtain ⟨c84,H⟩:=nn H
                 have c84b0:=decide_eq_true c84
                 clear c84
                 obtain ⟨c85,H⟩:=nn H
                 have c85b0:=decide_eq_true c85
                 clear c85
                 obtain ⟨y278,hy278⟩ : ∃ y_ : List Int,y_ = (x277002_5.set ((ji83) : Int).toNat t277):=⟨_,rfl⟩
                 rw [← hy278] at H
                 have Ny278:=Aside0.mk hy278
                 clear hy278
                 have H':=Aside0.mk H
                 clear H
                 try go_wp2
                 replace HO_265002:=Aside0.mk (Kd.R_drew HO_265002.out)
                 replace HO_277002:=Aside0.mk (Kd.R_drew HO_277002.out)
                 replace BK255:=Aside0.mk (blk_drew BK255.out)
                 replace BK256:=Aside0.mk (blk_drew BK256.out)
                 replace BK264:=Aside0.mk (blk_drew BK264.out)
                 replace BK276:=Aside0.mk (blk_drew BK276.out)
                 replace HB:=Aside0.mk (below_drew1 HB.out)
                 obtain ⟨Ao88,co88,eo88⟩:=Kd.R_slice HO_265002.out
                 (subst eo88)
                 refine start_ (n:=15) (S:=fun w'=>w'.cell? ⟨gb276,0,none⟩ = some (.int .i64 t271) ∧ w'.cell? ⟨gb276,1,none⟩ = some (.int .i64 t272) ∧ w'.cell? ⟨gb276,2,none⟩ = some (u277002) ∧ w'.cell? ⟨gb264,0,none⟩ = some (.int .i64 t259) ∧ w'.cell? ⟨gb264,1,none⟩ = some (.int .i64 t260) ∧ w'.cell? ⟨gb264,2,none⟩ = some (.slice Ao88 x265002_5.length co88)) (ds:=[14]) #[false,false,false,false,false,false,false,false,false,false,false,false,false,false,false] (by kernel_rfl) rfl rfl ⟨(blk_cell BK276.out 0).trans rfl,(blk_cell BK276.out 1).trans rfl,(blk_cell BK276.out 2).trans rfl,(blk_cell BK264.out 0).trans rfl,(blk_cell BK264.out 1).trans rfl,(blk_cell BK264.out 2).trans rfl⟩ (fun hHeld=>?_);refine with_tabW spec_MatInv.tab30 spec_MatInv.bits30 (fun HT_ HW_=>?_)
                 generalize wr.drew = w87 at HO_265002 HO_277002 BK255 BK256 BK264 BK276 HB hHeld ⊢
                 refine pure_ (i:=0) (N:=some 103) #[true,false,false,false,false,false,false,false,false,false,false,false,false,false,false] rfl rfl (any_of HT_.out (by kernel_rfl)) (fun _ _ _ h=>h) (Or.inl ⟨by rfl,by intro w';go_simp;with_reducible rfl⟩) (by simp only [Act.put,List.setIfInBounds_toArray,List.set_cons_zero,List.set_cons_succ,i64_w,i32_w];rfl) ?_
                 refine pure_ (i:=2) (N:=some 105) #[true,false,true,false,false,false,false,false,false,false,false,false,false,false,false] rfl rfl (any_of HT_.out (by kernel_rfl)) (fun _ _ _ h=>h) (Or.inl ⟨by rfl,by intro w';go_simp;with_reducible rfl⟩) (by simp only [Act.put,List.setIfInBounds_toArray,List.set_cons_zero,List.set_cons_succ,i64_w,i32_w];rfl) ?_
                 refine pure_ (i:=3) (N:=some 106) #[true,false,true,true,false,false,false,false,false,false,false,false,false,false,false] rfl rfl (any_of HT_.out (by kernel_rfl)) (fun _ _ _ h=>h) (Or.inl ⟨by rfl,by intro w';go_simp;with_reducible rfl⟩) (by simp only [Act.put,List.setIfInBounds_toArray,List.set_cons_zero,List.set_cons_succ,i64_w,i32_w];rfl) ?_
                 refine pure_ (i:=4) (N:=some 107) #[true,false,true,true,true,false,false,false,false,false,false,false,false,false,false] rfl rfl (any_of HT_.out (by kernel_rfl)) (fun _ _ _ h=>h) (Or.inl ⟨by rfl,by intro w';go_simp;with_reducible rfl⟩) (by simp only [Act.put,List.setIfInBounds_toArray,List.set_cons_zero,List.set_cons_succ,i64_w,i32_w];rfl) ?_
                 refine pure_ (i:=5) (N:=some 108) #[true,false,true,true,true,true,false,false,false,false,false,false,false,false,false] rfl rfl (any_of HT_.out (by kernel_rfl)) (fun _ _ _ h=>h) (Or.inl ⟨by rfl,by intro w';go_simp;with_reducible rfl⟩) (by simp only [Act.put,List.setIfInBounds_toArray,List.set_cons_zero,List.set_cons_succ,i64_w,i32_w];rfl) ?_
                 refine pure_ (i:=6) (N:=some 109) #[true,false,true,true,true,true,true,false,false,false,false,false,false,false,false] rfl rfl (any_of HT_.out (by kernel_rfl)) (fun _ _ _ h=>h) (Or.inl ⟨by rfl,by intro w';go_simp;with_reducible rfl⟩) (by simp only [Act.put,List.setIfInBounds_toArray,List.set_cons_zero,List.set_cons_succ,i64_w,i32_w];rfl) ?_
                 refine pure_ (i:=8) (N:=some 111) #[true,false,true,true,true,true,true,false,true,false,false,false,false,false,false] rfl rfl (any_of HT_.out (by kernel_rfl)) (fun _ _ _ h=>h) (Or.inl ⟨by rfl,by intro w';go_simp;with_reducible rfl⟩) (by simp only [Act.put,List.setIfInBounds_toArray,List.set_cons_zero,List.set_cons_succ,i64_w,i32_w];rfl) ?_
                 refine pure_ (i:=9) (N:=some 112) #[true,false,true,true,true,true,true,false,true,true,false,false,false,false,false] rfl rfl (any_of HT_.out (by kernel_rfl)) (fun _ _ _ h=>h) (Or.inl ⟨by rfl,by intro w';go_simp;with_reducible rfl⟩) (by simp only [Act.put,List.setIfInBounds_toArray,List.set_cons_zero,List.set_cons_succ,i64_w,i32_w];rfl) ?_
                 refine pure_ (i:=10) (N:=some 113) #[true,false,true,true,true,true,true,false,true,true,true,false,false,false,false] rfl rfl (any_of HT_.out (by kernel_rfl)) (fun _ _ _ h=>h) (Or.inl ⟨by rfl,by intro w';go_simp;with_reducible rfl⟩) (by simp only [Act.put,List.setIfInBounds_toArray,List.set_cons_zero,List.set_cons_succ,i64_w,i32_w];rfl) ?_
                 refine pure_ (i:=11) (N:=some 114) #[true,false,true,true,true,true,true,false,true,true,true,true,false,false,false] rfl rfl (any_of HT_.out (by kernel_rfl)) (fun _ _ _ h=>h) (Or.inl ⟨by rfl,by intro w';go_simp;with_reducible rfl⟩) (by simp only [Act.put,List.setIfInBounds_toArray,List.set_cons_zero,List.set_cons_succ,i64_w,i32_w];rfl) ?_
                 refine take_ (i:=1) (N:=some 104) #[true,true,true,true,true,true,true,false,true,true,true,true,false,false,false] rfl rfl (take_ofW HT_.out HW_.out (by kernel_rfl)) (fun _ _ _ h=>h) (Or.inl ⟨by rfl,by rintro w' ⟨s0,s1,s2,s3,s4,s5⟩;go_simp;with_reducible rfl⟩) hHeld (by simp only [Act.put,List.setIfInBounds_toArray,List.set_cons_zero,List.set_cons_succ,i64_w,i32_w];rfl) ?_
                 refine take_ (i:=7) (N:=some 110) #[true,true,true,true,true,true,true,true,true,true,true,true,false,false,false] rfl rfl (take_ofW HT_.out HW_.out (by kernel_rfl)) (fun _ _ _ h=>h) (Or.inl ⟨by rfl,by rintro w' ⟨s0,s1,s2,s3,s4,s5⟩;go_simp;with_reducible rfl⟩) hHeld (by simp only [Act.put,List.setIfInBounds_toArray,List.set_cons_zero,List.set_cons_succ,i64_w,i32_w];rfl) ?_
                 refine one_ (i:=12) (N:=some 115) #[true,true,true,true,true,true,true,true,true,true,true,true,true,false,false] rfl rfl (one_of HT_.out (by kernel_rfl)) (by decide) (fun K hK=>?_)
                 refine goes_ Try.func67 (by kernel_rfl) rfl #[.agg #[.int .i64 t259,.int .i64 t260,.slice Ao88 x265002_5.length co88],.int .i64 x10_4,.int .i64 (wrap64 (a0_0 + x11_5))] (by rfl) rfl rfl (by (try simp only [List.map_toArray,List.map_cons,List.map_nil]);rfl) ?_
                 with_reducible refine (spec_l03At.calls t259 t260 _ _ x265002_5 x10_4 (wrap64 (a0_0 + x11_5)) t277 _ ?side1 ?side2 A82.out).mono ?_
                 (case side1=>exact (Kd.R_reads' HO_265002.out).2.2)
                 (case side2=>exact (Kd.R_reads' HO_265002.out).2.1)
                 rintro e w89 ⟨rfl,hb⟩
                 refine ⟨_,rfl,?_⟩
                 replace HO_265002:=Aside0.mk (Kd.R_below HO_265002.out hb)
                 replace HO_277002:=Aside0.mk (Kd.R_below HO_277002.out hb)
                 replace BK255:=Aside0.mk (blk_below BK255.out hb)
                 replace BK256:=Aside0.mk (blk_below BK256.out hb)
                 replace BK264:=Aside0.mk (blk_below BK264.out hb)
                 replace BK276:=Aside0.mk (blk_below BK276.out hb)
                 replace HB:=Aside0.mk (below_step HB.out hb)
                 (try clear hb)
                 have p86 : 0 ≤ ((ji83) : Int):=of_decide_eq_true (by with_reducible assumption)
                 have q86 : ((ji83) : Int) < ((x277002_5.length : Int) : Int):=of_decide_eq_true (by with_reducible assumption)
                 obtain ⟨go86,co86,eo86,gb86,gl86,cl86,HG86⟩:=Kd.R_form HO_277002.out (by omega)
                 (cases eo86)
                 have GB86:=Aside0.mk gb86
                 have GG86:=Aside0.mk HG86
                 clear gb86 gl86 HG86
                 obtain ⟨hx86_0,hf86_0⟩:=Kd.R_celln 0 HO_277002.out ((ji83) : Int) p86 q86
                 replace p86:=eq_true p86
                 replace q86:=eq_true q86
                 have HP90:=Kd.R_putn HO_277002.out ((ji83) : Int) t277
                 rw [← Ny278.out] at HP90
                 have HQ90:=Aside0.mk HP90
                 clear HP90
                 refine hK.out _ _ ⟨(blk_cell BK276.out 0).trans rfl,(blk_cell BK276.out 1).trans rfl,(blk_cell BK276.out 2).trans rfl,(blk_cell BK264.out 0).trans rfl,(blk_cell BK264.out 1).trans rfl,(blk_cell BK264.out 2).trans rfl⟩ (fun hHeld=>?_)
                 clear hK K
                 refine norm_ (a':=?_) ?_ ?_
                 rotate_left
                 ·show Act.put _ (some 115) _ = _
                  simp only [Act.put,List.setIfInBounds_toArray,List.set_cons_zero,List.set_cons_succ,i64_w,i32_w]
                  rfl
                 refine pure_ (i:=13) (N:=some 116) #[true,true,true,true,true,true,true,true,true,true,true,true,true,true,false] rfl rfl (any_of HT_.out (by kernel_rfl)) (fun _ _ _ h=>h) (Or.inl ⟨by rfl,by intro w';go_simp;with_reducible rfl⟩) (by simp only [Act.put,List.setIfInBounds_toArray,List.set_cons_zero,List.set_cons_succ,i64_w,i32_w];rfl) ?_
                 refine last_ (i:=14) (N:=none) #[true,true,true,true,true,true,true,true,true,true,true,true,true,true,true] rfl rfl (one_of HT_.out (by kernel_rfl)) (by decide) (fun K hK=>?_)
                 refine skip_ (w1:=?_) (by rfl) rfl ?_ ?_
                 rotate_left
                 ·go_simp
                  rfl
                 refine hK.out _ _ ?_
                 clear hK K
                 refine done_ (done_of HT_.out (by kernel_rfl)) ?_
                 try go_wp2
                 go_roundg k5
                 case measure=>have:=HJ1.out;have:=HK2.out;have:=HK3.out;have:=HK4.out;have:=HK5.out;omega
                 case rel=>exact ⟨(wrap64 (x11_5 + 1)),(x265002_5),(y278),(.slice Ao88 x265002_5.length co88),(.slice (some ⟨go86,0,none⟩) x277002_5.length co86),(by rfl),H',⟨by have:=HJ1.out;have:=HK2.out;have:=HK3.out;have:=HK4.out;have:=HK5.out;omega⟩,⟨by exact Kd.R_mono (Kd.R_far (p:=⟨go86,((ji83) : Int).toNat,none⟩) (Kd.R_mono HO_265002.out (fun k_ hk=>(⟨hk,fun e_=>hk (by rw [e_];rfl)⟩ : _ ∧ k_ ≠ go86))) (fun _ hk=>hk.2) (.int .i64 t277)) (fun _ hk=>hk.1)⟩,⟨by exact HQ90.out⟩,⟨by refine blk_far ?_ (by have h_:=Kd.R_ne HO_277002.out BK255.out (by decide);intro e_;exact h_ (by rw [e_];rfl)) _;exact BK255.out⟩,⟨by refine blk_far ?_ (by have h_:=Kd.R_ne HO_277002.out BK256.out (by decide);intro e_;exact h_ (by rw [e_];rfl)) _;exact BK256.out⟩,⟨by refine blk_far ?_ (by have h_:=Kd.R_ne HO_277002.out BK264.out (by decide);intro e_;exact h_ (by rw [e_];rfl)) _;exact BK264.out⟩,⟨by refine blk_far ?_ (by have h_:=Kd.R_ne HO_277002.out BK276.out (by decide);intro e_;exact h_ (by rw [e_];rfl)) _;exact BK276.out⟩,⟨by repeat ((with_reducible first|exact HB.out|refine below_set ?_ GB86.out))⟩⟩
                ·rw [if_neg c81] at H
                 have c81b0:=decide_eq_false c81
                 clear c81
                 have H':=Aside0.mk H
                 clear H
                 go_wp2
                 go_roundg k5
                 case measure=>have:=HJ1.out;have:=HK2.out;have:=HK3.out;have:=HK4.out;have:=HK5.out;omega
                 case rel=>exact ⟨(wrap64 (x10_4 + 1)),(x265002_5),(x277002_5),(u265002),(u277002),(by rfl),H',⟨by have:=HJ1.out;have:=HK2.out;have:=HK3.out;have:=HK4.out;have:=HK5.out;omega⟩,⟨by exact HO_265002.out⟩,⟨by exact HO_277002.out⟩,⟨by exact BK255.out⟩,⟨by exact BK256.out⟩,⟨by exact BK264.out⟩,⟨by exact BK276.out⟩,⟨HB.out⟩⟩
             ·rw [if_neg c80] at H
              have c80b0:=decide_eq_false c80
              clear c80
              simp only [Option.some.injEq,Prod.mk.injEq] at H
              obtain ⟨rfl,rfl,rfl,rfl⟩:=H
              have hnb91:=NB276_255.out
              have hnc91:=NB255_276.out
              have hnb92:=NB276_256.out
              have hnc92:=NB256_276.out
              have hnb93:=NB276_264.out
              have hnc93:=NB264_276.out
              have hcz94_0 : wr.cell? ⟨gb276,0,none⟩ = some (.int .i64 t271):=(blk_cell BK276.out 0).trans rfl
              have hcz94_1 : wr.cell? ⟨gb276,1,none⟩ = some (.int .i64 t272):=(blk_cell BK276.out 1).trans rfl
              have hcz94_2 : wr.cell? ⟨gb276,2,none⟩ = some (u277002):=(blk_cell BK276.out 2).trans rfl
              have hfz94_0:=blk_frozen BK276.out 0
              have hfz94_1:=blk_frozen BK276.out 1
              have hfz94_2:=blk_frozen BK276.out 2
              obtain ⟨Ao95,co95,eo95⟩:=Kd.R_slice HO_277002.out
              subst eo95
              have hnb96:=NB256_255.out
              have hnc96:=NB255_256.out
              have hnb97:=NB256_264.out
              have hnc97:=NB264_256.out
              have hcz98_0 : wr.cell? ⟨gb256,0,none⟩ = some (.int .i64 0):=(blk_cell BK256.out 0).trans rfl
              have hcz98_1 : wr.cell? ⟨gb256,1,none⟩ = some (.int .i64 0):=(blk_cell BK256.out 1).trans rfl
              have hcz98_2 : wr.cell? ⟨gb256,2,none⟩ = some (.int .i64 0):=(blk_cell BK256.out 2).trans rfl
              have hcz98_3 : wr.cell? ⟨gb256,3,none⟩ = some (.slice none 0 0):=(blk_cell BK256.out 3).trans rfl
              have hfz98_0:=blk_frozen BK256.out 0
              have hfz98_1:=blk_frozen BK256.out 1
              have hfz98_2:=blk_frozen BK256.out 2
              have hfz98_3:=blk_frozen BK256.out 3
              go_wp2
              refine bodyPost_ret (results_cell_row rfl _ _ gb256 32 #[.int .i64 0,.int .i64 t271,.int .i64 t272,.slice Ao95 x277002_4.length co95] (0,0) _ rfl (by refine blk_put (cs:=#[.int .i64 0,.int .i64 t271,.int .i64 t272,.slice none 0 0]) ?_ 3 _ rfl;refine blk_put (cs:=#[.int .i64 0,.int .i64 t271,.int .i64 0,.slice none 0 0]) ?_ 2 _ rfl;refine blk_put (cs:=#[.int .i64 0,.int .i64 0,.int .i64 0,.slice none 0 0]) ?_ 1 _ rfl;refine blk_put (cs:=#[.int .i64 0,.int .i64 0,.int .i64 0,.slice none 0 0]) ?_ 0 _ rfl;exact BK256.out) Try.underlying32 rfl (by kernel_rfl)) rfl ?_
              exact ⟨_,by rfl,by exact Kd.R_mono (Kd.R_far (p:=⟨gb256,3,none⟩) (Kd.R_far (p:=⟨gb256,2,none⟩) (Kd.R_far (p:=⟨gb256,1,none⟩) (Kd.R_far (p:=⟨gb256,0,none⟩) (Kd.R_types HO_277002.out BK256.out (by decide)) (fun _ hk=>hk.2) (.int .i64 0)) (fun _ hk=>hk.2) (.int .i64 t271)) (fun _ hk=>hk.2) (.int .i64 t272)) (fun _ hk=>hk.2) (.slice Ao95 x277002_4.length co95)) (fun _ hk=>trivial),by repeat ((with_reducible first|exact HB.out|refine below_set ?_ GE256.out))⟩

end Go.Proofs.Ytffhbpepppodeaa.PFnExactDecodeShards
