import Derived.Test.YtffhbpepppodeaaPFnRepairedx0
import Derived.Test.YtffhbpepppodeaaPFnRepairedx5
import Derived.Test.YtffhbpepppodeaaPFnRepairedx10
namespace Go.Proofs.Ytffhbpepppodeaa.PFnRepaired
private theorem nn {α : Type} {c : Prop} [Decidable c] {a : Option α} {r : α} (h : (if c then a else none) = some r) : c ∧ a = some r:=by
 split at h
 ·exact ⟨‹c›,h⟩
 ·cases h
open Go.RowKit Go.Proofs.YtffhbpepppodeaaW.PrintWords Go.Proofs.YtffhbpepppodeaaW.PrintLast Go.Proofs.YtffhbpepppodeaaW.PrintMore
attribute [local go_sem] max2_int min2_int max_two min_two max_three min_three max_four min_four   -- for this text's walks alone
set_option linter.unusedVariables false
set_option linter.unusedSimpArgs false

/-! ### spec_l04Take: function 99 -/
mutual
def spec_l04Take.l0 : Nat → List Bool → List Int → List Int → Int → Int → Int → Int → Option (List Int)
 | 0,_,_,_,_,_,_,_=>none
 | k + 1,x1,x5,x6,x7,x226000,x226001,x226002=>if x7 < (x1.length : Int) then (spec_l04Take.j1 k x1 x5 x6 x7 (decide ((x5.length : Int) < x226000)) x226000 x226001 x226002) else (spec_l04Take.j1 k x1 x5 x6 x7 false x226000 x226001 x226002)
def spec_l04Take.j1 : Nat → List Bool → List Int → List Int → Int → Bool → Int → Int → Int → Option (List Int)
 | 0,_,_,_,_,_,_,_,_=>none
 | k + 1,x1,x5,x6,x7,x22,x226000,x226001,x226002=>if x22 = true then (if 0 ≤ x7 then (if x7 < (x1.length : Int) then (if rdOf false x1 x7 = true then ((some (([] : List Int) : List Int)).bind fun y236=>(if y236.length + x6.length < 17592186044416 then ((some (y236 ++ x6 : List Int)).bind fun y239=>((spec_CodeRow.f k x226000 x226001 x226002 x7).bind fun t242=>(if y239.length + t242.length < 17592186044416 then ((some (y239 ++ t242 : List Int)).bind fun y245=>((spec_l03Rank.f k (wrap64 ((x5.length : Int) + 1)) x226000 y245).bind fun t249=>(if t249 = (wrap64 ((x5.length : Int) + 1)) then (if x5.length < 17592186044416 then (spec_l04Take.l0 k x1 (x5 ++ [x7]) y245 (wrap64 (x7 + 1)) x226000 x226001 x226002) else (none)) else (spec_l04Take.l0 k x1 x5 x6 (wrap64 (x7 + 1)) x226000 x226001 x226002)))) else (none)))) else (none))) else (spec_l04Take.l0 k x1 x5 x6 (wrap64 (x7 + 1)) x226000 x226001 x226002)) else (none)) else (none)) else (if (x5.length : Int) < x226000 then (some (([] : List Int))) else (some x5))
end
def spec_l04Take.f (k : Nat) (a0_0 : Int) (a0_1 : Int) (a0_2 : Int) (l1 : List Bool) : Option (List Int):=spec_l04Take.l0 k l1 (([] : List Int)) (([] : List Int)) 0 a0_0 a0_1 a0_2
def spec_l04Take.T7 : Bool × List (List Nat × List Nat):=(true,[([],[]),([],[]),([0,1],[0,1]),([],[]),([],[]),([3,4,2],[3,4]),([2,5,5],[2,5]),([6,6,0,1,2,3,4,5,6],[6])])
def spec_l04Take.B7 : List Nat:=[0,0,3,0,0,31,63,127]
theorem spec_l04Take.tab7 : rtab .any (opsOf Try.f99 7) = spec_l04Take.T7:=by kernel_rfl
theorem spec_l04Take.bits7 : waitsOk spec_l04Take.T7.2 spec_l04Take.B7 = true:=by kernel_rfl
set_option maxHeartbeats 8000000 in
set_option maxRecDepth 100000 in
theorem spec_l04Take.calls (k : Nat) (a0_0 : Int) (a0_1 : Int) (a0_2 : Int) (A1 : Option Addr) (c1 : Nat) (l1 : List Bool) (r : List Int) (w : World) (hr1 : Kd.C Kd.bool w A1 l1.length l1) (hc1 : l1.length ≤ c1) (h : spec_l04Take.f k a0_0 a0_1 a0_2 l1 = some r) :
  Calls Try.prog 99 #[.agg #[.int .i64 a0_0,.int .i64 a0_1,.int .i64 a0_2],.slice A1 l1.length c1] w fun e w'=>∃ v0_ : Value,e = .returned (v0_) ∧ Kd.R (Kd.int .i64) 2 w' w.heap.size (fun _=>True) v0_ r ∧ Below w.heap.size w w':=by
 have HR1:=M0 hr1
 have HC1:=M0 hc1
 clear hr1 hc1
 have HB:=M0 (Below.refl w.heap.size w)
 have H : (spec_l04Take.l0 k l1 (([] : List Int)) (([] : List Int)) 0 a0_0 a0_1 a0_2) = some r:=h
 clear h
 obtain ⟨y226,hy226⟩ : ∃ y_ : List Int,y_ = (([] : List Int)):=⟨_,rfl⟩
 replace H : (spec_l04Take.l0 k l1 y226 (([] : List Int)) 0 a0_0 a0_1 a0_2) = some r:=by rw [hy226];exact H
 have Ny226:=M0 hy226
 clear hy226
 obtain ⟨y229,hy229⟩ : ∃ y_ : List Int,y_ = (([] : List Int)):=⟨_,rfl⟩
 rw [← hy229] at H
 have Ny229:=M0 hy229
 clear hy229
 have H':=M0 H
 clear H
 go_enter Try.func99,Try.ntmps99
 go_wp2_with (first|((try (refine gate_guard (by rfl) ?_;dsimp only));refine box_event rfl (N:=2) rfl (cs:=#[.int .i64 a0_0,.int .i64 a0_1,.int .i64 a0_2]) (t:=43) (by go_simp) ?_;intro gb225 hg w3 hbox hb;have BK225:=M0 (hbox);replace HB:=M0 (below_step HB.out hb);clear hb hbox hg)|((try (refine gate_guard (by rfl) ?_;dsimp only));refine Kd.R_lit (Kd.int .i64) _ 2 ?hg (N:=10) ?hd (xs:=([] : List Int)) (inner:=[]) (ok:=fun _=>True) (okp:=fun _=>True) ?hr ?hp (fun _ hk=>hk) trivial (Below.refl _ _) (Nat.le_refl _) (by simp) ?_;(case hd=>rfl);(case hg=>rfl);(case hr=>(go_simp;done));(case hp=>exact (Reps.none _ _));intro v227 w4 ho5 hb hg_ hnew_;clear hg_ hnew_;(rw [← Ny226.out] at ho5);have HO228:=M0 (Kd.R_lower ho5 (below_size HB.out));replace BK225:=M0 (blk_below BK225.out hb);replace HB:=M0 (below_step HB.out hb);clear hb ho5)|((try (refine gate_guard (by rfl) ?_;dsimp only));refine Kd.R_lit (Kd.int .i64) _ 2 ?hg (N:=11) ?hd (xs:=([] : List Int)) (inner:=[]) (ok:=fun _=>True) (okp:=fun _=>True) ?hr ?hp (fun _ hk=>hk) trivial (Below.refl _ _) (Nat.le_refl _) (by simp) ?_;(case hd=>rfl);(case hg=>rfl);(case hr=>(go_simp;done));(case hp=>exact (Reps.none _ _));intro v230 w6 ho7 hb hg_ hnew_;clear hg_ hnew_;(rw [← Ny229.out] at ho7);have HO231:=M0 (Kd.R_lower (Kd.R_new' ho7 (Kd.R_lt HO228.out)) (below_size HB.out));replace HO228:=M0 (Kd.R_elder' HO228.out (Kd.R_base ho7) hb);replace BK225:=M0 (blk_below BK225.out hb);replace HB:=M0 (below_step HB.out hb);clear hb ho7))
 go_loopg [5,6,7] k (fun kq v5 v6 v7 w'=>∃ (x5_1 : List Int) (x6_1 : List Int) (x7_1 : Int),v7 = .int .i64 x7_1 ∧ Aside0 (spec_l04Take.l0 kq l1 x5_1 x6_1 x7_1 a0_0 a0_1 a0_2 = some r) ∧ Aside0 (kq ≤ k) ∧ Aside0 (Kd.R (Kd.int .i64) 2 w' w.heap.size (fun k_=>some k_ ≠ (v6 : Value).ownBlock) v5 x5_1) ∧ Aside0 (Kd.R (Kd.int .i64) 2 w' w.heap.size (fun k_=>some k_ ≠ (v5 : Value).ownBlock) v6 x6_1) ∧ Aside0 (w'.heap[gb225]? = some (.cells #[.int .i64 a0_0,.int .i64 a0_1,.int .i64 a0_2] 43 (0,0))) ∧ Aside0 (Below w.heap.size w w'))
 case atStart=>exact ⟨(y226),(y229),(0),(by rfl),H',⟨Nat.le_refl _⟩,⟨by exact Kd.R_mono HO228.out (fun _ hk=>hk.2)⟩,⟨by exact Kd.R_mono HO231.out (fun _ hk=>hk.2)⟩,⟨by exact BK225.out⟩,⟨HB.out⟩⟩
 case round=>
  clear H'
  obtain ⟨x5_1,x6_1,x7_1,rfl,HA,HK1,HO_5,HO_6,BK225,HB⟩:=hrel
  cases gk with
  | zero=>exact absurd HA.out (by simp [spec_l04Take.l0])
  | succ k1=>
   have H:=HA.out
   clear HA
   simp only [spec_l04Take.l0] at H
   have HC8:=M0 H
   clear H
   go_upto_region 4 with (fail)
   go_cut [22] (fun v22 wc=>∃ (kq : Nat) (x22_7 : Bool),v22 = .bool x22_7 ∧ Aside0 (spec_l04Take.j1 kq l1 x5_1 x6_1 x7_1 x22_7 a0_0 a0_1 a0_2 = some r) ∧ Aside0 (kq ≤ k1) ∧ Aside0 (Kd.R (Kd.int .i64) 2 wc w.heap.size (fun k_=>some k_ ≠ (u6 : Value).ownBlock) u5 x5_1) ∧ Aside0 (Kd.R (Kd.int .i64) 2 wc w.heap.size (fun k_=>some k_ ≠ (u5 : Value).ownBlock) u6 x6_1) ∧ Aside0 (wc.heap[gb225]? = some (.cells #[.int .i64 a0_0,.int .i64 a0_1,.int .i64 a0_2] 43 (0,0))) ∧ Aside0 (Below w.heap.size w wc))
   case first=>
    have H:=HC8.out
    clear HC8
    by_cases c9 : x7_1 < (l1.length : Int)
    ·rw [if_pos c9] at H
     have c9b0:=decide_eq_true c9
     clear c9
     (skip)
     have H':=M0 H
     clear H
     obtain ⟨Ao10,co10,eo10⟩:=Kd.R_slice HO_5.out
     subst eo10
     have hcz11_0:=bcv (v:=.int .i64 a0_0) BK225.out 0 rfl
     go_wp2
     go_meet
     case rel=>exact ⟨_,(decide ((x5_1.length : Int) < a0_0)),(by rfl),H',⟨by have:=HK1.out;omega⟩,⟨by exact HO_5.out⟩,⟨by exact HO_6.out⟩,⟨by exact BK225.out⟩,⟨HB.out⟩⟩
    ·rw [if_neg c9] at H
     have c9b0:=decide_eq_false c9
     clear c9
     (skip)
     have H':=M0 H
     clear H
     go_wp2
     go_meet
     case rel=>exact ⟨_,(false),(by rfl),H',⟨by have:=HK1.out;omega⟩,⟨by exact HO_5.out⟩,⟨by exact HO_6.out⟩,⟨by exact BK225.out⟩,⟨HB.out⟩⟩
   case rest=>
    clear HC8
    obtain ⟨kq,x22_7,rfl,HA,HJ7,HO_5,HO_6,BK225,HB⟩:=hcut
    cases kq with
    | zero=>exact absurd HA.out (by simp [spec_l04Take.j1])
    | succ kj7=>
     have H:=HA.out
     clear HA
     simp only [spec_l04Take.j1] at H
     by_cases c12 : x22_7 = true
     ·subst c12
      have H1 : (if 0 ≤ x7_1 then (if x7_1 < (l1.length : Int) then (if rdOf false l1 x7_1 = true then ((some (([] : List Int) : List Int)).bind fun y236=>(if y236.length + x6_1.length < 17592186044416 then ((some (y236 ++ x6_1 : List Int)).bind fun y239=>((spec_CodeRow.f kj7 a0_0 a0_1 a0_2 x7_1).bind fun t242=>(if y239.length + t242.length < 17592186044416 then ((some (y239 ++ t242 : List Int)).bind fun y245=>((spec_l03Rank.f kj7 (wrap64 ((x5_1.length : Int) + 1)) a0_0 y245).bind fun t249=>(if t249 = (wrap64 ((x5_1.length : Int) + 1)) then (if x5_1.length < 17592186044416 then (spec_l04Take.l0 kj7 l1 (x5_1 ++ [x7_1]) y245 (wrap64 (x7_1 + 1)) a0_0 a0_1 a0_2) else (none)) else (spec_l04Take.l0 kj7 l1 x5_1 x6_1 (wrap64 (x7_1 + 1)) a0_0 a0_1 a0_2)))) else (none)))) else (none))) else (spec_l04Take.l0 kj7 l1 x5_1 x6_1 (wrap64 (x7_1 + 1)) a0_0 a0_1 a0_2)) else (none)) else (none)) = some r:=by rw [if_pos rfl] at H;exact H
      clear H
      have H:=H1
      clear H1
      obtain ⟨c13,H⟩:=nn H
      have c13b0:=decide_eq_true c13
      clear c13
      obtain ⟨c14,H⟩:=nn H
      have c14b0:=decide_eq_true c14
      clear c14
      obtain ⟨bq15,hbq15⟩ : ∃ b_ : Bool,b_ = (rdOf false l1 x7_1):=⟨_,rfl⟩
      replace H : (if bq15 = true then ((some (([] : List Int) : List Int)).bind fun y236=>(if y236.length + x6_1.length < 17592186044416 then ((some (y236 ++ x6_1 : List Int)).bind fun y239=>((spec_CodeRow.f kj7 a0_0 a0_1 a0_2 x7_1).bind fun t242=>(if y239.length + t242.length < 17592186044416 then ((some (y239 ++ t242 : List Int)).bind fun y245=>((spec_l03Rank.f kj7 (wrap64 ((x5_1.length : Int) + 1)) a0_0 y245).bind fun t249=>(if t249 = (wrap64 ((x5_1.length : Int) + 1)) then (if x5_1.length < 17592186044416 then (spec_l04Take.l0 kj7 l1 (x5_1 ++ [x7_1]) y245 (wrap64 (x7_1 + 1)) a0_0 a0_1 a0_2) else (none)) else (spec_l04Take.l0 kj7 l1 x5_1 x6_1 (wrap64 (x7_1 + 1)) a0_0 a0_1 a0_2)))) else (none)))) else (none))) else (spec_l04Take.l0 kj7 l1 x5_1 x6_1 (wrap64 (x7_1 + 1)) a0_0 a0_1 a0_2)) = some r:=by rw [← hbq15] at H;exact H
      have Nbq15:=M0 hbq15
      clear hbq15
      by_cases c16 : bq15 = true
      ·subst c16
       have H1 : ((some (([] : List Int) : List Int)).bind fun y236=>(if y236.length + x6_1.length < 17592186044416 then ((some (y236 ++ x6_1 : List Int)).bind fun y239=>((spec_CodeRow.f kj7 a0_0 a0_1 a0_2 x7_1).bind fun t242=>(if y239.length + t242.length < 17592186044416 then ((some (y239 ++ t242 : List Int)).bind fun y245=>((spec_l03Rank.f kj7 (wrap64 ((x5_1.length : Int) + 1)) a0_0 y245).bind fun t249=>(if t249 = (wrap64 ((x5_1.length : Int) + 1)) then (if x5_1.length < 17592186044416 then (spec_l04Take.l0 kj7 l1 (x5_1 ++ [x7_1]) y245 (wrap64 (x7_1 + 1)) a0_0 a0_1 a0_2) else (none)) else (spec_l04Take.l0 kj7 l1 x5_1 x6_1 (wrap64 (x7_1 + 1)) a0_0 a0_1 a0_2)))) else (none)))) else (none))) = some r:=by rw [if_pos rfl] at H;exact H
       clear H
       have H:=H1
       clear H1
       obtain ⟨y236,hy236⟩ : ∃ y_ : List Int,y_ = (([] : List Int)):=⟨_,rfl⟩
       replace H : (if y236.length + x6_1.length < 17592186044416 then ((some (y236 ++ x6_1 : List Int)).bind fun y239=>((spec_CodeRow.f kj7 a0_0 a0_1 a0_2 x7_1).bind fun t242=>(if y239.length + t242.length < 17592186044416 then ((some (y239 ++ t242 : List Int)).bind fun y245=>((spec_l03Rank.f kj7 (wrap64 ((x5_1.length : Int) + 1)) a0_0 y245).bind fun t249=>(if t249 = (wrap64 ((x5_1.length : Int) + 1)) then (if x5_1.length < 17592186044416 then (spec_l04Take.l0 kj7 l1 (x5_1 ++ [x7_1]) y245 (wrap64 (x7_1 + 1)) a0_0 a0_1 a0_2) else (none)) else (spec_l04Take.l0 kj7 l1 x5_1 x6_1 (wrap64 (x7_1 + 1)) a0_0 a0_1 a0_2)))) else (none)))) else (none)) = some r:=by (have H2_:=(Option.bind_some _ _).symm.trans H;rw [hy236];with_reducible exact H2_)
       have Ny236:=M0 hy236
       clear hy236
       obtain ⟨c17,H⟩:=nn H
       have LMc17:=M0 c17
       clear c17
       obtain ⟨y239,hy239⟩ : ∃ y_ : List Int,y_ = (y236 ++ x6_1):=⟨_,rfl⟩
       replace H : ((spec_CodeRow.f kj7 a0_0 a0_1 a0_2 x7_1).bind fun t242=>(if y239.length + t242.length < 17592186044416 then ((some (y239 ++ t242 : List Int)).bind fun y245=>((spec_l03Rank.f kj7 (wrap64 ((x5_1.length : Int) + 1)) a0_0 y245).bind fun t249=>(if t249 = (wrap64 ((x5_1.length : Int) + 1)) then (if x5_1.length < 17592186044416 then (spec_l04Take.l0 kj7 l1 (x5_1 ++ [x7_1]) y245 (wrap64 (x7_1 + 1)) a0_0 a0_1 a0_2) else (none)) else (spec_l04Take.l0 kj7 l1 x5_1 x6_1 (wrap64 (x7_1 + 1)) a0_0 a0_1 a0_2)))) else (none))) = some r:=by (have H2_:=(Option.bind_some _ _).symm.trans H;rw [hy239];with_reducible exact H2_)
       have Ny239:=M0 hy239
       clear hy239
       replace H:=Option.bind_eq_some_iff.mp H
       obtain ⟨t242,A180,H⟩:=H
       replace H : (if y239.length + t242.length < 17592186044416 then ((some (y239 ++ t242 : List Int)).bind fun y245=>((spec_l03Rank.f kj7 (wrap64 ((x5_1.length : Int) + 1)) a0_0 y245).bind fun t249=>(if t249 = (wrap64 ((x5_1.length : Int) + 1)) then (if x5_1.length < 17592186044416 then (spec_l04Take.l0 kj7 l1 (x5_1 ++ [x7_1]) y245 (wrap64 (x7_1 + 1)) a0_0 a0_1 a0_2) else (none)) else (spec_l04Take.l0 kj7 l1 x5_1 x6_1 (wrap64 (x7_1 + 1)) a0_0 a0_1 a0_2)))) else (none)) = some r:=H
       have A18:=M0 A180
       clear A180
       obtain ⟨c19,H⟩:=nn H
       have LMc19:=M0 c19
       clear c19
       obtain ⟨y245,hy245⟩ : ∃ y_ : List Int,y_ = (y239 ++ t242):=⟨_,rfl⟩
       replace H : ((spec_l03Rank.f kj7 (wrap64 ((x5_1.length : Int) + 1)) a0_0 y245).bind fun t249=>(if t249 = (wrap64 ((x5_1.length : Int) + 1)) then (if x5_1.length < 17592186044416 then (spec_l04Take.l0 kj7 l1 (x5_1 ++ [x7_1]) y245 (wrap64 (x7_1 + 1)) a0_0 a0_1 a0_2) else (none)) else (spec_l04Take.l0 kj7 l1 x5_1 x6_1 (wrap64 (x7_1 + 1)) a0_0 a0_1 a0_2))) = some r:=by (have H2_:=(Option.bind_some _ _).symm.trans H;rw [hy245];with_reducible exact H2_)
       have Ny245:=M0 hy245
       clear hy245
       replace H:=Option.bind_eq_some_iff.mp H
       obtain ⟨t249,A200,H⟩:=H
       replace H : (if t249 = (wrap64 ((x5_1.length : Int) + 1)) then (if x5_1.length < 17592186044416 then (spec_l04Take.l0 kj7 l1 (x5_1 ++ [x7_1]) y245 (wrap64 (x7_1 + 1)) a0_0 a0_1 a0_2) else (none)) else (spec_l04Take.l0 kj7 l1 x5_1 x6_1 (wrap64 (x7_1 + 1)) a0_0 a0_1 a0_2)) = some r:=H
       have A20:=M0 A200
       clear A200
       by_cases c21 : t249 = (wrap64 ((x5_1.length : Int) + 1))
       ·rw [if_pos c21] at H
        have c21b0 : (t249 == (wrap64 ((x5_1.length : Int) + 1))) = true:=beq_iff_eq.mpr c21
        clear c21
        obtain ⟨c22,H⟩:=nn H
        have LMc22:=M0 c22
        clear c22
        obtain ⟨y250,hy250⟩ : ∃ y_ : List Int,y_ = (x5_1 ++ [x7_1]):=⟨_,rfl⟩
        rw [← hy250] at H
        have Ny250:=M0 hy250
        clear hy250
        have H':=M0 H
        clear H
        have p235 : 0 ≤ (x7_1 : Int):=of_decide_eq_true (by with_reducible assumption)
        have q235 : x7_1 < (l1.length : Int):=of_decide_eq_true (by with_reducible assumption)
        obtain ⟨ad235,e235,hx235_0⟩:=Kd.at_bool HR1.out x7_1 p235 q235
        (try rw [← Nbq15.out] at hx235_0)
        cases e235
        replace hx235_0:=(HB.out.cell (World.block_lt_of_cell? w _ hx235_0)).trans hx235_0
        replace p235:=eq_true p235
        replace q235:=eq_true q235
        try go_wp2
        replace HO_5:=M0 (Kd.R_drew HO_5.out)
        replace HO_6:=M0 (Kd.R_drew HO_6.out)
        replace BK225:=M0 (blk_drew BK225.out)
        replace HB:=M0 (below_drew1 HB.out)
        refine start_ (n:=8) (S:=fun w'=>w'.cell? ⟨gb225,0,none⟩ = some (.int .i64 a0_0) ∧ w'.cell? ⟨gb225,1,none⟩ = some (.int .i64 a0_1) ∧ w'.cell? ⟨gb225,2,none⟩ = some (.int .i64 a0_2)) (ds:=[]) #[O,O,O,O,O,O,O,O] (by kernel_rfl) rfl rfl ⟨(blk_cell BK225.out 0).trans rfl,(blk_cell BK225.out 1).trans rfl,(blk_cell BK225.out 2).trans rfl⟩ (fun hHeld=>?_);refine with_tabW spec_l04Take.tab7 spec_l04Take.bits7 (fun HT_ HW_=>?_)
        generalize wc.drew = w23 at HO_5 HO_6 BK225 HB hHeld ⊢
        refine pure_ (i:=1) (N:=some 31) #[O,I,O,O,O,O,O,O] rfl rfl (any_of HT_.out (by kernel_rfl)) (fun _ _ _ h=>h) (Or.inl ⟨by rfl,by intro w';go_simp;with_reducible rfl⟩) (by simp only [Act.put,List.setIfInBounds_toArray,List.set_cons_zero,List.set_cons_succ,i64_w,i32_w];rfl) ?_
        refine pure_ (i:=4) (N:=some 34) #[O,I,O,O,I,O,O,O] rfl rfl (any_of HT_.out (by kernel_rfl)) (fun _ _ _ h=>h) (Or.inl ⟨by rfl,by intro w';go_simp;with_reducible rfl⟩) (by simp only [Act.put,List.setIfInBounds_toArray,List.set_cons_zero,List.set_cons_succ,i64_w,i32_w];rfl) ?_
        refine take_ (i:=3) (N:=some 33) #[O,I,O,I,I,O,O,O] rfl rfl (take_ofW HT_.out HW_.out (by kernel_rfl)) (fun _ _ _ h=>h) (Or.inl ⟨by rfl,by rintro w' ⟨s0,s1,s2⟩;go_simp;with_reducible rfl⟩) hHeld (by simp only [Act.put,List.setIfInBounds_toArray,List.set_cons_zero,List.set_cons_succ,i64_w,i32_w];rfl) ?_
        refine one_ (i:=0) (N:=some 30) #[I,I,O,I,I,O,O,O] rfl rfl (one_of HT_.out (by kernel_rfl)) (by decide) (fun K hK=>?_)
        refine Kd.R_lit_step (Kd.int .i64) _ 2 ?hg (N:=30) ?hd (xs:=([] : List Int)) (inner:=[]) (ok:=fun _=>True) (okp:=fun _=>True) ?hr ?hp (fun _ hk=>hk) trivial (Below.refl _ _) (Nat.le_refl _) (by simp) ?_;(case hd=>rfl);(case hg=>rfl);(case hr=>(go_simp;done));(case hp=>exact (Reps.none _ _))
        intro v237 w24 ho25 hb hg_ hnew_
        clear hg_ hnew_
        (rw [← Ny236.out] at ho25)
        have HO238:=M0 (Kd.R_lower (Kd.R_new' (Kd.R_new' ho25 (Kd.R_lt HO_5.out)) (Kd.R_lt HO_6.out)) (below_size HB.out))
        replace HO_5:=M0 (Kd.R_elder' HO_5.out (Kd.R_base ho25) hb)
        replace HO_6:=M0 (Kd.R_elder' HO_6.out (Kd.R_base ho25) hb)
        replace BK225:=M0 (blk_below BK225.out hb)
        replace HB:=M0 (below_step HB.out hb)
        clear hb ho25
        obtain ⟨Ao27,co27,eo27⟩:=Kd.R_slice HO_6.out
        (subst eo27)
        refine hK.out _ _ ⟨(blk_cell BK225.out 0).trans rfl,(blk_cell BK225.out 1).trans rfl,(blk_cell BK225.out 2).trans rfl⟩ (fun hHeld=>?_)
        clear hK K
        refine norm_ (a':=?_) ?_ ?_
        rotate_left
        ·show Act.put _ (some 30) _ = _
         simp only [Act.put,List.setIfInBounds_toArray,List.set_cons_zero,List.set_cons_succ,i64_w,i32_w]
         rfl
        refine one_ (i:=2) (N:=some 32) #[I,I,I,I,I,O,O,O] rfl rfl (one_of HT_.out (by kernel_rfl)) (by decide) (fun K hK=>?_)
        refine Kd.R_append_rows_step (Kd.int .i64) (w0:=w) w.heap.size (by rfl) (.tmp 30) (.tmp 31) 22 2 (.int .i64 0) 8 rfl Try.underlying22 info2 rfl (by decide) (by omega) v237 y236 x6_1 _ _ _ (fun k_=>some k_ ≠ (u5 : Value).ownBlock ∧ some k_ ≠ (.slice Ao27 x6_1.length co27 : Value).ownBlock) (fun _=>False) rfl rfl ?aO ?aR (fun _ _ h=>h) (fun _ h=>h.elim) ?aF ?aB ?aS ?aL ?_
        (case aR=>exact (Kd.R_reads' HO_6.out).2.2)
        (case aB=>exact HB.out)
        (case aF=>exact (fun k_ hk=>⟨Kd.fresh' (Kd.R_lt HO_5.out) k_ hk,Kd.fresh' (Kd.R_lt HO_6.out) k_ hk⟩))
        (case aO=>exact (by exact Kd.R_mono HO238.out (fun _ hk=>⟨hk.1.2,hk.2⟩)))
        (case aS=>exact (below_size HB.out))
        (case aL=>have:=LMc17.out;omega)
        intro v240 w26 ho hb hg hat
        rw [← Ny239.out] at ho
        have n0_:=M0 (Kd.R_after (ok:=(fun k_=>some k_ ≠ (.slice Ao27 x6_1.length co27 : Value).ownBlock)) HO_5.out hg hat)
        have n1_:=M0 (Kd.R_after (ok:=(fun k_=>some k_ ≠ (u5 : Value).ownBlock)) HO_6.out hg hat)
        have n2_:=M0 (blk_grown (g:=gb225) (o:=.cells #[.int .i64 a0_0,.int .i64 a0_1,.int .i64 a0_2] 43 (0,0)) BK225.out hg (Kd.R_ne HO238.out BK225.out (by decide)))
        have n3_:=M0 (hb)
        have n4_:=M0 (ho)
        clear HO_5 HO_6 BK225 HB HO238
        have HO_5:=n0_
        have HO_6:=n1_
        have BK225:=n2_
        have HB:=n3_
        have HO241:=n4_
        clear n0_ n1_ n2_ n3_ n4_ ho hb hg hat
        refine hK.out _ _ ⟨(blk_cell BK225.out 0).trans rfl,(blk_cell BK225.out 1).trans rfl,(blk_cell BK225.out 2).trans rfl⟩ (fun hHeld=>?_)
        clear hK K
        refine norm_ (a':=?_) ?_ ?_
        rotate_left
        ·show Act.put _ (some 32) _ = _
         simp only [Act.put,List.setIfInBounds_toArray,List.set_cons_zero,List.set_cons_succ,i64_w,i32_w]
         rfl
        refine one_ (i:=5) (N:=some 35) #[I,I,I,I,I,I,O,O] rfl rfl (one_of HT_.out (by kernel_rfl)) (by decide) (fun K hK=>?_)
        refine goes_ Try.func128 (by kernel_rfl) rfl #[.agg #[.int .i64 a0_0,.int .i64 a0_1,.int .i64 a0_2],.int .i64 x7_1] (by rfl) rfl rfl (by (try simp only [List.map_toArray,List.map_cons,List.map_nil]);rfl) ?_
        with_reducible refine (spec_CodeRow.calls kj7 a0_0 a0_1 a0_2 x7_1 t242 _ A18.out).mono ?_
        rintro e w28 ⟨v243,rfl,ho0,hb⟩
        refine ⟨_,rfl,?_⟩
        have HO244:=M0 (Kd.R_lower (Kd.R_new' (Kd.R_new' (Kd.R_new' ho0 (Kd.R_lt HO_5.out)) (Kd.R_lt HO_6.out)) (Kd.R_lt HO241.out)) (below_size HB.out))
        replace HO_5:=M0 (Kd.R_elder' HO_5.out (Kd.R_base ho0) hb)
        replace HO_6:=M0 (Kd.R_elder' HO_6.out (Kd.R_base ho0) hb)
        replace HO241:=M0 (Kd.R_elder' HO241.out (Kd.R_base ho0) hb)
        replace BK225:=M0 (blk_below BK225.out hb)
        replace HB:=M0 (below_step HB.out hb)
        clear hb ho0
        obtain ⟨Ao30,co30,eo30⟩:=Kd.R_slice HO244.out
        (subst eo30)
        refine hK.out _ _ ⟨(blk_cell BK225.out 0).trans rfl,(blk_cell BK225.out 1).trans rfl,(blk_cell BK225.out 2).trans rfl⟩ (fun hHeld=>?_)
        clear hK K
        refine norm_ (a':=?_) ?_ ?_
        rotate_left
        ·show Act.put _ (some 35) _ = _
         simp only [Act.put,List.setIfInBounds_toArray,List.set_cons_zero,List.set_cons_succ,i64_w,i32_w]
         rfl
        refine one_ (i:=6) (N:=some 36) #[I,I,I,I,I,I,I,O] rfl rfl (one_of HT_.out (by kernel_rfl)) (by decide) (fun K hK=>?_)
        refine Kd.R_append_rows_step (Kd.int .i64) (w0:=w) w.heap.size (by rfl) (.tmp 32) (.tmp 35) 22 2 (.int .i64 0) 8 rfl Try.underlying22 info2 rfl (by decide) (by omega) v240 y239 t242 _ _ _ (fun k_=>some k_ ≠ (u5 : Value).ownBlock ∧ some k_ ≠ (.slice Ao27 x6_1.length co27 : Value).ownBlock ∧ some k_ ≠ (.slice Ao30 t242.length co30 : Value).ownBlock) (fun _=>False) rfl rfl ?aO ?aR (fun _ _ h=>h) (fun _ h=>h.elim) ?aF ?aB ?aS ?aL ?_
        (case aR=>exact (Kd.R_reads' HO244.out).2.2)
        (case aB=>exact HB.out)
        (case aF=>exact (fun k_ hk=>⟨Kd.fresh' (Kd.R_lt HO_5.out) k_ hk,Kd.fresh' (Kd.R_lt HO_6.out) k_ hk,Kd.fresh' (Kd.R_lt HO244.out) k_ hk⟩))
        (case aO=>exact (by exact Kd.R_mono HO241.out (fun _ hk=>⟨hk.1.1,⟨hk.1.2,hk.2⟩⟩)))
        (case aS=>exact (below_size HB.out))
        (case aL=>have:=LMc19.out;omega)
        intro v246 w29 ho hb hg hat
        rw [← Ny245.out] at ho
        have n0_:=M0 (Kd.R_after (ok:=(fun k_=>some k_ ≠ (.slice Ao27 x6_1.length co27 : Value).ownBlock ∧ some k_ ≠ (.slice Ao30 t242.length co30 : Value).ownBlock)) (by exact Kd.R_mono HO_5.out (fun _ hk=>⟨⟨hk.1.1,hk.2⟩,hk.1.2⟩)) hg hat)
        have n1_:=M0 (Kd.R_after (ok:=(fun k_=>some k_ ≠ (u5 : Value).ownBlock ∧ some k_ ≠ (.slice Ao30 t242.length co30 : Value).ownBlock)) (by exact Kd.R_mono HO_6.out (fun _ hk=>⟨⟨hk.1.1,hk.2⟩,hk.1.2⟩)) hg hat)
        have n2_:=M0 (blk_grown (g:=gb225) (o:=.cells #[.int .i64 a0_0,.int .i64 a0_1,.int .i64 a0_2] 43 (0,0)) BK225.out hg (Kd.R_ne HO241.out BK225.out (by decide)))
        have n3_:=M0 (Kd.R_after (ok:=(fun k_=>some k_ ≠ (u5 : Value).ownBlock ∧ some k_ ≠ (.slice Ao27 x6_1.length co27 : Value).ownBlock)) (by exact Kd.R_mono HO244.out (fun _ hk=>⟨⟨hk.1.1.2,hk.1.2⟩,hk.2⟩)) hg hat)
        have n4_:=M0 (hb)
        have n5_:=M0 (ho)
        clear HO_5 HO_6 BK225 HO244 HB HO241
        have HO_5:=n0_
        have HO_6:=n1_
        have BK225:=n2_
        have HO244:=n3_
        have HB:=n4_
        have HO247:=n5_
        clear n0_ n1_ n2_ n3_ n4_ n5_ ho hb hg hat
        refine hK.out _ _ ⟨(blk_cell BK225.out 0).trans rfl,(blk_cell BK225.out 1).trans rfl,(blk_cell BK225.out 2).trans rfl⟩ (fun hHeld=>?_)
        clear hK K
        refine norm_ (a':=?_) ?_ ?_
        rotate_left
        ·show Act.put _ (some 36) _ = _
         simp only [Act.put,List.setIfInBounds_toArray,List.set_cons_zero,List.set_cons_succ,i64_w,i32_w]
         rfl
        refine pure_ (i:=7) (N:=some 8) #[I,I,I,I,I,I,I,I] rfl rfl (any_of HT_.out (by kernel_rfl)) (fun _ _ _ h=>h) (Or.inl ⟨by rfl,by intro w';go_simp;with_reducible rfl⟩) (by simp only [Act.put,List.setIfInBounds_toArray,List.set_cons_zero,List.set_cons_succ,i64_w,i32_w];rfl) ?_
        refine done_ (done_of HT_.out (by kernel_rfl)) ?_
        obtain ⟨Ao31,co31,eo31⟩:=Kd.R_slice HO_5.out
        subst eo31
        obtain ⟨Ao33,co33,eo33⟩:=Kd.R_slice HO247.out
        subst eo33
        try go_wp2_with (((try (refine gate_guard (by rfl) ?_;dsimp only));refine box_event rfl (N:=9) rfl (cs:=#[.int .i64 0,.int .i64 0,.slice none 0 0]) (t:=27) (by go_simp) ?_;intro gb248 hg w34 hbox hb;replace HO_5:=M0 (Kd.R_below HO_5.out hb);replace HO_6:=M0 (Kd.R_below HO_6.out hb);replace HO244:=M0 (Kd.R_below HO244.out hb);replace HO247:=M0 (Kd.R_below HO247.out hb);have BK248:=M0 (hbox);have GW248:=M0 ((by rw [hg];exact (below_size HB.out) : w.heap.size ≤ gb248));have GE248:=GW248;replace HB:=M0 (below_step HB.out hb);have NB225_248:=M0 ((by rw [hg];exact Nat.ne_of_lt (blk_lt BK225.out) : gb225 ≠ gb248));replace BK225:=M0 (blk_below BK225.out hb);clear hb hbox hg;have hcz36_0:=bcv (v:=.int .i64 0) BK248.out 0 rfl;have hcz36_1:=bcv (v:=.int .i64 0) BK248.out 1 rfl;have hcz36_2:=bcv (v:=.slice none 0 0) BK248.out 2 rfl;have hfz36_0:=blk_frozen BK248.out 0;have hfz36_1:=blk_frozen BK248.out 1;have hfz36_2:=blk_frozen BK248.out 2))
        have n0_ : Aside0 (Kd.R (Kd.int .i64) 2 (((w34.setCell ⟨gb248,0,none⟩ (.int .i64 (wrap64 ((x5_1.length : Int) + 1)))).setCell ⟨gb248,1,none⟩ (.int .i64 a0_0)).setCell ⟨gb248,2,none⟩ (.slice Ao33 y245.length co33)) w.heap.size (fun k_=>some k_ ≠ (.slice Ao27 x6_1.length co27 : Value).ownBlock ∧ some k_ ≠ (.slice Ao30 t242.length co30 : Value).ownBlock ∧ some k_ ≠ (.slice Ao33 y245.length co33 : Value).ownBlock) (.slice Ao31 x5_1.length co31) x5_1):=⟨by exact Kd.R_mono (Kd.R_far (p:=⟨gb248,2,none⟩) (Kd.R_far (p:=⟨gb248,1,none⟩) (Kd.R_far (p:=⟨gb248,0,none⟩) (Kd.R_types HO_5.out BK248.out (by decide)) (fun _ hk=>hk.2) (.int .i64 (wrap64 ((x5_1.length : Int) + 1)))) (fun _ hk=>hk.2) (.int .i64 a0_0)) (fun _ hk=>hk.2) (.slice Ao33 y245.length co33)) (fun _ hk=>⟨hk.1.1.1,⟨hk.1.1.2,hk.1.2⟩⟩)⟩
        have n1_ : Aside0 (Kd.R (Kd.int .i64) 2 (((w34.setCell ⟨gb248,0,none⟩ (.int .i64 (wrap64 ((x5_1.length : Int) + 1)))).setCell ⟨gb248,1,none⟩ (.int .i64 a0_0)).setCell ⟨gb248,2,none⟩ (.slice Ao33 y245.length co33)) w.heap.size (fun k_=>some k_ ≠ (.slice Ao31 x5_1.length co31 : Value).ownBlock ∧ some k_ ≠ (.slice Ao30 t242.length co30 : Value).ownBlock ∧ some k_ ≠ (.slice Ao33 y245.length co33 : Value).ownBlock) (.slice Ao27 x6_1.length co27) x6_1):=⟨by exact Kd.R_mono (Kd.R_far (p:=⟨gb248,2,none⟩) (Kd.R_far (p:=⟨gb248,1,none⟩) (Kd.R_far (p:=⟨gb248,0,none⟩) (Kd.R_types HO_6.out BK248.out (by decide)) (fun _ hk=>hk.2) (.int .i64 (wrap64 ((x5_1.length : Int) + 1)))) (fun _ hk=>hk.2) (.int .i64 a0_0)) (fun _ hk=>hk.2) (.slice Ao33 y245.length co33)) (fun _ hk=>⟨hk.1.1.1,⟨hk.1.1.2,hk.1.2⟩⟩)⟩
        have n2_ : Aside0 (Kd.R (Kd.int .i64) 2 (((w34.setCell ⟨gb248,0,none⟩ (.int .i64 (wrap64 ((x5_1.length : Int) + 1)))).setCell ⟨gb248,1,none⟩ (.int .i64 a0_0)).setCell ⟨gb248,2,none⟩ (.slice Ao33 y245.length co33)) w.heap.size (fun k_=>some k_ ≠ (.slice Ao31 x5_1.length co31 : Value).ownBlock ∧ some k_ ≠ (.slice Ao27 x6_1.length co27 : Value).ownBlock ∧ some k_ ≠ (.slice Ao33 y245.length co33 : Value).ownBlock) (.slice Ao30 t242.length co30) t242):=⟨by exact Kd.R_mono (Kd.R_far (p:=⟨gb248,2,none⟩) (Kd.R_far (p:=⟨gb248,1,none⟩) (Kd.R_far (p:=⟨gb248,0,none⟩) (Kd.R_types HO244.out BK248.out (by decide)) (fun _ hk=>hk.2) (.int .i64 (wrap64 ((x5_1.length : Int) + 1)))) (fun _ hk=>hk.2) (.int .i64 a0_0)) (fun _ hk=>hk.2) (.slice Ao33 y245.length co33)) (fun _ hk=>⟨hk.1.1.1,⟨hk.1.1.2,hk.1.2⟩⟩)⟩
        have n3_ : Aside0 (Kd.R (Kd.int .i64) 2 (((w34.setCell ⟨gb248,0,none⟩ (.int .i64 (wrap64 ((x5_1.length : Int) + 1)))).setCell ⟨gb248,1,none⟩ (.int .i64 a0_0)).setCell ⟨gb248,2,none⟩ (.slice Ao33 y245.length co33)) w.heap.size (fun k_=>some k_ ≠ (.slice Ao31 x5_1.length co31 : Value).ownBlock ∧ some k_ ≠ (.slice Ao27 x6_1.length co27 : Value).ownBlock ∧ some k_ ≠ (.slice Ao30 t242.length co30 : Value).ownBlock) (.slice Ao33 y245.length co33) y245):=⟨by exact Kd.R_mono (Kd.R_far (p:=⟨gb248,2,none⟩) (Kd.R_far (p:=⟨gb248,1,none⟩) (Kd.R_far (p:=⟨gb248,0,none⟩) (Kd.R_types HO247.out BK248.out (by decide)) (fun _ hk=>hk.2) (.int .i64 (wrap64 ((x5_1.length : Int) + 1)))) (fun _ hk=>hk.2) (.int .i64 a0_0)) (fun _ hk=>hk.2) (.slice Ao33 y245.length co33)) (fun _ hk=>⟨hk.1.1,⟨hk.1.2.1,hk.1.2.2⟩⟩)⟩
        have n4_ : Aside0 ((((w34.setCell ⟨gb248,0,none⟩ (.int .i64 (wrap64 ((x5_1.length : Int) + 1)))).setCell ⟨gb248,1,none⟩ (.int .i64 a0_0)).setCell ⟨gb248,2,none⟩ (.slice Ao33 y245.length co33)).heap[gb225]? = some (.cells #[.int .i64 a0_0,.int .i64 a0_1,.int .i64 a0_2] 43 (0,0))):=⟨by refine blk_far ?_ NB225_248.out _;refine blk_far ?_ NB225_248.out _;refine blk_far ?_ NB225_248.out _;exact BK225.out⟩
        have n5_ : Aside0 ((((w34.setCell ⟨gb248,0,none⟩ (.int .i64 (wrap64 ((x5_1.length : Int) + 1)))).setCell ⟨gb248,1,none⟩ (.int .i64 a0_0)).setCell ⟨gb248,2,none⟩ (.slice Ao33 y245.length co33)).heap[gb248]? = some (.cells #[.int .i64 (wrap64 ((x5_1.length : Int) + 1)),.int .i64 a0_0,.slice Ao33 y245.length co33] 27 (0,0))):=⟨by refine blk_put (cs:=#[.int .i64 (wrap64 ((x5_1.length : Int) + 1)),.int .i64 a0_0,.slice none 0 0]) ?_ 2 _ rfl;refine blk_put (cs:=#[.int .i64 (wrap64 ((x5_1.length : Int) + 1)),.int .i64 0,.slice none 0 0]) ?_ 1 _ rfl;refine blk_put (cs:=#[.int .i64 0,.int .i64 0,.slice none 0 0]) ?_ 0 _ rfl;exact BK248.out⟩
        have n6_ : Aside0 (Below w.heap.size w (((w34.setCell ⟨gb248,0,none⟩ (.int .i64 (wrap64 ((x5_1.length : Int) + 1)))).setCell ⟨gb248,1,none⟩ (.int .i64 a0_0)).setCell ⟨gb248,2,none⟩ (.slice Ao33 y245.length co33))):=⟨by repeat ((with_reducible first|exact HB.out|refine below_set ?_ GE248.out))⟩
        clear HO_5 HO_6 HO244 HO247 BK225 BK248 HB
        generalize (((w34.setCell ⟨gb248,0,none⟩ (.int .i64 (wrap64 ((x5_1.length : Int) + 1)))).setCell ⟨gb248,1,none⟩ (.int .i64 a0_0)).setCell ⟨gb248,2,none⟩ (.slice Ao33 y245.length co33)) = w37 at n0_ n1_ n2_ n3_ n4_ n5_ n6_ ⊢
        have HO_5:=n0_
        have HO_6:=n1_
        have HO244:=n2_
        have HO247:=n3_
        have BK225:=n4_
        have BK248:=n5_
        have HB:=n6_
        clear n0_ n1_ n2_ n3_ n4_ n5_ n6_
        replace HO_5:=M0 (Kd.R_drew HO_5.out)
        replace HO_6:=M0 (Kd.R_drew HO_6.out)
        replace HO244:=M0 (Kd.R_drew HO244.out)
        replace HO247:=M0 (Kd.R_drew HO247.out)
        replace BK225:=M0 (blk_drew BK225.out)
        replace BK248:=M0 (blk_drew BK248.out)
        replace HB:=M0 (below_drew1 HB.out)
        refine start_ (n:=5) (S:=fun w'=>w'.cell? ⟨gb248,0,none⟩ = some (.int .i64 (wrap64 ((x5_1.length : Int) + 1))) ∧ w'.cell? ⟨gb248,1,none⟩ = some (.int .i64 a0_0) ∧ w'.cell? ⟨gb248,2,none⟩ = some (.slice Ao33 y245.length co33)) (ds:=[]) #[O,O,O,O,O] (by kernel_rfl) rfl rfl ⟨(blk_cell BK248.out 0).trans rfl,(blk_cell BK248.out 1).trans rfl,(blk_cell BK248.out 2).trans rfl⟩ (fun hHeld=>?_)
        generalize w37.drew = w38 at HO_5 HO_6 HO244 HO247 BK225 BK248 HB hHeld ⊢
        refine pure_ (i:=2) (N:=some 46) #[O,O,I,O,O] rfl rfl (by kernel_rfl) (fun _ _ _ h=>h) (Or.inl ⟨by rfl,by intro w';go_simp;with_reducible rfl⟩) (by simp only [Act.put,List.setIfInBounds_toArray,List.set_cons_zero,List.set_cons_succ,i64_w,i32_w];rfl) ?_
        refine take_ (i:=0) (N:=some 44) #[I,O,I,O,O] rfl rfl (by kernel_rfl) (fun _ _ _ h=>h) (Or.inl ⟨by rfl,by rintro w' ⟨s0,s1,s2⟩;go_simp;with_reducible rfl⟩) hHeld (by simp only [Act.put,List.setIfInBounds_toArray,List.set_cons_zero,List.set_cons_succ,i64_w,i32_w];rfl) ?_
        refine take_ (i:=3) (N:=some 47) #[I,O,I,I,O] rfl rfl (by kernel_rfl) (fun _ _ _ h=>h) (Or.inl ⟨by rfl,by rintro w' ⟨s0,s1,s2⟩;go_simp;with_reducible rfl⟩) hHeld (by simp only [Act.put,List.setIfInBounds_toArray,List.set_cons_zero,List.set_cons_succ,i64_w,i32_w];rfl) ?_
        refine one_ (i:=1) (N:=some 45) #[I,I,I,I,O] rfl rfl (by kernel_rfl) (by decide) (fun K hK=>?_)
        refine goes_ Try.func59 (by kernel_rfl) rfl #[.agg #[.int .i64 (wrap64 ((x5_1.length : Int) + 1)),.int .i64 a0_0,.slice Ao33 y245.length co33]] (by rfl) rfl rfl (by (try simp only [List.map_toArray,List.map_cons,List.map_nil]);rfl) ?_
        with_reducible refine (spec_l03Rank.calls kj7 (wrap64 ((x5_1.length : Int) + 1)) a0_0 _ _ y245 t249 _ ?side1 ?side2 A20.out).mono ?_
        (case side1=>exact (Kd.R_reads' HO247.out).2.2)
        (case side2=>exact (Kd.R_reads' HO247.out).2.1)
        rintro e w39 ⟨rfl,hb⟩
        refine ⟨_,rfl,?_⟩
        replace HO_5:=M0 (Kd.R_below HO_5.out hb)
        replace HO_6:=M0 (Kd.R_below HO_6.out hb)
        replace HO244:=M0 (Kd.R_below HO244.out hb)
        replace HO247:=M0 (Kd.R_below HO247.out hb)
        replace BK225:=M0 (blk_below BK225.out hb)
        replace BK248:=M0 (blk_below BK248.out hb)
        replace HB:=M0 (below_step HB.out hb)
        clear hb
        refine hK.out _ _ ⟨(blk_cell BK248.out 0).trans rfl,(blk_cell BK248.out 1).trans rfl,(blk_cell BK248.out 2).trans rfl⟩ (fun hHeld=>?_)
        clear hK K
        refine norm_ (a':=?_) ?_ ?_
        rotate_left
        ·show Act.put _ (some 45) _ = _
         simp only [Act.put,List.setIfInBounds_toArray,List.set_cons_zero,List.set_cons_succ,i64_w,i32_w]
         rfl
        refine pure_ (i:=4) (N:=some 48) #[I,I,I,I,I] rfl rfl (by kernel_rfl) (fun _ _ _ h=>h) (Or.inl ⟨by rfl,by intro w';go_simp;with_reducible rfl⟩) (by simp only [Act.put,List.setIfInBounds_toArray,List.set_cons_zero,List.set_cons_succ,i64_w,i32_w];rfl) ?_
        refine done_ (by kernel_rfl) ?_
        try go_wp2_with (((try (refine gate_guard (by rfl) ?_;dsimp only));at_builtin;refine Kd.R_append (Kd.int .i64) (w0:=w) w.heap.size rfl (.tmp 49) (.tmp 51) 22 2 (.int .i64 0) 8 rfl Try.underlying22 info2 rfl (by decide) (by omega) (.slice Ao31 x5_1.length co31) x5_1 x7_1 [.int .i64 x7_1] (fun k_=>some k_ ≠ (.slice Ao27 x6_1.length co27 : Value).ownBlock ∧ some k_ ≠ (.slice Ao30 t242.length co30 : Value).ownBlock ∧ some k_ ≠ (.slice Ao33 y245.length co33 : Value).ownBlock) (fun _=>False) rfl rfl ?aP (fun _ hk=>hk.elim) ?aF ?aO ?aB ?aS ?aL ?_;(case aP=>exact rfl);(case aB=>exact HB.out);(case aF=>exact (fun k_ hk=>⟨Kd.fresh' (Kd.R_lt HO_6.out) k_ hk,Kd.fresh' (Kd.R_lt HO244.out) k_ hk,Kd.fresh' (Kd.R_lt HO247.out) k_ hk⟩));(case aO=>exact HO_5.out);(case aS=>exact (below_size HB.out));(case aL=>have:=LMc22.out;omega);intro v251 w40 ho hb hg hat;rw [← Ny250.out] at ho;have n0_:=M0 (Kd.R_after (ok:=(fun k_=>some k_ ≠ (.slice Ao30 t242.length co30 : Value).ownBlock ∧ some k_ ≠ (.slice Ao33 y245.length co33 : Value).ownBlock)) (by exact Kd.R_mono HO_6.out (fun _ hk=>⟨⟨hk.2.1,hk.2.2⟩,hk.1⟩)) hg hat);have n1_:=M0 (blk_grown (g:=gb225) (o:=.cells #[.int .i64 a0_0,.int .i64 a0_1,.int .i64 a0_2] 43 (0,0)) BK225.out hg (Kd.R_ne HO_5.out BK225.out (by decide)));have n2_:=M0 (Kd.R_after (ok:=(fun k_=>some k_ ≠ (.slice Ao27 x6_1.length co27 : Value).ownBlock ∧ some k_ ≠ (.slice Ao33 y245.length co33 : Value).ownBlock)) (by exact Kd.R_mono HO244.out (fun _ hk=>⟨⟨hk.2.1,hk.2.2⟩,hk.1⟩)) hg hat);have n3_:=M0 (Kd.R_after (ok:=(fun k_=>some k_ ≠ (.slice Ao27 x6_1.length co27 : Value).ownBlock ∧ some k_ ≠ (.slice Ao30 t242.length co30 : Value).ownBlock)) (by exact Kd.R_mono HO247.out (fun _ hk=>⟨⟨hk.2.1,hk.2.2⟩,hk.1⟩)) hg hat);have n4_:=M0 (blk_grown (g:=gb248) (o:=.cells #[.int .i64 (wrap64 ((x5_1.length : Int) + 1)),.int .i64 a0_0,.slice Ao33 y245.length co33] 27 (0,0)) BK248.out hg (Kd.R_ne HO_5.out BK248.out (by decide)));have n5_:=M0 (hb);have n6_:=M0 (ho);clear HO_6 BK225 HO244 HO247 BK248 HB HO_5;have HO_6:=n0_;have BK225:=n1_;have HO244:=n2_;have HO247:=n3_;have BK248:=n4_;have HB:=n5_;have HO252:=n6_;clear n0_ n1_ n2_ n3_ n4_ n5_ n6_ ho hb hg hat))
        go_roundg kj7
        case measure=>have:=HK1.out;have:=HJ7.out;omega
        case rel=>exact ⟨(y250),(y245),(wrap64 (x7_1 + 1)),(by rfl),H',⟨by have:=HK1.out;have:=HJ7.out;omega⟩,⟨by exact Kd.R_mono HO252.out (fun _ hk=>hk.2.2)⟩,⟨by exact Kd.R_mono HO247.out (fun _ hk=>hk.2)⟩,⟨by exact BK225.out⟩,⟨HB.out⟩⟩
       ·rw [if_neg c21] at H
        have c21b0 : (t249 == (wrap64 ((x5_1.length : Int) + 1))) = false:=beq_eq_false_iff_ne.mpr c21
        have H':=M0 H
        clear H
        have p235 : 0 ≤ (x7_1 : Int):=of_decide_eq_true (by with_reducible assumption)
        have q235 : x7_1 < (l1.length : Int):=of_decide_eq_true (by with_reducible assumption)
        obtain ⟨ad235,e235,hx235_0⟩:=Kd.at_bool HR1.out x7_1 p235 q235
        (try rw [← Nbq15.out] at hx235_0)
        cases e235
        replace hx235_0:=(HB.out.cell (World.block_lt_of_cell? w _ hx235_0)).trans hx235_0
        replace p235:=eq_true p235
        replace q235:=eq_true q235
        try go_wp2
        replace HO_5:=M0 (Kd.R_drew HO_5.out)
        replace HO_6:=M0 (Kd.R_drew HO_6.out)
        replace BK225:=M0 (blk_drew BK225.out)
        replace HB:=M0 (below_drew1 HB.out)
        refine start_ (n:=8) (S:=fun w'=>w'.cell? ⟨gb225,0,none⟩ = some (.int .i64 a0_0) ∧ w'.cell? ⟨gb225,1,none⟩ = some (.int .i64 a0_1) ∧ w'.cell? ⟨gb225,2,none⟩ = some (.int .i64 a0_2)) (ds:=[]) #[O,O,O,O,O,O,O,O] (by kernel_rfl) rfl rfl ⟨(blk_cell BK225.out 0).trans rfl,(blk_cell BK225.out 1).trans rfl,(blk_cell BK225.out 2).trans rfl⟩ (fun hHeld=>?_);refine with_tabW spec_l04Take.tab7 spec_l04Take.bits7 (fun HT_ HW_=>?_)
        generalize wc.drew = w41 at HO_5 HO_6 BK225 HB hHeld ⊢
        refine pure_ (i:=1) (N:=some 31) #[O,I,O,O,O,O,O,O] rfl rfl (any_of HT_.out (by kernel_rfl)) (fun _ _ _ h=>h) (Or.inl ⟨by rfl,by intro w';go_simp;with_reducible rfl⟩) (by simp only [Act.put,List.setIfInBounds_toArray,List.set_cons_zero,List.set_cons_succ,i64_w,i32_w];rfl) ?_
        refine pure_ (i:=4) (N:=some 34) #[O,I,O,O,I,O,O,O] rfl rfl (any_of HT_.out (by kernel_rfl)) (fun _ _ _ h=>h) (Or.inl ⟨by rfl,by intro w';go_simp;with_reducible rfl⟩) (by simp only [Act.put,List.setIfInBounds_toArray,List.set_cons_zero,List.set_cons_succ,i64_w,i32_w];rfl) ?_
        refine take_ (i:=3) (N:=some 33) #[O,I,O,I,I,O,O,O] rfl rfl (take_ofW HT_.out HW_.out (by kernel_rfl)) (fun _ _ _ h=>h) (Or.inl ⟨by rfl,by rintro w' ⟨s0,s1,s2⟩;go_simp;with_reducible rfl⟩) hHeld (by simp only [Act.put,List.setIfInBounds_toArray,List.set_cons_zero,List.set_cons_succ,i64_w,i32_w];rfl) ?_
        refine one_ (i:=0) (N:=some 30) #[I,I,O,I,I,O,O,O] rfl rfl (one_of HT_.out (by kernel_rfl)) (by decide) (fun K hK=>?_)
        refine Kd.R_lit_step (Kd.int .i64) _ 2 ?hg (N:=30) ?hd (xs:=([] : List Int)) (inner:=[]) (ok:=fun _=>True) (okp:=fun _=>True) ?hr ?hp (fun _ hk=>hk) trivial (Below.refl _ _) (Nat.le_refl _) (by simp) ?_;(case hd=>rfl);(case hg=>rfl);(case hr=>(go_simp;done));(case hp=>exact (Reps.none _ _))
        intro v237 w42 ho43 hb hg_ hnew_
        clear hg_ hnew_
        (rw [← Ny236.out] at ho43)
        have HO238:=M0 (Kd.R_lower (Kd.R_new' (Kd.R_new' ho43 (Kd.R_lt HO_5.out)) (Kd.R_lt HO_6.out)) (below_size HB.out))
        replace HO_5:=M0 (Kd.R_elder' HO_5.out (Kd.R_base ho43) hb)
        replace HO_6:=M0 (Kd.R_elder' HO_6.out (Kd.R_base ho43) hb)
        replace BK225:=M0 (blk_below BK225.out hb)
        replace HB:=M0 (below_step HB.out hb)
        clear hb ho43
        obtain ⟨Ao45,co45,eo45⟩:=Kd.R_slice HO_6.out
        (subst eo45)
        refine hK.out _ _ ⟨(blk_cell BK225.out 0).trans rfl,(blk_cell BK225.out 1).trans rfl,(blk_cell BK225.out 2).trans rfl⟩ (fun hHeld=>?_)
        clear hK K
        refine norm_ (a':=?_) ?_ ?_
        rotate_left
        ·show Act.put _ (some 30) _ = _
         simp only [Act.put,List.setIfInBounds_toArray,List.set_cons_zero,List.set_cons_succ,i64_w,i32_w]
         rfl
        refine one_ (i:=2) (N:=some 32) #[I,I,I,I,I,O,O,O] rfl rfl (one_of HT_.out (by kernel_rfl)) (by decide) (fun K hK=>?_)
        refine Kd.R_append_rows_step (Kd.int .i64) (w0:=w) w.heap.size (by rfl) (.tmp 30) (.tmp 31) 22 2 (.int .i64 0) 8 rfl Try.underlying22 info2 rfl (by decide) (by omega) v237 y236 x6_1 _ _ _ (fun k_=>some k_ ≠ (u5 : Value).ownBlock ∧ some k_ ≠ (.slice Ao45 x6_1.length co45 : Value).ownBlock) (fun _=>False) rfl rfl ?aO ?aR (fun _ _ h=>h) (fun _ h=>h.elim) ?aF ?aB ?aS ?aL ?_
        (case aR=>exact (Kd.R_reads' HO_6.out).2.2)
        (case aB=>exact HB.out)
        (case aF=>exact (fun k_ hk=>⟨Kd.fresh' (Kd.R_lt HO_5.out) k_ hk,Kd.fresh' (Kd.R_lt HO_6.out) k_ hk⟩))
        (case aO=>exact (by exact Kd.R_mono HO238.out (fun _ hk=>⟨hk.1.2,hk.2⟩)))
        (case aS=>exact (below_size HB.out))
        (case aL=>have:=LMc17.out;omega)
        intro v240 w44 ho hb hg hat
        rw [← Ny239.out] at ho
        have n0_:=M0 (Kd.R_after (ok:=(fun k_=>some k_ ≠ (.slice Ao45 x6_1.length co45 : Value).ownBlock)) HO_5.out hg hat)
        have n1_:=M0 (Kd.R_after (ok:=(fun k_=>some k_ ≠ (u5 : Value).ownBlock)) HO_6.out hg hat)
        have n2_:=M0 (blk_grown (g:=gb225) (o:=.cells #[.int .i64 a0_0,.int .i64 a0_1,.int .i64 a0_2] 43 (0,0)) BK225.out hg (Kd.R_ne HO238.out BK225.out (by decide)))
        have n3_:=M0 (hb)
        have n4_:=M0 (ho)
        clear HO_5 HO_6 BK225 HB HO238
        have HO_5:=n0_
        have HO_6:=n1_
        have BK225:=n2_
        have HB:=n3_
        have HO241:=n4_
        clear n0_ n1_ n2_ n3_ n4_ ho hb hg hat
        refine hK.out _ _ ⟨(blk_cell BK225.out 0).trans rfl,(blk_cell BK225.out 1).trans rfl,(blk_cell BK225.out 2).trans rfl⟩ (fun hHeld=>?_)
        clear hK K
        refine norm_ (a':=?_) ?_ ?_
        rotate_left
        ·show Act.put _ (some 32) _ = _
         simp only [Act.put,List.setIfInBounds_toArray,List.set_cons_zero,List.set_cons_succ,i64_w,i32_w]
         rfl
        refine one_ (i:=5) (N:=some 35) #[I,I,I,I,I,I,O,O] rfl rfl (one_of HT_.out (by kernel_rfl)) (by decide) (fun K hK=>?_)
        refine goes_ Try.func128 (by kernel_rfl) rfl #[.agg #[.int .i64 a0_0,.int .i64 a0_1,.int .i64 a0_2],.int .i64 x7_1] (by rfl) rfl rfl (by (try simp only [List.map_toArray,List.map_cons,List.map_nil]);rfl) ?_
        with_reducible refine (spec_CodeRow.calls kj7 a0_0 a0_1 a0_2 x7_1 t242 _ A18.out).mono ?_
        rintro e w46 ⟨v243,rfl,ho0,hb⟩
        refine ⟨_,rfl,?_⟩
        have HO244:=M0 (Kd.R_lower (Kd.R_new' (Kd.R_new' (Kd.R_new' ho0 (Kd.R_lt HO_5.out)) (Kd.R_lt HO_6.out)) (Kd.R_lt HO241.out)) (below_size HB.out))
        replace HO_5:=M0 (Kd.R_elder' HO_5.out (Kd.R_base ho0) hb)
        replace HO_6:=M0 (Kd.R_elder' HO_6.out (Kd.R_base ho0) hb)
        replace HO241:=M0 (Kd.R_elder' HO241.out (Kd.R_base ho0) hb)
        replace BK225:=M0 (blk_below BK225.out hb)
        replace HB:=M0 (below_step HB.out hb)
        clear hb ho0
        obtain ⟨Ao48,co48,eo48⟩:=Kd.R_slice HO244.out
        (subst eo48)
        refine hK.out _ _ ⟨(blk_cell BK225.out 0).trans rfl,(blk_cell BK225.out 1).trans rfl,(blk_cell BK225.out 2).trans rfl⟩ (fun hHeld=>?_)
        clear hK K
        refine norm_ (a':=?_) ?_ ?_
        rotate_left
        ·show Act.put _ (some 35) _ = _
         simp only [Act.put,List.setIfInBounds_toArray,List.set_cons_zero,List.set_cons_succ,i64_w,i32_w]
         rfl
        refine one_ (i:=6) (N:=some 36) #[I,I,I,I,I,I,I,O] rfl rfl (one_of HT_.out (by kernel_rfl)) (by decide) (fun K hK=>?_)
        refine Kd.R_append_rows_step (Kd.int .i64) (w0:=w) w.heap.size (by rfl) (.tmp 32) (.tmp 35) 22 2 (.int .i64 0) 8 rfl Try.underlying22 info2 rfl (by decide) (by omega) v240 y239 t242 _ _ _ (fun k_=>some k_ ≠ (u5 : Value).ownBlock ∧ some k_ ≠ (.slice Ao45 x6_1.length co45 : Value).ownBlock ∧ some k_ ≠ (.slice Ao48 t242.length co48 : Value).ownBlock) (fun _=>False) rfl rfl ?aO ?aR (fun _ _ h=>h) (fun _ h=>h.elim) ?aF ?aB ?aS ?aL ?_
        (case aR=>exact (Kd.R_reads' HO244.out).2.2)
        (case aB=>exact HB.out)
        (case aF=>exact (fun k_ hk=>⟨Kd.fresh' (Kd.R_lt HO_5.out) k_ hk,Kd.fresh' (Kd.R_lt HO_6.out) k_ hk,Kd.fresh' (Kd.R_lt HO244.out) k_ hk⟩))
        (case aO=>exact (by exact Kd.R_mono HO241.out (fun _ hk=>⟨hk.1.1,⟨hk.1.2,hk.2⟩⟩)))
        (case aS=>exact (below_size HB.out))
        (case aL=>have:=LMc19.out;omega)
        intro v246 w47 ho hb hg hat
        rw [← Ny245.out] at ho
        have n0_:=M0 (Kd.R_after (ok:=(fun k_=>some k_ ≠ (.slice Ao45 x6_1.length co45 : Value).ownBlock ∧ some k_ ≠ (.slice Ao48 t242.length co48 : Value).ownBlock)) (by exact Kd.R_mono HO_5.out (fun _ hk=>⟨⟨hk.1.1,hk.2⟩,hk.1.2⟩)) hg hat)
        have n1_:=M0 (Kd.R_after (ok:=(fun k_=>some k_ ≠ (u5 : Value).ownBlock ∧ some k_ ≠ (.slice Ao48 t242.length co48 : Value).ownBlock)) (by exact Kd.R_mono HO_6.out (fun _ hk=>⟨⟨hk.1.1,hk.2⟩,hk.1.2⟩)) hg hat)
        have n2_:=M0 (blk_grown (g:=gb225) (o:=.cells #[.int .i64 a0_0,.int .i64 a0_1,.int .i64 a0_2] 43 (0,0)) BK225.out hg (Kd.R_ne HO241.out BK225.out (by decide)))
        have n3_:=M0 (Kd.R_after (ok:=(fun k_=>some k_ ≠ (u5 : Value).ownBlock ∧ some k_ ≠ (.slice Ao45 x6_1.length co45 : Value).ownBlock)) (by exact Kd.R_mono HO244.out (fun _ hk=>⟨⟨hk.1.1.2,hk.1.2⟩,hk.2⟩)) hg hat)
        have n4_:=M0 (hb)
        have n5_:=M0 (ho)
        clear HO_5 HO_6 BK225 HO244 HB HO241
        have HO_5:=n0_
        have HO_6:=n1_
        have BK225:=n2_
        have HO244:=n3_
        have HB:=n4_
        have HO247:=n5_
        clear n0_ n1_ n2_ n3_ n4_ n5_ ho hb hg hat
        refine hK.out _ _ ⟨(blk_cell BK225.out 0).trans rfl,(blk_cell BK225.out 1).trans rfl,(blk_cell BK225.out 2).trans rfl⟩ (fun hHeld=>?_)
        clear hK K
        refine norm_ (a':=?_) ?_ ?_
        rotate_left
        ·show Act.put _ (some 36) _ = _
         simp only [Act.put,List.setIfInBounds_toArray,List.set_cons_zero,List.set_cons_succ,i64_w,i32_w]
         rfl
        refine pure_ (i:=7) (N:=some 8) #[I,I,I,I,I,I,I,I] rfl rfl (any_of HT_.out (by kernel_rfl)) (fun _ _ _ h=>h) (Or.inl ⟨by rfl,by intro w';go_simp;with_reducible rfl⟩) (by simp only [Act.put,List.setIfInBounds_toArray,List.set_cons_zero,List.set_cons_succ,i64_w,i32_w];rfl) ?_
        refine done_ (done_of HT_.out (by kernel_rfl)) ?_
        obtain ⟨Ao49,co49,eo49⟩:=Kd.R_slice HO_5.out
        subst eo49
        obtain ⟨Ao51,co51,eo51⟩:=Kd.R_slice HO247.out
        subst eo51
        try go_wp2_with (((try (refine gate_guard (by rfl) ?_;dsimp only));refine box_event rfl (N:=9) rfl (cs:=#[.int .i64 0,.int .i64 0,.slice none 0 0]) (t:=27) (by go_simp) ?_;intro gb248 hg w52 hbox hb;replace HO_5:=M0 (Kd.R_below HO_5.out hb);replace HO_6:=M0 (Kd.R_below HO_6.out hb);replace HO244:=M0 (Kd.R_below HO244.out hb);replace HO247:=M0 (Kd.R_below HO247.out hb);have BK248:=M0 (hbox);have GW248:=M0 ((by rw [hg];exact (below_size HB.out) : w.heap.size ≤ gb248));have GE248:=GW248;replace HB:=M0 (below_step HB.out hb);have NB225_248:=M0 ((by rw [hg];exact Nat.ne_of_lt (blk_lt BK225.out) : gb225 ≠ gb248));replace BK225:=M0 (blk_below BK225.out hb);clear hb hbox hg;have hcz54_0:=bcv (v:=.int .i64 0) BK248.out 0 rfl;have hcz54_1:=bcv (v:=.int .i64 0) BK248.out 1 rfl;have hcz54_2:=bcv (v:=.slice none 0 0) BK248.out 2 rfl;have hfz54_0:=blk_frozen BK248.out 0;have hfz54_1:=blk_frozen BK248.out 1;have hfz54_2:=blk_frozen BK248.out 2))
        have n0_ : Aside0 (Kd.R (Kd.int .i64) 2 (((w52.setCell ⟨gb248,0,none⟩ (.int .i64 (wrap64 ((x5_1.length : Int) + 1)))).setCell ⟨gb248,1,none⟩ (.int .i64 a0_0)).setCell ⟨gb248,2,none⟩ (.slice Ao51 y245.length co51)) w.heap.size (fun k_=>some k_ ≠ (.slice Ao45 x6_1.length co45 : Value).ownBlock ∧ some k_ ≠ (.slice Ao48 t242.length co48 : Value).ownBlock ∧ some k_ ≠ (.slice Ao51 y245.length co51 : Value).ownBlock) (.slice Ao49 x5_1.length co49) x5_1):=⟨by exact Kd.R_mono (Kd.R_far (p:=⟨gb248,2,none⟩) (Kd.R_far (p:=⟨gb248,1,none⟩) (Kd.R_far (p:=⟨gb248,0,none⟩) (Kd.R_types HO_5.out BK248.out (by decide)) (fun _ hk=>hk.2) (.int .i64 (wrap64 ((x5_1.length : Int) + 1)))) (fun _ hk=>hk.2) (.int .i64 a0_0)) (fun _ hk=>hk.2) (.slice Ao51 y245.length co51)) (fun _ hk=>⟨hk.1.1.1,⟨hk.1.1.2,hk.1.2⟩⟩)⟩
        have n1_ : Aside0 (Kd.R (Kd.int .i64) 2 (((w52.setCell ⟨gb248,0,none⟩ (.int .i64 (wrap64 ((x5_1.length : Int) + 1)))).setCell ⟨gb248,1,none⟩ (.int .i64 a0_0)).setCell ⟨gb248,2,none⟩ (.slice Ao51 y245.length co51)) w.heap.size (fun k_=>some k_ ≠ (.slice Ao49 x5_1.length co49 : Value).ownBlock ∧ some k_ ≠ (.slice Ao48 t242.length co48 : Value).ownBlock ∧ some k_ ≠ (.slice Ao51 y245.length co51 : Value).ownBlock) (.slice Ao45 x6_1.length co45) x6_1):=⟨by exact Kd.R_mono (Kd.R_far (p:=⟨gb248,2,none⟩) (Kd.R_far (p:=⟨gb248,1,none⟩) (Kd.R_far (p:=⟨gb248,0,none⟩) (Kd.R_types HO_6.out BK248.out (by decide)) (fun _ hk=>hk.2) (.int .i64 (wrap64 ((x5_1.length : Int) + 1)))) (fun _ hk=>hk.2) (.int .i64 a0_0)) (fun _ hk=>hk.2) (.slice Ao51 y245.length co51)) (fun _ hk=>⟨hk.1.1.1,⟨hk.1.1.2,hk.1.2⟩⟩)⟩
        have n2_ : Aside0 (Kd.R (Kd.int .i64) 2 (((w52.setCell ⟨gb248,0,none⟩ (.int .i64 (wrap64 ((x5_1.length : Int) + 1)))).setCell ⟨gb248,1,none⟩ (.int .i64 a0_0)).setCell ⟨gb248,2,none⟩ (.slice Ao51 y245.length co51)) w.heap.size (fun k_=>some k_ ≠ (.slice Ao49 x5_1.length co49 : Value).ownBlock ∧ some k_ ≠ (.slice Ao45 x6_1.length co45 : Value).ownBlock ∧ some k_ ≠ (.slice Ao51 y245.length co51 : Value).ownBlock) (.slice Ao48 t242.length co48) t242):=⟨by exact Kd.R_mono (Kd.R_far (p:=⟨gb248,2,none⟩) (Kd.R_far (p:=⟨gb248,1,none⟩) (Kd.R_far (p:=⟨gb248,0,none⟩) (Kd.R_types HO244.out BK248.out (by decide)) (fun _ hk=>hk.2) (.int .i64 (wrap64 ((x5_1.length : Int) + 1)))) (fun _ hk=>hk.2) (.int .i64 a0_0)) (fun _ hk=>hk.2) (.slice Ao51 y245.length co51)) (fun _ hk=>⟨hk.1.1.1,⟨hk.1.1.2,hk.1.2⟩⟩)⟩
        have n3_ : Aside0 (Kd.R (Kd.int .i64) 2 (((w52.setCell ⟨gb248,0,none⟩ (.int .i64 (wrap64 ((x5_1.length : Int) + 1)))).setCell ⟨gb248,1,none⟩ (.int .i64 a0_0)).setCell ⟨gb248,2,none⟩ (.slice Ao51 y245.length co51)) w.heap.size (fun k_=>some k_ ≠ (.slice Ao49 x5_1.length co49 : Value).ownBlock ∧ some k_ ≠ (.slice Ao45 x6_1.length co45 : Value).ownBlock ∧ some k_ ≠ (.slice Ao48 t242.length co48 : Value).ownBlock) (.slice Ao51 y245.length co51) y245):=⟨by exact Kd.R_mono (Kd.R_far (p:=⟨gb248,2,none⟩) (Kd.R_far (p:=⟨gb248,1,none⟩) (Kd.R_far (p:=⟨gb248,0,none⟩) (Kd.R_types HO247.out BK248.out (by decide)) (fun _ hk=>hk.2) (.int .i64 (wrap64 ((x5_1.length : Int) + 1)))) (fun _ hk=>hk.2) (.int .i64 a0_0)) (fun _ hk=>hk.2) (.slice Ao51 y245.length co51)) (fun _ hk=>⟨hk.1.1,⟨hk.1.2.1,hk.1.2.2⟩⟩)⟩
        have n4_ : Aside0 ((((w52.setCell ⟨gb248,0,none⟩ (.int .i64 (wrap64 ((x5_1.length : Int) + 1)))).setCell ⟨gb248,1,none⟩ (.int .i64 a0_0)).setCell ⟨gb248,2,none⟩ (.slice Ao51 y245.length co51)).heap[gb225]? = some (.cells #[.int .i64 a0_0,.int .i64 a0_1,.int .i64 a0_2] 43 (0,0))):=⟨by refine blk_far ?_ NB225_248.out _;refine blk_far ?_ NB225_248.out _;refine blk_far ?_ NB225_248.out _;exact BK225.out⟩
        have n5_ : Aside0 ((((w52.setCell ⟨gb248,0,none⟩ (.int .i64 (wrap64 ((x5_1.length : Int) + 1)))).setCell ⟨gb248,1,none⟩ (.int .i64 a0_0)).setCell ⟨gb248,2,none⟩ (.slice Ao51 y245.length co51)).heap[gb248]? = some (.cells #[.int .i64 (wrap64 ((x5_1.length : Int) + 1)),.int .i64 a0_0,.slice Ao51 y245.length co51] 27 (0,0))):=⟨by refine blk_put (cs:=#[.int .i64 (wrap64 ((x5_1.length : Int) + 1)),.int .i64 a0_0,.slice none 0 0]) ?_ 2 _ rfl;refine blk_put (cs:=#[.int .i64 (wrap64 ((x5_1.length : Int) + 1)),.int .i64 0,.slice none 0 0]) ?_ 1 _ rfl;refine blk_put (cs:=#[.int .i64 0,.int .i64 0,.slice none 0 0]) ?_ 0 _ rfl;exact BK248.out⟩
        have n6_ : Aside0 (Below w.heap.size w (((w52.setCell ⟨gb248,0,none⟩ (.int .i64 (wrap64 ((x5_1.length : Int) + 1)))).setCell ⟨gb248,1,none⟩ (.int .i64 a0_0)).setCell ⟨gb248,2,none⟩ (.slice Ao51 y245.length co51))):=⟨by repeat ((with_reducible first|exact HB.out|refine below_set ?_ GE248.out))⟩
        clear HO_5 HO_6 HO244 HO247 BK225 BK248 HB
        generalize (((w52.setCell ⟨gb248,0,none⟩ (.int .i64 (wrap64 ((x5_1.length : Int) + 1)))).setCell ⟨gb248,1,none⟩ (.int .i64 a0_0)).setCell ⟨gb248,2,none⟩ (.slice Ao51 y245.length co51)) = w55 at n0_ n1_ n2_ n3_ n4_ n5_ n6_ ⊢
        have HO_5:=n0_
        have HO_6:=n1_
        have HO244:=n2_
        have HO247:=n3_
        have BK225:=n4_
        have BK248:=n5_
        have HB:=n6_
        clear n0_ n1_ n2_ n3_ n4_ n5_ n6_
        replace HO_5:=M0 (Kd.R_drew HO_5.out)
        replace HO_6:=M0 (Kd.R_drew HO_6.out)
        replace HO244:=M0 (Kd.R_drew HO244.out)
        replace HO247:=M0 (Kd.R_drew HO247.out)
        replace BK225:=M0 (blk_drew BK225.out)
        replace BK248:=M0 (blk_drew BK248.out)
        replace HB:=M0 (below_drew1 HB.out)
        refine start_ (n:=5) (S:=fun w'=>w'.cell? ⟨gb248,0,none⟩ = some (.int .i64 (wrap64 ((x5_1.length : Int) + 1))) ∧ w'.cell? ⟨gb248,1,none⟩ = some (.int .i64 a0_0) ∧ w'.cell? ⟨gb248,2,none⟩ = some (.slice Ao51 y245.length co51)) (ds:=[]) #[O,O,O,O,O] (by kernel_rfl) rfl rfl ⟨(blk_cell BK248.out 0).trans rfl,(blk_cell BK248.out 1).trans rfl,(blk_cell BK248.out 2).trans rfl⟩ (fun hHeld=>?_)
        generalize w55.drew = w56 at HO_5 HO_6 HO244 HO247 BK225 BK248 HB hHeld ⊢
        refine pure_ (i:=2) (N:=some 46) #[O,O,I,O,O] rfl rfl (by kernel_rfl) (fun _ _ _ h=>h) (Or.inl ⟨by rfl,by intro w';go_simp;with_reducible rfl⟩) (by simp only [Act.put,List.setIfInBounds_toArray,List.set_cons_zero,List.set_cons_succ,i64_w,i32_w];rfl) ?_
        refine take_ (i:=0) (N:=some 44) #[I,O,I,O,O] rfl rfl (by kernel_rfl) (fun _ _ _ h=>h) (Or.inl ⟨by rfl,by rintro w' ⟨s0,s1,s2⟩;go_simp;with_reducible rfl⟩) hHeld (by simp only [Act.put,List.setIfInBounds_toArray,List.set_cons_zero,List.set_cons_succ,i64_w,i32_w];rfl) ?_
        refine take_ (i:=3) (N:=some 47) #[I,O,I,I,O] rfl rfl (by kernel_rfl) (fun _ _ _ h=>h) (Or.inl ⟨by rfl,by rintro w' ⟨s0,s1,s2⟩;go_simp;with_reducible rfl⟩) hHeld (by simp only [Act.put,List.setIfInBounds_toArray,List.set_cons_zero,List.set_cons_succ,i64_w,i32_w];rfl) ?_
        refine one_ (i:=1) (N:=some 45) #[I,I,I,I,O] rfl rfl (by kernel_rfl) (by decide) (fun K hK=>?_)
        refine goes_ Try.func59 (by kernel_rfl) rfl #[.agg #[.int .i64 (wrap64 ((x5_1.length : Int) + 1)),.int .i64 a0_0,.slice Ao51 y245.length co51]] (by rfl) rfl rfl (by (try simp only [List.map_toArray,List.map_cons,List.map_nil]);rfl) ?_
        with_reducible refine (spec_l03Rank.calls kj7 (wrap64 ((x5_1.length : Int) + 1)) a0_0 _ _ y245 t249 _ ?side1 ?side2 A20.out).mono ?_
        (case side1=>exact (Kd.R_reads' HO247.out).2.2)
        (case side2=>exact (Kd.R_reads' HO247.out).2.1)
        rintro e w57 ⟨rfl,hb⟩
        refine ⟨_,rfl,?_⟩
        replace HO_5:=M0 (Kd.R_below HO_5.out hb)
        replace HO_6:=M0 (Kd.R_below HO_6.out hb)
        replace HO244:=M0 (Kd.R_below HO244.out hb)
        replace HO247:=M0 (Kd.R_below HO247.out hb)
        replace BK225:=M0 (blk_below BK225.out hb)
        replace BK248:=M0 (blk_below BK248.out hb)
        replace HB:=M0 (below_step HB.out hb)
        clear hb
        refine hK.out _ _ ⟨(blk_cell BK248.out 0).trans rfl,(blk_cell BK248.out 1).trans rfl,(blk_cell BK248.out 2).trans rfl⟩ (fun hHeld=>?_)
        clear hK K
        refine norm_ (a':=?_) ?_ ?_
        rotate_left
        ·show Act.put _ (some 45) _ = _
         simp only [Act.put,List.setIfInBounds_toArray,List.set_cons_zero,List.set_cons_succ,i64_w,i32_w]
         rfl
        refine pure_ (i:=4) (N:=some 48) #[I,I,I,I,I] rfl rfl (by kernel_rfl) (fun _ _ _ h=>h) (Or.inl ⟨by rfl,by intro w';go_simp;with_reducible rfl⟩) (by simp only [Act.put,List.setIfInBounds_toArray,List.set_cons_zero,List.set_cons_succ,i64_w,i32_w];rfl) ?_
        refine done_ (by kernel_rfl) ?_
        try go_wp2
        go_roundg kj7
        case measure=>have:=HK1.out;have:=HJ7.out;omega
        case rel=>exact ⟨(x5_1),(x6_1),(wrap64 (x7_1 + 1)),(by rfl),H',⟨by have:=HK1.out;have:=HJ7.out;omega⟩,⟨by exact Kd.R_mono HO_5.out (fun _ hk=>hk.1)⟩,⟨by exact Kd.R_mono HO_6.out (fun _ hk=>hk.1)⟩,⟨by exact BK225.out⟩,⟨HB.out⟩⟩
      ·replace c16:=Bool.eq_false_iff.mpr c16
       subst c16
       have H1 : (spec_l04Take.l0 kj7 l1 x5_1 x6_1 (wrap64 (x7_1 + 1)) a0_0 a0_1 a0_2) = some r:=by rw [if_neg (show ¬ (false = true) by decide)] at H;exact H
       clear H
       have H:=H1
       clear H1
       have H':=M0 H
       clear H
       have p235 : 0 ≤ (x7_1 : Int):=of_decide_eq_true (by with_reducible assumption)
       have q235 : x7_1 < (l1.length : Int):=of_decide_eq_true (by with_reducible assumption)
       obtain ⟨ad235,e235,hx235_0⟩:=Kd.at_bool HR1.out x7_1 p235 q235
       (try rw [← Nbq15.out] at hx235_0)
       cases e235
       replace hx235_0:=(HB.out.cell (World.block_lt_of_cell? w _ hx235_0)).trans hx235_0
       replace p235:=eq_true p235
       replace q235:=eq_true q235
       go_wp2
       go_roundg kj7
       case measure=>have:=HK1.out;have:=HJ7.out;omega
       case rel=>exact ⟨(x5_1),(x6_1),(wrap64 (x7_1 + 1)),(by rfl),H',⟨by have:=HK1.out;have:=HJ7.out;omega⟩,⟨by exact HO_5.out⟩,⟨by exact HO_6.out⟩,⟨by exact BK225.out⟩,⟨HB.out⟩⟩
     ·replace c12:=Bool.eq_false_iff.mpr c12
      subst c12
      have H1 : (if (x5_1.length : Int) < a0_0 then (some (([] : List Int))) else (some x5_1)) = some r:=by rw [if_neg (show ¬ (false = true) by decide)] at H;exact H
      clear H
      have H:=H1
      clear H1
      by_cases c58 : (x5_1.length : Int) < a0_0
      ·rw [if_pos c58] at H
       have c58b0:=decide_eq_true c58
       clear c58
       obtain ⟨y232,hy232⟩ : ∃ y_ : List Int,y_ = (([] : List Int)):=⟨_,rfl⟩
       rw [← hy232] at H
       have Ny232:=M0 hy232
       clear hy232
       obtain rfl:=Option.some.inj H
       obtain ⟨Ao59,co59,eo59⟩:=Kd.R_slice HO_5.out
       subst eo59
       have hcz60_0:=bcv (v:=.int .i64 a0_0) BK225.out 0 rfl
       go_wp2_with (((try (refine gate_guard (by rfl) ?_;dsimp only));refine Kd.R_lit (Kd.int .i64) _ 2 ?hg (N:=59) ?hd (xs:=([] : List Int)) (inner:=[]) (ok:=fun _=>True) (okp:=fun _=>True) ?hr ?hp (fun _ hk=>hk) trivial (Below.refl _ _) (Nat.le_refl _) (by simp) ?_;(case hd=>rfl);(case hg=>rfl);(case hr=>(go_simp;done));(case hp=>exact (Reps.none _ _));intro v233 w61 ho62 hb hg_ hnew_;clear hg_ hnew_;(rw [← Ny232.out] at ho62);have HO234:=M0 (Kd.R_lower (Kd.R_new' (Kd.R_new' ho62 (Kd.R_lt HO_5.out)) (Kd.R_lt HO_6.out)) (below_size HB.out));replace HO_5:=M0 (Kd.R_elder' HO_5.out (Kd.R_base ho62) hb);replace HO_6:=M0 (Kd.R_elder' HO_6.out (Kd.R_base ho62) hb);replace BK225:=M0 (blk_below BK225.out hb);replace HB:=M0 (below_step HB.out hb);clear hb ho62))
       go_ret
       exact ⟨_,by rfl,by exact Kd.R_mono HO234.out (fun _ hk=>trivial),HB.out⟩
      ·rw [if_neg c58] at H
       have c58b0:=decide_eq_false c58
       clear c58
       obtain rfl:=Option.some.inj H
       obtain ⟨Ao63,co63,eo63⟩:=Kd.R_slice HO_5.out
       subst eo63
       have hcz64_0:=bcv (v:=.int .i64 a0_0) BK225.out 0 rfl
       go_wp2
       go_ret
       exact ⟨_,by rfl,by exact Kd.R_mono HO_5.out (fun _ hk=>trivial),HB.out⟩

end Go.Proofs.Ytffhbpepppodeaa.PFnRepaired
