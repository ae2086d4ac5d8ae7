import Derived.Test.YtffhbpepppodeaaPFnExactJoinObjectx0
import Derived.Test.YtffhbpepppodeaaPFnExactJoinObjectx7
import Derived.Test.YtffhbpepppodeaaPFnExactJoinObjectx10
namespace Go.Proofs.Ytffhbpepppodeaa.PFnExactJoinObject
private theorem nn {α : Type} {c : Prop} [Decidable c] {a : Option α} {r : α} (h : (if c then a else none) = some r) : c ∧ a = some r:=by
 split at h
 ·exact ⟨‹c›,h⟩
 ·cases h
open Go.RowKit Go.Proofs.YtffhbpepppodeaaW.PrintWords Go.Proofs.YtffhbpepppodeaaW.PrintLast Go.Proofs.YtffhbpepppodeaaW.PrintMore
attribute [local go_sem] cF cG cW cX cn cp cI cJ   -- for this text's walks alone
set_option linter.unusedVariables false
set_option linter.unusedSimpArgs false

/-! ### aD: function 99 -/
mutual
def aD.l0 : Nat → List Bool → List Int → List Int → Int → Int → Int → Int → Option (List Int)
 | 0,_,_,_,_,_,_,_=>none
 | k + 1,x1,x5,x6,x7,x242000,x242001,x242002=>if x7 < (x1.length : Int) then (aD.j1 k x1 x5 x6 x7 (decide ((x5.length : Int) < x242000)) x242000 x242001 x242002) else (aD.j1 k x1 x5 x6 x7 false x242000 x242001 x242002)
def aD.j1 : Nat → List Bool → List Int → List Int → Int → Bool → Int → Int → Int → Option (List Int)
 | 0,_,_,_,_,_,_,_,_=>none
 | k + 1,x1,x5,x6,x7,x22,x242000,x242001,x242002=>if x22 = true then (if 0 ≤ x7 then (if x7 < (x1.length : Int) then (if rdOf false x1 x7 = true then ((some (([] : List Int) : List Int)).bind fun y252=>(if y252.length + x6.length < 17592186044416 then ((some (y252 ++ x6 : List Int)).bind fun y255=>((aG.f k x242000 x242001 x242002 x7).bind fun t258=>(if y255.length + t258.length < 17592186044416 then ((some (y255 ++ t258 : List Int)).bind fun y261=>((ay.f k (wrap64 ((x5.length : Int) + 1)) x242000 y261).bind fun t265=>(if t265 = (wrap64 ((x5.length : Int) + 1)) then (if x5.length < 17592186044416 then (aD.l0 k x1 (x5 ++ [x7]) y261 (wrap64 (x7 + 1)) x242000 x242001 x242002) else (none)) else (aD.l0 k x1 x5 x6 (wrap64 (x7 + 1)) x242000 x242001 x242002)))) else (none)))) else (none))) else (aD.l0 k x1 x5 x6 (wrap64 (x7 + 1)) x242000 x242001 x242002)) else (none)) else (none)) else (if (x5.length : Int) < x242000 then (some (([] : List Int))) else (some x5))
end
def aD.f (k : Nat) (a0_0 : Int) (a0_1 : Int) (a0_2 : Int) (l1 : List Bool) : Option (List Int):=aD.l0 k l1 (([] : List Int)) (([] : List Int)) 0 a0_0 a0_1 a0_2
def aD.T7 : Bool × List (List Nat × List Nat):=(true,[([],[]),([],[]),([0,1],[0,1]),([],[]),([],[]),([3,4,2],[3,4]),([2,5,5],[2,5]),([6,6,0,1,2,3,4,5,6],[6])])
def aD.B7 : List Nat:=[0,0,3,0,0,31,63,127]
theorem aD.tab7 : rtab .any (opsOf Try.f99 7) = aD.T7:=by kernel_rfl
theorem aD.bits7 : cQ aD.T7.2 aD.B7 = true:=by kernel_rfl
set_option maxHeartbeats 8000000 in
set_option maxRecDepth 100000 in
theorem aD.calls (k : Nat) (a0_0 : Int) (a0_1 : Int) (a0_2 : Int) (A1 : Option Addr) (c1 : Nat) (l1 : List Bool) (r : List Int) (w : World) (hr1 : Kd.C Kd.bool w A1 l1.length l1) (hc1 : l1.length ≤ c1) (h : aD.f k a0_0 a0_1 a0_2 l1 = some r) :
  Calls Try.prog 99 #[.agg #[.int .i64 a0_0,.int .i64 a0_1,.int .i64 a0_2],.slice A1 l1.length c1] w fun e w'=>∃ v0_ : Value,e = .returned (v0_) ∧ Kd.R (Kd.int .i64) 2 w' w.heap.size (fun _=>True) v0_ r ∧ Below w.heap.size w w':=by
 have HR1:=M0 hr1
 have HC1:=M0 hc1
 clear hr1 hc1
 have HB:=M0 (Below.refl w.heap.size w)
 have H : (aD.l0 k l1 (([] : List Int)) (([] : List Int)) 0 a0_0 a0_1 a0_2) = some r:=h
 clear h
 obtain ⟨y242,hy242⟩ : ∃ y_ : List Int,y_ = (([] : List Int)):=⟨_,rfl⟩
 replace H : (aD.l0 k l1 y242 (([] : List Int)) 0 a0_0 a0_1 a0_2) = some r:=by rw [hy242];exact H
 have Ny242:=M0 hy242
 clear hy242
 obtain ⟨y245,hy245⟩ : ∃ y_ : List Int,y_ = (([] : List Int)):=⟨_,rfl⟩
 rw [← hy245] at H
 have Ny245:=M0 hy245
 clear hy245
 have H':=M0 H
 clear H
 go_enter Try.func99,Try.ntmps99
 go_wp2_with (first|((with_reducible refine ak (N:=2) rfl ?_);(try (refine au (by rfl) ?_;dsimp only));refine aw rfl (N:=2) rfl (cs:=#[.int .i64 a0_0,.int .i64 a0_1,.int .i64 a0_2]) (t:=43) (by go_simp) ?_;intro gb241 hg w3 hbox hb;have BK241:=M0 (hbox);replace HB:=M0 (aa HB.out hb);clear hb hbox hg)|((with_reducible refine ak (N:=10) rfl ?_);(try (refine au (by rfl) ?_;dsimp only));refine Kd.R_lit (Kd.int .i64) _ 2 ?hg (N:=10) ?hd (xs:=([] : List Int)) (inner:=[]) (ok:=fun _=>True) (okp:=fun _=>True) ?hr ?hp (fun _ hk=>hk) trivial (Below.refl _ _) (Nat.le_refl _) (by simp) ?_;(case hd=>rfl);(case hg=>rfl);(case hr=>(go_simp;done));(case hp=>exact (Reps.none _ _));intro v243 w4 ho5 hb hg_ hnew_;clear hg_ hnew_;(rw [← Ny242.out] at ho5);have HO244:=M0 (Kd.bj ho5 (aj HB.out));replace BK241:=M0 (ab BK241.out hb);replace HB:=M0 (aa HB.out hb);clear hb ho5)|((with_reducible refine ak (N:=11) rfl ?_);(try (refine au (by rfl) ?_;dsimp only));refine Kd.R_lit (Kd.int .i64) _ 2 ?hg (N:=11) ?hd (xs:=([] : List Int)) (inner:=[]) (ok:=fun _=>True) (okp:=fun _=>True) ?hr ?hp (fun _ hk=>hk) trivial (Below.refl _ _) (Nat.le_refl _) (by simp) ?_;(case hd=>rfl);(case hg=>rfl);(case hr=>(go_simp;done));(case hp=>exact (Reps.none _ _));intro v246 w6 ho7 hb hg_ hnew_;clear hg_ hnew_;(rw [← Ny245.out] at ho7);have HO247:=M0 (Kd.bj (Kd.cZ ho7 (Kd.R_lt HO244.out)) (aj HB.out));replace HO244:=M0 (Kd.cj HO244.out (Kd.cS ho7) hb);replace BK241:=M0 (ab BK241.out hb);replace HB:=M0 (aa HB.out hb);clear hb ho7))
 go_loopg [5,6,7] k (fun kq v5 v6 v7 w'=>∃ (x5_1 : List Int) (x6_1 : List Int) (x7_1 : Int),v7 = .int .i64 x7_1 ∧ Aside0 (aD.l0 kq l1 x5_1 x6_1 x7_1 a0_0 a0_1 a0_2 = some r) ∧ Aside0 (kq ≤ k) ∧ Aside0 (Kd.R (Kd.int .i64) 2 w' w.heap.size (fun k_=>some k_ ≠ (v6 : Value).ownBlock) v5 x5_1) ∧ Aside0 (Kd.R (Kd.int .i64) 2 w' w.heap.size (fun k_=>some k_ ≠ (v5 : Value).ownBlock) v6 x6_1) ∧ Aside0 (w'.heap[gb241]? = some (.cells #[.int .i64 a0_0,.int .i64 a0_1,.int .i64 a0_2] 43 (0,0))) ∧ Aside0 (Below w.heap.size w w'))
 case atStart=>exact ⟨(y242),(y245),(0),(by rfl),H',⟨Nat.le_refl _⟩,⟨by exact Kd.bb HO244.out (fun _ hk=>hk.2)⟩,⟨by exact Kd.bb HO247.out (fun _ hk=>hk.2)⟩,⟨by exact BK241.out⟩,⟨HB.out⟩⟩
 case round=>
  clear H'
  obtain ⟨x5_1,x6_1,x7_1,rfl,HA,HK1,HO_5,HO_6,BK241,HB⟩:=hrel
  cases gk with
  | zero=>exact absurd HA.out (by simp [aD.l0])
  | succ k1=>
   have H:=HA.out
   clear HA
   simp only [aD.l0] at H
   have HC8:=M0 H
   clear H
   go_upto_region 4 with (fail)
   go_cut [22] (fun v22 wc=>∃ (kq : Nat) (x22_7 : Bool),v22 = .bool x22_7 ∧ Aside0 (aD.j1 kq l1 x5_1 x6_1 x7_1 x22_7 a0_0 a0_1 a0_2 = some r) ∧ Aside0 (kq ≤ k1) ∧ Aside0 (Kd.R (Kd.int .i64) 2 wc w.heap.size (fun k_=>some k_ ≠ (u6 : Value).ownBlock) u5 x5_1) ∧ Aside0 (Kd.R (Kd.int .i64) 2 wc w.heap.size (fun k_=>some k_ ≠ (u5 : Value).ownBlock) u6 x6_1) ∧ Aside0 (wc.heap[gb241]? = some (.cells #[.int .i64 a0_0,.int .i64 a0_1,.int .i64 a0_2] 43 (0,0))) ∧ Aside0 (Below w.heap.size w wc))
   case first=>
    have H:=HC8.out
    clear HC8
    by_cases c9 : x7_1 < (l1.length : Int)
    ·rw [if_pos c9] at H
     have c9b0:=decide_eq_true c9
     clear c9
     (skip)
     have H':=M0 H
     clear H
     obtain ⟨Ao10,co10,eo10⟩:=Kd.bc HO_5.out
     subst eo10
     have hcz11_0:=bcv (v:=.int .i64 a0_0) BK241.out 0 rfl
     go_wp2
     go_meet
     case rel=>exact ⟨_,(decide ((x5_1.length : Int) < a0_0)),(by rfl),H',⟨by have:=HK1.out;omega⟩,⟨by exact HO_5.out⟩,⟨by exact HO_6.out⟩,⟨by exact BK241.out⟩,⟨HB.out⟩⟩
    ·rw [if_neg c9] at H
     have c9b0:=decide_eq_false c9
     clear c9
     (skip)
     have H':=M0 H
     clear H
     go_wp2
     go_meet
     case rel=>exact ⟨_,(false),(by rfl),H',⟨by have:=HK1.out;omega⟩,⟨by exact HO_5.out⟩,⟨by exact HO_6.out⟩,⟨by exact BK241.out⟩,⟨HB.out⟩⟩
   case rest=>
    clear HC8
    obtain ⟨kq,x22_7,rfl,HA,HJ7,HO_5,HO_6,BK241,HB⟩:=hcut
    cases kq with
    | zero=>exact absurd HA.out (by simp [aD.j1])
    | succ kj7=>
     have H:=HA.out
     clear HA
     simp only [aD.j1] at H
     by_cases c12 : x22_7 = true
     ·subst c12
      have H1 : (if 0 ≤ x7_1 then (if x7_1 < (l1.length : Int) then (if rdOf false l1 x7_1 = true then ((some (([] : List Int) : List Int)).bind fun y252=>(if y252.length + x6_1.length < 17592186044416 then ((some (y252 ++ x6_1 : List Int)).bind fun y255=>((aG.f kj7 a0_0 a0_1 a0_2 x7_1).bind fun t258=>(if y255.length + t258.length < 17592186044416 then ((some (y255 ++ t258 : List Int)).bind fun y261=>((ay.f kj7 (wrap64 ((x5_1.length : Int) + 1)) a0_0 y261).bind fun t265=>(if t265 = (wrap64 ((x5_1.length : Int) + 1)) then (if x5_1.length < 17592186044416 then (aD.l0 kj7 l1 (x5_1 ++ [x7_1]) y261 (wrap64 (x7_1 + 1)) a0_0 a0_1 a0_2) else (none)) else (aD.l0 kj7 l1 x5_1 x6_1 (wrap64 (x7_1 + 1)) a0_0 a0_1 a0_2)))) else (none)))) else (none))) else (aD.l0 kj7 l1 x5_1 x6_1 (wrap64 (x7_1 + 1)) a0_0 a0_1 a0_2)) else (none)) else (none)) = some r:=by rw [if_pos rfl] at H;exact H
      clear H
      have H:=H1
      clear H1
      obtain ⟨c13,H⟩:=nn H
      have c13b0:=decide_eq_true c13
      clear c13
      obtain ⟨c14,H⟩:=nn H
      have c14b0:=decide_eq_true c14
      clear c14
      obtain ⟨bq15,hbq15⟩ : ∃ b_ : Bool,b_ = (rdOf false l1 x7_1):=⟨_,rfl⟩
      replace H : (if bq15 = true then ((some (([] : List Int) : List Int)).bind fun y252=>(if y252.length + x6_1.length < 17592186044416 then ((some (y252 ++ x6_1 : List Int)).bind fun y255=>((aG.f kj7 a0_0 a0_1 a0_2 x7_1).bind fun t258=>(if y255.length + t258.length < 17592186044416 then ((some (y255 ++ t258 : List Int)).bind fun y261=>((ay.f kj7 (wrap64 ((x5_1.length : Int) + 1)) a0_0 y261).bind fun t265=>(if t265 = (wrap64 ((x5_1.length : Int) + 1)) then (if x5_1.length < 17592186044416 then (aD.l0 kj7 l1 (x5_1 ++ [x7_1]) y261 (wrap64 (x7_1 + 1)) a0_0 a0_1 a0_2) else (none)) else (aD.l0 kj7 l1 x5_1 x6_1 (wrap64 (x7_1 + 1)) a0_0 a0_1 a0_2)))) else (none)))) else (none))) else (aD.l0 kj7 l1 x5_1 x6_1 (wrap64 (x7_1 + 1)) a0_0 a0_1 a0_2)) = some r:=by rw [← hbq15] at H;exact H
      have Nbq15:=M0 hbq15
      clear hbq15
      by_cases c16 : bq15 = true
      ·subst c16
       have H1 : ((some (([] : List Int) : List Int)).bind fun y252=>(if y252.length + x6_1.length < 17592186044416 then ((some (y252 ++ x6_1 : List Int)).bind fun y255=>((aG.f kj7 a0_0 a0_1 a0_2 x7_1).bind fun t258=>(if y255.length + t258.length < 17592186044416 then ((some (y255 ++ t258 : List Int)).bind fun y261=>((ay.f kj7 (wrap64 ((x5_1.length : Int) + 1)) a0_0 y261).bind fun t265=>(if t265 = (wrap64 ((x5_1.length : Int) + 1)) then (if x5_1.length < 17592186044416 then (aD.l0 kj7 l1 (x5_1 ++ [x7_1]) y261 (wrap64 (x7_1 + 1)) a0_0 a0_1 a0_2) else (none)) else (aD.l0 kj7 l1 x5_1 x6_1 (wrap64 (x7_1 + 1)) a0_0 a0_1 a0_2)))) else (none)))) else (none))) = some r:=by rw [if_pos rfl] at H;exact H
       clear H
       have H:=H1
       clear H1
       obtain ⟨y252,hy252⟩ : ∃ y_ : List Int,y_ = (([] : List Int)):=⟨_,rfl⟩
       replace H : (if y252.length + x6_1.length < 17592186044416 then ((some (y252 ++ x6_1 : List Int)).bind fun y255=>((aG.f kj7 a0_0 a0_1 a0_2 x7_1).bind fun t258=>(if y255.length + t258.length < 17592186044416 then ((some (y255 ++ t258 : List Int)).bind fun y261=>((ay.f kj7 (wrap64 ((x5_1.length : Int) + 1)) a0_0 y261).bind fun t265=>(if t265 = (wrap64 ((x5_1.length : Int) + 1)) then (if x5_1.length < 17592186044416 then (aD.l0 kj7 l1 (x5_1 ++ [x7_1]) y261 (wrap64 (x7_1 + 1)) a0_0 a0_1 a0_2) else (none)) else (aD.l0 kj7 l1 x5_1 x6_1 (wrap64 (x7_1 + 1)) a0_0 a0_1 a0_2)))) else (none)))) else (none)) = some r:=by (have H2_:=(Option.bind_some _ _).symm.trans H;rw [hy252];with_reducible exact H2_)
       have Ny252:=M0 hy252
       clear hy252
       obtain ⟨c17,H⟩:=nn H
       have LMc17:=M0 c17
       clear c17
       obtain ⟨y255,hy255⟩ : ∃ y_ : List Int,y_ = (y252 ++ x6_1):=⟨_,rfl⟩
       replace H : ((aG.f kj7 a0_0 a0_1 a0_2 x7_1).bind fun t258=>(if y255.length + t258.length < 17592186044416 then ((some (y255 ++ t258 : List Int)).bind fun y261=>((ay.f kj7 (wrap64 ((x5_1.length : Int) + 1)) a0_0 y261).bind fun t265=>(if t265 = (wrap64 ((x5_1.length : Int) + 1)) then (if x5_1.length < 17592186044416 then (aD.l0 kj7 l1 (x5_1 ++ [x7_1]) y261 (wrap64 (x7_1 + 1)) a0_0 a0_1 a0_2) else (none)) else (aD.l0 kj7 l1 x5_1 x6_1 (wrap64 (x7_1 + 1)) a0_0 a0_1 a0_2)))) else (none))) = some r:=by (have H2_:=(Option.bind_some _ _).symm.trans H;rw [hy255];with_reducible exact H2_)
       have Ny255:=M0 hy255
       clear hy255
       replace H:=Option.bind_eq_some_iff.mp H
       obtain ⟨t258,A180,H⟩:=H
       replace H : (if y255.length + t258.length < 17592186044416 then ((some (y255 ++ t258 : List Int)).bind fun y261=>((ay.f kj7 (wrap64 ((x5_1.length : Int) + 1)) a0_0 y261).bind fun t265=>(if t265 = (wrap64 ((x5_1.length : Int) + 1)) then (if x5_1.length < 17592186044416 then (aD.l0 kj7 l1 (x5_1 ++ [x7_1]) y261 (wrap64 (x7_1 + 1)) a0_0 a0_1 a0_2) else (none)) else (aD.l0 kj7 l1 x5_1 x6_1 (wrap64 (x7_1 + 1)) a0_0 a0_1 a0_2)))) else (none)) = some r:=H
       have A18:=M0 A180
       clear A180
       obtain ⟨c19,H⟩:=nn H
       have LMc19:=M0 c19
       clear c19
       obtain ⟨y261,hy261⟩ : ∃ y_ : List Int,y_ = (y255 ++ t258):=⟨_,rfl⟩
       replace H : ((ay.f kj7 (wrap64 ((x5_1.length : Int) + 1)) a0_0 y261).bind fun t265=>(if t265 = (wrap64 ((x5_1.length : Int) + 1)) then (if x5_1.length < 17592186044416 then (aD.l0 kj7 l1 (x5_1 ++ [x7_1]) y261 (wrap64 (x7_1 + 1)) a0_0 a0_1 a0_2) else (none)) else (aD.l0 kj7 l1 x5_1 x6_1 (wrap64 (x7_1 + 1)) a0_0 a0_1 a0_2))) = some r:=by (have H2_:=(Option.bind_some _ _).symm.trans H;rw [hy261];with_reducible exact H2_)
       have Ny261:=M0 hy261
       clear hy261
       replace H:=Option.bind_eq_some_iff.mp H
       obtain ⟨t265,A200,H⟩:=H
       replace H : (if t265 = (wrap64 ((x5_1.length : Int) + 1)) then (if x5_1.length < 17592186044416 then (aD.l0 kj7 l1 (x5_1 ++ [x7_1]) y261 (wrap64 (x7_1 + 1)) a0_0 a0_1 a0_2) else (none)) else (aD.l0 kj7 l1 x5_1 x6_1 (wrap64 (x7_1 + 1)) a0_0 a0_1 a0_2)) = some r:=H
       have A20:=M0 A200
       clear A200
       by_cases c21 : t265 = (wrap64 ((x5_1.length : Int) + 1))
       ·rw [if_pos c21] at H
        have c21b0 : (t265 == (wrap64 ((x5_1.length : Int) + 1))) = true:=beq_iff_eq.mpr c21
        clear c21
        obtain ⟨c22,H⟩:=nn H
        have LMc22:=M0 c22
        clear c22
        obtain ⟨y266,hy266⟩ : ∃ y_ : List Int,y_ = (x5_1 ++ [x7_1]):=⟨_,rfl⟩
        rw [← hy266] at H
        have Ny266:=M0 hy266
        clear hy266
        have H':=M0 H
        clear H
        have p251 : 0 ≤ (x7_1 : Int):=of_decide_eq_true (by with_reducible assumption)
        have q251 : x7_1 < (l1.length : Int):=of_decide_eq_true (by with_reducible assumption)
        obtain ⟨ad251,e251,hx251_0⟩:=Kd.dH HR1.out x7_1 p251 q251
        (try rw [← Nbq15.out] at hx251_0)
        cases e251
        replace hx251_0:=(HB.out.cell (World.block_lt_of_cell? w _ hx251_0)).trans hx251_0
        replace p251:=eq_true p251
        replace q251:=eq_true q251
        try go_wp2
        replace HO_5:=M0 (Kd.cL HO_5.out)
        replace HO_6:=M0 (Kd.cL HO_6.out)
        replace BK241:=M0 (bl BK241.out)
        replace HB:=M0 (aQ HB.out)
        refine bW (n:=8) (S:=fun w'=>w'.cell? ⟨gb241,0,none⟩ = some (.int .i64 a0_0) ∧ w'.cell? ⟨gb241,1,none⟩ = some (.int .i64 a0_1) ∧ w'.cell? ⟨gb241,2,none⟩ = some (.int .i64 a0_2)) (ds:=[]) #[O,O,O,O,O,O,O,O] (by kernel_rfl) rfl rfl ⟨(ai BK241.out 0).trans rfl,(ai BK241.out 1).trans rfl,(ai BK241.out 2).trans rfl⟩ (fun hHeld=>?_);refine cr aD.tab7 aD.bits7 (fun HT_ HW_=>?_)
        generalize wc.drew = w23 at HO_5 HO_6 BK241 HB hHeld ⊢
        refine aq (i:=1) (N:=some 31) #[O,I,O,O,O,O,O,O] rfl rfl (aM HT_.out (by kernel_rfl)) (fun _ _ _ h=>h) (Or.inl ⟨by rfl,by intro w';go_simp;with_reducible rfl⟩) (by simp only [Act.put,List.setIfInBounds_toArray,List.set_cons_zero,List.set_cons_succ,ae,af];rfl) ?_
        refine aq (i:=4) (N:=some 34) #[O,I,O,O,I,O,O,O] rfl rfl (aM HT_.out (by kernel_rfl)) (fun _ _ _ h=>h) (Or.inl ⟨by rfl,by intro w';go_simp;with_reducible rfl⟩) (by simp only [Act.put,List.setIfInBounds_toArray,List.set_cons_zero,List.set_cons_succ,ae,af];rfl) ?_
        refine bn (i:=3) (N:=some 33) #[O,I,O,I,I,O,O,O] rfl rfl (bC HT_.out HW_.out (by kernel_rfl)) (fun _ _ _ h=>h) (Or.inl ⟨by rfl,by rintro w' ⟨s0,s1,s2⟩;go_simp;with_reducible rfl⟩) hHeld (by simp only [Act.put,List.setIfInBounds_toArray,List.set_cons_zero,List.set_cons_succ,ae,af];rfl) ?_
        refine one_ (i:=0) (N:=some 30) #[I,I,O,I,I,O,O,O] rfl rfl (bR HT_.out (by kernel_rfl)) (by decide) (fun K hK=>?_)
        refine Kd.R_lit_step (Kd.int .i64) _ 2 ?hg (N:=30) ?hd (xs:=([] : List Int)) (inner:=[]) (ok:=fun _=>True) (okp:=fun _=>True) ?hr ?hp (fun _ hk=>hk) trivial (Below.refl _ _) (Nat.le_refl _) (by simp) ?_;(case hd=>rfl);(case hg=>rfl);(case hr=>(go_simp;done));(case hp=>exact (Reps.none _ _))
        intro v253 w24 ho25 hb hg_ hnew_
        clear hg_ hnew_
        (rw [← Ny252.out] at ho25)
        have HO254:=M0 (Kd.bj (Kd.cZ (Kd.cZ ho25 (Kd.R_lt HO_5.out)) (Kd.R_lt HO_6.out)) (aj HB.out))
        replace HO_5:=M0 (Kd.cj HO_5.out (Kd.cS ho25) hb)
        replace HO_6:=M0 (Kd.cj HO_6.out (Kd.cS ho25) hb)
        replace BK241:=M0 (ab BK241.out hb)
        replace HB:=M0 (aa HB.out hb)
        clear hb ho25
        obtain ⟨Ao27,co27,eo27⟩:=Kd.bc HO_6.out
        (subst eo27)
        refine hK.out _ _ ⟨(ai BK241.out 0).trans rfl,(ai BK241.out 1).trans rfl,(ai BK241.out 2).trans rfl⟩ (fun hHeld=>?_)
        clear hK K
        refine bz (a':=?_) ?_ ?_
        rotate_left
        ·show Act.put _ (some 30) _ = _
         simp only [Act.put,List.setIfInBounds_toArray,List.set_cons_zero,List.set_cons_succ,ae,af]
         rfl
        refine one_ (i:=2) (N:=some 32) #[I,I,I,I,I,O,O,O] rfl rfl (bR HT_.out (by kernel_rfl)) (by decide) (fun K hK=>?_)
        refine Kd.bZ (Kd.int .i64) (w0:=w) w.heap.size (by rfl) (.tmp 30) (.tmp 31) 22 2 (.int .i64 0) 8 rfl Try.underlying22 dY rfl (by decide) (by omega) v253 y252 x6_1 _ _ _ (fun k_=>some k_ ≠ (u5 : Value).ownBlock ∧ some k_ ≠ (.slice Ao27 x6_1.length co27 : Value).ownBlock) (fun _=>False) rfl rfl ?aO ?aR (fun _ _ h=>h) (fun _ h=>h.elim) ?aF ?aB ?aS ?aL ?_
        (case aR=>exact (Kd.aE HO_6.out).2.2)
        (case aB=>exact HB.out)
        (case aF=>exact (fun k_ hk=>⟨Kd.dL (Kd.R_lt HO_5.out) k_ hk,Kd.dL (Kd.R_lt HO_6.out) k_ hk⟩))
        (case aO=>exact (by exact Kd.bb HO254.out (fun _ hk=>⟨hk.1.2,hk.2⟩)))
        (case aS=>exact (aj HB.out))
        (case aL=>have:=LMc17.out;omega)
        intro v256 w26 ho hb hg hat
        rw [← Ny255.out] at ho
        have n0_:=M0 (Kd.de (ok:=(fun k_=>some k_ ≠ (.slice Ao27 x6_1.length co27 : Value).ownBlock)) HO_5.out hg hat)
        have n1_:=M0 (Kd.de (ok:=(fun k_=>some k_ ≠ (u5 : Value).ownBlock)) HO_6.out hg hat)
        have n2_:=M0 (bm (g:=gb241) (o:=.cells #[.int .i64 a0_0,.int .i64 a0_1,.int .i64 a0_2] 43 (0,0)) BK241.out hg (Kd.R_ne HO254.out BK241.out (by decide)))
        have n3_:=M0 (hb)
        have n4_:=M0 (ho)
        clear HO_5 HO_6 BK241 HB HO254
        have HO_5:=n0_
        have HO_6:=n1_
        have BK241:=n2_
        have HB:=n3_
        have HO257:=n4_
        clear n0_ n1_ n2_ n3_ n4_ ho hb hg hat
        refine hK.out _ _ ⟨(ai BK241.out 0).trans rfl,(ai BK241.out 1).trans rfl,(ai BK241.out 2).trans rfl⟩ (fun hHeld=>?_)
        clear hK K
        refine bz (a':=?_) ?_ ?_
        rotate_left
        ·show Act.put _ (some 32) _ = _
         simp only [Act.put,List.setIfInBounds_toArray,List.set_cons_zero,List.set_cons_succ,ae,af]
         rfl
        refine one_ (i:=5) (N:=some 35) #[I,I,I,I,I,I,O,O] rfl rfl (bR HT_.out (by kernel_rfl)) (by decide) (fun K hK=>?_)
        refine cE Try.func128 (by kernel_rfl) rfl #[.agg #[.int .i64 a0_0,.int .i64 a0_1,.int .i64 a0_2],.int .i64 x7_1] (by rfl) rfl rfl (by (try simp only [List.map_toArray,List.map_cons,List.map_nil]);rfl) ?_
        with_reducible refine (aG.calls kj7 a0_0 a0_1 a0_2 x7_1 t258 _ A18.out).mono ?_
        rintro e w28 ⟨v259,rfl,ho0,hb⟩
        refine ⟨_,rfl,?_⟩
        have HO260:=M0 (Kd.bj (Kd.cZ (Kd.cZ (Kd.cZ ho0 (Kd.R_lt HO_5.out)) (Kd.R_lt HO_6.out)) (Kd.R_lt HO257.out)) (aj HB.out))
        replace HO_5:=M0 (Kd.cj HO_5.out (Kd.cS ho0) hb)
        replace HO_6:=M0 (Kd.cj HO_6.out (Kd.cS ho0) hb)
        replace HO257:=M0 (Kd.cj HO257.out (Kd.cS ho0) hb)
        replace BK241:=M0 (ab BK241.out hb)
        replace HB:=M0 (aa HB.out hb)
        clear hb ho0
        obtain ⟨Ao30,co30,eo30⟩:=Kd.bc HO260.out
        (subst eo30)
        refine hK.out _ _ ⟨(ai BK241.out 0).trans rfl,(ai BK241.out 1).trans rfl,(ai BK241.out 2).trans rfl⟩ (fun hHeld=>?_)
        clear hK K
        refine bz (a':=?_) ?_ ?_
        rotate_left
        ·show Act.put _ (some 35) _ = _
         simp only [Act.put,List.setIfInBounds_toArray,List.set_cons_zero,List.set_cons_succ,ae,af]
         rfl
        refine one_ (i:=6) (N:=some 36) #[I,I,I,I,I,I,I,O] rfl rfl (bR HT_.out (by kernel_rfl)) (by decide) (fun K hK=>?_)
        refine Kd.bZ (Kd.int .i64) (w0:=w) w.heap.size (by rfl) (.tmp 32) (.tmp 35) 22 2 (.int .i64 0) 8 rfl Try.underlying22 dY rfl (by decide) (by omega) v256 y255 t258 _ _ _ (fun k_=>some k_ ≠ (u5 : Value).ownBlock ∧ some k_ ≠ (.slice Ao27 x6_1.length co27 : Value).ownBlock ∧ some k_ ≠ (.slice Ao30 t258.length co30 : Value).ownBlock) (fun _=>False) rfl rfl ?aO ?aR (fun _ _ h=>h) (fun _ h=>h.elim) ?aF ?aB ?aS ?aL ?_
        (case aR=>exact (Kd.aE HO260.out).2.2)
        (case aB=>exact HB.out)
        (case aF=>exact (fun k_ hk=>⟨Kd.dL (Kd.R_lt HO_5.out) k_ hk,Kd.dL (Kd.R_lt HO_6.out) k_ hk,Kd.dL (Kd.R_lt HO260.out) k_ hk⟩))
        (case aO=>exact (by exact Kd.bb HO257.out (fun _ hk=>⟨hk.1.1,⟨hk.1.2,hk.2⟩⟩)))
        (case aS=>exact (aj HB.out))
        (case aL=>have:=LMc19.out;omega)
        intro v262 w29 ho hb hg hat
        rw [← Ny261.out] at ho
        have n0_:=M0 (Kd.de (ok:=(fun k_=>some k_ ≠ (.slice Ao27 x6_1.length co27 : Value).ownBlock ∧ some k_ ≠ (.slice Ao30 t258.length co30 : Value).ownBlock)) (by exact Kd.bb HO_5.out (fun _ hk=>⟨⟨hk.1.1,hk.2⟩,hk.1.2⟩)) hg hat)
        have n1_:=M0 (Kd.de (ok:=(fun k_=>some k_ ≠ (u5 : Value).ownBlock ∧ some k_ ≠ (.slice Ao30 t258.length co30 : Value).ownBlock)) (by exact Kd.bb HO_6.out (fun _ hk=>⟨⟨hk.1.1,hk.2⟩,hk.1.2⟩)) hg hat)
        have n2_:=M0 (bm (g:=gb241) (o:=.cells #[.int .i64 a0_0,.int .i64 a0_1,.int .i64 a0_2] 43 (0,0)) BK241.out hg (Kd.R_ne HO257.out BK241.out (by decide)))
        have n3_:=M0 (Kd.de (ok:=(fun k_=>some k_ ≠ (u5 : Value).ownBlock ∧ some k_ ≠ (.slice Ao27 x6_1.length co27 : Value).ownBlock)) (by exact Kd.bb HO260.out (fun _ hk=>⟨⟨hk.1.1.2,hk.1.2⟩,hk.2⟩)) hg hat)
        have n4_:=M0 (hb)
        have n5_:=M0 (ho)
        clear HO_5 HO_6 BK241 HO260 HB HO257
        have HO_5:=n0_
        have HO_6:=n1_
        have BK241:=n2_
        have HO260:=n3_
        have HB:=n4_
        have HO263:=n5_
        clear n0_ n1_ n2_ n3_ n4_ n5_ ho hb hg hat
        refine hK.out _ _ ⟨(ai BK241.out 0).trans rfl,(ai BK241.out 1).trans rfl,(ai BK241.out 2).trans rfl⟩ (fun hHeld=>?_)
        clear hK K
        refine bz (a':=?_) ?_ ?_
        rotate_left
        ·show Act.put _ (some 36) _ = _
         simp only [Act.put,List.setIfInBounds_toArray,List.set_cons_zero,List.set_cons_succ,ae,af]
         rfl
        refine aq (i:=7) (N:=some 8) #[I,I,I,I,I,I,I,I] rfl rfl (aM HT_.out (by kernel_rfl)) (fun _ _ _ h=>h) (Or.inl ⟨by rfl,by intro w';go_simp;with_reducible rfl⟩) (by simp only [Act.put,List.setIfInBounds_toArray,List.set_cons_zero,List.set_cons_succ,ae,af];rfl) ?_
        refine cD (dg HT_.out (by kernel_rfl)) ?_
        obtain ⟨Ao31,co31,eo31⟩:=Kd.bc HO_5.out
        subst eo31
        obtain ⟨Ao33,co33,eo33⟩:=Kd.bc HO263.out
        subst eo33
        try go_wp2_with (((with_reducible refine ak (N:=9) rfl ?_);(try (refine au (by rfl) ?_;dsimp only));refine aw rfl (N:=9) rfl (cs:=#[.int .i64 0,.int .i64 0,.slice none 0 0]) (t:=27) (by go_simp) ?_;intro gb264 hg w34 hbox hb;replace HO_5:=M0 (Kd.aK HO_5.out hb);replace HO_6:=M0 (Kd.aK HO_6.out hb);replace HO260:=M0 (Kd.aK HO260.out hb);replace HO263:=M0 (Kd.aK HO263.out hb);have BK264:=M0 (hbox);have GW264:=M0 ((by rw [hg];exact (aj HB.out) : w.heap.size ≤ gb264));have GE264:=GW264;replace HB:=M0 (aa HB.out hb);have NB241_264:=M0 ((by rw [hg];exact Nat.ne_of_lt (a7 BK241.out) : gb241 ≠ gb264));replace BK241:=M0 (ab BK241.out hb);clear hb hbox hg;have hcz36_0:=bcv (v:=.int .i64 0) BK264.out 0 rfl;have hcz36_1:=bcv (v:=.int .i64 0) BK264.out 1 rfl;have hcz36_2:=bcv (v:=.slice none 0 0) BK264.out 2 rfl;have hfz36_0:=ag BK264.out 0;have hfz36_1:=ag BK264.out 1;have hfz36_2:=ag BK264.out 2))
        have n0_ : Aside0 (Kd.R (Kd.int .i64) 2 (((w34.setCell ⟨gb264,0,none⟩ (.int .i64 (wrap64 ((x5_1.length : Int) + 1)))).setCell ⟨gb264,1,none⟩ (.int .i64 a0_0)).setCell ⟨gb264,2,none⟩ (.slice Ao33 y261.length co33)) w.heap.size (fun k_=>some k_ ≠ (.slice Ao27 x6_1.length co27 : Value).ownBlock ∧ some k_ ≠ (.slice Ao30 t258.length co30 : Value).ownBlock ∧ some k_ ≠ (.slice Ao33 y261.length co33 : Value).ownBlock) (.slice Ao31 x5_1.length co31) x5_1):=⟨by exact Kd.bb (Kd.bw (p:=⟨gb264,2,none⟩) (Kd.bw (p:=⟨gb264,1,none⟩) (Kd.bw (p:=⟨gb264,0,none⟩) (Kd.bP HO_5.out BK264.out (by decide)) (fun _ hk=>hk.2) (.int .i64 (wrap64 ((x5_1.length : Int) + 1)))) (fun _ hk=>hk.2) (.int .i64 a0_0)) (fun _ hk=>hk.2) (.slice Ao33 y261.length co33)) (fun _ hk=>⟨hk.1.1.1,⟨hk.1.1.2,hk.1.2⟩⟩)⟩
        have n1_ : Aside0 (Kd.R (Kd.int .i64) 2 (((w34.setCell ⟨gb264,0,none⟩ (.int .i64 (wrap64 ((x5_1.length : Int) + 1)))).setCell ⟨gb264,1,none⟩ (.int .i64 a0_0)).setCell ⟨gb264,2,none⟩ (.slice Ao33 y261.length co33)) w.heap.size (fun k_=>some k_ ≠ (.slice Ao31 x5_1.length co31 : Value).ownBlock ∧ some k_ ≠ (.slice Ao30 t258.length co30 : Value).ownBlock ∧ some k_ ≠ (.slice Ao33 y261.length co33 : Value).ownBlock) (.slice Ao27 x6_1.length co27) x6_1):=⟨by exact Kd.bb (Kd.bw (p:=⟨gb264,2,none⟩) (Kd.bw (p:=⟨gb264,1,none⟩) (Kd.bw (p:=⟨gb264,0,none⟩) (Kd.bP HO_6.out BK264.out (by decide)) (fun _ hk=>hk.2) (.int .i64 (wrap64 ((x5_1.length : Int) + 1)))) (fun _ hk=>hk.2) (.int .i64 a0_0)) (fun _ hk=>hk.2) (.slice Ao33 y261.length co33)) (fun _ hk=>⟨hk.1.1.1,⟨hk.1.1.2,hk.1.2⟩⟩)⟩
        have n2_ : Aside0 (Kd.R (Kd.int .i64) 2 (((w34.setCell ⟨gb264,0,none⟩ (.int .i64 (wrap64 ((x5_1.length : Int) + 1)))).setCell ⟨gb264,1,none⟩ (.int .i64 a0_0)).setCell ⟨gb264,2,none⟩ (.slice Ao33 y261.length co33)) w.heap.size (fun k_=>some k_ ≠ (.slice Ao31 x5_1.length co31 : Value).ownBlock ∧ some k_ ≠ (.slice Ao27 x6_1.length co27 : Value).ownBlock ∧ some k_ ≠ (.slice Ao33 y261.length co33 : Value).ownBlock) (.slice Ao30 t258.length co30) t258):=⟨by exact Kd.bb (Kd.bw (p:=⟨gb264,2,none⟩) (Kd.bw (p:=⟨gb264,1,none⟩) (Kd.bw (p:=⟨gb264,0,none⟩) (Kd.bP HO260.out BK264.out (by decide)) (fun _ hk=>hk.2) (.int .i64 (wrap64 ((x5_1.length : Int) + 1)))) (fun _ hk=>hk.2) (.int .i64 a0_0)) (fun _ hk=>hk.2) (.slice Ao33 y261.length co33)) (fun _ hk=>⟨hk.1.1.1,⟨hk.1.1.2,hk.1.2⟩⟩)⟩
        have n3_ : Aside0 (Kd.R (Kd.int .i64) 2 (((w34.setCell ⟨gb264,0,none⟩ (.int .i64 (wrap64 ((x5_1.length : Int) + 1)))).setCell ⟨gb264,1,none⟩ (.int .i64 a0_0)).setCell ⟨gb264,2,none⟩ (.slice Ao33 y261.length co33)) w.heap.size (fun k_=>some k_ ≠ (.slice Ao31 x5_1.length co31 : Value).ownBlock ∧ some k_ ≠ (.slice Ao27 x6_1.length co27 : Value).ownBlock ∧ some k_ ≠ (.slice Ao30 t258.length co30 : Value).ownBlock) (.slice Ao33 y261.length co33) y261):=⟨by exact Kd.bb (Kd.bw (p:=⟨gb264,2,none⟩) (Kd.bw (p:=⟨gb264,1,none⟩) (Kd.bw (p:=⟨gb264,0,none⟩) (Kd.bP HO263.out BK264.out (by decide)) (fun _ hk=>hk.2) (.int .i64 (wrap64 ((x5_1.length : Int) + 1)))) (fun _ hk=>hk.2) (.int .i64 a0_0)) (fun _ hk=>hk.2) (.slice Ao33 y261.length co33)) (fun _ hk=>⟨hk.1.1,⟨hk.1.2.1,hk.1.2.2⟩⟩)⟩
        have n4_ : Aside0 ((((w34.setCell ⟨gb264,0,none⟩ (.int .i64 (wrap64 ((x5_1.length : Int) + 1)))).setCell ⟨gb264,1,none⟩ (.int .i64 a0_0)).setCell ⟨gb264,2,none⟩ (.slice Ao33 y261.length co33)).heap[gb241]? = some (.cells #[.int .i64 a0_0,.int .i64 a0_1,.int .i64 a0_2] 43 (0,0))):=⟨by refine aX ?_ NB241_264.out _;refine aX ?_ NB241_264.out _;refine aX ?_ NB241_264.out _;exact BK241.out⟩
        have n5_ : Aside0 ((((w34.setCell ⟨gb264,0,none⟩ (.int .i64 (wrap64 ((x5_1.length : Int) + 1)))).setCell ⟨gb264,1,none⟩ (.int .i64 a0_0)).setCell ⟨gb264,2,none⟩ (.slice Ao33 y261.length co33)).heap[gb264]? = some (.cells #[.int .i64 (wrap64 ((x5_1.length : Int) + 1)),.int .i64 a0_0,.slice Ao33 y261.length co33] 27 (0,0))):=⟨by refine aW (cs:=#[.int .i64 (wrap64 ((x5_1.length : Int) + 1)),.int .i64 a0_0,.slice none 0 0]) ?_ 2 _ rfl;refine aW (cs:=#[.int .i64 (wrap64 ((x5_1.length : Int) + 1)),.int .i64 0,.slice none 0 0]) ?_ 1 _ rfl;refine aW (cs:=#[.int .i64 0,.int .i64 0,.slice none 0 0]) ?_ 0 _ rfl;exact BK264.out⟩
        have n6_ : Aside0 (Below w.heap.size w (((w34.setCell ⟨gb264,0,none⟩ (.int .i64 (wrap64 ((x5_1.length : Int) + 1)))).setCell ⟨gb264,1,none⟩ (.int .i64 a0_0)).setCell ⟨gb264,2,none⟩ (.slice Ao33 y261.length co33))):=⟨by repeat ((with_reducible first|exact HB.out|refine ax ?_ GE264.out))⟩
        clear HO_5 HO_6 HO260 HO263 BK241 BK264 HB
        generalize (((w34.setCell ⟨gb264,0,none⟩ (.int .i64 (wrap64 ((x5_1.length : Int) + 1)))).setCell ⟨gb264,1,none⟩ (.int .i64 a0_0)).setCell ⟨gb264,2,none⟩ (.slice Ao33 y261.length co33)) = w37 at n0_ n1_ n2_ n3_ n4_ n5_ n6_ ⊢
        have HO_5:=n0_
        have HO_6:=n1_
        have HO260:=n2_
        have HO263:=n3_
        have BK241:=n4_
        have BK264:=n5_
        have HB:=n6_
        clear n0_ n1_ n2_ n3_ n4_ n5_ n6_
        replace HO_5:=M0 (Kd.cL HO_5.out)
        replace HO_6:=M0 (Kd.cL HO_6.out)
        replace HO260:=M0 (Kd.cL HO260.out)
        replace HO263:=M0 (Kd.cL HO263.out)
        replace BK241:=M0 (bl BK241.out)
        replace BK264:=M0 (bl BK264.out)
        replace HB:=M0 (aQ HB.out)
        refine bW (n:=5) (S:=fun w'=>w'.cell? ⟨gb264,0,none⟩ = some (.int .i64 (wrap64 ((x5_1.length : Int) + 1))) ∧ w'.cell? ⟨gb264,1,none⟩ = some (.int .i64 a0_0) ∧ w'.cell? ⟨gb264,2,none⟩ = some (.slice Ao33 y261.length co33)) (ds:=[]) #[O,O,O,O,O] (by kernel_rfl) rfl rfl ⟨(ai BK264.out 0).trans rfl,(ai BK264.out 1).trans rfl,(ai BK264.out 2).trans rfl⟩ (fun hHeld=>?_)
        generalize w37.drew = w38 at HO_5 HO_6 HO260 HO263 BK241 BK264 HB hHeld ⊢
        refine aq (i:=2) (N:=some 46) #[O,O,I,O,O] rfl rfl (by kernel_rfl) (fun _ _ _ h=>h) (Or.inl ⟨by rfl,by intro w';go_simp;with_reducible rfl⟩) (by simp only [Act.put,List.setIfInBounds_toArray,List.set_cons_zero,List.set_cons_succ,ae,af];rfl) ?_
        refine bn (i:=0) (N:=some 44) #[I,O,I,O,O] rfl rfl (by kernel_rfl) (fun _ _ _ h=>h) (Or.inl ⟨by rfl,by rintro w' ⟨s0,s1,s2⟩;go_simp;with_reducible rfl⟩) hHeld (by simp only [Act.put,List.setIfInBounds_toArray,List.set_cons_zero,List.set_cons_succ,ae,af];rfl) ?_
        refine bn (i:=3) (N:=some 47) #[I,O,I,I,O] rfl rfl (by kernel_rfl) (fun _ _ _ h=>h) (Or.inl ⟨by rfl,by rintro w' ⟨s0,s1,s2⟩;go_simp;with_reducible rfl⟩) hHeld (by simp only [Act.put,List.setIfInBounds_toArray,List.set_cons_zero,List.set_cons_succ,ae,af];rfl) ?_
        refine one_ (i:=1) (N:=some 45) #[I,I,I,I,O] rfl rfl (by kernel_rfl) (by decide) (fun K hK=>?_)
        refine cE Try.func59 (by kernel_rfl) rfl #[.agg #[.int .i64 (wrap64 ((x5_1.length : Int) + 1)),.int .i64 a0_0,.slice Ao33 y261.length co33]] (by rfl) rfl rfl (by (try simp only [List.map_toArray,List.map_cons,List.map_nil]);rfl) ?_
        with_reducible refine (ay.calls kj7 (wrap64 ((x5_1.length : Int) + 1)) a0_0 _ _ y261 t265 _ ?side1 ?side2 A20.out).mono ?_
        (case side1=>exact (Kd.aE HO263.out).2.2)
        (case side2=>exact (Kd.aE HO263.out).2.1)
        rintro e w39 ⟨rfl,hb⟩
        refine ⟨_,rfl,?_⟩
        replace HO_5:=M0 (Kd.aK HO_5.out hb)
        replace HO_6:=M0 (Kd.aK HO_6.out hb)
        replace HO260:=M0 (Kd.aK HO260.out hb)
        replace HO263:=M0 (Kd.aK HO263.out hb)
        replace BK241:=M0 (ab BK241.out hb)
        replace BK264:=M0 (ab BK264.out hb)
        replace HB:=M0 (aa HB.out hb)
        clear hb
        refine hK.out _ _ ⟨(ai BK264.out 0).trans rfl,(ai BK264.out 1).trans rfl,(ai BK264.out 2).trans rfl⟩ (fun hHeld=>?_)
        clear hK K
        refine bz (a':=?_) ?_ ?_
        rotate_left
        ·show Act.put _ (some 45) _ = _
         simp only [Act.put,List.setIfInBounds_toArray,List.set_cons_zero,List.set_cons_succ,ae,af]
         rfl
        refine aq (i:=4) (N:=some 48) #[I,I,I,I,I] rfl rfl (by kernel_rfl) (fun _ _ _ h=>h) (Or.inl ⟨by rfl,by intro w';go_simp;with_reducible rfl⟩) (by simp only [Act.put,List.setIfInBounds_toArray,List.set_cons_zero,List.set_cons_succ,ae,af];rfl) ?_
        refine cD (by kernel_rfl) ?_
        try go_wp2_with (((with_reducible refine dw (b:=.append) (xs:=#[.tmp 49,.tmp 51]) rfl ?_);(try (refine au (by rfl) ?_;dsimp only));at_builtin;refine Kd.R_append (Kd.int .i64) (w0:=w) w.heap.size rfl (.tmp 49) (.tmp 51) 22 2 (.int .i64 0) 8 rfl Try.underlying22 dY rfl (by decide) (by omega) (.slice Ao31 x5_1.length co31) x5_1 x7_1 [.int .i64 x7_1] (fun k_=>some k_ ≠ (.slice Ao27 x6_1.length co27 : Value).ownBlock ∧ some k_ ≠ (.slice Ao30 t258.length co30 : Value).ownBlock ∧ some k_ ≠ (.slice Ao33 y261.length co33 : Value).ownBlock) (fun _=>False) rfl rfl ?aP (fun _ hk=>hk.elim) ?aF ?aO ?aB ?aS ?aL ?_;(case aP=>exact rfl);(case aB=>exact HB.out);(case aF=>exact (fun k_ hk=>⟨Kd.dL (Kd.R_lt HO_6.out) k_ hk,Kd.dL (Kd.R_lt HO260.out) k_ hk,Kd.dL (Kd.R_lt HO263.out) k_ hk⟩));(case aO=>exact HO_5.out);(case aS=>exact (aj HB.out));(case aL=>have:=LMc22.out;omega);intro v267 w40 ho hb hg hat;rw [← Ny266.out] at ho;have n0_:=M0 (Kd.de (ok:=(fun k_=>some k_ ≠ (.slice Ao30 t258.length co30 : Value).ownBlock ∧ some k_ ≠ (.slice Ao33 y261.length co33 : Value).ownBlock)) (by exact Kd.bb HO_6.out (fun _ hk=>⟨⟨hk.2.1,hk.2.2⟩,hk.1⟩)) hg hat);have n1_:=M0 (bm (g:=gb241) (o:=.cells #[.int .i64 a0_0,.int .i64 a0_1,.int .i64 a0_2] 43 (0,0)) BK241.out hg (Kd.R_ne HO_5.out BK241.out (by decide)));have n2_:=M0 (Kd.de (ok:=(fun k_=>some k_ ≠ (.slice Ao27 x6_1.length co27 : Value).ownBlock ∧ some k_ ≠ (.slice Ao33 y261.length co33 : Value).ownBlock)) (by exact Kd.bb HO260.out (fun _ hk=>⟨⟨hk.2.1,hk.2.2⟩,hk.1⟩)) hg hat);have n3_:=M0 (Kd.de (ok:=(fun k_=>some k_ ≠ (.slice Ao27 x6_1.length co27 : Value).ownBlock ∧ some k_ ≠ (.slice Ao30 t258.length co30 : Value).ownBlock)) (by exact Kd.bb HO263.out (fun _ hk=>⟨⟨hk.2.1,hk.2.2⟩,hk.1⟩)) hg hat);have n4_:=M0 (bm (g:=gb264) (o:=.cells #[.int .i64 (wrap64 ((x5_1.length : Int) + 1)),.int .i64 a0_0,.slice Ao33 y261.length co33] 27 (0,0)) BK264.out hg (Kd.R_ne HO_5.out BK264.out (by decide)));have n5_:=M0 (hb);have n6_:=M0 (ho);clear HO_6 BK241 HO260 HO263 BK264 HB HO_5;have HO_6:=n0_;have BK241:=n1_;have HO260:=n2_;have HO263:=n3_;have BK264:=n4_;have HB:=n5_;have HO268:=n6_;clear n0_ n1_ n2_ n3_ n4_ n5_ n6_ ho hb hg hat))
        go_roundg kj7
        case measure=>have:=HK1.out;have:=HJ7.out;omega
        case rel=>exact ⟨(y266),(y261),(wrap64 (x7_1 + 1)),(by rfl),H',⟨by have:=HK1.out;have:=HJ7.out;omega⟩,⟨by exact Kd.bb HO268.out (fun _ hk=>hk.2.2)⟩,⟨by exact Kd.bb HO263.out (fun _ hk=>hk.2)⟩,⟨by exact BK241.out⟩,⟨HB.out⟩⟩
       ·rw [if_neg c21] at H
        have c21b0 : (t265 == (wrap64 ((x5_1.length : Int) + 1))) = false:=beq_eq_false_iff_ne.mpr c21
        have H':=M0 H
        clear H
        have p251 : 0 ≤ (x7_1 : Int):=of_decide_eq_true (by with_reducible assumption)
        have q251 : x7_1 < (l1.length : Int):=of_decide_eq_true (by with_reducible assumption)
        obtain ⟨ad251,e251,hx251_0⟩:=Kd.dH HR1.out x7_1 p251 q251
        (try rw [← Nbq15.out] at hx251_0)
        cases e251
        replace hx251_0:=(HB.out.cell (World.block_lt_of_cell? w _ hx251_0)).trans hx251_0
        replace p251:=eq_true p251
        replace q251:=eq_true q251
        try go_wp2
        replace HO_5:=M0 (Kd.cL HO_5.out)
        replace HO_6:=M0 (Kd.cL HO_6.out)
        replace BK241:=M0 (bl BK241.out)
        replace HB:=M0 (aQ HB.out)
        refine bW (n:=8) (S:=fun w'=>w'.cell? ⟨gb241,0,none⟩ = some (.int .i64 a0_0) ∧ w'.cell? ⟨gb241,1,none⟩ = some (.int .i64 a0_1) ∧ w'.cell? ⟨gb241,2,none⟩ = some (.int .i64 a0_2)) (ds:=[]) #[O,O,O,O,O,O,O,O] (by kernel_rfl) rfl rfl ⟨(ai BK241.out 0).trans rfl,(ai BK241.out 1).trans rfl,(ai BK241.out 2).trans rfl⟩ (fun hHeld=>?_);refine cr aD.tab7 aD.bits7 (fun HT_ HW_=>?_)
        generalize wc.drew = w41 at HO_5 HO_6 BK241 HB hHeld ⊢
        refine aq (i:=1) (N:=some 31) #[O,I,O,O,O,O,O,O] rfl rfl (aM HT_.out (by kernel_rfl)) (fun _ _ _ h=>h) (Or.inl ⟨by rfl,by intro w';go_simp;with_reducible rfl⟩) (by simp only [Act.put,List.setIfInBounds_toArray,List.set_cons_zero,List.set_cons_succ,ae,af];rfl) ?_
        refine aq (i:=4) (N:=some 34) #[O,I,O,O,I,O,O,O] rfl rfl (aM HT_.out (by kernel_rfl)) (fun _ _ _ h=>h) (Or.inl ⟨by rfl,by intro w';go_simp;with_reducible rfl⟩) (by simp only [Act.put,List.setIfInBounds_toArray,List.set_cons_zero,List.set_cons_succ,ae,af];rfl) ?_
        refine bn (i:=3) (N:=some 33) #[O,I,O,I,I,O,O,O] rfl rfl (bC HT_.out HW_.out (by kernel_rfl)) (fun _ _ _ h=>h) (Or.inl ⟨by rfl,by rintro w' ⟨s0,s1,s2⟩;go_simp;with_reducible rfl⟩) hHeld (by simp only [Act.put,List.setIfInBounds_toArray,List.set_cons_zero,List.set_cons_succ,ae,af];rfl) ?_
        refine one_ (i:=0) (N:=some 30) #[I,I,O,I,I,O,O,O] rfl rfl (bR HT_.out (by kernel_rfl)) (by decide) (fun K hK=>?_)
        refine Kd.R_lit_step (Kd.int .i64) _ 2 ?hg (N:=30) ?hd (xs:=([] : List Int)) (inner:=[]) (ok:=fun _=>True) (okp:=fun _=>True) ?hr ?hp (fun _ hk=>hk) trivial (Below.refl _ _) (Nat.le_refl _) (by simp) ?_;(case hd=>rfl);(case hg=>rfl);(case hr=>(go_simp;done));(case hp=>exact (Reps.none _ _))
        intro v253 w42 ho43 hb hg_ hnew_
        clear hg_ hnew_
        (rw [← Ny252.out] at ho43)
        have HO254:=M0 (Kd.bj (Kd.cZ (Kd.cZ ho43 (Kd.R_lt HO_5.out)) (Kd.R_lt HO_6.out)) (aj HB.out))
        replace HO_5:=M0 (Kd.cj HO_5.out (Kd.cS ho43) hb)
        replace HO_6:=M0 (Kd.cj HO_6.out (Kd.cS ho43) hb)
        replace BK241:=M0 (ab BK241.out hb)
        replace HB:=M0 (aa HB.out hb)
        clear hb ho43
        obtain ⟨Ao45,co45,eo45⟩:=Kd.bc HO_6.out
        (subst eo45)
        refine hK.out _ _ ⟨(ai BK241.out 0).trans rfl,(ai BK241.out 1).trans rfl,(ai BK241.out 2).trans rfl⟩ (fun hHeld=>?_)
        clear hK K
        refine bz (a':=?_) ?_ ?_
        rotate_left
        ·show Act.put _ (some 30) _ = _
         simp only [Act.put,List.setIfInBounds_toArray,List.set_cons_zero,List.set_cons_succ,ae,af]
         rfl
        refine one_ (i:=2) (N:=some 32) #[I,I,I,I,I,O,O,O] rfl rfl (bR HT_.out (by kernel_rfl)) (by decide) (fun K hK=>?_)
        refine Kd.bZ (Kd.int .i64) (w0:=w) w.heap.size (by rfl) (.tmp 30) (.tmp 31) 22 2 (.int .i64 0) 8 rfl Try.underlying22 dY rfl (by decide) (by omega) v253 y252 x6_1 _ _ _ (fun k_=>some k_ ≠ (u5 : Value).ownBlock ∧ some k_ ≠ (.slice Ao45 x6_1.length co45 : Value).ownBlock) (fun _=>False) rfl rfl ?aO ?aR (fun _ _ h=>h) (fun _ h=>h.elim) ?aF ?aB ?aS ?aL ?_
        (case aR=>exact (Kd.aE HO_6.out).2.2)
        (case aB=>exact HB.out)
        (case aF=>exact (fun k_ hk=>⟨Kd.dL (Kd.R_lt HO_5.out) k_ hk,Kd.dL (Kd.R_lt HO_6.out) k_ hk⟩))
        (case aO=>exact (by exact Kd.bb HO254.out (fun _ hk=>⟨hk.1.2,hk.2⟩)))
        (case aS=>exact (aj HB.out))
        (case aL=>have:=LMc17.out;omega)
        intro v256 w44 ho hb hg hat
        rw [← Ny255.out] at ho
        have n0_:=M0 (Kd.de (ok:=(fun k_=>some k_ ≠ (.slice Ao45 x6_1.length co45 : Value).ownBlock)) HO_5.out hg hat)
        have n1_:=M0 (Kd.de (ok:=(fun k_=>some k_ ≠ (u5 : Value).ownBlock)) HO_6.out hg hat)
        have n2_:=M0 (bm (g:=gb241) (o:=.cells #[.int .i64 a0_0,.int .i64 a0_1,.int .i64 a0_2] 43 (0,0)) BK241.out hg (Kd.R_ne HO254.out BK241.out (by decide)))
        have n3_:=M0 (hb)
        have n4_:=M0 (ho)
        clear HO_5 HO_6 BK241 HB HO254
        have HO_5:=n0_
        have HO_6:=n1_
        have BK241:=n2_
        have HB:=n3_
        have HO257:=n4_
        clear n0_ n1_ n2_ n3_ n4_ ho hb hg hat
        refine hK.out _ _ ⟨(ai BK241.out 0).trans rfl,(ai BK241.out 1).trans rfl,(ai BK241.out 2).trans rfl⟩ (fun hHeld=>?_)
        clear hK K
        refine bz (a':=?_) ?_ ?_
        rotate_left
        ·show Act.put _ (some 32) _ = _
         simp only [Act.put,List.setIfInBounds_toArray,List.set_cons_zero,List.set_cons_succ,ae,af]
         rfl
        refine one_ (i:=5) (N:=some 35) #[I,I,I,I,I,I,O,O] rfl rfl (bR HT_.out (by kernel_rfl)) (by decide) (fun K hK=>?_)
        refine cE Try.func128 (by kernel_rfl) rfl #[.agg #[.int .i64 a0_0,.int .i64 a0_1,.int .i64 a0_2],.int .i64 x7_1] (by rfl) rfl rfl (by (try simp only [List.map_toArray,List.map_cons,List.map_nil]);rfl) ?_
        with_reducible refine (aG.calls kj7 a0_0 a0_1 a0_2 x7_1 t258 _ A18.out).mono ?_
        rintro e w46 ⟨v259,rfl,ho0,hb⟩
        refine ⟨_,rfl,?_⟩
        have HO260:=M0 (Kd.bj (Kd.cZ (Kd.cZ (Kd.cZ ho0 (Kd.R_lt HO_5.out)) (Kd.R_lt HO_6.out)) (Kd.R_lt HO257.out)) (aj HB.out))
        replace HO_5:=M0 (Kd.cj HO_5.out (Kd.cS ho0) hb)
        replace HO_6:=M0 (Kd.cj HO_6.out (Kd.cS ho0) hb)
        replace HO257:=M0 (Kd.cj HO257.out (Kd.cS ho0) hb)
        replace BK241:=M0 (ab BK241.out hb)
        replace HB:=M0 (aa HB.out hb)
        clear hb ho0
        obtain ⟨Ao48,co48,eo48⟩:=Kd.bc HO260.out
        (subst eo48)
        refine hK.out _ _ ⟨(ai BK241.out 0).trans rfl,(ai BK241.out 1).trans rfl,(ai BK241.out 2).trans rfl⟩ (fun hHeld=>?_)
        clear hK K
        refine bz (a':=?_) ?_ ?_
        rotate_left
        ·show Act.put _ (some 35) _ = _
         simp only [Act.put,List.setIfInBounds_toArray,List.set_cons_zero,List.set_cons_succ,ae,af]
         rfl
        refine one_ (i:=6) (N:=some 36) #[I,I,I,I,I,I,I,O] rfl rfl (bR HT_.out (by kernel_rfl)) (by decide) (fun K hK=>?_)
        refine Kd.bZ (Kd.int .i64) (w0:=w) w.heap.size (by rfl) (.tmp 32) (.tmp 35) 22 2 (.int .i64 0) 8 rfl Try.underlying22 dY rfl (by decide) (by omega) v256 y255 t258 _ _ _ (fun k_=>some k_ ≠ (u5 : Value).ownBlock ∧ some k_ ≠ (.slice Ao45 x6_1.length co45 : Value).ownBlock ∧ some k_ ≠ (.slice Ao48 t258.length co48 : Value).ownBlock) (fun _=>False) rfl rfl ?aO ?aR (fun _ _ h=>h) (fun _ h=>h.elim) ?aF ?aB ?aS ?aL ?_
        (case aR=>exact (Kd.aE HO260.out).2.2)
        (case aB=>exact HB.out)
        (case aF=>exact (fun k_ hk=>⟨Kd.dL (Kd.R_lt HO_5.out) k_ hk,Kd.dL (Kd.R_lt HO_6.out) k_ hk,Kd.dL (Kd.R_lt HO260.out) k_ hk⟩))
        (case aO=>exact (by exact Kd.bb HO257.out (fun _ hk=>⟨hk.1.1,⟨hk.1.2,hk.2⟩⟩)))
        (case aS=>exact (aj HB.out))
        (case aL=>have:=LMc19.out;omega)
        intro v262 w47 ho hb hg hat
        rw [← Ny261.out] at ho
        have n0_:=M0 (Kd.de (ok:=(fun k_=>some k_ ≠ (.slice Ao45 x6_1.length co45 : Value).ownBlock ∧ some k_ ≠ (.slice Ao48 t258.length co48 : Value).ownBlock)) (by exact Kd.bb HO_5.out (fun _ hk=>⟨⟨hk.1.1,hk.2⟩,hk.1.2⟩)) hg hat)
        have n1_:=M0 (Kd.de (ok:=(fun k_=>some k_ ≠ (u5 : Value).ownBlock ∧ some k_ ≠ (.slice Ao48 t258.length co48 : Value).ownBlock)) (by exact Kd.bb HO_6.out (fun _ hk=>⟨⟨hk.1.1,hk.2⟩,hk.1.2⟩)) hg hat)
        have n2_:=M0 (bm (g:=gb241) (o:=.cells #[.int .i64 a0_0,.int .i64 a0_1,.int .i64 a0_2] 43 (0,0)) BK241.out hg (Kd.R_ne HO257.out BK241.out (by decide)))
        have n3_:=M0 (Kd.de (ok:=(fun k_=>some k_ ≠ (u5 : Value).ownBlock ∧ some k_ ≠ (.slice Ao45 x6_1.length co45 : Value).ownBlock)) (by exact Kd.bb HO260.out (fun _ hk=>⟨⟨hk.1.1.2,hk.1.2⟩,hk.2⟩)) hg hat)
        have n4_:=M0 (hb)
        have n5_:=M0 (ho)
        clear HO_5 HO_6 BK241 HO260 HB HO257
        have HO_5:=n0_
        have HO_6:=n1_
        have BK241:=n2_
        have HO260:=n3_
        have HB:=n4_
        have HO263:=n5_
        clear n0_ n1_ n2_ n3_ n4_ n5_ ho hb hg hat
        refine hK.out _ _ ⟨(ai BK241.out 0).trans rfl,(ai BK241.out 1).trans rfl,(ai BK241.out 2).trans rfl⟩ (fun hHeld=>?_)
        clear hK K
        refine bz (a':=?_) ?_ ?_
        rotate_left
        ·show Act.put _ (some 36) _ = _
         simp only [Act.put,List.setIfInBounds_toArray,List.set_cons_zero,List.set_cons_succ,ae,af]
         rfl
        refine aq (i:=7) (N:=some 8) #[I,I,I,I,I,I,I,I] rfl rfl (aM HT_.out (by kernel_rfl)) (fun _ _ _ h=>h) (Or.inl ⟨by rfl,by intro w';go_simp;with_reducible rfl⟩) (by simp only [Act.put,List.setIfInBounds_toArray,List.set_cons_zero,List.set_cons_succ,ae,af];rfl) ?_
        refine cD (dg HT_.out (by kernel_rfl)) ?_
        obtain ⟨Ao49,co49,eo49⟩:=Kd.bc HO_5.out
        subst eo49
        obtain ⟨Ao51,co51,eo51⟩:=Kd.bc HO263.out
        subst eo51
        try go_wp2_with (((with_reducible refine ak (N:=9) rfl ?_);(try (refine au (by rfl) ?_;dsimp only));refine aw rfl (N:=9) rfl (cs:=#[.int .i64 0,.int .i64 0,.slice none 0 0]) (t:=27) (by go_simp) ?_;intro gb264 hg w52 hbox hb;replace HO_5:=M0 (Kd.aK HO_5.out hb);replace HO_6:=M0 (Kd.aK HO_6.out hb);replace HO260:=M0 (Kd.aK HO260.out hb);replace HO263:=M0 (Kd.aK HO263.out hb);have BK264:=M0 (hbox);have GW264:=M0 ((by rw [hg];exact (aj HB.out) : w.heap.size ≤ gb264));have GE264:=GW264;replace HB:=M0 (aa HB.out hb);have NB241_264:=M0 ((by rw [hg];exact Nat.ne_of_lt (a7 BK241.out) : gb241 ≠ gb264));replace BK241:=M0 (ab BK241.out hb);clear hb hbox hg;have hcz54_0:=bcv (v:=.int .i64 0) BK264.out 0 rfl;have hcz54_1:=bcv (v:=.int .i64 0) BK264.out 1 rfl;have hcz54_2:=bcv (v:=.slice none 0 0) BK264.out 2 rfl;have hfz54_0:=ag BK264.out 0;have hfz54_1:=ag BK264.out 1;have hfz54_2:=ag BK264.out 2))
        have n0_ : Aside0 (Kd.R (Kd.int .i64) 2 (((w52.setCell ⟨gb264,0,none⟩ (.int .i64 (wrap64 ((x5_1.length : Int) + 1)))).setCell ⟨gb264,1,none⟩ (.int .i64 a0_0)).setCell ⟨gb264,2,none⟩ (.slice Ao51 y261.length co51)) w.heap.size (fun k_=>some k_ ≠ (.slice Ao45 x6_1.length co45 : Value).ownBlock ∧ some k_ ≠ (.slice Ao48 t258.length co48 : Value).ownBlock ∧ some k_ ≠ (.slice Ao51 y261.length co51 : Value).ownBlock) (.slice Ao49 x5_1.length co49) x5_1):=⟨by exact Kd.bb (Kd.bw (p:=⟨gb264,2,none⟩) (Kd.bw (p:=⟨gb264,1,none⟩) (Kd.bw (p:=⟨gb264,0,none⟩) (Kd.bP HO_5.out BK264.out (by decide)) (fun _ hk=>hk.2) (.int .i64 (wrap64 ((x5_1.length : Int) + 1)))) (fun _ hk=>hk.2) (.int .i64 a0_0)) (fun _ hk=>hk.2) (.slice Ao51 y261.length co51)) (fun _ hk=>⟨hk.1.1.1,⟨hk.1.1.2,hk.1.2⟩⟩)⟩
        have n1_ : Aside0 (Kd.R (Kd.int .i64) 2 (((w52.setCell ⟨gb264,0,none⟩ (.int .i64 (wrap64 ((x5_1.length : Int) + 1)))).setCell ⟨gb264,1,none⟩ (.int .i64 a0_0)).setCell ⟨gb264,2,none⟩ (.slice Ao51 y261.length co51)) w.heap.size (fun k_=>some k_ ≠ (.slice Ao49 x5_1.length co49 : Value).ownBlock ∧ some k_ ≠ (.slice Ao48 t258.length co48 : Value).ownBlock ∧ some k_ ≠ (.slice Ao51 y261.length co51 : Value).ownBlock) (.slice Ao45 x6_1.length co45) x6_1):=⟨by exact Kd.bb (Kd.bw (p:=⟨gb264,2,none⟩) (Kd.bw (p:=⟨gb264,1,none⟩) (Kd.bw (p:=⟨gb264,0,none⟩) (Kd.bP HO_6.out BK264.out (by decide)) (fun _ hk=>hk.2) (.int .i64 (wrap64 ((x5_1.length : Int) + 1)))) (fun _ hk=>hk.2) (.int .i64 a0_0)) (fun _ hk=>hk.2) (.slice Ao51 y261.length co51)) (fun _ hk=>⟨hk.1.1.1,⟨hk.1.1.2,hk.1.2⟩⟩)⟩
        have n2_ : Aside0 (Kd.R (Kd.int .i64) 2 (((w52.setCell ⟨gb264,0,none⟩ (.int .i64 (wrap64 ((x5_1.length : Int) + 1)))).setCell ⟨gb264,1,none⟩ (.int .i64 a0_0)).setCell ⟨gb264,2,none⟩ (.slice Ao51 y261.length co51)) w.heap.size (fun k_=>some k_ ≠ (.slice Ao49 x5_1.length co49 : Value).ownBlock ∧ some k_ ≠ (.slice Ao45 x6_1.length co45 : Value).ownBlock ∧ some k_ ≠ (.slice Ao51 y261.length co51 : Value).ownBlock) (.slice Ao48 t258.length co48) t258):=⟨by exact Kd.bb (Kd.bw (p:=⟨gb264,2,none⟩) (Kd.bw (p:=⟨gb264,1,none⟩) (Kd.bw (p:=⟨gb264,0,none⟩) (Kd.bP HO260.out BK264.out (by decide)) (fun _ hk=>hk.2) (.int .i64 (wrap64 ((x5_1.length : Int) + 1)))) (fun _ hk=>hk.2) (.int .i64 a0_0)) (fun _ hk=>hk.2) (.slice Ao51 y261.length co51)) (fun _ hk=>⟨hk.1.1.1,⟨hk.1.1.2,hk.1.2⟩⟩)⟩
        have n3_ : Aside0 (Kd.R (Kd.int .i64) 2 (((w52.setCell ⟨gb264,0,none⟩ (.int .i64 (wrap64 ((x5_1.length : Int) + 1)))).setCell ⟨gb264,1,none⟩ (.int .i64 a0_0)).setCell ⟨gb264,2,none⟩ (.slice Ao51 y261.length co51)) w.heap.size (fun k_=>some k_ ≠ (.slice Ao49 x5_1.length co49 : Value).ownBlock ∧ some k_ ≠ (.slice Ao45 x6_1.length co45 : Value).ownBlock ∧ some k_ ≠ (.slice Ao48 t258.length co48 : Value).ownBlock) (.slice Ao51 y261.length co51) y261):=⟨by exact Kd.bb (Kd.bw (p:=⟨gb264,2,none⟩) (Kd.bw (p:=⟨gb264,1,none⟩) (Kd.bw (p:=⟨gb264,0,none⟩) (Kd.bP HO263.out BK264.out (by decide)) (fun _ hk=>hk.2) (.int .i64 (wrap64 ((x5_1.length : Int) + 1)))) (fun _ hk=>hk.2) (.int .i64 a0_0)) (fun _ hk=>hk.2) (.slice Ao51 y261.length co51)) (fun _ hk=>⟨hk.1.1,⟨hk.1.2.1,hk.1.2.2⟩⟩)⟩
        have n4_ : Aside0 ((((w52.setCell ⟨gb264,0,none⟩ (.int .i64 (wrap64 ((x5_1.length : Int) + 1)))).setCell ⟨gb264,1,none⟩ (.int .i64 a0_0)).setCell ⟨gb264,2,none⟩ (.slice Ao51 y261.length co51)).heap[gb241]? = some (.cells #[.int .i64 a0_0,.int .i64 a0_1,.int .i64 a0_2] 43 (0,0))):=⟨by refine aX ?_ NB241_264.out _;refine aX ?_ NB241_264.out _;refine aX ?_ NB241_264.out _;exact BK241.out⟩
        have n5_ : Aside0 ((((w52.setCell ⟨gb264,0,none⟩ (.int .i64 (wrap64 ((x5_1.length : Int) + 1)))).setCell ⟨gb264,1,none⟩ (.int .i64 a0_0)).setCell ⟨gb264,2,none⟩ (.slice Ao51 y261.length co51)).heap[gb264]? = some (.cells #[.int .i64 (wrap64 ((x5_1.length : Int) + 1)),.int .i64 a0_0,.slice Ao51 y261.length co51] 27 (0,0))):=⟨by refine aW (cs:=#[.int .i64 (wrap64 ((x5_1.length : Int) + 1)),.int .i64 a0_0,.slice none 0 0]) ?_ 2 _ rfl;refine aW (cs:=#[.int .i64 (wrap64 ((x5_1.length : Int) + 1)),.int .i64 0,.slice none 0 0]) ?_ 1 _ rfl;refine aW (cs:=#[.int .i64 0,.int .i64 0,.slice none 0 0]) ?_ 0 _ rfl;exact BK264.out⟩
        have n6_ : Aside0 (Below w.heap.size w (((w52.setCell ⟨gb264,0,none⟩ (.int .i64 (wrap64 ((x5_1.length : Int) + 1)))).setCell ⟨gb264,1,none⟩ (.int .i64 a0_0)).setCell ⟨gb264,2,none⟩ (.slice Ao51 y261.length co51))):=⟨by repeat ((with_reducible first|exact HB.out|refine ax ?_ GE264.out))⟩
        clear HO_5 HO_6 HO260 HO263 BK241 BK264 HB
        generalize (((w52.setCell ⟨gb264,0,none⟩ (.int .i64 (wrap64 ((x5_1.length : Int) + 1)))).setCell ⟨gb264,1,none⟩ (.int .i64 a0_0)).setCell ⟨gb264,2,none⟩ (.slice Ao51 y261.length co51)) = w55 at n0_ n1_ n2_ n3_ n4_ n5_ n6_ ⊢
        have HO_5:=n0_
        have HO_6:=n1_
        have HO260:=n2_
        have HO263:=n3_
        have BK241:=n4_
        have BK264:=n5_
        have HB:=n6_
        clear n0_ n1_ n2_ n3_ n4_ n5_ n6_
        replace HO_5:=M0 (Kd.cL HO_5.out)
        replace HO_6:=M0 (Kd.cL HO_6.out)
        replace HO260:=M0 (Kd.cL HO260.out)
        replace HO263:=M0 (Kd.cL HO263.out)
        replace BK241:=M0 (bl BK241.out)
        replace BK264:=M0 (bl BK264.out)
        replace HB:=M0 (aQ HB.out)
        refine bW (n:=5) (S:=fun w'=>w'.cell? ⟨gb264,0,none⟩ = some (.int .i64 (wrap64 ((x5_1.length : Int) + 1))) ∧ w'.cell? ⟨gb264,1,none⟩ = some (.int .i64 a0_0) ∧ w'.cell? ⟨gb264,2,none⟩ = some (.slice Ao51 y261.length co51)) (ds:=[]) #[O,O,O,O,O] (by kernel_rfl) rfl rfl ⟨(ai BK264.out 0).trans rfl,(ai BK264.out 1).trans rfl,(ai BK264.out 2).trans rfl⟩ (fun hHeld=>?_)
        generalize w55.drew = w56 at HO_5 HO_6 HO260 HO263 BK241 BK264 HB hHeld ⊢
        refine aq (i:=2) (N:=some 46) #[O,O,I,O,O] rfl rfl (by kernel_rfl) (fun _ _ _ h=>h) (Or.inl ⟨by rfl,by intro w';go_simp;with_reducible rfl⟩) (by simp only [Act.put,List.setIfInBounds_toArray,List.set_cons_zero,List.set_cons_succ,ae,af];rfl) ?_
        refine bn (i:=0) (N:=some 44) #[I,O,I,O,O] rfl rfl (by kernel_rfl) (fun _ _ _ h=>h) (Or.inl ⟨by rfl,by rintro w' ⟨s0,s1,s2⟩;go_simp;with_reducible rfl⟩) hHeld (by simp only [Act.put,List.setIfInBounds_toArray,List.set_cons_zero,List.set_cons_succ,ae,af];rfl) ?_
        refine bn (i:=3) (N:=some 47) #[I,O,I,I,O] rfl rfl (by kernel_rfl) (fun _ _ _ h=>h) (Or.inl ⟨by rfl,by rintro w' ⟨s0,s1,s2⟩;go_simp;with_reducible rfl⟩) hHeld (by simp only [Act.put,List.setIfInBounds_toArray,List.set_cons_zero,List.set_cons_succ,ae,af];rfl) ?_
        refine one_ (i:=1) (N:=some 45) #[I,I,I,I,O] rfl rfl (by kernel_rfl) (by decide) (fun K hK=>?_)
        refine cE Try.func59 (by kernel_rfl) rfl #[.agg #[.int .i64 (wrap64 ((x5_1.length : Int) + 1)),.int .i64 a0_0,.slice Ao51 y261.length co51]] (by rfl) rfl rfl (by (try simp only [List.map_toArray,List.map_cons,List.map_nil]);rfl) ?_
        with_reducible refine (ay.calls kj7 (wrap64 ((x5_1.length : Int) + 1)) a0_0 _ _ y261 t265 _ ?side1 ?side2 A20.out).mono ?_
        (case side1=>exact (Kd.aE HO263.out).2.2)
        (case side2=>exact (Kd.aE HO263.out).2.1)
        rintro e w57 ⟨rfl,hb⟩
        refine ⟨_,rfl,?_⟩
        replace HO_5:=M0 (Kd.aK HO_5.out hb)
        replace HO_6:=M0 (Kd.aK HO_6.out hb)
        replace HO260:=M0 (Kd.aK HO260.out hb)
        replace HO263:=M0 (Kd.aK HO263.out hb)
        replace BK241:=M0 (ab BK241.out hb)
        replace BK264:=M0 (ab BK264.out hb)
        replace HB:=M0 (aa HB.out hb)
        clear hb
        refine hK.out _ _ ⟨(ai BK264.out 0).trans rfl,(ai BK264.out 1).trans rfl,(ai BK264.out 2).trans rfl⟩ (fun hHeld=>?_)
        clear hK K
        refine bz (a':=?_) ?_ ?_
        rotate_left
        ·show Act.put _ (some 45) _ = _
         simp only [Act.put,List.setIfInBounds_toArray,List.set_cons_zero,List.set_cons_succ,ae,af]
         rfl
        refine aq (i:=4) (N:=some 48) #[I,I,I,I,I] rfl rfl (by kernel_rfl) (fun _ _ _ h=>h) (Or.inl ⟨by rfl,by intro w';go_simp;with_reducible rfl⟩) (by simp only [Act.put,List.setIfInBounds_toArray,List.set_cons_zero,List.set_cons_succ,ae,af];rfl) ?_
        refine cD (by kernel_rfl) ?_
        try go_wp2
        go_roundg kj7
        case measure=>have:=HK1.out;have:=HJ7.out;omega
        case rel=>exact ⟨(x5_1),(x6_1),(wrap64 (x7_1 + 1)),(by rfl),H',⟨by have:=HK1.out;have:=HJ7.out;omega⟩,⟨by exact Kd.bb HO_5.out (fun _ hk=>hk.1)⟩,⟨by exact Kd.bb HO_6.out (fun _ hk=>hk.1)⟩,⟨by exact BK241.out⟩,⟨HB.out⟩⟩
      ·replace c16:=Bool.eq_false_iff.mpr c16
       subst c16
       have H1 : (aD.l0 kj7 l1 x5_1 x6_1 (wrap64 (x7_1 + 1)) a0_0 a0_1 a0_2) = some r:=by rw [if_neg (show ¬ (false = true) by decide)] at H;exact H
       clear H
       have H:=H1
       clear H1
       have H':=M0 H
       clear H
       have p251 : 0 ≤ (x7_1 : Int):=of_decide_eq_true (by with_reducible assumption)
       have q251 : x7_1 < (l1.length : Int):=of_decide_eq_true (by with_reducible assumption)
       obtain ⟨ad251,e251,hx251_0⟩:=Kd.dH HR1.out x7_1 p251 q251
       (try rw [← Nbq15.out] at hx251_0)
       cases e251
       replace hx251_0:=(HB.out.cell (World.block_lt_of_cell? w _ hx251_0)).trans hx251_0
       replace p251:=eq_true p251
       replace q251:=eq_true q251
       go_wp2
       go_roundg kj7
       case measure=>have:=HK1.out;have:=HJ7.out;omega
       case rel=>exact ⟨(x5_1),(x6_1),(wrap64 (x7_1 + 1)),(by rfl),H',⟨by have:=HK1.out;have:=HJ7.out;omega⟩,⟨by exact HO_5.out⟩,⟨by exact HO_6.out⟩,⟨by exact BK241.out⟩,⟨HB.out⟩⟩
     ·replace c12:=Bool.eq_false_iff.mpr c12
      subst c12
      have H1 : (if (x5_1.length : Int) < a0_0 then (some (([] : List Int))) else (some x5_1)) = some r:=by rw [if_neg (show ¬ (false = true) by decide)] at H;exact H
      clear H
      have H:=H1
      clear H1
      by_cases c58 : (x5_1.length : Int) < a0_0
      ·rw [if_pos c58] at H
       have c58b0:=decide_eq_true c58
       clear c58
       obtain ⟨y248,hy248⟩ : ∃ y_ : List Int,y_ = (([] : List Int)):=⟨_,rfl⟩
       rw [← hy248] at H
       have Ny248:=M0 hy248
       clear hy248
       obtain rfl:=Option.some.inj H
       obtain ⟨Ao59,co59,eo59⟩:=Kd.bc HO_5.out
       subst eo59
       have hcz60_0:=bcv (v:=.int .i64 a0_0) BK241.out 0 rfl
       go_wp2_with (((with_reducible refine ak (N:=59) rfl ?_);(try (refine au (by rfl) ?_;dsimp only));refine Kd.R_lit (Kd.int .i64) _ 2 ?hg (N:=59) ?hd (xs:=([] : List Int)) (inner:=[]) (ok:=fun _=>True) (okp:=fun _=>True) ?hr ?hp (fun _ hk=>hk) trivial (Below.refl _ _) (Nat.le_refl _) (by simp) ?_;(case hd=>rfl);(case hg=>rfl);(case hr=>(go_simp;done));(case hp=>exact (Reps.none _ _));intro v249 w61 ho62 hb hg_ hnew_;clear hg_ hnew_;(rw [← Ny248.out] at ho62);have HO250:=M0 (Kd.bj (Kd.cZ (Kd.cZ ho62 (Kd.R_lt HO_5.out)) (Kd.R_lt HO_6.out)) (aj HB.out));replace HO_5:=M0 (Kd.cj HO_5.out (Kd.cS ho62) hb);replace HO_6:=M0 (Kd.cj HO_6.out (Kd.cS ho62) hb);replace BK241:=M0 (ab BK241.out hb);replace HB:=M0 (aa HB.out hb);clear hb ho62))
       go_ret
       exact ⟨_,by rfl,by exact Kd.bb HO250.out (fun _ hk=>trivial),HB.out⟩
      ·rw [if_neg c58] at H
       have c58b0:=decide_eq_false c58
       clear c58
       obtain rfl:=Option.some.inj H
       obtain ⟨Ao63,co63,eo63⟩:=Kd.bc HO_5.out
       subst eo63
       have hcz64_0:=bcv (v:=.int .i64 a0_0) BK241.out 0 rfl
       go_wp2
       go_ret
       exact ⟨_,by rfl,by exact Kd.bb HO_5.out (fun _ hk=>trivial),HB.out⟩

end Go.Proofs.Ytffhbpepppodeaa.PFnExactJoinObject
