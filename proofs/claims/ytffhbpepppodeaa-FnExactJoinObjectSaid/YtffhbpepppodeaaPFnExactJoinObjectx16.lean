import Derived.Test.YtffhbpepppodeaaPFnExactJoinObjectx0
import Derived.Test.YtffhbpepppodeaaPFnExactJoinObjectx5
namespace Go.Proofs.Ytffhbpepppodeaa.PFnExactJoinObject
open Go.RowKit Go.Proofs.YtffhbpepppodeaaW.PrintWords Go.Proofs.YtffhbpepppodeaaW.PrintLast Go.Proofs.YtffhbpepppodeaaW.PrintMore
attribute [local go_sem] cF cG cW cX cn cp cI cJ   -- for this text's walks alone
set_option linter.unusedVariables false
set_option linter.unusedSimpArgs false

/-! ### aV: function 114 -/
def aV.j0 : Nat → Int → Int → Bool → Int → Int → Int → Option (Int)
 | 0,_,_,_,_,_,_=>none
 | k + 1,x1,x2,x26,x373000,x373001,x373002=>if x26 = true then (some (-1)) else (if (wrap64 (x373000 * x1)) = 0 then (none) else (if (wrap64 (Int.tdiv (wrap64 ((wrap64 (x2 + (wrap64 (x373000 * x1)))) - 1)) (wrap64 (x373000 * x1)))) > 200 then (some (-1)) else (some (wrap64 (Int.tdiv (wrap64 ((wrap64 (x2 + (wrap64 (x373000 * x1)))) - 1)) (wrap64 (x373000 * x1)))))))
def aV.f (k : Nat) (a0_0 : Int) (a0_1 : Int) (a0_2 : Int) (a1 : Int) (a2 : Int) : Option (Int):=(aY.f a0_0 a0_1 a0_2).bind fun t373=>(if t373 = 0 then (if a1 < 1 then (aV.j0 k a1 a2 true a0_0 a0_1 a0_2) else (if a1 > 4096 then (aV.j0 k a1 a2 true a0_0 a0_1 a0_2) else (if a2 < 0 then (aV.j0 k a1 a2 true a0_0 a0_1 a0_2) else (aV.j0 k a1 a2 (decide (a2 > 100000)) a0_0 a0_1 a0_2)))) else (aV.j0 k a1 a2 true a0_0 a0_1 a0_2))
set_option maxHeartbeats 8000000 in
set_option maxRecDepth 100000 in
theorem aV.calls (k : Nat) (a0_0 : Int) (a0_1 : Int) (a0_2 : Int) (a1 : Int) (a2 : Int) (r : Int) (w : World) (h : aV.f k a0_0 a0_1 a0_2 a1 a2 = some r) :
  Calls Try.prog 114 #[.agg #[.int .i64 a0_0,.int .i64 a0_1,.int .i64 a0_2],.int .i64 a1,.int .i64 a2] w fun e w'=>e = .returned (.int .i64 r) ∧ Below w.heap.size w w':=by
 have HB:=M0 (Below.refl w.heap.size w)
 have H : ((aY.f a0_0 a0_1 a0_2).bind fun t373=>(if t373 = 0 then (if a1 < 1 then (aV.j0 k a1 a2 true a0_0 a0_1 a0_2) else (if a1 > 4096 then (aV.j0 k a1 a2 true a0_0 a0_1 a0_2) else (if a2 < 0 then (aV.j0 k a1 a2 true a0_0 a0_1 a0_2) else (aV.j0 k a1 a2 (decide (a2 > 100000)) a0_0 a0_1 a0_2)))) else (aV.j0 k a1 a2 true a0_0 a0_1 a0_2))) = some r:=h
 clear h
 have HC4:=M0 H
 clear H
 go_enter Try.func114,Try.ntmps114
 go_upto_region 1 with (((with_reducible refine ak (N:=3) rfl ?_);refine aw rfl (N:=3) rfl (cs:=#[.int .i64 a0_0,.int .i64 a0_1,.int .i64 a0_2]) (t:=43) (by go_simp) ?_;intro gb372 hg w5 hbox hb;have BK372:=M0 (hbox);replace HB:=M0 (aa HB.out hb);clear hb hbox hg))
 go_cut [26] (fun v26 wc=>∃ (kq : Nat) (x26_3 : Bool),v26 = .bool x26_3 ∧ Aside0 (aV.j0 kq a1 a2 x26_3 a0_0 a0_1 a0_2 = some r) ∧ Aside0 (kq ≤ k) ∧ Aside0 (wc.heap[gb372]? = some (.cells #[.int .i64 a0_0,.int .i64 a0_1,.int .i64 a0_2] 43 (0,0))) ∧ Aside0 (Below w.heap.size w wc))
 case first=>
  have H:=HC4.out
  clear HC4
  replace H:=Option.bind_eq_some_iff.mp H
  obtain ⟨t373,A60,H⟩:=H
  replace H : (if t373 = 0 then (if a1 < 1 then (aV.j0 k a1 a2 true a0_0 a0_1 a0_2) else (if a1 > 4096 then (aV.j0 k a1 a2 true a0_0 a0_1 a0_2) else (if a2 < 0 then (aV.j0 k a1 a2 true a0_0 a0_1 a0_2) else (aV.j0 k a1 a2 (decide (a2 > 100000)) a0_0 a0_1 a0_2)))) else (aV.j0 k a1 a2 true a0_0 a0_1 a0_2)) = some r:=H
  have A6:=M0 A60
  clear A60
  by_cases c7 : t373 = 0
  ·rw [if_pos c7] at H
   have c7b0 : (t373 == 0) = true:=beq_iff_eq.mpr c7
   have c7b1 : (t373 != 0) = false:=bne_eq_false_iff_eq.mpr c7
   clear c7
   (skip)
   by_cases c8 : a1 < 1
   ·rw [if_pos c8] at H
    have c8b0:=decide_eq_true c8
    clear c8
    have H':=M0 H
    clear H
    have hcz9_0:=bcv (v:=.int .i64 a0_0) BK372.out 0 rfl
    have hcz9_1:=bcv (v:=.int .i64 a0_1) BK372.out 1 rfl
    have hcz9_2:=bcv (v:=.int .i64 a0_2) BK372.out 2 rfl
    go_wp2_with (((with_reducible refine ah (f:=89) rfl ?_);refine aH (some 9) rfl rfl Try.func89 (by kernel_rfl) rfl #[.agg #[.int .i64 a0_0,.int .i64 a0_1,.int .i64 a0_2]] rfl (by (try simp only [List.map_toArray,List.map_cons,List.map_nil]);rfl) ?_;(with_reducible refine (aY.calls a0_0 a0_1 a0_2 t373 _ A6.out).mono ?_);rintro e w10 ⟨rfl,hb⟩;refine ⟨_,rfl,?_⟩;replace BK372:=M0 (ab BK372.out hb);replace HB:=M0 (aa HB.out hb);clear hb))
    go_meet
    case rel=>exact ⟨_,(true),(by rfl),H',⟨by omega⟩,⟨by exact BK372.out⟩,⟨HB.out⟩⟩
   ·rw [if_neg c8] at H
    have c8b0:=decide_eq_false c8
    clear c8
    by_cases c11 : a1 > 4096
    ·rw [if_pos c11] at H
     have c11b0:=decide_eq_true c11
     clear c11
     have H':=M0 H
     clear H
     have hcz12_0:=bcv (v:=.int .i64 a0_0) BK372.out 0 rfl
     have hcz12_1:=bcv (v:=.int .i64 a0_1) BK372.out 1 rfl
     have hcz12_2:=bcv (v:=.int .i64 a0_2) BK372.out 2 rfl
     go_wp2_with (((with_reducible refine ah (f:=89) rfl ?_);refine aH (some 9) rfl rfl Try.func89 (by kernel_rfl) rfl #[.agg #[.int .i64 a0_0,.int .i64 a0_1,.int .i64 a0_2]] rfl (by (try simp only [List.map_toArray,List.map_cons,List.map_nil]);rfl) ?_;(with_reducible refine (aY.calls a0_0 a0_1 a0_2 t373 _ A6.out).mono ?_);rintro e w13 ⟨rfl,hb⟩;refine ⟨_,rfl,?_⟩;replace BK372:=M0 (ab BK372.out hb);replace HB:=M0 (aa HB.out hb);clear hb))
     go_meet
     case rel=>exact ⟨_,(true),(by rfl),H',⟨by omega⟩,⟨by exact BK372.out⟩,⟨HB.out⟩⟩
    ·rw [if_neg c11] at H
     have c11b0:=decide_eq_false c11
     clear c11
     by_cases c14 : a2 < 0
     ·rw [if_pos c14] at H
      have c14b0:=decide_eq_true c14
      clear c14
      have H':=M0 H
      clear H
      have hcz15_0:=bcv (v:=.int .i64 a0_0) BK372.out 0 rfl
      have hcz15_1:=bcv (v:=.int .i64 a0_1) BK372.out 1 rfl
      have hcz15_2:=bcv (v:=.int .i64 a0_2) BK372.out 2 rfl
      go_wp2_with (((with_reducible refine ah (f:=89) rfl ?_);refine aH (some 9) rfl rfl Try.func89 (by kernel_rfl) rfl #[.agg #[.int .i64 a0_0,.int .i64 a0_1,.int .i64 a0_2]] rfl (by (try simp only [List.map_toArray,List.map_cons,List.map_nil]);rfl) ?_;(with_reducible refine (aY.calls a0_0 a0_1 a0_2 t373 _ A6.out).mono ?_);rintro e w16 ⟨rfl,hb⟩;refine ⟨_,rfl,?_⟩;replace BK372:=M0 (ab BK372.out hb);replace HB:=M0 (aa HB.out hb);clear hb))
      go_meet
      case rel=>exact ⟨_,(true),(by rfl),H',⟨by omega⟩,⟨by exact BK372.out⟩,⟨HB.out⟩⟩
     ·rw [if_neg c14] at H
      have c14b0:=decide_eq_false c14
      clear c14
      have H':=M0 H
      clear H
      have hcz17_0:=bcv (v:=.int .i64 a0_0) BK372.out 0 rfl
      have hcz17_1:=bcv (v:=.int .i64 a0_1) BK372.out 1 rfl
      have hcz17_2:=bcv (v:=.int .i64 a0_2) BK372.out 2 rfl
      go_wp2_with (((with_reducible refine ah (f:=89) rfl ?_);refine aH (some 9) rfl rfl Try.func89 (by kernel_rfl) rfl #[.agg #[.int .i64 a0_0,.int .i64 a0_1,.int .i64 a0_2]] rfl (by (try simp only [List.map_toArray,List.map_cons,List.map_nil]);rfl) ?_;(with_reducible refine (aY.calls a0_0 a0_1 a0_2 t373 _ A6.out).mono ?_);rintro e w18 ⟨rfl,hb⟩;refine ⟨_,rfl,?_⟩;replace BK372:=M0 (ab BK372.out hb);replace HB:=M0 (aa HB.out hb);clear hb))
      go_meet
      case rel=>exact ⟨_,(decide (a2 > 100000)),(by rfl),H',⟨by omega⟩,⟨by exact BK372.out⟩,⟨HB.out⟩⟩
  ·rw [if_neg c7] at H
   have c7b1 : (t373 != 0) = true:=bne_iff_ne.mpr c7
   (skip)
   have H':=M0 H
   clear H
   have hcz19_0:=bcv (v:=.int .i64 a0_0) BK372.out 0 rfl
   have hcz19_1:=bcv (v:=.int .i64 a0_1) BK372.out 1 rfl
   have hcz19_2:=bcv (v:=.int .i64 a0_2) BK372.out 2 rfl
   go_wp2_with (((with_reducible refine ah (f:=89) rfl ?_);refine aH (some 9) rfl rfl Try.func89 (by kernel_rfl) rfl #[.agg #[.int .i64 a0_0,.int .i64 a0_1,.int .i64 a0_2]] rfl (by (try simp only [List.map_toArray,List.map_cons,List.map_nil]);rfl) ?_;(with_reducible refine (aY.calls a0_0 a0_1 a0_2 t373 _ A6.out).mono ?_);rintro e w20 ⟨rfl,hb⟩;refine ⟨_,rfl,?_⟩;replace BK372:=M0 (ab BK372.out hb);replace HB:=M0 (aa HB.out hb);clear hb))
   go_meet
   case rel=>exact ⟨_,(true),(by rfl),H',⟨by omega⟩,⟨by exact BK372.out⟩,⟨HB.out⟩⟩
 case rest=>
  clear HC4
  obtain ⟨kq,x26_3,rfl,HA,HJ3,BK372,HB⟩:=hcut
  cases kq with
  | zero=>exact absurd HA.out (by simp [aV.j0])
  | succ kj3=>
   have H:=HA.out
   clear HA
   simp only [aV.j0] at H
   by_cases c21 : x26_3 = true
   ·subst c21
    have H1 : (some (-1)) = some r:=by rw [if_pos rfl] at H;exact H
    clear H
    have H:=H1
    clear H1
    obtain rfl:=Option.some.inj H
    go_wp2
    go_ret
    exact ⟨by rfl,HB.out⟩
   ·replace c21:=Bool.eq_false_iff.mpr c21
    subst c21
    have H1 : (if (wrap64 (a0_0 * a1)) = 0 then (none) else (if (wrap64 (Int.tdiv (wrap64 ((wrap64 (a2 + (wrap64 (a0_0 * a1)))) - 1)) (wrap64 (a0_0 * a1)))) > 200 then (some (-1)) else (some (wrap64 (Int.tdiv (wrap64 ((wrap64 (a2 + (wrap64 (a0_0 * a1)))) - 1)) (wrap64 (a0_0 * a1))))))) = some r:=by rw [if_neg (show ¬ (false = true) by decide)] at H;exact H
    clear H
    have H:=H1
    clear H1
    by_cases c22 : (wrap64 (a0_0 * a1)) = 0
    ·rw [if_pos c22] at H
     exact absurd H (by simp)
    ·rw [if_neg c22] at H
     have c22b0 : ((wrap64 (a0_0 * a1)) == 0) = false:=beq_eq_false_iff_ne.mpr c22
     have c22b1 : ((wrap64 (a0_0 * a1)) != 0) = true:=bne_iff_ne.mpr c22
     by_cases c23 : (wrap64 (Int.tdiv (wrap64 ((wrap64 (a2 + (wrap64 (a0_0 * a1)))) - 1)) (wrap64 (a0_0 * a1)))) > 200
     ·rw [if_pos c23] at H
      have c23b0:=decide_eq_true c23
      clear c23
      obtain rfl:=Option.some.inj H
      have hcz24_0:=bcv (v:=.int .i64 a0_0) BK372.out 0 rfl
      go_wp2
      go_ret
      exact ⟨by rfl,HB.out⟩
     ·rw [if_neg c23] at H
      have c23b0:=decide_eq_false c23
      clear c23
      obtain rfl:=Option.some.inj H
      have hcz25_0:=bcv (v:=.int .i64 a0_0) BK372.out 0 rfl
      go_wp2
      go_ret
      exact ⟨by rfl,HB.out⟩

end Go.Proofs.Ytffhbpepppodeaa.PFnExactJoinObject
