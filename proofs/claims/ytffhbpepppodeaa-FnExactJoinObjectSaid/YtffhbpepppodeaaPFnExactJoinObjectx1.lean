import Derived.Test.YtffhbpepppodeaaPFnExactJoinObjectx0
namespace Go.Proofs.Ytffhbpepppodeaa.PFnExactJoinObject
private theorem nn {α : Type} {c : Prop} [Decidable c] {a : Option α} {r : α} (h : (if c then a else none) = some r) : c ∧ a = some r:=by
 split at h
 ·exact ⟨‹c›,h⟩
 ·cases h
open Go.RowKit Go.Proofs.YtffhbpepppodeaaW.PrintWords Go.Proofs.YtffhbpepppodeaaW.PrintLast Go.Proofs.YtffhbpepppodeaaW.PrintMore
attribute [local go_sem] cF cG cW cX cn cp cI cJ   -- for this text's walks alone
set_option linter.unusedVariables false
set_option linter.unusedSimpArgs false

/-! ### a4: function 87 -/
def a4.f (a0_0 : Int) (a0_1 : Int) (a0_2 : Int) : Option (Int):=if a0_0 < 1 then (some 1) else (if a0_0 > 32 then (some 1) else (if a0_1 < 0 then (some 1) else (if a0_1 > 16 then (some 1) else (if a0_2 < 0 then (some 1) else (if a0_2 > a0_0 then (some 1) else (if (wrap64 ((wrap64 (a0_0 + a0_1)) + a0_2)) > 64 then (some 1) else (some 0)))))))
set_option maxHeartbeats 8000000 in
set_option maxRecDepth 100000 in
theorem a4.calls (a0_0 : Int) (a0_1 : Int) (a0_2 : Int) (r : Int) (w : World) (h : a4.f a0_0 a0_1 a0_2 = some r) :
  Calls Try.prog 87 #[.agg #[.int .i64 a0_0,.int .i64 a0_1,.int .i64 a0_2]] w fun e w'=>e = .returned (.int .i64 r) ∧ Below w.heap.size w w':=by
 have HB:=M0 (Below.refl w.heap.size w)
 have H : (if a0_0 < 1 then (some 1) else (if a0_0 > 32 then (some 1) else (if a0_1 < 0 then (some 1) else (if a0_1 > 16 then (some 1) else (if a0_2 < 0 then (some 1) else (if a0_2 > a0_0 then (some 1) else (if (wrap64 ((wrap64 (a0_0 + a0_1)) + a0_2)) > 64 then (some 1) else (some 0)))))))) = some r:=h
 clear h
 by_cases c2 : a0_0 < 1
 ·rw [if_pos c2] at H
  have c2b0:=decide_eq_true c2
  clear c2
  obtain rfl:=Option.some.inj H
  go_enter Try.func87,Try.ntmps87
  go_wp2_with (((with_reducible refine ak (N:=1) rfl ?_);refine aw rfl (N:=1) rfl (cs:=#[.int .i64 a0_0,.int .i64 a0_1,.int .i64 a0_2]) (t:=43) (by go_simp) ?_;intro gb101 hg w3 hbox hb;have BK101:=M0 (hbox);replace HB:=M0 (aa HB.out hb);clear hb hbox hg;have hcz4_0:=bcv (v:=.int .i64 a0_0) BK101.out 0 rfl))
  go_ret
  exact ⟨by rfl,HB.out⟩
 ·rw [if_neg c2] at H
  have c2b0:=decide_eq_false c2
  clear c2
  by_cases c5 : a0_0 > 32
  ·rw [if_pos c5] at H
   have c5b0:=decide_eq_true c5
   clear c5
   obtain rfl:=Option.some.inj H
   go_enter Try.func87,Try.ntmps87
   go_wp2_with (((with_reducible refine ak (N:=1) rfl ?_);refine aw rfl (N:=1) rfl (cs:=#[.int .i64 a0_0,.int .i64 a0_1,.int .i64 a0_2]) (t:=43) (by go_simp) ?_;intro gb101 hg w6 hbox hb;have BK101:=M0 (hbox);replace HB:=M0 (aa HB.out hb);clear hb hbox hg;have hcz7_0:=bcv (v:=.int .i64 a0_0) BK101.out 0 rfl))
   go_ret
   exact ⟨by rfl,HB.out⟩
  ·rw [if_neg c5] at H
   have c5b0:=decide_eq_false c5
   clear c5
   by_cases c8 : a0_1 < 0
   ·rw [if_pos c8] at H
    have c8b0:=decide_eq_true c8
    clear c8
    obtain rfl:=Option.some.inj H
    go_enter Try.func87,Try.ntmps87
    go_wp2_with (((with_reducible refine ak (N:=1) rfl ?_);refine aw rfl (N:=1) rfl (cs:=#[.int .i64 a0_0,.int .i64 a0_1,.int .i64 a0_2]) (t:=43) (by go_simp) ?_;intro gb101 hg w9 hbox hb;have BK101:=M0 (hbox);replace HB:=M0 (aa HB.out hb);clear hb hbox hg;have hcz10_0:=bcv (v:=.int .i64 a0_0) BK101.out 0 rfl;have hcz10_1:=bcv (v:=.int .i64 a0_1) BK101.out 1 rfl))
    go_ret
    exact ⟨by rfl,HB.out⟩
   ·rw [if_neg c8] at H
    have c8b0:=decide_eq_false c8
    clear c8
    by_cases c11 : a0_1 > 16
    ·rw [if_pos c11] at H
     have c11b0:=decide_eq_true c11
     clear c11
     obtain rfl:=Option.some.inj H
     go_enter Try.func87,Try.ntmps87
     go_wp2_with (((with_reducible refine ak (N:=1) rfl ?_);refine aw rfl (N:=1) rfl (cs:=#[.int .i64 a0_0,.int .i64 a0_1,.int .i64 a0_2]) (t:=43) (by go_simp) ?_;intro gb101 hg w12 hbox hb;have BK101:=M0 (hbox);replace HB:=M0 (aa HB.out hb);clear hb hbox hg;have hcz13_0:=bcv (v:=.int .i64 a0_0) BK101.out 0 rfl;have hcz13_1:=bcv (v:=.int .i64 a0_1) BK101.out 1 rfl))
     go_ret
     exact ⟨by rfl,HB.out⟩
    ·rw [if_neg c11] at H
     have c11b0:=decide_eq_false c11
     clear c11
     by_cases c14 : a0_2 < 0
     ·rw [if_pos c14] at H
      have c14b0:=decide_eq_true c14
      clear c14
      obtain rfl:=Option.some.inj H
      go_enter Try.func87,Try.ntmps87
      go_wp2_with (((with_reducible refine ak (N:=1) rfl ?_);refine aw rfl (N:=1) rfl (cs:=#[.int .i64 a0_0,.int .i64 a0_1,.int .i64 a0_2]) (t:=43) (by go_simp) ?_;intro gb101 hg w15 hbox hb;have BK101:=M0 (hbox);replace HB:=M0 (aa HB.out hb);clear hb hbox hg;have hcz16_0:=bcv (v:=.int .i64 a0_0) BK101.out 0 rfl;have hcz16_1:=bcv (v:=.int .i64 a0_1) BK101.out 1 rfl;have hcz16_2:=bcv (v:=.int .i64 a0_2) BK101.out 2 rfl))
      go_ret
      exact ⟨by rfl,HB.out⟩
     ·rw [if_neg c14] at H
      have c14b0:=decide_eq_false c14
      clear c14
      by_cases c17 : a0_2 > a0_0
      ·rw [if_pos c17] at H
       have c17b0:=decide_eq_true c17
       clear c17
       obtain rfl:=Option.some.inj H
       go_enter Try.func87,Try.ntmps87
       go_wp2_with (((with_reducible refine ak (N:=1) rfl ?_);refine aw rfl (N:=1) rfl (cs:=#[.int .i64 a0_0,.int .i64 a0_1,.int .i64 a0_2]) (t:=43) (by go_simp) ?_;intro gb101 hg w18 hbox hb;have BK101:=M0 (hbox);replace HB:=M0 (aa HB.out hb);clear hb hbox hg;have hcz19_0:=bcv (v:=.int .i64 a0_0) BK101.out 0 rfl;have hcz19_1:=bcv (v:=.int .i64 a0_1) BK101.out 1 rfl;have hcz19_2:=bcv (v:=.int .i64 a0_2) BK101.out 2 rfl))
       go_ret
       exact ⟨by rfl,HB.out⟩
      ·rw [if_neg c17] at H
       have c17b0:=decide_eq_false c17
       clear c17
       by_cases c20 : (wrap64 ((wrap64 (a0_0 + a0_1)) + a0_2)) > 64
       ·rw [if_pos c20] at H
        have c20b0:=decide_eq_true c20
        clear c20
        obtain rfl:=Option.some.inj H
        go_enter Try.func87,Try.ntmps87
        go_wp2_with (((with_reducible refine ak (N:=1) rfl ?_);refine aw rfl (N:=1) rfl (cs:=#[.int .i64 a0_0,.int .i64 a0_1,.int .i64 a0_2]) (t:=43) (by go_simp) ?_;intro gb101 hg w21 hbox hb;have BK101:=M0 (hbox);replace HB:=M0 (aa HB.out hb);clear hb hbox hg;have hcz22_0:=bcv (v:=.int .i64 a0_0) BK101.out 0 rfl;have hcz22_1:=bcv (v:=.int .i64 a0_1) BK101.out 1 rfl;have hcz22_2:=bcv (v:=.int .i64 a0_2) BK101.out 2 rfl))
        go_ret
        exact ⟨by rfl,HB.out⟩
       ·rw [if_neg c20] at H
        have c20b0:=decide_eq_false c20
        clear c20
        obtain rfl:=Option.some.inj H
        go_enter Try.func87,Try.ntmps87
        go_wp2_with (((with_reducible refine ak (N:=1) rfl ?_);refine aw rfl (N:=1) rfl (cs:=#[.int .i64 a0_0,.int .i64 a0_1,.int .i64 a0_2]) (t:=43) (by go_simp) ?_;intro gb101 hg w23 hbox hb;have BK101:=M0 (hbox);replace HB:=M0 (aa HB.out hb);clear hb hbox hg;have hcz24_0:=bcv (v:=.int .i64 a0_0) BK101.out 0 rfl;have hcz24_1:=bcv (v:=.int .i64 a0_1) BK101.out 1 rfl;have hcz24_2:=bcv (v:=.int .i64 a0_2) BK101.out 2 rfl))
        go_ret
        exact ⟨by rfl,HB.out⟩

/-! ### aU: function 31 -/
def aU.j0 : Nat → Int → Int → Bool → Int → Int → Int → Option (Int)
 | 0,_,_,_,_,_,_=>none
 | k + 1,x1,x2,x26,x103000,x103001,x103002=>if x26 = true then (some (-1)) else (if (wrap64 (x103000 * x1)) = 0 then (none) else (if (wrap64 (Int.tdiv (wrap64 ((wrap64 (x2 + (wrap64 (x103000 * x1)))) - 1)) (wrap64 (x103000 * x1)))) > 200 then (some (-1)) else (some (wrap64 (Int.tdiv (wrap64 ((wrap64 (x2 + (wrap64 (x103000 * x1)))) - 1)) (wrap64 (x103000 * x1)))))))
def aU.f (k : Nat) (a0_0 : Int) (a0_1 : Int) (a0_2 : Int) (a1 : Int) (a2 : Int) : Option (Int):=(a4.f a0_0 a0_1 a0_2).bind fun t103=>(if t103 = 0 then (if a1 < 1 then (aU.j0 k a1 a2 true a0_0 a0_1 a0_2) else (if a1 > 4096 then (aU.j0 k a1 a2 true a0_0 a0_1 a0_2) else (if a2 < 0 then (aU.j0 k a1 a2 true a0_0 a0_1 a0_2) else (aU.j0 k a1 a2 (decide (a2 > 100000)) a0_0 a0_1 a0_2)))) else (aU.j0 k a1 a2 true a0_0 a0_1 a0_2))
set_option maxHeartbeats 8000000 in
set_option maxRecDepth 100000 in
theorem aU.calls (k : Nat) (a0_0 : Int) (a0_1 : Int) (a0_2 : Int) (a1 : Int) (a2 : Int) (r : Int) (w : World) (h : aU.f k a0_0 a0_1 a0_2 a1 a2 = some r) :
  Calls Try.prog 31 #[.agg #[.int .i64 a0_0,.int .i64 a0_1,.int .i64 a0_2],.int .i64 a1,.int .i64 a2] w fun e w'=>e = .returned (.int .i64 r) ∧ Below w.heap.size w w':=by
 have HB:=M0 (Below.refl w.heap.size w)
 have H : ((a4.f a0_0 a0_1 a0_2).bind fun t103=>(if t103 = 0 then (if a1 < 1 then (aU.j0 k a1 a2 true a0_0 a0_1 a0_2) else (if a1 > 4096 then (aU.j0 k a1 a2 true a0_0 a0_1 a0_2) else (if a2 < 0 then (aU.j0 k a1 a2 true a0_0 a0_1 a0_2) else (aU.j0 k a1 a2 (decide (a2 > 100000)) a0_0 a0_1 a0_2)))) else (aU.j0 k a1 a2 true a0_0 a0_1 a0_2))) = some r:=h
 clear h
 have HC4:=M0 H
 clear H
 go_enter Try.func31,Try.ntmps31
 go_upto_region 1 with (((with_reducible refine ak (N:=3) rfl ?_);refine aw rfl (N:=3) rfl (cs:=#[.int .i64 a0_0,.int .i64 a0_1,.int .i64 a0_2]) (t:=43) (by go_simp) ?_;intro gb102 hg w5 hbox hb;have BK102:=M0 (hbox);replace HB:=M0 (aa HB.out hb);clear hb hbox hg))
 go_cut [26] (fun v26 wc=>∃ (kq : Nat) (x26_3 : Bool),v26 = .bool x26_3 ∧ Aside0 (aU.j0 kq a1 a2 x26_3 a0_0 a0_1 a0_2 = some r) ∧ Aside0 (kq ≤ k) ∧ Aside0 (wc.heap[gb102]? = some (.cells #[.int .i64 a0_0,.int .i64 a0_1,.int .i64 a0_2] 43 (0,0))) ∧ Aside0 (Below w.heap.size w wc))
 case first=>
  have H:=HC4.out
  clear HC4
  replace H:=Option.bind_eq_some_iff.mp H
  obtain ⟨t103,A60,H⟩:=H
  replace H : (if t103 = 0 then (if a1 < 1 then (aU.j0 k a1 a2 true a0_0 a0_1 a0_2) else (if a1 > 4096 then (aU.j0 k a1 a2 true a0_0 a0_1 a0_2) else (if a2 < 0 then (aU.j0 k a1 a2 true a0_0 a0_1 a0_2) else (aU.j0 k a1 a2 (decide (a2 > 100000)) a0_0 a0_1 a0_2)))) else (aU.j0 k a1 a2 true a0_0 a0_1 a0_2)) = some r:=H
  have A6:=M0 A60
  clear A60
  by_cases c7 : t103 = 0
  ·rw [if_pos c7] at H
   have c7b0 : (t103 == 0) = true:=beq_iff_eq.mpr c7
   have c7b1 : (t103 != 0) = false:=bne_eq_false_iff_eq.mpr c7
   clear c7
   (skip)
   by_cases c8 : a1 < 1
   ·rw [if_pos c8] at H
    have c8b0:=decide_eq_true c8
    clear c8
    have H':=M0 H
    clear H
    have hcz9_0:=bcv (v:=.int .i64 a0_0) BK102.out 0 rfl
    have hcz9_1:=bcv (v:=.int .i64 a0_1) BK102.out 1 rfl
    have hcz9_2:=bcv (v:=.int .i64 a0_2) BK102.out 2 rfl
    go_wp2_with (((with_reducible refine ah (f:=87) rfl ?_);refine aH (some 9) rfl rfl Try.func87 (by kernel_rfl) rfl #[.agg #[.int .i64 a0_0,.int .i64 a0_1,.int .i64 a0_2]] rfl (by (try simp only [List.map_toArray,List.map_cons,List.map_nil]);rfl) ?_;(with_reducible refine (a4.calls a0_0 a0_1 a0_2 t103 _ A6.out).mono ?_);rintro e w10 ⟨rfl,hb⟩;refine ⟨_,rfl,?_⟩;replace BK102:=M0 (ab BK102.out hb);replace HB:=M0 (aa HB.out hb);clear hb))
    go_meet
    case rel=>exact ⟨_,(true),(by rfl),H',⟨by omega⟩,⟨by exact BK102.out⟩,⟨HB.out⟩⟩
   ·rw [if_neg c8] at H
    have c8b0:=decide_eq_false c8
    clear c8
    by_cases c11 : a1 > 4096
    ·rw [if_pos c11] at H
     have c11b0:=decide_eq_true c11
     clear c11
     have H':=M0 H
     clear H
     have hcz12_0:=bcv (v:=.int .i64 a0_0) BK102.out 0 rfl
     have hcz12_1:=bcv (v:=.int .i64 a0_1) BK102.out 1 rfl
     have hcz12_2:=bcv (v:=.int .i64 a0_2) BK102.out 2 rfl
     go_wp2_with (((with_reducible refine ah (f:=87) rfl ?_);refine aH (some 9) rfl rfl Try.func87 (by kernel_rfl) rfl #[.agg #[.int .i64 a0_0,.int .i64 a0_1,.int .i64 a0_2]] rfl (by (try simp only [List.map_toArray,List.map_cons,List.map_nil]);rfl) ?_;(with_reducible refine (a4.calls a0_0 a0_1 a0_2 t103 _ A6.out).mono ?_);rintro e w13 ⟨rfl,hb⟩;refine ⟨_,rfl,?_⟩;replace BK102:=M0 (ab BK102.out hb);replace HB:=M0 (aa HB.out hb);clear hb))
     go_meet
     case rel=>exact ⟨_,(true),(by rfl),H',⟨by omega⟩,⟨by exact BK102.out⟩,⟨HB.out⟩⟩
    ·rw [if_neg c11] at H
     have c11b0:=decide_eq_false c11
     clear c11
     by_cases c14 : a2 < 0
     ·rw [if_pos c14] at H
      have c14b0:=decide_eq_true c14
      clear c14
      have H':=M0 H
      clear H
      have hcz15_0:=bcv (v:=.int .i64 a0_0) BK102.out 0 rfl
      have hcz15_1:=bcv (v:=.int .i64 a0_1) BK102.out 1 rfl
      have hcz15_2:=bcv (v:=.int .i64 a0_2) BK102.out 2 rfl
      go_wp2_with (((with_reducible refine ah (f:=87) rfl ?_);refine aH (some 9) rfl rfl Try.func87 (by kernel_rfl) rfl #[.agg #[.int .i64 a0_0,.int .i64 a0_1,.int .i64 a0_2]] rfl (by (try simp only [List.map_toArray,List.map_cons,List.map_nil]);rfl) ?_;(with_reducible refine (a4.calls a0_0 a0_1 a0_2 t103 _ A6.out).mono ?_);rintro e w16 ⟨rfl,hb⟩;refine ⟨_,rfl,?_⟩;replace BK102:=M0 (ab BK102.out hb);replace HB:=M0 (aa HB.out hb);clear hb))
      go_meet
      case rel=>exact ⟨_,(true),(by rfl),H',⟨by omega⟩,⟨by exact BK102.out⟩,⟨HB.out⟩⟩
     ·rw [if_neg c14] at H
      have c14b0:=decide_eq_false c14
      clear c14
      have H':=M0 H
      clear H
      have hcz17_0:=bcv (v:=.int .i64 a0_0) BK102.out 0 rfl
      have hcz17_1:=bcv (v:=.int .i64 a0_1) BK102.out 1 rfl
      have hcz17_2:=bcv (v:=.int .i64 a0_2) BK102.out 2 rfl
      go_wp2_with (((with_reducible refine ah (f:=87) rfl ?_);refine aH (some 9) rfl rfl Try.func87 (by kernel_rfl) rfl #[.agg #[.int .i64 a0_0,.int .i64 a0_1,.int .i64 a0_2]] rfl (by (try simp only [List.map_toArray,List.map_cons,List.map_nil]);rfl) ?_;(with_reducible refine (a4.calls a0_0 a0_1 a0_2 t103 _ A6.out).mono ?_);rintro e w18 ⟨rfl,hb⟩;refine ⟨_,rfl,?_⟩;replace BK102:=M0 (ab BK102.out hb);replace HB:=M0 (aa HB.out hb);clear hb))
      go_meet
      case rel=>exact ⟨_,(decide (a2 > 100000)),(by rfl),H',⟨by omega⟩,⟨by exact BK102.out⟩,⟨HB.out⟩⟩
  ·rw [if_neg c7] at H
   have c7b1 : (t103 != 0) = true:=bne_iff_ne.mpr c7
   (skip)
   have H':=M0 H
   clear H
   have hcz19_0:=bcv (v:=.int .i64 a0_0) BK102.out 0 rfl
   have hcz19_1:=bcv (v:=.int .i64 a0_1) BK102.out 1 rfl
   have hcz19_2:=bcv (v:=.int .i64 a0_2) BK102.out 2 rfl
   go_wp2_with (((with_reducible refine ah (f:=87) rfl ?_);refine aH (some 9) rfl rfl Try.func87 (by kernel_rfl) rfl #[.agg #[.int .i64 a0_0,.int .i64 a0_1,.int .i64 a0_2]] rfl (by (try simp only [List.map_toArray,List.map_cons,List.map_nil]);rfl) ?_;(with_reducible refine (a4.calls a0_0 a0_1 a0_2 t103 _ A6.out).mono ?_);rintro e w20 ⟨rfl,hb⟩;refine ⟨_,rfl,?_⟩;replace BK102:=M0 (ab BK102.out hb);replace HB:=M0 (aa HB.out hb);clear hb))
   go_meet
   case rel=>exact ⟨_,(true),(by rfl),H',⟨by omega⟩,⟨by exact BK102.out⟩,⟨HB.out⟩⟩
 case rest=>
  clear HC4
  obtain ⟨kq,x26_3,rfl,HA,HJ3,BK102,HB⟩:=hcut
  cases kq with
  | zero=>exact absurd HA.out (by simp [aU.j0])
  | succ kj3=>
   have H:=HA.out
   clear HA
   simp only [aU.j0] at H
   by_cases c21 : x26_3 = true
   ·subst c21
    have H1 : (some (-1)) = some r:=by rw [if_pos rfl] at H;exact H
    clear H
    have H:=H1
    clear H1
    obtain rfl:=Option.some.inj H
    go_wp2
    go_ret
    exact ⟨by rfl,HB.out⟩
   ·replace c21:=Bool.eq_false_iff.mpr c21
    subst c21
    have H1 : (if (wrap64 (a0_0 * a1)) = 0 then (none) else (if (wrap64 (Int.tdiv (wrap64 ((wrap64 (a2 + (wrap64 (a0_0 * a1)))) - 1)) (wrap64 (a0_0 * a1)))) > 200 then (some (-1)) else (some (wrap64 (Int.tdiv (wrap64 ((wrap64 (a2 + (wrap64 (a0_0 * a1)))) - 1)) (wrap64 (a0_0 * a1))))))) = some r:=by rw [if_neg (show ¬ (false = true) by decide)] at H;exact H
    clear H
    have H:=H1
    clear H1
    by_cases c22 : (wrap64 (a0_0 * a1)) = 0
    ·rw [if_pos c22] at H
     exact absurd H (by simp)
    ·rw [if_neg c22] at H
     have c22b0 : ((wrap64 (a0_0 * a1)) == 0) = false:=beq_eq_false_iff_ne.mpr c22
     have c22b1 : ((wrap64 (a0_0 * a1)) != 0) = true:=bne_iff_ne.mpr c22
     by_cases c23 : (wrap64 (Int.tdiv (wrap64 ((wrap64 (a2 + (wrap64 (a0_0 * a1)))) - 1)) (wrap64 (a0_0 * a1)))) > 200
     ·rw [if_pos c23] at H
      have c23b0:=decide_eq_true c23
      clear c23
      obtain rfl:=Option.some.inj H
      have hcz24_0:=bcv (v:=.int .i64 a0_0) BK102.out 0 rfl
      go_wp2
      go_ret
      exact ⟨by rfl,HB.out⟩
     ·rw [if_neg c23] at H
      have c23b0:=decide_eq_false c23
      clear c23
      obtain rfl:=Option.some.inj H
      have hcz25_0:=bcv (v:=.int .i64 a0_0) BK102.out 0 rfl
      go_wp2
      go_ret
      exact ⟨by rfl,HB.out⟩

/-! ### impl_bytes8: function 118 -/
/-! ### impl_field_uint8_double: function 119 -/








/-! ### bg: function 88 -/
def bg.l0 : Nat → List ByteArray → List ByteArray → Int → Int → Option (Bool)
 | 0,_,_,_,_=>none
 | k + 1,x0,x5,x6,x7=>if x7 < x6 then (if 0 ≤ x7 then (if x7 < (x5.length : Int) then (if ((rdOf ByteArray.empty x5 x7).size : Int) < 1 then (some false) else (if ((rdOf ByteArray.empty x5 x7).size : Int) > 4096 then (some false) else (if 0 < (x0.length : Int) then (if ((rdOf ByteArray.empty x5 x7).size : Int) = ((rdOf ByteArray.empty x0 0).size : Int) then (bg.l0 k x0 x5 x6 (wrap64 (x7 + 1))) else (some false)) else (none)))) else (none)) else (none)) else (some true)
def bg.f (k : Nat) (l0 : List ByteArray) : Option (Bool):=bg.l0 k l0 l0 (l0.length : Int) 0
set_option maxHeartbeats 8000000 in
set_option maxRecDepth 100000 in
theorem bg.calls (k : Nat) (A0 : Option Addr) (c0 : Nat) (l0 : List ByteArray) (r : Bool) (w : World) (hr0 : Kd.C Kd.string w A0 l0.length l0) (hc0 : l0.length ≤ c0) (h : bg.f k l0 = some r) :
  Calls Try.prog 88 #[.slice A0 l0.length c0] w fun e w'=>e = .returned (.bool r) ∧ Drawn0 w w':=by
 have HR0:=M0 hr0
 have HC0:=M0 hc0
 clear hr0 hc0
 have H : (bg.l0 k l0 l0 (l0.length : Int) 0) = some r:=h
 clear h
 have H':=M0 H
 clear H
 go_enter Try.func88,Try.ntmps88
 go_wp2
 go_loopg [7] k (fun kq v7 w'=>∃ (x7_1 : Int),v7 = .int .i64 x7_1 ∧ Aside0 (bg.l0 kq l0 l0 (l0.length : Int) x7_1 = some r) ∧ Aside0 (kq ≤ k) ∧ Drawn0 w w')
 case atStart=>exact ⟨(0),(by rfl),H',⟨Nat.le_refl _⟩,by repeat (exact Drawn0.refl _)⟩
 case round=>
  clear H'
  obtain ⟨x7_1,rfl,HA,HK1,⟨m1,rfl⟩⟩:=hrel
  cases gk with
  | zero=>exact absurd HA.out (by simp [bg.l0])
  | succ k1=>
   have H:=HA.out
   clear HA
   simp only [bg.l0] at H
   by_cases c2 : x7_1 < (l0.length : Int)
   ·rw [if_pos c2] at H
    clear c2
    obtain ⟨c3,H⟩:=nn H
    have c3b0:=decide_eq_true c3
    clear c3
    obtain ⟨c4,H⟩:=nn H
    have c4b0:=decide_eq_true c4
    clear c4
    by_cases c5 : ((rdOf ByteArray.empty l0 x7_1).size : Int) < 1
    ·rw [if_pos c5] at H
     have c5b0:=decide_eq_true c5
     clear c5
     obtain rfl:=Option.some.inj H
     have p106 : 0 ≤ (x7_1 : Int):=of_decide_eq_true (by with_reducible assumption)
     have q106 : x7_1 < (l0.length : Int):=of_decide_eq_true (by with_reducible assumption)
     obtain ⟨ad106,e106,hx106_0⟩:=Kd.bu HR0.out x7_1 p106 q106
     cases e106
     replace p106:=eq_true p106
     replace q106:=eq_true q106
     go_wp2
     go_ret
     exact ⟨by rfl,by repeat (first|exact Drawn0.refl _|apply Drawn0.step)⟩
    ·rw [if_neg c5] at H
     have c5b0:=decide_eq_false c5
     have c5b1 : decide ((rdOf ByteArray.empty l0 x7_1).size < 1) = false:=decide_eq_false (by omega)
     clear c5
     by_cases c6 : ((rdOf ByteArray.empty l0 x7_1).size : Int) > 4096
     ·rw [if_pos c6] at H
      have c6b0:=decide_eq_true c6
      clear c6
      obtain rfl:=Option.some.inj H
      have p106 : 0 ≤ (x7_1 : Int):=of_decide_eq_true (by with_reducible assumption)
      have q106 : x7_1 < (l0.length : Int):=of_decide_eq_true (by with_reducible assumption)
      obtain ⟨ad106,e106,hx106_0⟩:=Kd.bu HR0.out x7_1 p106 q106
      cases e106
      replace p106:=eq_true p106
      replace q106:=eq_true q106
      go_wp2
      go_ret
      exact ⟨by rfl,by repeat (first|exact Drawn0.refl _|apply Drawn0.step)⟩
     ·rw [if_neg c6] at H
      have c6b0:=decide_eq_false c6
      clear c6
      obtain ⟨c7,H⟩:=nn H
      have c7b0:=decide_eq_true c7
      have c7b1 : decide (0 < l0.length) = true:=decide_eq_true (by omega)
      clear c7
      by_cases c8 : ((rdOf ByteArray.empty l0 x7_1).size : Int) = ((rdOf ByteArray.empty l0 0).size : Int)
      ·rw [if_pos c8] at H
       have c8b1 : (((rdOf ByteArray.empty l0 x7_1).size : Int) != ((rdOf ByteArray.empty l0 0).size : Int)) = false:=bne_eq_false_iff_eq.mpr c8
       clear c8
       have H':=M0 H
       clear H
       have p106 : 0 ≤ (x7_1 : Int):=of_decide_eq_true (by with_reducible assumption)
       have q106 : x7_1 < (l0.length : Int):=of_decide_eq_true (by with_reducible assumption)
       obtain ⟨ad106,e106,hx106_0⟩:=Kd.bu HR0.out x7_1 p106 q106
       cases e106
       replace p106:=eq_true p106
       replace q106:=eq_true q106
       have p107 : 0 ≤ (0 : Int):=(by omega)
       have q107 : 0 < (l0.length : Int):=of_decide_eq_true (by with_reducible assumption)
       obtain ⟨ad107,e107,hx107_0⟩:=Kd.bu HR0.out 0 p107 q107
       obtain rfl : ad106 = ad107:=(by injection e107)
       have qi107 : (0 < l0.length) = True:=eq_true (by omega)
       (try rw [show ((0 : Int)).toNat = 0 from rfl] at hx107_0)
       (try rw [Addr.add_zero'] at hx107_0)
       replace p107:=eq_true p107
       replace q107:=eq_true q107
       go_wp2
       go_roundg k1
       case measure=>have:=HK1.out;omega
       case rel=>exact ⟨(wrap64 (x7_1 + 1)),(by rfl),H',⟨by have:=HK1.out;omega⟩,by repeat (first|exact Drawn0.refl _|apply Drawn0.step)⟩
      ·rw [if_neg c8] at H
       have c8b1 : (((rdOf ByteArray.empty l0 x7_1).size : Int) != ((rdOf ByteArray.empty l0 0).size : Int)) = true:=bne_iff_ne.mpr c8
       obtain rfl:=Option.some.inj H
       have p106 : 0 ≤ (x7_1 : Int):=of_decide_eq_true (by with_reducible assumption)
       have q106 : x7_1 < (l0.length : Int):=of_decide_eq_true (by with_reducible assumption)
       obtain ⟨ad106,e106,hx106_0⟩:=Kd.bu HR0.out x7_1 p106 q106
       cases e106
       replace p106:=eq_true p106
       replace q106:=eq_true q106
       have p107 : 0 ≤ (0 : Int):=(by omega)
       have q107 : 0 < (l0.length : Int):=of_decide_eq_true (by with_reducible assumption)
       obtain ⟨ad107,e107,hx107_0⟩:=Kd.bu HR0.out 0 p107 q107
       obtain rfl : ad106 = ad107:=(by injection e107)
       have qi107 : (0 < l0.length) = True:=eq_true (by omega)
       (try rw [show ((0 : Int)).toNat = 0 from rfl] at hx107_0)
       (try rw [Addr.add_zero'] at hx107_0)
       replace p107:=eq_true p107
       replace q107:=eq_true q107
       go_wp2
       go_ret
       exact ⟨by rfl,by repeat (first|exact Drawn0.refl _|apply Drawn0.step)⟩
   ·rw [if_neg c2] at H
    have c2b0:=decide_eq_false c2
    clear c2
    obtain rfl:=Option.some.inj H
    go_wp2
    go_ret
    exact ⟨by rfl,by repeat (first|exact Drawn0.refl _|apply Drawn0.step)⟩

/-! ### bT: function 92 -/
def bT.f (a0_0 : Int) (a0_1 : Int) (a0_2 : Int) : Option (Int):=(a4.f a0_0 a0_1 a0_2).bind fun t109=>(if t109 = 0 then (some (wrap64 ((wrap64 (a0_0 + a0_1)) + a0_2))) else (some 0))
set_option maxHeartbeats 8000000 in
set_option maxRecDepth 100000 in
theorem bT.calls (a0_0 : Int) (a0_1 : Int) (a0_2 : Int) (r : Int) (w : World) (h : bT.f a0_0 a0_1 a0_2 = some r) :
  Calls Try.prog 92 #[.agg #[.int .i64 a0_0,.int .i64 a0_1,.int .i64 a0_2]] w fun e w'=>e = .returned (.int .i64 r) ∧ Below w.heap.size w w':=by
 have HB:=M0 (Below.refl w.heap.size w)
 have H : ((a4.f a0_0 a0_1 a0_2).bind fun t109=>(if t109 = 0 then (some (wrap64 ((wrap64 (a0_0 + a0_1)) + a0_2))) else (some 0))) = some r:=h
 clear h
 replace H:=Option.bind_eq_some_iff.mp H
 obtain ⟨t109,A20,H⟩:=H
 replace H : (if t109 = 0 then (some (wrap64 ((wrap64 (a0_0 + a0_1)) + a0_2))) else (some 0)) = some r:=H
 have A2:=M0 A20
 clear A20
 by_cases c3 : t109 = 0
 ·rw [if_pos c3] at H
  have c3b1 : (t109 != 0) = false:=bne_eq_false_iff_eq.mpr c3
  clear c3
  obtain rfl:=Option.some.inj H
  go_enter Try.func92,Try.ntmps92
  go_wp2_with (first|((with_reducible refine ak (N:=1) rfl ?_);refine aw rfl (N:=1) rfl (cs:=#[.int .i64 a0_0,.int .i64 a0_1,.int .i64 a0_2]) (t:=43) (by go_simp) ?_;intro gb108 hg w4 hbox hb;have BK108:=M0 (hbox);replace HB:=M0 (aa HB.out hb);clear hb hbox hg;have hcz5_0:=bcv (v:=.int .i64 a0_0) BK108.out 0 rfl;have hcz5_1:=bcv (v:=.int .i64 a0_1) BK108.out 1 rfl;have hcz5_2:=bcv (v:=.int .i64 a0_2) BK108.out 2 rfl)|((with_reducible refine ah (f:=87) rfl ?_);refine aH (some 4) rfl rfl Try.func87 (by kernel_rfl) rfl #[.agg #[.int .i64 a0_0,.int .i64 a0_1,.int .i64 a0_2]] rfl (by (try simp only [List.map_toArray,List.map_cons,List.map_nil]);rfl) ?_;(with_reducible refine (a4.calls a0_0 a0_1 a0_2 t109 _ A2.out).mono ?_);rintro e w6 ⟨rfl,hb⟩;refine ⟨_,rfl,?_⟩;replace BK108:=M0 (ab BK108.out hb);replace HB:=M0 (aa HB.out hb);clear hb;have hcz7_0:=bcv (v:=.int .i64 a0_0) BK108.out 0 rfl;have hcz7_1:=bcv (v:=.int .i64 a0_1) BK108.out 1 rfl;have hcz7_2:=bcv (v:=.int .i64 a0_2) BK108.out 2 rfl))
  go_ret
  exact ⟨by rfl,HB.out⟩
 ·rw [if_neg c3] at H
  have c3b1 : (t109 != 0) = true:=bne_iff_ne.mpr c3
  obtain rfl:=Option.some.inj H
  go_enter Try.func92,Try.ntmps92
  go_wp2_with (first|((with_reducible refine ak (N:=1) rfl ?_);refine aw rfl (N:=1) rfl (cs:=#[.int .i64 a0_0,.int .i64 a0_1,.int .i64 a0_2]) (t:=43) (by go_simp) ?_;intro gb108 hg w8 hbox hb;have BK108:=M0 (hbox);replace HB:=M0 (aa HB.out hb);clear hb hbox hg;have hcz9_0:=bcv (v:=.int .i64 a0_0) BK108.out 0 rfl;have hcz9_1:=bcv (v:=.int .i64 a0_1) BK108.out 1 rfl;have hcz9_2:=bcv (v:=.int .i64 a0_2) BK108.out 2 rfl)|((with_reducible refine ah (f:=87) rfl ?_);refine aH (some 4) rfl rfl Try.func87 (by kernel_rfl) rfl #[.agg #[.int .i64 a0_0,.int .i64 a0_1,.int .i64 a0_2]] rfl (by (try simp only [List.map_toArray,List.map_cons,List.map_nil]);rfl) ?_;(with_reducible refine (a4.calls a0_0 a0_1 a0_2 t109 _ A2.out).mono ?_);rintro e w10 ⟨rfl,hb⟩;refine ⟨_,rfl,?_⟩;replace BK108:=M0 (ab BK108.out hb);replace HB:=M0 (aa HB.out hb);clear hb))
  go_ret
  exact ⟨by rfl,HB.out⟩

/-! ### bq: function 93 -/
def bq.l0 : Nat → List Bool → List ByteArray → List ByteArray → List (S61) → Int → Int → Option (List Bool × List ByteArray × List ByteArray)
 | 0,_,_,_,_,_,_=>none
 | k + 1,x5,x6,x7,x17,x18,x19=>if x19 < x18 then (if 0 ≤ x19 then (if x19 < (x17.length : Int) then (if x19 < (x5.length : Int) then ((some (x5.set (x19 : Int).toNat ((bf x17 x19).f0) : List Bool)).bind fun y121=>(if (bf x17 x19).f0 = true then (if x19 < (x6.length : Int) then (if x7.length < 8796093022208 then (bq.l0 k y121 (x6.set (x19 : Int).toNat ((bf x17 x19).f1)) (x7 ++ [(bf x17 x19).f1]) x17 x18 (wrap64 (x19 + 1))) else (none)) else (none)) else (bq.l0 k y121 x6 x7 x17 x18 (wrap64 (x19 + 1))))) else (none)) else (none)) else (none)) else (some (x5,x6,x7))
def bq.f (k : Nat) (l0 : List (S61)) : Option (List Bool × List ByteArray × List ByteArray):=if 0 ≤ (l0.length : Int) then (if ((l0.length : Int) : Int).toNat ≤ 281474976710656 then (if ((l0.length : Int) : Int).toNat ≤ 17592186044416 then (bq.l0 k (List.replicate ((l0.length : Int) : Int).toNat false) (List.replicate ((l0.length : Int) : Int).toNat (⟨#[]⟩ : ByteArray)) (([] : List ByteArray)) l0 (l0.length : Int) 0) else (none)) else (none)) else (none)
set_option maxHeartbeats 8000000 in
set_option maxRecDepth 100000 in
theorem bq.calls (k : Nat) (A0 : Option Addr) (c0 : Nat) (l0 : List (S61)) (r1 : List Bool) (r2 : List ByteArray) (r3 : List ByteArray) (w : World) (hr0 : Kd.C k61 w A0 l0.length l0) (hc0 : l0.length ≤ c0) (h : bq.f k l0 = some (r1,r2,r3)) :
  Calls Try.prog 93 #[.slice A0 l0.length c0] w fun e w'=>∃ v0_ v1_ v2_ : Value,e = .returned (.tuple #[v0_,v1_,v2_]) ∧ Kd.R Kd.bool 4 w' w.heap.size (fun _=>True) v0_ r1 ∧ Kd.R Kd.string 9 w' w.heap.size (fun k_=>some k_ ≠ (v2_ : Value).ownBlock) v1_ r2 ∧ Kd.R Kd.string 9 w' w.heap.size (fun k_=>some k_ ≠ (v1_ : Value).ownBlock) v2_ r3 ∧ Below w.heap.size w w':=by
 have HR0:=M0 hr0
 have HC0:=M0 hc0
 clear hr0 hc0
 have HB:=M0 (Below.refl w.heap.size w)
 have H : (if 0 ≤ (l0.length : Int) then (if ((l0.length : Int) : Int).toNat ≤ 281474976710656 then (if ((l0.length : Int) : Int).toNat ≤ 17592186044416 then (bq.l0 k (List.replicate ((l0.length : Int) : Int).toNat false) (List.replicate ((l0.length : Int) : Int).toNat (⟨#[]⟩ : ByteArray)) (([] : List ByteArray)) l0 (l0.length : Int) 0) else (none)) else (none)) else (none)) = some (r1,r2,r3):=h
 clear h
 obtain ⟨c2,H⟩:=nn H
 have c2b0:=eq_true c2
 have c2b1:=decide_eq_true c2
 clear c2
 obtain ⟨c3,H⟩:=nn H
 have c3b0:=eq_true c3
 have c3b1:=decide_eq_true c3
 clear c3
 obtain ⟨y110,hy110⟩ : ∃ y_ : List Bool,y_ = (List.replicate ((l0.length : Int) : Int).toNat false):=⟨_,rfl⟩
 rw [← hy110] at H
 have Ny110:=M0 hy110
 clear hy110
 obtain ⟨c4,H⟩:=nn H
 have c4b0:=eq_true c4
 have c4b1:=decide_eq_true c4
 clear c4
 obtain ⟨y113,hy113⟩ : ∃ y_ : List ByteArray,y_ = (List.replicate ((l0.length : Int) : Int).toNat (⟨#[]⟩ : ByteArray)):=⟨_,rfl⟩
 rw [← hy113] at H
 have Ny113:=M0 hy113
 clear hy113
 obtain ⟨y116,hy116⟩ : ∃ y_ : List ByteArray,y_ = (([] : List ByteArray)):=⟨_,rfl⟩
 rw [← hy116] at H
 have Ny116:=M0 hy116
 clear hy116
 have H':=M0 H
 clear H
 go_enter Try.func93,Try.ntmps93
 go_wp2_with (first|((with_reducible refine ak (N:=12) rfl ?_);refine Kd.dV Kd.bool _ 4 rfl (N:=12) rfl 72 _ _ rfl (l0.length : Int) rfl rfl Try.underlying72 (.bool false) 1 info4 rfl (by decide) (by omega) false (ok:=fun _=>True) (okp:=fun _=>True) rfl (fun _ hk=>hk) trivial (of_decide_eq_true (by with_reducible assumption)) (Nat.le_trans (Nat.mul_le_mul_right _ (of_decide_eq_true (by with_reducible assumption) : (l0.length : Int).toNat ≤ 281474976710656)) (by omega)) (Below.refl _ _) (Nat.le_refl _) ?_;intro v111 w5 ho6 hb hg_ hnew_;clear hg_ hnew_;(rw [← Ny110.out] at ho6);have HO112:=M0 (Kd.bj ho6 (aj HB.out));replace HB:=M0 (aa HB.out hb);clear hb ho6)|((with_reducible refine ak (N:=15) rfl ?_);refine Kd.dV Kd.string _ 9 rfl (N:=15) rfl 56 _ _ rfl (l0.length : Int) rfl rfl Try.underlying56 (.string ⟨#[]⟩) 16 info9 rfl (by decide) (by omega) (⟨#[]⟩ : ByteArray) (ok:=fun _=>True) (okp:=fun _=>True) rfl (fun _ hk=>hk) trivial (of_decide_eq_true (by with_reducible assumption)) (Nat.le_trans (Nat.mul_le_mul_right _ (of_decide_eq_true (by with_reducible assumption) : (l0.length : Int).toNat ≤ 17592186044416)) (by omega)) (Below.refl _ _) (Nat.le_refl _) ?_;intro v114 w7 ho8 hb hg_ hnew_;clear hg_ hnew_;(rw [← Ny113.out] at ho8);replace HO112:=M0 (Kd.aK HO112.out hb);have HO115:=M0 (Kd.bj ho8 (aj HB.out));replace HB:=M0 (aa HB.out hb);clear hb ho8)|((with_reducible refine ak (N:=16) rfl ?_);refine Kd.R_lit Kd.string _ 9 ?hg (N:=16) ?hd (xs:=([] : List ByteArray)) (inner:=[]) (ok:=fun _=>True) (okp:=fun _=>True) ?hr ?hp (fun _ hk=>hk) trivial (Below.refl _ _) (Nat.le_refl _) (by simp) ?_;(case hd=>rfl);(case hg=>rfl);(case hr=>(go_simp;done));(case hp=>exact (Reps.none _ _));intro v117 w9 ho10 hb hg_ hnew_;clear hg_ hnew_;(rw [← Ny116.out] at ho10);replace HO112:=M0 (Kd.aK HO112.out hb);have HO118:=M0 (Kd.bj (Kd.cZ ho10 (Kd.R_lt HO115.out)) (aj HB.out));replace HO115:=M0 (Kd.cj HO115.out (Kd.cS ho10) hb);replace HB:=M0 (aa HB.out hb);clear hb ho10))
 go_loopg [7,19] k (fun kq v7 v19 w'=>∃ (x5_1 : List Bool) (x6_1 : List ByteArray) (x7_1 : List ByteArray) (x19_1 : Int),v19 = .int .i64 x19_1 ∧ Aside0 (bq.l0 kq x5_1 x6_1 x7_1 l0 (l0.length : Int) x19_1 = some (r1,r2,r3)) ∧ Aside0 (kq ≤ k) ∧ Aside0 (Kd.R Kd.bool 4 w' w.heap.size (fun _=>True) v111 x5_1) ∧ Aside0 (Kd.R Kd.string 9 w' w.heap.size (fun k_=>some k_ ≠ (v7 : Value).ownBlock) v114 x6_1) ∧ Aside0 (Kd.R Kd.string 9 w' w.heap.size (fun k_=>some k_ ≠ (v114 : Value).ownBlock) v7 x7_1) ∧ Aside0 (Below w.heap.size w w'))
 case atStart=>exact ⟨(y110),(y113),(y116),(0),(by rfl),H',⟨Nat.le_refl _⟩,⟨by exact HO112.out⟩,⟨by exact Kd.bb HO115.out (fun _ hk=>hk.2)⟩,⟨by exact Kd.bb HO118.out (fun _ hk=>hk.2)⟩,⟨HB.out⟩⟩
 case round=>
  clear H'
  (try clear c2b0);(try clear c2b1);(try clear c3b0);(try clear c3b1);(try clear c4b0);(try clear c4b1)
  obtain ⟨x5_1,x6_1,x7_1,x19_1,rfl,HA,HK1,HO_5,HO_6,HO_7,HB⟩:=hrel
  cases gk with
  | zero=>exact absurd HA.out (by simp [bq.l0])
  | succ k1=>
   have H:=HA.out
   clear HA
   simp only [bq.l0] at H
   by_cases c11 : x19_1 < (l0.length : Int)
   ·rw [if_pos c11] at H
    clear c11
    obtain ⟨c12,H⟩:=nn H
    have c12b0:=decide_eq_true c12
    clear c12
    obtain ⟨c13,H⟩:=nn H
    have c13b0:=decide_eq_true c13
    clear c13
    obtain ⟨c14,H⟩:=nn H
    have c14b0:=decide_eq_true c14
    clear c14
    obtain ⟨y121,hy121⟩ : ∃ y_ : List Bool,y_ = (x5_1.set (x19_1 : Int).toNat ((bf l0 x19_1).f0)):=⟨_,rfl⟩
    replace H : (if (bf l0 x19_1).f0 = true then (if x19_1 < (x6_1.length : Int) then (if x7_1.length < 8796093022208 then (bq.l0 k1 y121 (x6_1.set (x19_1 : Int).toNat ((bf l0 x19_1).f1)) (x7_1 ++ [(bf l0 x19_1).f1]) l0 (l0.length : Int) (wrap64 (x19_1 + 1))) else (none)) else (none)) else (bq.l0 k1 y121 x6_1 x7_1 l0 (l0.length : Int) (wrap64 (x19_1 + 1)))) = some (r1,r2,r3):=by (have H2_:=(Option.bind_some _ _).symm.trans H;rw [hy121];with_reducible exact H2_)
    have Ny121:=M0 hy121
    clear hy121
    obtain ⟨bq16,hbq16⟩ : ∃ b_ : Bool,b_ = ((bf l0 x19_1).f0):=⟨_,rfl⟩
    replace H : (if bq16 = true then (if x19_1 < (x6_1.length : Int) then (if x7_1.length < 8796093022208 then (bq.l0 k1 y121 (x6_1.set (x19_1 : Int).toNat ((bf l0 x19_1).f1)) (x7_1 ++ [(bf l0 x19_1).f1]) l0 (l0.length : Int) (wrap64 (x19_1 + 1))) else (none)) else (none)) else (bq.l0 k1 y121 x6_1 x7_1 l0 (l0.length : Int) (wrap64 (x19_1 + 1)))) = some (r1,r2,r3):=by rw [← hbq16] at H;exact H
    have Nbq16:=M0 hbq16
    clear hbq16
    by_cases c17 : bq16 = true
    ·subst c17
     have H1 : (if x19_1 < (x6_1.length : Int) then (if x7_1.length < 8796093022208 then (bq.l0 k1 y121 (x6_1.set (x19_1 : Int).toNat ((bf l0 x19_1).f1)) (x7_1 ++ [(bf l0 x19_1).f1]) l0 (l0.length : Int) (wrap64 (x19_1 + 1))) else (none)) else (none)) = some (r1,r2,r3):=by rw [if_pos rfl] at H;exact H
     clear H
     have H:=H1
     clear H1
     obtain ⟨c18,H⟩:=nn H
     have c18b0:=decide_eq_true c18
     clear c18
     obtain ⟨y122,hy122⟩ : ∃ y_ : List ByteArray,y_ = (x6_1.set (x19_1 : Int).toNat ((bf l0 x19_1).f1)):=⟨_,rfl⟩
     rw [← hy122] at H
     have Ny122:=M0 hy122
     clear hy122
     obtain ⟨c20,H⟩:=nn H
     have LMc20:=M0 c20
     clear c20
     obtain ⟨y123,hy123⟩ : ∃ y_ : List ByteArray,y_ = (x7_1 ++ [(bf l0 x19_1).f1]):=⟨_,rfl⟩
     rw [← hy123] at H
     have Ny123:=M0 hy123
     clear hy123
     have H':=M0 H
     clear H
     have p119 : 0 ≤ (x19_1 : Int):=of_decide_eq_true (by with_reducible assumption)
     have q119 : x19_1 < (l0.length : Int):=of_decide_eq_true (by with_reducible assumption)
     obtain ⟨ad119,e119,hx119_0,hx119_1⟩:=at_T61 HR0.out x19_1 p119 q119
     (try rw [← Nbq16.out] at hx119_0)
     cases e119
     replace hx119_0:=(HB.out.cell (World.block_lt_of_cell? w _ hx119_0)).trans hx119_0
     replace hx119_1:=(HB.out.cell (World.block_lt_of_cell? w _ hx119_1)).trans hx119_1
     replace p119:=eq_true p119
     replace q119:=eq_true q119
     go_wp2_with (first|((with_reducible refine ak (N:=9) rfl ?_);refine aw rfl (N:=9) rfl (cs:=#[.bool false,.string (⟨#[]⟩ : ByteArray)]) (t:=61) (by go_simp) ?_;intro gb120 hg w21 hbox hb;replace HO_5:=M0 (Kd.aK HO_5.out hb);replace HO_6:=M0 (Kd.aK HO_6.out hb);replace HO_7:=M0 (Kd.aK HO_7.out hb);have BK120:=M0 (hbox);have GW120:=M0 ((by rw [hg];exact (aj HB.out) : w.heap.size ≤ gb120));have GE120:=GW120;replace HB:=M0 (aa HB.out hb);clear hb hbox hg;have hcz22_0:=bcv (v:=.bool false) BK120.out 0 rfl;have hcz22_1:=bcv (v:=.string (⟨#[]⟩ : ByteArray)) BK120.out 1 rfl;have hfz22_0:=ag BK120.out 0;have hfz22_1:=ag BK120.out 1)|((with_reducible refine bo (t:=61) (p:=9) rfl ?_);refine bK (t:=61) (p:=9) (v:=?vo_w23) (w1:=((w21.setCell ⟨gb120,0,none⟩ (.bool true)).setCell ⟨gb120,1,none⟩ (.string ((bf l0 x19_1).f1)))) ?hg ?ho ?hn ?hr ?_;(case ho=>rfl);(case hg=>rfl);(case hn=>rfl);(case hr=>(go_simp;done));intro w23 hw;have n0_ : Aside0 (Kd.R Kd.bool 4 w23 w.heap.size (fun _=>True) v111 x5_1):=⟨(by rw [hw];exact (by exact Kd.bb (Kd.bw (p:=⟨gb120,1,none⟩) (Kd.bw (p:=⟨gb120,0,none⟩) (Kd.bP HO_5.out BK120.out (by decide)) (fun _ hk=>hk.2) (.bool true)) (fun _ hk=>hk.2) (.string ((bf l0 x19_1).f1))) (fun _ hk=>trivial)))⟩;have n1_ : Aside0 (Kd.R Kd.string 9 w23 w.heap.size (fun k_=>some k_ ≠ (u7 : Value).ownBlock) v114 x6_1):=⟨(by rw [hw];exact (by exact Kd.bb (Kd.bw (p:=⟨gb120,1,none⟩) (Kd.bw (p:=⟨gb120,0,none⟩) (Kd.bP HO_6.out BK120.out (by decide)) (fun _ hk=>hk.2) (.bool true)) (fun _ hk=>hk.2) (.string ((bf l0 x19_1).f1))) (fun _ hk=>hk.1)))⟩;have n2_ : Aside0 (Kd.R Kd.string 9 w23 w.heap.size (fun k_=>some k_ ≠ (v114 : Value).ownBlock) u7 x7_1):=⟨(by rw [hw];exact (by exact Kd.bb (Kd.bw (p:=⟨gb120,1,none⟩) (Kd.bw (p:=⟨gb120,0,none⟩) (Kd.bP HO_7.out BK120.out (by decide)) (fun _ hk=>hk.2) (.bool true)) (fun _ hk=>hk.2) (.string ((bf l0 x19_1).f1))) (fun _ hk=>hk.1)))⟩;have n3_ : Aside0 (w23.heap[gb120]? = some (.cells #[.bool true,.string ((bf l0 x19_1).f1)] 61 (0,0))):=⟨(by rw [hw];exact (by refine aW (cs:=#[.bool true,.string (⟨#[]⟩ : ByteArray)]) ?_ 1 _ rfl;refine aW (cs:=#[.bool false,.string (⟨#[]⟩ : ByteArray)]) ?_ 0 _ rfl;exact BK120.out))⟩;have n4_ : Aside0 (Below w.heap.size w w23):=⟨(by rw [hw];exact (by repeat ((with_reducible first|exact HB.out|refine ax ?_ GE120.out))))⟩;clear hw HO_5 HO_6 HO_7 BK120 HB;have HO_5:=n0_;have HO_6:=n1_;have HO_7:=n2_;have BK120:=n3_;have HB:=n4_;clear n0_ n1_ n2_ n3_ n4_;have hcz24_0:=bcv (v:=.bool true) BK120.out 0 rfl;have p15 : 0 ≤ (x19_1 : Int):=of_decide_eq_true (by with_reducible assumption);have q15 : (x19_1 : Int) < ((x5_1.length : Int) : Int):=of_decide_eq_true (by with_reducible assumption);obtain ⟨go15,co15,eo15,gb15,gl15,cl15,HG15⟩:=Kd.du HO_5.out (by omega);(cases eo15);have GB15:=M0 gb15;have GG15:=M0 HG15;clear gb15 gl15 HG15;obtain ⟨hx15_0,hf15_0⟩:=Kd.bQ false HO_5.out (x19_1 : Int) p15 q15;replace p15:=eq_true p15;replace q15:=eq_true q15;obtain ⟨hy25_,hz25_⟩:=Kd.bQ false HO_5.out (x19_1 : Int) (of_decide_eq_true (by with_reducible assumption)) (of_decide_eq_true (by with_reducible assumption));have HP25:=Kd.dj HO_5.out (x19_1 : Int) true)|((with_reducible refine bo (t:=4) (p:=28) rfl ?_);refine bK (t:=4) (p:=28) (v:=?vo_w26) (w1:=(w23.setCell ⟨go15,(x19_1 : Int).toNat,none⟩ (.bool true))) ?hg ?ho ?hn ?hr ?_;(case ho=>rfl);(case hg=>rfl);(case hn=>rfl);(case hr=>(go_simp;done));intro w26 hw;have hg : w23.grownBy w26 (some go15):=(by rw [hw];exact HP25.2);have hp_ : Kd.R Kd.bool 4 w26 w.heap.size (fun _=>True) (.slice (some ⟨go15,0,none⟩) x5_1.length co15) y121:=(by rw [hw,Ny121.out];(try rw [← Nbq16.out]);exact HP25.1);clear HP25;replace HO_6:=M0 (Kd.df (v:=(.slice (some ⟨go15,0,none⟩) x5_1.length co15)) HO_6.out (Kd.cV HO_5.out) (by decide) hg);replace HO_7:=M0 (Kd.df (v:=(.slice (some ⟨go15,0,none⟩) x5_1.length co15)) HO_7.out (Kd.cV HO_5.out) (by decide) hg);replace BK120:=M0 (bm (g:=gb120) (o:=.cells #[.bool true,.string ((bf l0 x19_1).f1)] 61 (0,0)) BK120.out hg (Kd.R_ne HO_5.out BK120.out (by decide)));replace HO_5:=M0 (hp_);replace HB:=M0 ((by rw [hw];exact ax (HB.out) GB15.out : Below w.heap.size w w26));clear hg hw hp_;have hcz27_0:=bcv (v:=.bool true) BK120.out 0 rfl;have hcz27_1:=bcv (v:=.string ((bf l0 x19_1).f1)) BK120.out 1 rfl;have p19 : 0 ≤ (x19_1 : Int):=of_decide_eq_true (by with_reducible assumption);have q19 : (x19_1 : Int) < ((x6_1.length : Int) : Int):=of_decide_eq_true (by with_reducible assumption);obtain ⟨go19,co19,eo19,gb19,gl19,cl19,HG19⟩:=Kd.du HO_6.out (by omega);(cases eo19);have GB19:=M0 gb19;have GG19:=M0 HG19;clear gb19 gl19 HG19;obtain ⟨hx19_0,hf19_0⟩:=Kd.bQ (⟨#[]⟩ : ByteArray) HO_6.out (x19_1 : Int) p19 q19;replace p19:=eq_true p19;replace q19:=eq_true q19;obtain ⟨hy28_,hz28_⟩:=Kd.bQ (⟨#[]⟩ : ByteArray) HO_6.out (x19_1 : Int) (of_decide_eq_true (by with_reducible assumption)) (of_decide_eq_true (by with_reducible assumption));have HP28:=Kd.dj HO_6.out (x19_1 : Int) ((bf l0 x19_1).f1))|((with_reducible refine bo (t:=9) (p:=35) rfl ?_);refine bK (t:=9) (p:=35) (v:=?vo_w29) (w1:=(w26.setCell ⟨go19,(x19_1 : Int).toNat,none⟩ (.string ((bf l0 x19_1).f1)))) ?hg ?ho ?hn ?hr ?_;(case ho=>rfl);(case hg=>rfl);(case hn=>rfl);(case hr=>(go_simp;done));intro w29 hw;have hg : w26.grownBy w29 (some go19):=(by rw [hw];exact HP28.2);have hp_ : Kd.R Kd.string 9 w29 w.heap.size (fun k_=>some k_ ≠ (u7 : Value).ownBlock) (.slice (some ⟨go19,0,none⟩) x6_1.length co19) y122:=(by rw [hw,Ny122.out];exact HP28.1);clear HP28;replace HO_5:=M0 (Kd.df (v:=(.slice (some ⟨go19,0,none⟩) x6_1.length co19)) HO_5.out (Kd.cV HO_6.out) (by decide) hg);replace HO_7:=M0 (Kd.de (v:=(.slice (some ⟨go19,0,none⟩) x6_1.length co19)) (v1:=(.slice (some ⟨go19,0,none⟩) x6_1.length co19)) (ok:=(fun _=>True)) (by exact Kd.bb HO_7.out (fun _ hk=>⟨trivial,hk⟩)) hg (.inl rfl));replace BK120:=M0 (bm (g:=gb120) (o:=.cells #[.bool true,.string ((bf l0 x19_1).f1)] 61 (0,0)) BK120.out hg (Kd.R_ne HO_6.out BK120.out (by decide)));replace HO_6:=M0 (hp_);replace HB:=M0 ((by rw [hw];exact ax (HB.out) GB19.out : Below w.heap.size w w29));clear hg hw hp_;have hcz30_1:=bcv (v:=.string ((bf l0 x19_1).f1)) BK120.out 1 rfl)|((with_reducible refine dw (b:=.append) (xs:=#[.tmp 36,.tmp 39]) rfl ?_);at_builtin;refine Kd.R_append Kd.string (w0:=w) w.heap.size rfl (.tmp 36) (.tmp 39) 56 9 (.string ⟨#[]⟩) 16 rfl Try.underlying56 info9 rfl (by decide) (by omega) u7 x7_1 ((bf l0 x19_1).f1) [.string ((bf l0 x19_1).f1)] (fun k_=>some k_ ≠ (.slice (some ⟨go19,0,none⟩) x6_1.length co19 : Value).ownBlock) (fun _=>False) rfl rfl ?aP (fun _ hk=>hk.elim) ?aF ?aO ?aB ?aS ?aL ?_;(case aP=>exact rfl);(case aB=>exact HB.out);(case aF=>exact (fun k_ hk=>Kd.dL (Kd.R_lt HO_6.out) k_ hk));(case aO=>exact (by exact Kd.bb HO_7.out (fun _ hk=>hk.2)));(case aS=>exact (aj HB.out));(case aL=>have:=LMc20.out;omega);intro v124 w31 ho hb hg hat;rw [← Ny123.out] at ho;have n0_:=M0 (Kd.df HO_5.out (Kd.cV HO_7.out) (by decide) hg);have n1_:=M0 (Kd.de (ok:=(fun _=>True)) (by exact Kd.bb HO_6.out (fun _ hk=>⟨trivial,hk⟩)) hg hat);have n2_:=M0 (bm (g:=gb120) (o:=.cells #[.bool true,.string ((bf l0 x19_1).f1)] 61 (0,0)) BK120.out hg (Kd.R_ne HO_7.out BK120.out (by decide)));have n3_:=M0 (hb);have n4_:=M0 (ho);clear HO_5 HO_6 BK120 HB HO_7;have HO_5:=n0_;have HO_6:=n1_;have BK120:=n2_;have HB:=n3_;have HO125:=n4_;clear n0_ n1_ n2_ n3_ n4_ ho hb hg hat))
     go_roundg k1
     case measure=>have:=HK1.out;omega
     case rel=>exact ⟨(y121),(y122),(y123),(wrap64 (x19_1 + 1)),(by rfl),H',⟨by have:=HK1.out;omega⟩,⟨by exact HO_5.out⟩,⟨by exact Kd.bb HO_6.out (fun _ hk=>hk.2)⟩,⟨by exact HO125.out⟩,⟨HB.out⟩⟩
    ·replace c17:=Bool.eq_false_iff.mpr c17
     subst c17
     have H1 : (bq.l0 k1 y121 x6_1 x7_1 l0 (l0.length : Int) (wrap64 (x19_1 + 1))) = some (r1,r2,r3):=by rw [if_neg (show ¬ (false = true) by decide)] at H;exact H
     clear H
     have H:=H1
     clear H1
     have H':=M0 H
     clear H
     have p119 : 0 ≤ (x19_1 : Int):=of_decide_eq_true (by with_reducible assumption)
     have q119 : x19_1 < (l0.length : Int):=of_decide_eq_true (by with_reducible assumption)
     obtain ⟨ad119,e119,hx119_0,hx119_1⟩:=at_T61 HR0.out x19_1 p119 q119
     (try rw [← Nbq16.out] at hx119_0)
     cases e119
     replace hx119_0:=(HB.out.cell (World.block_lt_of_cell? w _ hx119_0)).trans hx119_0
     replace hx119_1:=(HB.out.cell (World.block_lt_of_cell? w _ hx119_1)).trans hx119_1
     replace p119:=eq_true p119
     replace q119:=eq_true q119
     go_wp2_with (first|((with_reducible refine ak (N:=9) rfl ?_);refine aw rfl (N:=9) rfl (cs:=#[.bool false,.string (⟨#[]⟩ : ByteArray)]) (t:=61) (by go_simp) ?_;intro gb120 hg w32 hbox hb;replace HO_5:=M0 (Kd.aK HO_5.out hb);replace HO_6:=M0 (Kd.aK HO_6.out hb);replace HO_7:=M0 (Kd.aK HO_7.out hb);have BK120:=M0 (hbox);have GW120:=M0 ((by rw [hg];exact (aj HB.out) : w.heap.size ≤ gb120));have GE120:=GW120;replace HB:=M0 (aa HB.out hb);clear hb hbox hg;have hcz33_0:=bcv (v:=.bool false) BK120.out 0 rfl;have hcz33_1:=bcv (v:=.string (⟨#[]⟩ : ByteArray)) BK120.out 1 rfl;have hfz33_0:=ag BK120.out 0;have hfz33_1:=ag BK120.out 1)|((with_reducible refine bo (t:=61) (p:=9) rfl ?_);refine bK (t:=61) (p:=9) (v:=?vo_w34) (w1:=((w32.setCell ⟨gb120,0,none⟩ (.bool false)).setCell ⟨gb120,1,none⟩ (.string ((bf l0 x19_1).f1)))) ?hg ?ho ?hn ?hr ?_;(case ho=>rfl);(case hg=>rfl);(case hn=>rfl);(case hr=>(go_simp;done));intro w34 hw;have n0_ : Aside0 (Kd.R Kd.bool 4 w34 w.heap.size (fun _=>True) v111 x5_1):=⟨(by rw [hw];exact (by exact Kd.bb (Kd.bw (p:=⟨gb120,1,none⟩) (Kd.bw (p:=⟨gb120,0,none⟩) (Kd.bP HO_5.out BK120.out (by decide)) (fun _ hk=>hk.2) (.bool false)) (fun _ hk=>hk.2) (.string ((bf l0 x19_1).f1))) (fun _ hk=>trivial)))⟩;have n1_ : Aside0 (Kd.R Kd.string 9 w34 w.heap.size (fun k_=>some k_ ≠ (u7 : Value).ownBlock) v114 x6_1):=⟨(by rw [hw];exact (by exact Kd.bb (Kd.bw (p:=⟨gb120,1,none⟩) (Kd.bw (p:=⟨gb120,0,none⟩) (Kd.bP HO_6.out BK120.out (by decide)) (fun _ hk=>hk.2) (.bool false)) (fun _ hk=>hk.2) (.string ((bf l0 x19_1).f1))) (fun _ hk=>hk.1)))⟩;have n2_ : Aside0 (Kd.R Kd.string 9 w34 w.heap.size (fun k_=>some k_ ≠ (v114 : Value).ownBlock) u7 x7_1):=⟨(by rw [hw];exact (by exact Kd.bb (Kd.bw (p:=⟨gb120,1,none⟩) (Kd.bw (p:=⟨gb120,0,none⟩) (Kd.bP HO_7.out BK120.out (by decide)) (fun _ hk=>hk.2) (.bool false)) (fun _ hk=>hk.2) (.string ((bf l0 x19_1).f1))) (fun _ hk=>hk.1)))⟩;have n3_ : Aside0 (w34.heap[gb120]? = some (.cells #[.bool false,.string ((bf l0 x19_1).f1)] 61 (0,0))):=⟨(by rw [hw];exact (by refine aW (cs:=#[.bool false,.string (⟨#[]⟩ : ByteArray)]) ?_ 1 _ rfl;refine aW (cs:=#[.bool false,.string (⟨#[]⟩ : ByteArray)]) ?_ 0 _ rfl;exact BK120.out))⟩;have n4_ : Aside0 (Below w.heap.size w w34):=⟨(by rw [hw];exact (by repeat ((with_reducible first|exact HB.out|refine ax ?_ GE120.out))))⟩;clear hw HO_5 HO_6 HO_7 BK120 HB;have HO_5:=n0_;have HO_6:=n1_;have HO_7:=n2_;have BK120:=n3_;have HB:=n4_;clear n0_ n1_ n2_ n3_ n4_;have hcz35_0:=bcv (v:=.bool false) BK120.out 0 rfl;have p15 : 0 ≤ (x19_1 : Int):=of_decide_eq_true (by with_reducible assumption);have q15 : (x19_1 : Int) < ((x5_1.length : Int) : Int):=of_decide_eq_true (by with_reducible assumption);obtain ⟨go15,co15,eo15,gb15,gl15,cl15,HG15⟩:=Kd.du HO_5.out (by omega);(cases eo15);have GB15:=M0 gb15;have GG15:=M0 HG15;clear gb15 gl15 HG15;obtain ⟨hx15_0,hf15_0⟩:=Kd.bQ false HO_5.out (x19_1 : Int) p15 q15;replace p15:=eq_true p15;replace q15:=eq_true q15;obtain ⟨hy36_,hz36_⟩:=Kd.bQ false HO_5.out (x19_1 : Int) (of_decide_eq_true (by with_reducible assumption)) (of_decide_eq_true (by with_reducible assumption));have HP36:=Kd.dj HO_5.out (x19_1 : Int) false)|((with_reducible refine bo (t:=4) (p:=28) rfl ?_);refine bK (t:=4) (p:=28) (v:=?vo_w37) (w1:=(w34.setCell ⟨go15,(x19_1 : Int).toNat,none⟩ (.bool false))) ?hg ?ho ?hn ?hr ?_;(case ho=>rfl);(case hg=>rfl);(case hn=>rfl);(case hr=>(go_simp;done));intro w37 hw;have hg : w34.grownBy w37 (some go15):=(by rw [hw];exact HP36.2);have hp_ : Kd.R Kd.bool 4 w37 w.heap.size (fun _=>True) (.slice (some ⟨go15,0,none⟩) x5_1.length co15) y121:=(by rw [hw,Ny121.out];(try rw [← Nbq16.out]);exact HP36.1);clear HP36;replace HO_6:=M0 (Kd.df (v:=(.slice (some ⟨go15,0,none⟩) x5_1.length co15)) HO_6.out (Kd.cV HO_5.out) (by decide) hg);replace HO_7:=M0 (Kd.df (v:=(.slice (some ⟨go15,0,none⟩) x5_1.length co15)) HO_7.out (Kd.cV HO_5.out) (by decide) hg);replace BK120:=M0 (bm (g:=gb120) (o:=.cells #[.bool false,.string ((bf l0 x19_1).f1)] 61 (0,0)) BK120.out hg (Kd.R_ne HO_5.out BK120.out (by decide)));replace HO_5:=M0 (hp_);replace HB:=M0 ((by rw [hw];exact ax (HB.out) GB15.out : Below w.heap.size w w37));clear hg hw hp_;have hcz38_0:=bcv (v:=.bool false) BK120.out 0 rfl))
     go_roundg k1
     case measure=>have:=HK1.out;omega
     case rel=>exact ⟨(y121),(x6_1),(x7_1),(wrap64 (x19_1 + 1)),(by rfl),H',⟨by have:=HK1.out;omega⟩,⟨by exact HO_5.out⟩,⟨by exact HO_6.out⟩,⟨by exact HO_7.out⟩,⟨HB.out⟩⟩
   ·rw [if_neg c11] at H
    have c11b0:=decide_eq_false c11
    clear c11
    simp only [Option.some.injEq,Prod.mk.injEq] at H
    obtain ⟨rfl,rfl,rfl⟩:=H
    go_wp2
    go_ret3
    exact ⟨_,_,_,by rfl,by exact HO_5.out,by exact HO_6.out,by exact HO_7.out,HB.out⟩

end Go.Proofs.Ytffhbpepppodeaa.PFnExactJoinObject
