import Derived.Test.YtffhbpepppodeaaPFnRepairedx0
namespace Go.Proofs.Ytffhbpepppodeaa.PFnRepaired
private theorem nn {α : Type} {c : Prop} [Decidable c] {a : Option α} {r : α} (h : (if c then a else none) = some r) : c ∧ a = some r:=by
 split at h
 ·exact ⟨‹c›,h⟩
 ·cases h
open Go.RowKit Go.Proofs.YtffhbpepppodeaaW.PrintWords Go.Proofs.YtffhbpepppodeaaW.PrintLast Go.Proofs.YtffhbpepppodeaaW.PrintMore
attribute [local go_sem] max2_int min2_int max_two min_two max_three min_three max_four min_four   -- for this text's walks alone
set_option linter.unusedVariables false
set_option linter.unusedSimpArgs false

/-! ### spec_l04Group: function 98 -/
mutual
def spec_l04Group.j0 : Nat → Int → List Int → Bool → Int → Int → Int → Option (List Int)
 | 0,_,_,_,_,_,_=>none
 | k + 1,x1,x5,x26,x187000,x187001,x187002=>if x26 = true then (some x5) else (if x187002 = 0 then (none) else (if x1 ≥ x187000 then (spec_l04Group.j1 k x1 x5 (wrap64 ((wrap64 (x1 - x187000)) - x187001)) x187000 x187001 x187002) else (spec_l04Group.j1 k x1 x5 (Int.tmod x1 x187002) x187000 x187001 x187002)))
def spec_l04Group.j1 : Nat → Int → List Int → Int → Int → Int → Int → Option (List Int)
 | 0,_,_,_,_,_,_=>none
 | k + 1,x1,x5,x6,x187000,x187001,x187002=>spec_l04Group.l0 k x1 x5 x6 0 x187000 x187001 x187002
def spec_l04Group.l0 : Nat → Int → List Int → Int → Int → Int → Int → Int → Option (List Int)
 | 0,_,_,_,_,_,_,_=>none
 | k + 1,x1,x5,x6,x7,x187000,x187001,x187002=>if x7 < x187000 then (if x187002 = 0 then (none) else (if (Int.tmod x7 x187002) = x6 then (if x7 = x1 then (spec_l04Group.l0 k x1 x5 x6 (wrap64 (x7 + 1)) x187000 x187001 x187002) else (if x5.length < 17592186044416 then (spec_l04Group.l0 k x1 (x5 ++ [x7]) x6 (wrap64 (x7 + 1)) x187000 x187001 x187002) else (none))) else (spec_l04Group.l0 k x1 x5 x6 (wrap64 (x7 + 1)) x187000 x187001 x187002))) else (if x1 < x187000 then (if x5.length < 17592186044416 then (some (x5 ++ [wrap64 ((wrap64 (x187000 + x187001)) + x6)])) else (none)) else (some x5))
end
def spec_l04Group.f (k : Nat) (a0_0 : Int) (a0_1 : Int) (a0_2 : Int) (a1 : Int) : Option (List Int):=(some (([] : List Int) : List Int)).bind fun y187=>(if a0_2 = 0 then (spec_l04Group.j0 k a1 y187 true a0_0 a0_1 a0_2) else (if a1 ≥ a0_0 then (spec_l04Group.j0 k a1 y187 (decide (a1 < (wrap64 (a0_0 + a0_1)))) a0_0 a0_1 a0_2) else (spec_l04Group.j0 k a1 y187 false a0_0 a0_1 a0_2)))
set_option maxHeartbeats 8000000 in
set_option maxRecDepth 100000 in
theorem spec_l04Group.calls (k : Nat) (a0_0 : Int) (a0_1 : Int) (a0_2 : Int) (a1 : Int) (r : List Int) (w : World) (h : spec_l04Group.f k a0_0 a0_1 a0_2 a1 = some r) :
  Calls Try.prog 98 #[.agg #[.int .i64 a0_0,.int .i64 a0_1,.int .i64 a0_2],.int .i64 a1] w fun e w'=>∃ v0_ : Value,e = .returned (v0_) ∧ Kd.R (Kd.int .i64) 2 w' w.heap.size (fun _=>True) v0_ r ∧ Below w.heap.size w w':=by
 have HB:=M0 (Below.refl w.heap.size w)
 have H : ((some (([] : List Int) : List Int)).bind fun y187=>(if a0_2 = 0 then (spec_l04Group.j0 k a1 y187 true a0_0 a0_1 a0_2) else (if a1 ≥ a0_0 then (spec_l04Group.j0 k a1 y187 (decide (a1 < (wrap64 (a0_0 + a0_1)))) a0_0 a0_1 a0_2) else (spec_l04Group.j0 k a1 y187 false a0_0 a0_1 a0_2)))) = some r:=h
 clear h
 obtain ⟨y187,hy187⟩ : ∃ y_ : List Int,y_ = (([] : List Int)):=⟨_,rfl⟩
 replace H : (if a0_2 = 0 then (spec_l04Group.j0 k a1 y187 true a0_0 a0_1 a0_2) else (if a1 ≥ a0_0 then (spec_l04Group.j0 k a1 y187 (decide (a1 < (wrap64 (a0_0 + a0_1)))) a0_0 a0_1 a0_2) else (spec_l04Group.j0 k a1 y187 false a0_0 a0_1 a0_2))) = some r:=by (have H2_:=(Option.bind_some _ _).symm.trans H;rw [hy187];with_reducible exact H2_)
 have Ny187:=M0 hy187
 clear hy187
 have HC3:=M0 H
 clear H
 go_enter Try.func98,Try.ntmps98
 go_upto_region 2 with (first|(refine box_event rfl (N:=2) rfl (cs:=#[.int .i64 a0_0,.int .i64 a0_1,.int .i64 a0_2]) (t:=43) (by go_simp) ?_;intro gb186 hg w4 hbox hb;have BK186:=M0 (hbox);replace HB:=M0 (below_step HB.out hb);clear hb hbox hg)|(refine Kd.R_lit (Kd.int .i64) _ 2 ?hg (N:=8) ?hd (xs:=([] : List Int)) (inner:=[]) (ok:=fun _=>True) (okp:=fun _=>True) ?hr ?hp (fun _ hk=>hk) trivial (Below.refl _ _) (Nat.le_refl _) (by simp) ?_;(case hd=>rfl);(case hg=>rfl);(case hr=>(go_simp;done));(case hp=>exact (Reps.none _ _));intro v188 w5 ho6 hb hg_ hnew_;clear hg_ hnew_;(rw [← Ny187.out] at ho6);have HO189:=M0 (Kd.R_lower ho6 (below_size HB.out));replace BK186:=M0 (blk_below BK186.out hb);replace HB:=M0 (below_step HB.out hb);clear hb ho6))
 go_cut [26] (fun v26 wc=>∃ (kq : Nat) (x26_2 : Bool),v26 = .bool x26_2 ∧ Aside0 (spec_l04Group.j0 kq a1 y187 x26_2 a0_0 a0_1 a0_2 = some r) ∧ Aside0 (kq ≤ k) ∧ Aside0 (Kd.R (Kd.int .i64) 2 wc w.heap.size (fun _=>True) v188 y187) ∧ Aside0 (wc.heap[gb186]? = some (.cells #[.int .i64 a0_0,.int .i64 a0_1,.int .i64 a0_2] 43 (0,0))) ∧ Aside0 (Below w.heap.size w wc))
 case first=>
  have H:=HC3.out
  clear HC3
  by_cases c7 : a0_2 = 0
  ·rw [if_pos c7] at H
   have c7b0 : (a0_2 == 0) = true:=beq_iff_eq.mpr c7
   clear c7
   (skip)
   have H':=M0 H
   clear H
   have hcz8_2:=bcv (v:=.int .i64 a0_2) BK186.out 2 rfl
   go_wp2
   go_meet
   case rel=>exact ⟨_,(true),(by rfl),H',⟨by omega⟩,⟨by exact HO189.out⟩,⟨by exact BK186.out⟩,⟨HB.out⟩⟩
  ·rw [if_neg c7] at H
   have c7b0 : (a0_2 == 0) = false:=beq_eq_false_iff_ne.mpr c7
   have c7b1 : (a0_2 != 0) = true:=bne_iff_ne.mpr c7
   (skip)
   by_cases c9 : a1 ≥ a0_0
   ·rw [if_pos c9] at H
    have c9b0:=decide_eq_true c9
    clear c9
    have H':=M0 H
    clear H
    have hcz10_0:=bcv (v:=.int .i64 a0_0) BK186.out 0 rfl
    have hcz10_1:=bcv (v:=.int .i64 a0_1) BK186.out 1 rfl
    have hcz10_2:=bcv (v:=.int .i64 a0_2) BK186.out 2 rfl
    go_wp2
    go_meet
    case rel=>exact ⟨_,(decide (a1 < (wrap64 (a0_0 + a0_1)))),(by rfl),H',⟨by omega⟩,⟨by exact HO189.out⟩,⟨by exact BK186.out⟩,⟨HB.out⟩⟩
   ·rw [if_neg c9] at H
    have c9b0:=decide_eq_false c9
    clear c9
    have H':=M0 H
    clear H
    have hcz11_0:=bcv (v:=.int .i64 a0_0) BK186.out 0 rfl
    have hcz11_2:=bcv (v:=.int .i64 a0_2) BK186.out 2 rfl
    go_wp2
    go_meet
    case rel=>exact ⟨_,(false),(by rfl),H',⟨by omega⟩,⟨by exact HO189.out⟩,⟨by exact BK186.out⟩,⟨HB.out⟩⟩
 case rest=>
  clear HC3
  obtain ⟨kq,x26_2,rfl,HA,HJ2,HO_5,BK186,HB⟩:=hcut
  cases kq with
  | zero=>exact absurd HA.out (by simp [spec_l04Group.j0])
  | succ kj2=>
   have H:=HA.out
   clear HA
   simp only [spec_l04Group.j0] at H
   by_cases c12 : x26_2 = true
   ·subst c12
    have H1 : (some y187) = some r:=by rw [if_pos rfl] at H;exact H
    clear H
    have H:=H1
    clear H1
    obtain rfl:=Option.some.inj H
    go_wp2
    go_ret
    exact ⟨_,by rfl,by exact HO_5.out,HB.out⟩
   ·replace c12:=Bool.eq_false_iff.mpr c12
    subst c12
    have H1 : (if a0_2 = 0 then (none) else (if a1 ≥ a0_0 then (spec_l04Group.j1 kj2 a1 y187 (wrap64 ((wrap64 (a1 - a0_0)) - a0_1)) a0_0 a0_1 a0_2) else (spec_l04Group.j1 kj2 a1 y187 (Int.tmod a1 a0_2) a0_0 a0_1 a0_2))) = some r:=by rw [if_neg (show ¬ (false = true) by decide)] at H;exact H
    clear H
    have H:=H1
    clear H1
    by_cases c13 : a0_2 = 0
    ·rw [if_pos c13] at H
     exact absurd H (by simp)
    ·rw [if_neg c13] at H
     have c13b0 : (a0_2 == 0) = false:=beq_eq_false_iff_ne.mpr c13
     have c13b1 : (a0_2 != 0) = true:=bne_iff_ne.mpr c13
     have HC14:=M0 H
     clear H
     have hcz15_0:=bcv (v:=.int .i64 a0_0) BK186.out 0 rfl
     have hcz15_1:=bcv (v:=.int .i64 a0_1) BK186.out 1 rfl
     have hcz15_2:=bcv (v:=.int .i64 a0_2) BK186.out 2 rfl
     have hfz15_0:=blk_frozen BK186.out 0
     have hfz15_1:=blk_frozen BK186.out 1
     have hfz15_2:=blk_frozen BK186.out 2
     go_upto_if 35 with (fail)
     go_cut [6] (fun v6 wc=>∃ (kq : Nat) (x6_13 : Int),v6 = .int .i64 x6_13 ∧ Aside0 (spec_l04Group.j1 kq a1 y187 x6_13 a0_0 a0_1 a0_2 = some r) ∧ Aside0 (kq ≤ kj2) ∧ Aside0 (Kd.R (Kd.int .i64) 2 wc w.heap.size (fun _=>True) v188 y187) ∧ Aside0 (wc.heap[gb186]? = some (.cells #[.int .i64 a0_0,.int .i64 a0_1,.int .i64 a0_2] 43 (0,0))) ∧ Aside0 (Below w.heap.size w wc))
     case first=>
      have H:=HC14.out
      clear HC14
      by_cases c16 : a1 ≥ a0_0
      ·rw [if_pos c16] at H
       have c16b0:=decide_eq_true c16
       clear c16
       (rw [c16b0])
       have H':=M0 H
       clear H
       go_wp2
       go_meet
       case rel=>exact ⟨_,(wrap64 ((wrap64 (a1 - a0_0)) - a0_1)),(by rfl),H',⟨by have:=HJ2.out;omega⟩,⟨by exact HO_5.out⟩,⟨by exact BK186.out⟩,⟨HB.out⟩⟩
      ·rw [if_neg c16] at H
       have c16b0:=decide_eq_false c16
       clear c16
       (rw [c16b0])
       have H':=M0 H
       clear H
       go_wp2
       go_meet
       case rel=>exact ⟨_,(Int.tmod a1 a0_2),(by rfl),H',⟨by have:=HJ2.out;omega⟩,⟨by exact HO_5.out⟩,⟨by exact BK186.out⟩,⟨HB.out⟩⟩
     case rest=>
      clear HC14
      (try clear c13);(try clear c13b0);(try clear c13b1);(try clear hcz15_0);(try clear hcz15_1);(try clear hcz15_2);(try clear hfz15_0);(try clear hfz15_1);(try clear hfz15_2)
      obtain ⟨kq,x6_13,rfl,HA,HJ13,HO_5,BK186,HB⟩:=hcut
      cases kq with
      | zero=>exact absurd HA.out (by simp [spec_l04Group.j1])
      | succ kj13=>
       have H:=HA.out
       clear HA
       simp only [spec_l04Group.j1] at H
       have H':=M0 H
       clear H
       go_wp2
       go_loopg [5,7] kj13 (fun kq v5 v7 w'=>∃ (x5_3 : List Int) (x7_3 : Int),v7 = .int .i64 x7_3 ∧ Aside0 (spec_l04Group.l0 kq a1 x5_3 x6_13 x7_3 a0_0 a0_1 a0_2 = some r) ∧ Aside0 (kq ≤ kj13) ∧ Aside0 (Kd.R (Kd.int .i64) 2 w' w.heap.size (fun _=>True) v5 x5_3) ∧ Aside0 (w'.heap[gb186]? = some (.cells #[.int .i64 a0_0,.int .i64 a0_1,.int .i64 a0_2] 43 (0,0))) ∧ Aside0 (Below w.heap.size w w'))
       case atStart=>exact ⟨(y187),(0),(by rfl),H',⟨Nat.le_refl _⟩,⟨by exact HO_5.out⟩,⟨by exact BK186.out⟩,⟨HB.out⟩⟩
       case round=>
        clear H'
        obtain ⟨x5_3,x7_3,rfl,HA,HK3,HO_5,BK186,HB⟩:=hrel
        cases gk with
        | zero=>exact absurd HA.out (by simp [spec_l04Group.l0])
        | succ k3=>
         have H:=HA.out
         clear HA
         simp only [spec_l04Group.l0] at H
         by_cases c18 : x7_3 < a0_0
         ·rw [if_pos c18] at H
          have c18b0:=decide_eq_true c18
          clear c18
          by_cases c19 : a0_2 = 0
          ·rw [if_pos c19] at H
           exact absurd H (by simp)
          ·rw [if_neg c19] at H
           have c19b0 : (a0_2 == 0) = false:=beq_eq_false_iff_ne.mpr c19
           have c19b1 : (a0_2 != 0) = true:=bne_iff_ne.mpr c19
           by_cases c20 : (Int.tmod x7_3 a0_2) = x6_13
           ·rw [if_pos c20] at H
            have c20b0 : ((Int.tmod x7_3 a0_2) == x6_13) = true:=beq_iff_eq.mpr c20
            have c20b1 : ((Int.tmod x7_3 a0_2) != x6_13) = false:=bne_eq_false_iff_eq.mpr c20
            clear c20
            by_cases c21 : x7_3 = a1
            ·rw [if_pos c21] at H
             have c21b1 : (x7_3 != a1) = false:=bne_eq_false_iff_eq.mpr c21
             clear c21
             have H':=M0 H
             clear H
             have hcz22_0:=bcv (v:=.int .i64 a0_0) BK186.out 0 rfl
             have hcz22_2:=bcv (v:=.int .i64 a0_2) BK186.out 2 rfl
             go_wp2
             go_roundg k3
             case measure=>have:=HJ2.out;have:=HJ13.out;have:=HK3.out;omega
             case rel=>exact ⟨(x5_3),(wrap64 (x7_3 + 1)),(by rfl),H',⟨by have:=HJ2.out;have:=HJ13.out;have:=HK3.out;omega⟩,⟨by exact HO_5.out⟩,⟨by exact BK186.out⟩,⟨HB.out⟩⟩
            ·rw [if_neg c21] at H
             have c21b1 : (x7_3 != a1) = true:=bne_iff_ne.mpr c21
             obtain ⟨c23,H⟩:=nn H
             have LMc23:=M0 c23
             clear c23
             obtain ⟨y190,hy190⟩ : ∃ y_ : List Int,y_ = (x5_3 ++ [x7_3]):=⟨_,rfl⟩
             rw [← hy190] at H
             have Ny190:=M0 hy190
             clear hy190
             have H':=M0 H
             clear H
             have hcz24_0:=bcv (v:=.int .i64 a0_0) BK186.out 0 rfl
             have hcz24_2:=bcv (v:=.int .i64 a0_2) BK186.out 2 rfl
             go_wp2_with ((at_builtin;refine Kd.R_append (Kd.int .i64) (w0:=w) w.heap.size rfl (.tmp 60) (.tmp 62) 22 2 (.int .i64 0) 8 rfl Try.underlying22 info2 rfl (by decide) (by omega) u5 x5_3 x7_3 [.int .i64 x7_3] (fun _=>True) (fun _=>False) rfl rfl ?aP (fun _ hk=>hk.elim) ?aF ?aO ?aB ?aS ?aL ?_;(case aP=>exact rfl);(case aB=>exact HB.out);(case aF=>exact (fun _ _=>trivial));(case aO=>exact HO_5.out);(case aS=>exact (below_size HB.out));(case aL=>have:=LMc23.out;omega);intro v191 w25 ho hb hg hat;rw [← Ny190.out] at ho;have n0_:=M0 (blk_grown (g:=gb186) (o:=.cells #[.int .i64 a0_0,.int .i64 a0_1,.int .i64 a0_2] 43 (0,0)) BK186.out hg (Kd.R_ne HO_5.out BK186.out (by decide)));have n1_:=M0 (hb);have n2_:=M0 (ho);clear BK186 HB HO_5;have BK186:=n0_;have HB:=n1_;have HO192:=n2_;clear n0_ n1_ n2_ ho hb hg hat))
             go_roundg k3
             case measure=>have:=HJ2.out;have:=HJ13.out;have:=HK3.out;omega
             case rel=>exact ⟨(y190),(wrap64 (x7_3 + 1)),(by rfl),H',⟨by have:=HJ2.out;have:=HJ13.out;have:=HK3.out;omega⟩,⟨by exact HO192.out⟩,⟨by exact BK186.out⟩,⟨HB.out⟩⟩
           ·rw [if_neg c20] at H
            have c20b0 : ((Int.tmod x7_3 a0_2) == x6_13) = false:=beq_eq_false_iff_ne.mpr c20
            have H':=M0 H
            clear H
            have hcz26_0:=bcv (v:=.int .i64 a0_0) BK186.out 0 rfl
            have hcz26_2:=bcv (v:=.int .i64 a0_2) BK186.out 2 rfl
            go_wp2
            go_roundg k3
            case measure=>have:=HJ2.out;have:=HJ13.out;have:=HK3.out;omega
            case rel=>exact ⟨(x5_3),(wrap64 (x7_3 + 1)),(by rfl),H',⟨by have:=HJ2.out;have:=HJ13.out;have:=HK3.out;omega⟩,⟨by exact HO_5.out⟩,⟨by exact BK186.out⟩,⟨HB.out⟩⟩
         ·rw [if_neg c18] at H
          have c18b0:=decide_eq_false c18
          clear c18
          by_cases c27 : a1 < a0_0
          ·rw [if_pos c27] at H
           have c27b0:=decide_eq_true c27
           clear c27
           obtain ⟨c28,H⟩:=nn H
           have LMc28:=M0 c28
           clear c28
           obtain ⟨y193,hy193⟩ : ∃ y_ : List Int,y_ = (x5_3 ++ [wrap64 ((wrap64 (a0_0 + a0_1)) + x6_13)]):=⟨_,rfl⟩
           rw [← hy193] at H
           have Ny193:=M0 hy193
           clear hy193
           obtain rfl:=Option.some.inj H
           have hcz29_0:=bcv (v:=.int .i64 a0_0) BK186.out 0 rfl
           have hcz29_1:=bcv (v:=.int .i64 a0_1) BK186.out 1 rfl
           go_wp2_with ((at_builtin;refine Kd.R_append (Kd.int .i64) (w0:=w) w.heap.size rfl (.tmp 68) (.tmp 76) 22 2 (.int .i64 0) 8 rfl Try.underlying22 info2 rfl (by decide) (by omega) u5 x5_3 (wrap64 ((wrap64 (a0_0 + a0_1)) + x6_13)) [.int .i64 (wrap64 ((wrap64 (a0_0 + a0_1)) + x6_13))] (fun _=>True) (fun _=>False) rfl rfl ?aP (fun _ hk=>hk.elim) ?aF ?aO ?aB ?aS ?aL ?_;(case aP=>exact rfl);(case aB=>exact HB.out);(case aF=>exact (fun _ _=>trivial));(case aO=>exact HO_5.out);(case aS=>exact (below_size HB.out));(case aL=>have:=LMc28.out;omega);intro v194 w30 ho hb hg hat;rw [← Ny193.out] at ho;have n0_:=M0 (blk_grown (g:=gb186) (o:=.cells #[.int .i64 a0_0,.int .i64 a0_1,.int .i64 a0_2] 43 (0,0)) BK186.out hg (Kd.R_ne HO_5.out BK186.out (by decide)));have n1_:=M0 (hb);have n2_:=M0 (ho);clear BK186 HB HO_5;have BK186:=n0_;have HB:=n1_;have HO195:=n2_;clear n0_ n1_ n2_ ho hb hg hat))
           go_ret
           exact ⟨_,by rfl,by exact HO195.out,HB.out⟩
          ·rw [if_neg c27] at H
           have c27b0:=decide_eq_false c27
           clear c27
           obtain rfl:=Option.some.inj H
           have hcz31_0:=bcv (v:=.int .i64 a0_0) BK186.out 0 rfl
           go_wp2
           go_ret
           exact ⟨_,by rfl,by exact HO_5.out,HB.out⟩

/-! ### spec_l03At: function 67 -/
def spec_l03At.f (a0_0 : Int) (a0_1 : Int) (l0_2 : List Int) (a1 : Int) (a2 : Int) : Option (Int):=if 0 ≤ (wrap64 ((wrap64 (a1 * a0_1)) + a2)) then (if (wrap64 ((wrap64 (a1 * a0_1)) + a2)) < (l0_2.length : Int) then (some (rd l0_2 (wrap64 ((wrap64 (a1 * a0_1)) + a2)))) else (none)) else (none)
set_option maxHeartbeats 8000000 in
set_option maxRecDepth 100000 in
theorem spec_l03At.calls (a0_0 : Int) (a0_1 : Int) (A0_2 : Option Addr) (c0_2 : Nat) (l0_2 : List Int) (a1 : Int) (a2 : Int) (r : Int) (w : World) (hr0_2 : Kd.C (Kd.int .i64) w A0_2 l0_2.length l0_2) (hc0_2 : l0_2.length ≤ c0_2) (h : spec_l03At.f a0_0 a0_1 l0_2 a1 a2 = some r) :
  Calls Try.prog 67 #[.agg #[.int .i64 a0_0,.int .i64 a0_1,.slice A0_2 l0_2.length c0_2],.int .i64 a1,.int .i64 a2] w fun e w'=>e = .returned (.int .i64 r) ∧ Below w.heap.size w w':=by
 have HR0_2:=M0 hr0_2
 have HC0_2:=M0 hc0_2
 clear hr0_2 hc0_2
 have HB:=M0 (Below.refl w.heap.size w)
 have H : (if 0 ≤ (wrap64 ((wrap64 (a1 * a0_1)) + a2)) then (if (wrap64 ((wrap64 (a1 * a0_1)) + a2)) < (l0_2.length : Int) then (some (rd l0_2 (wrap64 ((wrap64 (a1 * a0_1)) + a2)))) else (none)) else (none)) = some r:=h
 clear h
 obtain ⟨ji4,hji4⟩ : ∃ j_ : Int,(wrap64 ((wrap64 (a1 * a0_1)) + a2)) = j_:=⟨_,rfl⟩
 replace H : (if 0 ≤ (ji4) then (if (ji4) < (l0_2.length : Int) then (some (rd l0_2 (ji4))) else (none)) else (none)) = some r:=by (rw [hji4] at H;exact H)
 have hji4w : (IntKind.i64.wrap ((wrap64 (a1 * a0_1)) + a2)) = ji4:=(i64_w _).trans hji4
 obtain ⟨c5,H⟩:=nn H
 have c5b0:=decide_eq_true c5
 clear c5
 obtain ⟨c6,H⟩:=nn H
 have c6b0:=decide_eq_true c6
 clear c6
 obtain rfl:=Option.some.inj H
 go_enter Try.func67,Try.ntmps67
 go_wp2_with ((refine box_event rfl (N:=3) rfl (cs:=#[.int .i64 a0_0,.int .i64 a0_1,.slice A0_2 l0_2.length c0_2]) (t:=27) (by go_simp) ?_;intro gb196 hg w7 hbox hb;have BK196:=M0 (hbox);replace HB:=M0 (below_step HB.out hb);clear hb hbox hg;have hcz8_1:=bcv (v:=.int .i64 a0_1) BK196.out 1 rfl;have hcz8_2:=bcv (v:=.slice A0_2 l0_2.length c0_2) BK196.out 2 rfl;have p197 : 0 ≤ ((ji4) : Int):=of_decide_eq_true (by with_reducible assumption);have q197 : (ji4) < (l0_2.length : Int):=of_decide_eq_true (by with_reducible assumption);obtain ⟨ad197,e197,hx197_0⟩:=Kd.at_int HR0_2.out (ji4) p197 q197;cases e197;replace hx197_0:=(HB.out.cell (World.block_lt_of_cell? w _ hx197_0)).trans hx197_0;replace p197:=eq_true p197;replace q197:=eq_true q197))
 go_ret
 exact ⟨by rfl,HB.out⟩

/-! ### spec_l03Swap: function 68 -/
def spec_l03Swap.l0 : Nat → Int → Int → Int → Int → Int → List Int → Option (List Int)
 | 0,_,_,_,_,_,_=>none
 | k + 1,x1,x2,x6,x199000,x199001,x199002=>if x6 < x199001 then ((spec_l03At.f x199000 x199001 x199002 x1 x6).bind fun t199=>((spec_l03At.f x199000 x199001 x199002 x2 x6).bind fun t200=>(if 0 ≤ (wrap64 ((wrap64 (x1 * x199001)) + x6)) then (if (wrap64 ((wrap64 (x1 * x199001)) + x6)) < (x199002.length : Int) then (if 0 ≤ (wrap64 ((wrap64 (x2 * x199001)) + x6)) then (if (wrap64 ((wrap64 (x2 * x199001)) + x6)) < (x199002.length : Int) then (spec_l03Swap.l0 k x1 x2 (wrap64 (x6 + 1)) x199000 x199001 ((x199002.set ((wrap64 ((wrap64 (x1 * x199001)) + x6)) : Int).toNat t200).set ((wrap64 ((wrap64 (x2 * x199001)) + x6)) : Int).toNat t199)) else (none)) else (none)) else (none)) else (none)))) else (some x199002)
def spec_l03Swap.f (k : Nat) (a0_0 : Int) (a0_1 : Int) (l0_2 : List Int) (a1 : Int) (a2 : Int) : Option (List Int):=spec_l03Swap.l0 k a1 a2 0 a0_0 a0_1 l0_2
set_option maxHeartbeats 8000000 in
set_option maxRecDepth 100000 in
theorem spec_l03Swap.calls (k : Nat) (a0_0 : Int) (a0_1 : Int) (P0_2_ : Nat → Prop) (u9000_ : Value) (l0_2 : List Int) (a1 : Int) (a2 : Int) (r : List Int) (w0 w : World) (hB : Below w0.heap.size w0 w) (ho0_2 : Kd.R (Kd.int .i64) 2 w w0.heap.size P0_2_ u9000_ l0_2) (h : spec_l03Swap.f k a0_0 a0_1 l0_2 a1 a2 = some r) :
  Calls Try.prog 68 #[.agg #[.int .i64 a0_0,.int .i64 a0_1,u9000_],.int .i64 a1,.int .i64 a2] w fun e w'=>e = .returned (.tuple #[]) ∧ Kd.R (Kd.int .i64) 2 w' w0.heap.size (fun k_=>(P0_2_ k_ ∨ w.heap.size ≤ k_)) u9000_ r ∧ Below w0.heap.size w0 w' ∧ Kept w w' (fun k_=>P0_2_ k_):=by
 have HO0_2:=M0 (show Kd.R (Kd.int .i64) 2 w w0.heap.size (fun k_=>(P0_2_ k_ ∨ w.heap.size ≤ k_)) u9000_ l0_2 from Kd.R_mono ho0_2 (fun k_ hk=>(.inl hk)))
 have HK:=M0 (Kept.refl w (fun k_=>P0_2_ k_))
 have HB:=M0 hB
 clear hB
 have H : (spec_l03Swap.l0 k a1 a2 0 a0_0 a0_1 l0_2) = some r:=h
 clear h
 have H':=M0 H
 clear H
 obtain ⟨Ao4,co4,eo4⟩:=Kd.R_slice HO0_2.out
 subst eo4
 go_enter Try.func68,Try.ntmps68
 go_wp2_with ((refine box_event rfl (N:=3) rfl (cs:=#[.int .i64 a0_0,.int .i64 a0_1,.slice Ao4 l0_2.length co4]) (t:=27) (by go_simp) ?_;intro gb198 hg w5 hbox hb;replace HO0_2:=M0 (Kd.R_below HO0_2.out hb);have BK198:=M0 (hbox);replace HK:=M0 (Kept.below (S:=(fun k_=>P0_2_ k_)) HK.out hb);replace HB:=M0 (below_step HB.out hb);clear hb hbox hg))
 go_loopg [6] k (fun kq v6 w'=>∃ (x6_1 : Int) (x199002_1 : List Int),v6 = .int .i64 x6_1 ∧ Aside0 (spec_l03Swap.l0 kq a1 a2 x6_1 a0_0 a0_1 x199002_1 = some r) ∧ Aside0 (kq ≤ k) ∧ Aside0 (Kd.R (Kd.int .i64) 2 w' w0.heap.size (fun k_=>(P0_2_ k_ ∨ w.heap.size ≤ k_)) (.slice Ao4 l0_2.length co4) x199002_1) ∧ Aside0 (w'.heap[gb198]? = some (.cells #[.int .i64 a0_0,.int .i64 a0_1,(.slice Ao4 l0_2.length co4)] 27 (0,0))) ∧ Aside0 (Kept w w' (fun k_=>P0_2_ k_)) ∧ Aside0 (Below w0.heap.size w0 w'))
 case atStart=>exact ⟨(0),(l0_2),(by rfl),H',⟨Nat.le_refl _⟩,⟨by exact HO0_2.out⟩,⟨by exact BK198.out⟩,⟨HK.out⟩,⟨HB.out⟩⟩
 case round=>
  clear H'
  obtain ⟨x6_1,x199002_1,rfl,HA,HK1,HO_199002,BK198,HK,HB⟩:=hrel
  have hl199002_1:=(Kd.R_reads' HO_199002.out).1
  rw [hl199002_1] at HO_199002
  (try simp only [hl199002_1])
  (try simp only [hl199002_1] at BK198)
  cases gk with
  | zero=>exact absurd HA.out (by simp [spec_l03Swap.l0])
  | succ k1=>
   have H:=HA.out
   clear HA
   simp only [spec_l03Swap.l0] at H
   by_cases c6 : x6_1 < a0_1
   ·rw [if_pos c6] at H
    have c6b0:=decide_eq_true c6
    clear c6
    replace H:=Option.bind_eq_some_iff.mp H
    obtain ⟨t199,A70,H⟩:=H
    replace H : ((spec_l03At.f a0_0 a0_1 x199002_1 a2 x6_1).bind fun t200=>(if 0 ≤ (wrap64 ((wrap64 (a1 * a0_1)) + x6_1)) then (if (wrap64 ((wrap64 (a1 * a0_1)) + x6_1)) < (x199002_1.length : Int) then (if 0 ≤ (wrap64 ((wrap64 (a2 * a0_1)) + x6_1)) then (if (wrap64 ((wrap64 (a2 * a0_1)) + x6_1)) < (x199002_1.length : Int) then (spec_l03Swap.l0 k1 a1 a2 (wrap64 (x6_1 + 1)) a0_0 a0_1 ((x199002_1.set ((wrap64 ((wrap64 (a1 * a0_1)) + x6_1)) : Int).toNat t200).set ((wrap64 ((wrap64 (a2 * a0_1)) + x6_1)) : Int).toNat t199)) else (none)) else (none)) else (none)) else (none))) = some r:=H
    have A7:=M0 A70
    clear A70
    replace H:=Option.bind_eq_some_iff.mp H
    obtain ⟨t200,A80,H⟩:=H
    replace H : (if 0 ≤ (wrap64 ((wrap64 (a1 * a0_1)) + x6_1)) then (if (wrap64 ((wrap64 (a1 * a0_1)) + x6_1)) < (x199002_1.length : Int) then (if 0 ≤ (wrap64 ((wrap64 (a2 * a0_1)) + x6_1)) then (if (wrap64 ((wrap64 (a2 * a0_1)) + x6_1)) < (x199002_1.length : Int) then (spec_l03Swap.l0 k1 a1 a2 (wrap64 (x6_1 + 1)) a0_0 a0_1 ((x199002_1.set ((wrap64 ((wrap64 (a1 * a0_1)) + x6_1)) : Int).toNat t200).set ((wrap64 ((wrap64 (a2 * a0_1)) + x6_1)) : Int).toNat t199)) else (none)) else (none)) else (none)) else (none)) = some r:=H
    have A8:=M0 A80
    clear A80
    obtain ⟨ji9,hji9⟩ : ∃ j_ : Int,(wrap64 ((wrap64 (a1 * a0_1)) + x6_1)) = j_:=⟨_,rfl⟩
    replace H : (if 0 ≤ (ji9) then (if (ji9) < (x199002_1.length : Int) then (if 0 ≤ (wrap64 ((wrap64 (a2 * a0_1)) + x6_1)) then (if (wrap64 ((wrap64 (a2 * a0_1)) + x6_1)) < (x199002_1.length : Int) then (spec_l03Swap.l0 k1 a1 a2 (wrap64 (x6_1 + 1)) a0_0 a0_1 ((x199002_1.set ((ji9) : Int).toNat t200).set ((wrap64 ((wrap64 (a2 * a0_1)) + x6_1)) : Int).toNat t199)) else (none)) else (none)) else (none)) else (none)) = some r:=by (rw [hji9] at H;exact H)
    have hji9w : (IntKind.i64.wrap ((wrap64 (a1 * a0_1)) + x6_1)) = ji9:=(i64_w _).trans hji9
    obtain ⟨c10,H⟩:=nn H
    have c10b0:=decide_eq_true c10
    clear c10
    obtain ⟨c11,H⟩:=nn H
    have c11b0:=decide_eq_true c11
    clear c11
    obtain ⟨y201,hy201⟩ : ∃ y_ : List Int,y_ = (x199002_1.set ((ji9) : Int).toNat t200):=⟨_,rfl⟩
    rw [← hy201] at H
    have Ny201:=M0 hy201
    clear hy201
    obtain ⟨ji13,hji13⟩ : ∃ j_ : Int,(wrap64 ((wrap64 (a2 * a0_1)) + x6_1)) = j_:=⟨_,rfl⟩
    replace H : (if 0 ≤ (ji13) then (if (ji13) < (x199002_1.length : Int) then (spec_l03Swap.l0 k1 a1 a2 (wrap64 (x6_1 + 1)) a0_0 a0_1 (y201.set ((ji13) : Int).toNat t199)) else (none)) else (none)) = some r:=by (rw [hji13] at H;exact H)
    have hji13w : (IntKind.i64.wrap ((wrap64 (a2 * a0_1)) + x6_1)) = ji13:=(i64_w _).trans hji13
    obtain ⟨c14,H⟩:=nn H
    have c14b0:=decide_eq_true c14
    clear c14
    obtain ⟨c15,H⟩:=nn H
    have c15b0:=decide_eq_true c15
    clear c15
    obtain ⟨y202,hy202⟩ : ∃ y_ : List Int,y_ = (y201.set ((ji13) : Int).toNat t199):=⟨_,rfl⟩
    rw [← hy202] at H
    have Ny202:=M0 hy202
    clear hy202
    have H':=M0 H
    clear H
    have hcz17_0:=bcv (v:=.int .i64 a0_0) BK198.out 0 rfl
    have hcz17_1:=bcv (v:=.int .i64 a0_1) BK198.out 1 rfl
    have hcz17_2:=bcv (v:=.slice Ao4 x199002_1.length co4) BK198.out 2 rfl
    go_wp2_with (first|(refine goesL_ (some 18) rfl rfl Try.func67 (by kernel_rfl) rfl #[.agg #[.int .i64 a0_0,.int .i64 a0_1,.slice Ao4 x199002_1.length co4],.int .i64 a1,.int .i64 x6_1] rfl (by (try simp only [List.map_toArray,List.map_cons,List.map_nil]);rfl) ?_;(with_reducible refine (spec_l03At.calls a0_0 a0_1 _ _ x199002_1 a1 x6_1 t199 _ (Kd.R_reads' HO_199002.out).2.2 (Kd.R_reads' HO_199002.out).2.1 A7.out).mono ?_);rintro e w18 ⟨rfl,hb⟩;refine ⟨_,rfl,?_⟩;replace HO_199002:=M0 (Kd.R_below HO_199002.out hb);replace BK198:=M0 (blk_below BK198.out hb);replace HK:=M0 (Kept.below (S:=(fun k_=>P0_2_ k_)) HK.out hb);replace HB:=M0 (below_step HB.out hb);clear hb;have hcz19_0:=bcv (v:=.int .i64 a0_0) BK198.out 0 rfl;have hcz19_1:=bcv (v:=.int .i64 a0_1) BK198.out 1 rfl;have hcz19_2:=bcv (v:=.slice Ao4 x199002_1.length co4) BK198.out 2 rfl)|(refine goesL_ (some 22) rfl rfl Try.func67 (by kernel_rfl) rfl #[.agg #[.int .i64 a0_0,.int .i64 a0_1,.slice Ao4 x199002_1.length co4],.int .i64 a2,.int .i64 x6_1] rfl (by (try simp only [List.map_toArray,List.map_cons,List.map_nil]);rfl) ?_;(with_reducible refine (spec_l03At.calls a0_0 a0_1 _ _ x199002_1 a2 x6_1 t200 _ (Kd.R_reads' HO_199002.out).2.2 (Kd.R_reads' HO_199002.out).2.1 A8.out).mono ?_);rintro e w20 ⟨rfl,hb⟩;refine ⟨_,rfl,?_⟩;replace HO_199002:=M0 (Kd.R_below HO_199002.out hb);replace BK198:=M0 (blk_below BK198.out hb);replace HK:=M0 (Kept.below (S:=(fun k_=>P0_2_ k_)) HK.out hb);replace HB:=M0 (below_step HB.out hb);clear hb;have hcz21_1:=bcv (v:=.int .i64 a0_1) BK198.out 1 rfl;have hcz21_2:=bcv (v:=.slice Ao4 x199002_1.length co4) BK198.out 2 rfl;have p12 : 0 ≤ ((ji9) : Int):=of_decide_eq_true (by with_reducible assumption);have q12 : ((ji9) : Int) < ((x199002_1.length : Int) : Int):=of_decide_eq_true (by with_reducible assumption);obtain ⟨go12,co12,eo12,gb12,gl12,cl12,HG12⟩:=Kd.R_form HO_199002.out (by omega);(cases eo12);have GB12:=M0 gb12;have GG12:=M0 HG12;clear gb12 gl12 HG12;have HMgo12:=M0 (show (P0_2_ go12 ∨ w.heap.size ≤ go12) from (HO_199002.out.1 _ rfl));obtain ⟨hx12_0,hf12_0⟩:=Kd.R_celln 0 HO_199002.out ((ji9) : Int) p12 q12;replace p12:=eq_true p12;replace q12:=eq_true q12;obtain ⟨hy22_,hz22_⟩:=Kd.R_celln 0 HO_199002.out ((ji9) : Int) (of_decide_eq_true (by with_reducible assumption)) (of_decide_eq_true (by with_reducible assumption));have HP22:=Kd.R_putg HO_199002.out ((ji9) : Int) t200)|(refine store_event (t:=2) (p:=32) (v:=?vo_w23) (w1:=(w20.setCell ⟨go12,((ji9) : Int).toNat,none⟩ (.int .i64 t200))) ?hg ?ho ?hn ?hr ?_;(case ho=>rfl);(case hg=>rfl);(case hn=>rfl);(case hr=>(go_simp;done));intro w23 hw;have hg : w20.grownBy w23 (some go12):=(by rw [hw];exact HP22.2);have hp_ : Kd.R (Kd.int .i64) 2 w23 w0.heap.size (fun k_=>(P0_2_ k_ ∨ w.heap.size ≤ k_)) (.slice (some ⟨go12,0,none⟩) x199002_1.length co4) y201:=(by rw [hw,Ny201.out];exact HP22.1);clear HP22;replace BK198:=M0 (blk_grown (g:=gb198) (o:=.cells #[.int .i64 a0_0,.int .i64 a0_1,.slice (some ⟨go12,0,none⟩) x199002_1.length co4] 27 (0,0)) BK198.out hg (Kd.R_ne HO_199002.out BK198.out (by decide)));replace HB:=M0 ((by rw [hw];exact below_set (HB.out) GB12.out : Below w0.heap.size w0 w23));replace HK:=M0 (Kept.of_grown (S:=(fun k_=>P0_2_ k_)) hg HK.out (fun k_ e_=>(HO_199002.out.1 k_ e_)));replace HO_199002:=M0 (hp_);clear hg hw hp_;have hcz24_1:=bcv (v:=.int .i64 a0_1) BK198.out 1 rfl;have hcz24_2:=bcv (v:=.slice (some ⟨go12,0,none⟩) x199002_1.length co4) BK198.out 2 rfl;have p16 : 0 ≤ ((ji13) : Int):=of_decide_eq_true (by with_reducible assumption);have q16 : ((ji13) : Int) < ((x199002_1.length : Int) : Int):=of_decide_eq_true (by with_reducible assumption);obtain ⟨hx16_0,hf16_0⟩:=Kd.R_celln 0 HO_199002.out ((ji13) : Int) p16 q16;replace p16:=eq_true p16;replace q16:=eq_true q16;obtain ⟨hy25_,hz25_⟩:=Kd.R_celln 0 HO_199002.out ((ji13) : Int) (of_decide_eq_true (by with_reducible assumption)) (of_decide_eq_true (by with_reducible assumption));have HP25:=Kd.R_putg HO_199002.out ((ji13) : Int) t199)|(refine store_event (t:=2) (p:=42) (v:=?vo_w26) (w1:=(w23.setCell ⟨go12,((ji13) : Int).toNat,none⟩ (.int .i64 t199))) ?hg ?ho ?hn ?hr ?_;(case ho=>rfl);(case hg=>rfl);(case hn=>rfl);(case hr=>(go_simp;done));intro w26 hw;have hg : w23.grownBy w26 (some go12):=(by rw [hw];exact HP25.2);have hp_ : Kd.R (Kd.int .i64) 2 w26 w0.heap.size (fun k_=>(P0_2_ k_ ∨ w.heap.size ≤ k_)) (.slice (some ⟨go12,0,none⟩) x199002_1.length co4) y202:=(by rw [hw,Ny202.out];exact HP25.1);clear HP25;replace BK198:=M0 (blk_grown (g:=gb198) (o:=.cells #[.int .i64 a0_0,.int .i64 a0_1,.slice (some ⟨go12,0,none⟩) x199002_1.length co4] 27 (0,0)) BK198.out hg (Kd.R_ne HO_199002.out BK198.out (by decide)));replace HB:=M0 ((by rw [hw];exact below_set (HB.out) GB12.out : Below w0.heap.size w0 w26));replace HK:=M0 (Kept.of_grown (S:=(fun k_=>P0_2_ k_)) hg HK.out (fun k_ e_=>(HO_199002.out.1 k_ e_)));replace HO_199002:=M0 (hp_);clear hg hw hp_))
    (try simp only [← hl199002_1])
    go_roundg k1
    case measure=>have:=HK1.out;omega
    case rel=>exact ⟨(wrap64 (x6_1 + 1)),(y202),(by rfl),H',⟨by have:=HK1.out;omega⟩,⟨by (try simp only [hl199002_1]);exact HO_199002.out⟩,⟨by (try simp only [hl199002_1]);exact BK198.out⟩,⟨HK.out⟩,⟨HB.out⟩⟩
   ·rw [if_neg c6] at H
    have c6b0:=decide_eq_false c6
    clear c6
    obtain rfl:=Option.some.inj H
    have hcz27_1:=bcv (v:=.int .i64 a0_1) BK198.out 1 rfl
    go_wp2
    go_end0
    exact ⟨by rfl,HO_199002.out,HB.out,HK.out⟩

end Go.Proofs.Ytffhbpepppodeaa.PFnRepaired
