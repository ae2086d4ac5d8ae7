import Derived.Test.YtffhbpepppodeaaPFnInversex0
namespace Go.Proofs.Ytffhbpepppodeaa.PFnInverse
open Go.RowKit Go.Proofs.YtffhbpepppodeaaW.PrintWords Go.Proofs.YtffhbpepppodeaaW.PrintLast Go.Proofs.YtffhbpepppodeaaW.PrintMore
attribute [local go_sem] max2_int min2_int max_two min_two max_three min_three max_four min_four   -- for this text's walks alone
set_option linter.unusedVariables false
set_option linter.unusedSimpArgs false

/-! ### spec_l02In: function 79 -/
def spec_l02In.f (a0 : Int) (a1 : Int) : Option (Bool):=if a0 ≥ 0 then (some (decide (a0 < a1))) else (some false)
set_option maxHeartbeats 8000000 in
set_option maxRecDepth 100000 in
theorem spec_l02In.calls (a0 : Int) (a1 : Int) (r : Bool) (w : World) (h : spec_l02In.f a0 a1 = some r) :
  Calls Try.prog 79 #[.int .i64 a0,.int .i64 a1] w fun e w'=>e = .returned (.bool r) ∧ Drawn0 w w':=by
 have H : (if a0 ≥ 0 then (some (decide (a0 < a1))) else (some false)) = some r:=h
 clear h
 by_cases c3 : a0 ≥ 0
 ·rw [if_pos c3] at H
  have c3b0 : decide (0 ≤ a0) = true:=decide_eq_true c3
  clear c3
  obtain rfl:=Option.some.inj H
  go_enter Try.func79,Try.ntmps79
  go_wp2
  go_ret
  exact ⟨by first|rfl|(simp;done)|(simp [*];done),by repeat (first|exact Drawn0.refl _|apply Drawn0.step)⟩
 ·rw [if_neg c3] at H
  have c3b0 : decide (0 ≤ a0) = false:=decide_eq_false c3
  clear c3
  obtain rfl:=Option.some.inj H
  go_enter Try.func79,Try.ntmps79
  go_wp2
  go_ret
  exact ⟨by first|rfl|(simp;done)|(simp [*];done),by repeat (first|exact Drawn0.refl _|apply Drawn0.step)⟩

/-! ### spec_MatrixFault: function 24 -/
mutual
def spec_MatrixFault.j0 : Nat → Bool → Int → Int → List Int → Option (Int)
 | 0,_,_,_,_=>none
 | k + 1,x32,x107000,x107001,x107002=>if x32 = true then (some 1) else (spec_MatrixFault.l0 k 0 x107000 x107001 x107002)
def spec_MatrixFault.l0 : Nat → Int → Int → Int → List Int → Option (Int)
 | 0,_,_,_,_=>none
 | k + 1,x3,x107000,x107001,x107002=>if x3 < (x107002.length : Int) then (if 0 ≤ x3 then ((spec_l02In.f (rd x107002 x3) 256).bind fun t108=>(if t108 = true then (spec_MatrixFault.l0 k (wrap64 (x3 + 1)) x107000 x107001 x107002) else (some 1))) else (none)) else (some 0)
end
def spec_MatrixFault.f (k : Nat) (a0_0 : Int) (a0_1 : Int) (l0_2 : List Int) : Option (Int):=if a0_0 < 1 then (spec_MatrixFault.j0 k true a0_0 a0_1 l0_2) else (if a0_0 > 64 then (spec_MatrixFault.j0 k true a0_0 a0_1 l0_2) else (if a0_1 < 1 then (spec_MatrixFault.j0 k true a0_0 a0_1 l0_2) else (if a0_1 > 64 then (spec_MatrixFault.j0 k true a0_0 a0_1 l0_2) else (spec_MatrixFault.j0 k ((l0_2.length : Int) != (wrap64 (a0_0 * a0_1))) a0_0 a0_1 l0_2))))
theorem spec_MatrixFault.mono_l : ∀ k,(∀ y0 y1 y2 y3,LeO (spec_MatrixFault.j0 k y0 y1 y2 y3) (spec_MatrixFault.j0 (k + 1) y0 y1 y2 y3)) ∧ (∀ y0 y1 y2 y3,LeO (spec_MatrixFault.l0 k y0 y1 y2 y3) (spec_MatrixFault.l0 (k + 1) y0 y1 y2 y3))
 | 0=>⟨fun _ _ _ _ r h=>by simp [spec_MatrixFault.j0] at h,fun _ _ _ _ r h=>by simp [spec_MatrixFault.l0] at h⟩
 | k + 1=>by
  obtain ⟨ih0,ih1⟩:=spec_MatrixFault.mono_l k
  refine ⟨?_,?_⟩
  ·intro y0 y1 y2 y3
   unfold spec_MatrixFault.j0
   repeat' first
   | (with_reducible exact ih0 _ _ _ _)
   | (with_reducible exact ih1 _ _ _ _)
   | (with_reducible exact LeO.refl _)
   | (with_reducible exact LeO.none _)
   | (with_reducible refine LeO.ite ?_ ?_)
   | (with_reducible refine LeO.bind ?_ (fun _=>?_))
   | exact ih0 _ _ _ _
   | exact ih1 _ _ _ _
   | exact LeO.none _
   | refine LeO.ite ?_ ?_
   | refine LeO.bind ?_ (fun _=>?_)
  ·intro y0 y1 y2 y3
   unfold spec_MatrixFault.l0
   repeat' first
   | (with_reducible exact ih0 _ _ _ _)
   | (with_reducible exact ih1 _ _ _ _)
   | (with_reducible exact LeO.refl _)
   | (with_reducible exact LeO.none _)
   | (with_reducible refine LeO.ite ?_ ?_)
   | (with_reducible refine LeO.bind ?_ (fun _=>?_))
   | exact ih0 _ _ _ _
   | exact ih1 _ _ _ _
   | exact LeO.none _
   | refine LeO.ite ?_ ?_
   | refine LeO.bind ?_ (fun _=>?_)
theorem spec_MatrixFault.mono : ∀ a0 a1 a2 k,LeO (spec_MatrixFault.f k a0 a1 a2) (spec_MatrixFault.f (k + 1) a0 a1 a2):=by
 intro a0 a1 a2 k
 obtain ⟨ih0,ih1⟩:=spec_MatrixFault.mono_l k
 unfold spec_MatrixFault.f
 repeat' first
   | (with_reducible exact ih0 _ _ _ _)
   | (with_reducible exact ih1 _ _ _ _)
   | (with_reducible exact LeO.refl _)
   | (with_reducible exact LeO.none _)
   | (with_reducible refine LeO.ite ?_ ?_)
   | (with_reducible refine LeO.bind ?_ (fun _=>?_))
   | exact ih0 _ _ _ _
   | exact ih1 _ _ _ _
   | exact LeO.none _
   | refine LeO.ite ?_ ?_
   | refine LeO.bind ?_ (fun _=>?_)
set_option maxHeartbeats 8000000 in
set_option maxRecDepth 100000 in
theorem spec_MatrixFault.calls (k : Nat) (a0_0 : Int) (a0_1 : Int) (A0_2 : Option Addr) (c0_2 : Nat) (l0_2 : List Int) (r : Int) (w : World) (hr0_2 : Kd.C (Kd.int .i64) w A0_2 l0_2.length l0_2) (hc0_2 : l0_2.length ≤ c0_2) (h : spec_MatrixFault.f k a0_0 a0_1 l0_2 = some r) :
  Calls Try.prog 24 #[.agg #[.int .i64 a0_0,.int .i64 a0_1,.slice A0_2 l0_2.length c0_2]] w fun e w'=>e = .returned (.int .i64 r) ∧ Below w.heap.size w w':=by
 have hu27:=Try.underlying27
 have HR0_2:=Aside0.mk hr0_2
 have HC0_2:=Aside0.mk hc0_2
 clear hr0_2 hc0_2
 have HB:=Aside0.mk (Below.refl w.heap.size w)
 have H : (if a0_0 < 1 then (spec_MatrixFault.j0 k true a0_0 a0_1 l0_2) else (if a0_0 > 64 then (spec_MatrixFault.j0 k true a0_0 a0_1 l0_2) else (if a0_1 < 1 then (spec_MatrixFault.j0 k true a0_0 a0_1 l0_2) else (if a0_1 > 64 then (spec_MatrixFault.j0 k true a0_0 a0_1 l0_2) else (spec_MatrixFault.j0 k ((l0_2.length : Int) != (wrap64 (a0_0 * a0_1))) a0_0 a0_1 l0_2))))) = some r:=h
 clear h
 have HC2:=Aside0.mk H
 clear H
 go_enter Try.func24,Try.ntmps24
 go_upto_region 1 with (first|((with_reducible refine gate_dst (N:=1) rfl ?_);(try (refine gate_guard (by rfl) ?_;dsimp only));refine box_event ?hg (N:=1) ?hd (cs:=#[.int .i64 a0_0,.int .i64 a0_1,.slice A0_2 l0_2.length c0_2]) (t:=27) ?hr ?_;(case hd=>rfl);(case hg=>rfl);(case hr=>first|(go_simp;done)|(go_simp;rfl));intro gb106 hg w3 hbox hb;have n0_:=Aside0.mk (below_step (by repeat (first|(with_reducible first|exact HB.out|apply below_alloc|apply pw_below_drewN|apply below_drew1)|exact HB.out)) hb);have n1_:=Aside0.mk (hbox);have n2_:=Aside0.mk ((by rw [hg];exact (below_size (by repeat (first|(with_reducible first|exact HB.out|apply below_alloc|apply pw_below_drewN|apply below_drew1)|exact HB.out))) : w.heap.size ≤ gb106));have n3_:=Aside0.mk ((by rw [hg];exact (below_size (by repeat (first|(with_reducible first|exact HB.out|apply below_alloc|apply pw_below_drewN|apply below_drew1)|exact HB.out))) : w.heap.size ≤ gb106));clear HB;have HB:=n0_;have BK106:=n1_;have GW106:=n2_;have GE106:=n3_;clear n0_ n1_ n2_ n3_ hb hbox hg))
 (try simp only [Act.put,List.setIfInBounds_toArray,List.set_cons_zero,List.set_cons_succ])
 go_cut [32] (fun v32 wc=>∃ (kq : Nat) (x32_1 : Bool),v32 = .bool x32_1 ∧ Aside0 (spec_MatrixFault.j0 kq x32_1 a0_0 a0_1 l0_2 = some r) ∧ Aside0 (kq ≤ k) ∧ Aside0 (wc.heap[gb106]? = some (.cells #[.int .i64 a0_0,.int .i64 a0_1,(.slice A0_2 l0_2.length c0_2)] 27 (0,0))) ∧ Aside0 (Below w.heap.size w wc))
 case first=>
  have H:=HC2.out
  clear HC2
  by_cases c4 : a0_0 < 1
  ·rw [if_pos c4] at H
   have c4b0 : decide (a0_0 < 1) = true:=decide_eq_true c4
   clear c4
   (first|rw [c4b0]|(simp only [i64_w,i32_w];rw [c4b0])|skip)
   have H':=Aside0.mk H
   clear H
   have hcz5_0 : w3.cell? ⟨gb106,0,none⟩ = some (.int .i64 a0_0):=(blk_cell BK106.out 0).trans rfl
   have hcz5_1 : w3.cell? ⟨gb106,1,none⟩ = some (.int .i64 a0_1):=(blk_cell BK106.out 1).trans rfl
   have hcz5_2 : w3.cell? ⟨gb106,2,none⟩ = some (.slice A0_2 l0_2.length c0_2):=(blk_cell BK106.out 2).trans rfl
   have hfz5_0:=blk_frozen BK106.out 0
   have hfz5_1:=blk_frozen BK106.out 1
   have hfz5_2:=blk_frozen BK106.out 2
   go_wp2
   go_meet
   case rel=>exact ⟨_,(true),(by first|rfl|(simp;done)|(simp [*];done)),H',⟨by first|omega|exact Nat.le_refl _⟩,⟨by (with_reducible repeat first|refine blk_drewN ?_ _|refine blk_alloc ?_ _);exact BK106.out⟩,⟨by repeat (first|(with_reducible first|exact HB.out|apply below_alloc|apply pw_below_drewN|apply below_drew1|refine below_set ?_ GE106.out)|exact HB.out)⟩⟩
  ·rw [if_neg c4] at H
   have c4b0 : decide (a0_0 < 1) = false:=decide_eq_false c4
   clear c4
   (first|rw [c4b0]|(simp only [i64_w,i32_w];rw [c4b0])|skip)
   by_cases c6 : a0_0 > 64
   ·rw [if_pos c6] at H
    have c6b0 : decide (64 < a0_0) = true:=decide_eq_true c6
    clear c6
    have H':=Aside0.mk H
    clear H
    have hcz7_0 : w3.cell? ⟨gb106,0,none⟩ = some (.int .i64 a0_0):=(blk_cell BK106.out 0).trans rfl
    have hcz7_1 : w3.cell? ⟨gb106,1,none⟩ = some (.int .i64 a0_1):=(blk_cell BK106.out 1).trans rfl
    have hcz7_2 : w3.cell? ⟨gb106,2,none⟩ = some (.slice A0_2 l0_2.length c0_2):=(blk_cell BK106.out 2).trans rfl
    have hfz7_0:=blk_frozen BK106.out 0
    have hfz7_1:=blk_frozen BK106.out 1
    have hfz7_2:=blk_frozen BK106.out 2
    go_wp2
    go_meet
    case rel=>exact ⟨_,(true),(by first|rfl|(simp;done)|(simp [*];done)),H',⟨by first|omega|exact Nat.le_refl _⟩,⟨by (with_reducible repeat first|refine blk_drewN ?_ _|refine blk_alloc ?_ _);exact BK106.out⟩,⟨by repeat (first|(with_reducible first|exact HB.out|apply below_alloc|apply pw_below_drewN|apply below_drew1|refine below_set ?_ GE106.out)|exact HB.out)⟩⟩
   ·rw [if_neg c6] at H
    have c6b0 : decide (64 < a0_0) = false:=decide_eq_false c6
    clear c6
    by_cases c8 : a0_1 < 1
    ·rw [if_pos c8] at H
     have c8b0 : decide (a0_1 < 1) = true:=decide_eq_true c8
     clear c8
     have H':=Aside0.mk H
     clear H
     have hcz9_0 : w3.cell? ⟨gb106,0,none⟩ = some (.int .i64 a0_0):=(blk_cell BK106.out 0).trans rfl
     have hcz9_1 : w3.cell? ⟨gb106,1,none⟩ = some (.int .i64 a0_1):=(blk_cell BK106.out 1).trans rfl
     have hcz9_2 : w3.cell? ⟨gb106,2,none⟩ = some (.slice A0_2 l0_2.length c0_2):=(blk_cell BK106.out 2).trans rfl
     have hfz9_0:=blk_frozen BK106.out 0
     have hfz9_1:=blk_frozen BK106.out 1
     have hfz9_2:=blk_frozen BK106.out 2
     go_wp2
     go_meet
     case rel=>exact ⟨_,(true),(by first|rfl|(simp;done)|(simp [*];done)),H',⟨by first|omega|exact Nat.le_refl _⟩,⟨by (with_reducible repeat first|refine blk_drewN ?_ _|refine blk_alloc ?_ _);exact BK106.out⟩,⟨by repeat (first|(with_reducible first|exact HB.out|apply below_alloc|apply pw_below_drewN|apply below_drew1|refine below_set ?_ GE106.out)|exact HB.out)⟩⟩
    ·rw [if_neg c8] at H
     have c8b0 : decide (a0_1 < 1) = false:=decide_eq_false c8
     clear c8
     by_cases c10 : a0_1 > 64
     ·rw [if_pos c10] at H
      have c10b0 : decide (64 < a0_1) = true:=decide_eq_true c10
      clear c10
      have H':=Aside0.mk H
      clear H
      have hcz11_0 : w3.cell? ⟨gb106,0,none⟩ = some (.int .i64 a0_0):=(blk_cell BK106.out 0).trans rfl
      have hcz11_1 : w3.cell? ⟨gb106,1,none⟩ = some (.int .i64 a0_1):=(blk_cell BK106.out 1).trans rfl
      have hcz11_2 : w3.cell? ⟨gb106,2,none⟩ = some (.slice A0_2 l0_2.length c0_2):=(blk_cell BK106.out 2).trans rfl
      have hfz11_0:=blk_frozen BK106.out 0
      have hfz11_1:=blk_frozen BK106.out 1
      have hfz11_2:=blk_frozen BK106.out 2
      go_wp2
      go_meet
      case rel=>exact ⟨_,(true),(by first|rfl|(simp;done)|(simp [*];done)),H',⟨by first|omega|exact Nat.le_refl _⟩,⟨by (with_reducible repeat first|refine blk_drewN ?_ _|refine blk_alloc ?_ _);exact BK106.out⟩,⟨by repeat (first|(with_reducible first|exact HB.out|apply below_alloc|apply pw_below_drewN|apply below_drew1|refine below_set ?_ GE106.out)|exact HB.out)⟩⟩
     ·rw [if_neg c10] at H
      have c10b0 : decide (64 < a0_1) = false:=decide_eq_false c10
      clear c10
      have H':=Aside0.mk H
      clear H
      have hcz12_0 : w3.cell? ⟨gb106,0,none⟩ = some (.int .i64 a0_0):=(blk_cell BK106.out 0).trans rfl
      have hcz12_1 : w3.cell? ⟨gb106,1,none⟩ = some (.int .i64 a0_1):=(blk_cell BK106.out 1).trans rfl
      have hcz12_2 : w3.cell? ⟨gb106,2,none⟩ = some (.slice A0_2 l0_2.length c0_2):=(blk_cell BK106.out 2).trans rfl
      have hfz12_0:=blk_frozen BK106.out 0
      have hfz12_1:=blk_frozen BK106.out 1
      have hfz12_2:=blk_frozen BK106.out 2
      go_wp2
      go_meet
      case rel=>exact ⟨_,(((l0_2.length : Int) != (wrap64 (a0_0 * a0_1)))),(by first|rfl|(simp;done)|(simp [*];done)),H',⟨by first|omega|exact Nat.le_refl _⟩,⟨by (with_reducible repeat first|refine blk_drewN ?_ _|refine blk_alloc ?_ _);exact BK106.out⟩,⟨by repeat (first|(with_reducible first|exact HB.out|apply below_alloc|apply pw_below_drewN|apply below_drew1|refine below_set ?_ GE106.out)|exact HB.out)⟩⟩
 case rest=>
  clear HC2
  (try clear c1);(try clear c2);(try clear p2);(try clear c4);(try clear c4b0);(try clear c6);(try clear c6b0);(try clear p6);(try clear c8);(try clear c8b0);(try clear c10);(try clear c10b0);(try clear hcz11_0);(try clear hcz11_1);(try clear hcz11_2);(try clear hcz12_0);(try clear hcz12_1);(try clear hcz12_2);(try clear hcz5_0);(try clear hcz5_1);(try clear hcz5_2);(try clear hcz7_0);(try clear hcz7_1);(try clear hcz7_2);(try clear hcz9_0);(try clear hcz9_1);(try clear hcz9_2);(try clear hfz11_0);(try clear hfz11_1);(try clear hfz11_2);(try clear hfz12_0);(try clear hfz12_1);(try clear hfz12_2);(try clear hfz5_0);(try clear hfz5_1);(try clear hfz5_2);(try clear hfz7_0);(try clear hfz7_1);(try clear hfz7_2);(try clear hfz9_0);(try clear hfz9_1);(try clear hfz9_2)
  obtain ⟨kq,x32_1,rfl,HA,HJ1,BK106,HB⟩:=hcut
  cases kq with
  | zero=>exact absurd HA.out (by simp [spec_MatrixFault.j0])
  | succ kj1=>
   have H:=HA.out
   clear HA
   simp only [spec_MatrixFault.j0] at H
   by_cases c13 : x32_1 = true
   ·subst c13
    have H1 : (some 1) = some r:=by rw [if_pos rfl] at H;exact H
    clear H
    have H:=H1
    clear H1
    obtain rfl:=Option.some.inj H
    go_wp2
    go_ret
    exact ⟨by first|rfl|(simp [errW_none,errW_some] <;> rfl)|(simp [*,errW_none,errW_some] <;> rfl),by repeat (first|(with_reducible first|exact HB.out|apply below_alloc|apply pw_below_drewN|apply below_drew1|refine below_set ?_ GE106.out)|exact HB.out)⟩
   ·replace c13:=Bool.eq_false_iff.mpr c13
    subst c13
    have H1 : (spec_MatrixFault.l0 kj1 0 a0_0 a0_1 l0_2) = some r:=by rw [if_neg (show ¬ (false = true) by decide)] at H;exact H
    clear H
    have H:=H1
    clear H1
    have H':=Aside0.mk H
    clear H
    go_wp2
    go_loopg [3] kj1 (fun kq v3 w'=>∃ (x3_2 : Int),v3 = .int .i64 x3_2 ∧ Aside0 (spec_MatrixFault.l0 kq x3_2 a0_0 a0_1 l0_2 = some r) ∧ Aside0 (kq ≤ kj1) ∧ Aside0 (w'.heap[gb106]? = some (.cells #[.int .i64 a0_0,.int .i64 a0_1,(.slice A0_2 l0_2.length c0_2)] 27 (0,0))) ∧ Aside0 (Below w.heap.size w w'))
    case atStart=>exact ⟨(0),(by first|rfl|(simp;done)|(simp [*];done)),H',⟨Nat.le_refl _⟩,⟨by (with_reducible repeat first|refine blk_drewN ?_ _|refine blk_alloc ?_ _);exact BK106.out⟩,⟨by repeat (first|(with_reducible first|exact HB.out|apply below_alloc|apply pw_below_drewN|apply below_drew1|refine below_set ?_ GE106.out)|exact HB.out)⟩⟩
    case round=>
     clear H'
     (try clear c1);(try clear c2);(try clear p2);(try clear c4);(try clear c4b0);(try clear c6);(try clear c6b0);(try clear p6);(try clear c8);(try clear c8b0);(try clear c10);(try clear c10b0);(try clear c13);(try clear hcz11_0);(try clear hcz11_1);(try clear hcz11_2);(try clear hcz12_0);(try clear hcz12_1);(try clear hcz12_2);(try clear hcz5_0);(try clear hcz5_1);(try clear hcz5_2);(try clear hcz7_0);(try clear hcz7_1);(try clear hcz7_2);(try clear hcz9_0);(try clear hcz9_1);(try clear hcz9_2);(try clear hfz11_0);(try clear hfz11_1);(try clear hfz11_2);(try clear hfz12_0);(try clear hfz12_1);(try clear hfz12_2);(try clear hfz5_0);(try clear hfz5_1);(try clear hfz5_2);(try clear hfz7_0);(try clear hfz7_1);(try clear hfz7_2);(try clear hfz9_0);(try clear hfz9_1);(try clear hfz9_2);(try clear p2);(try clear p6)
     obtain ⟨x3_2,rfl,HA,HK2,BK106,HB⟩:=hrel
     cases gk with
     | zero=>exact absurd HA.out (by simp [spec_MatrixFault.l0])
     | succ k2=>
      have H:=HA.out
      clear HA
      simp only [spec_MatrixFault.l0] at H
      by_cases c14 : x3_2 < (l0_2.length : Int)
      ·rw [if_pos c14] at H
       have c14b0 : decide (x3_2 < (l0_2.length : Int)) = true:=decide_eq_true c14
       clear c14
       by_cases c15 : 0 ≤ x3_2
       ·rw [if_pos c15] at H
        have c15b0 : decide (0 ≤ x3_2) = true:=decide_eq_true c15
        clear c15
        replace H:=Option.bind_eq_some_iff.mp H
        obtain ⟨t108,A160,H⟩:=H
        replace H : (if t108 = true then (spec_MatrixFault.l0 k2 (wrap64 (x3_2 + 1)) a0_0 a0_1 l0_2) else (some 1)) = some r:=H
        have A16:=Aside0.mk A160
        clear A160
        by_cases c17 : t108 = true
        ·subst c17
         have H1 : (spec_MatrixFault.l0 k2 (wrap64 (x3_2 + 1)) a0_0 a0_1 l0_2) = some r:=by rw [if_pos rfl] at H;exact H
         clear H
         have H:=H1
         clear H1
         have H':=Aside0.mk H
         clear H
         have hcz18_0 : wr.cell? ⟨gb106,0,none⟩ = some (.int .i64 a0_0):=(blk_cell BK106.out 0).trans rfl
         have hcz18_1 : wr.cell? ⟨gb106,1,none⟩ = some (.int .i64 a0_1):=(blk_cell BK106.out 1).trans rfl
         have hcz18_2 : wr.cell? ⟨gb106,2,none⟩ = some (.slice A0_2 l0_2.length c0_2):=(blk_cell BK106.out 2).trans rfl
         have hfz18_0:=blk_frozen BK106.out 0
         have hfz18_1:=blk_frozen BK106.out 1
         have hfz18_2:=blk_frozen BK106.out 2
         have p107 : 0 ≤ (x3_2 : Int):=of_decide_eq_true (by first|(with_reducible assumption)|assumption)
         have q107 : x3_2 < (l0_2.length : Int):=of_decide_eq_true (by first|(with_reducible assumption)|assumption)
         obtain ⟨ad107,e107,hx107_0⟩:=Kd.at_int HR0_2.out x3_2 p107 q107
         cases e107
         replace hx107_0:=(HB.out.cell (World.block_lt_of_cell? w _ hx107_0)).trans hx107_0
         replace p107:=eq_true p107
         replace q107:=eq_true q107
         go_wp2_with (first|((with_reducible refine gate_callee (f:=79) rfl ?_);refine goesL_ (some 45) rfl rfl Try.func79 (by kernel_rfl) rfl #[.int .i64 (rd l0_2 x3_2),.int .i64 256] rfl (by (try simp only [List.map_toArray,List.map_cons,List.map_nil]);first|done|rfl) ?_;(with_reducible refine (spec_l02In.calls (rd l0_2 x3_2) 256 true _ A16.out).mono ?_);rintro e w' ⟨rfl,⟨nd,rfl⟩⟩;refine ⟨_,rfl,?_⟩))
         go_roundg k2
         case measure=>have:=HJ1.out;have:=HK2.out;omega
         case rel=>exact ⟨(wrap64 (x3_2 + 1)),(by first|rfl|(simp;done)|(simp [*];done)),H',⟨by have:=HJ1.out;have:=HK2.out;omega⟩,⟨by (with_reducible repeat first|refine blk_drewN ?_ _|refine blk_alloc ?_ _);exact BK106.out⟩,⟨by repeat (first|(with_reducible first|exact HB.out|apply below_alloc|apply pw_below_drewN|apply below_drew1|refine below_set ?_ GE106.out)|exact HB.out)⟩⟩
        ·replace c17:=Bool.eq_false_iff.mpr c17
         subst c17
         have H1 : (some 1) = some r:=by rw [if_neg (show ¬ (false = true) by decide)] at H;exact H
         clear H
         have H:=H1
         clear H1
         obtain rfl:=Option.some.inj H
         have hcz19_0 : wr.cell? ⟨gb106,0,none⟩ = some (.int .i64 a0_0):=(blk_cell BK106.out 0).trans rfl
         have hcz19_1 : wr.cell? ⟨gb106,1,none⟩ = some (.int .i64 a0_1):=(blk_cell BK106.out 1).trans rfl
         have hcz19_2 : wr.cell? ⟨gb106,2,none⟩ = some (.slice A0_2 l0_2.length c0_2):=(blk_cell BK106.out 2).trans rfl
         have hfz19_0:=blk_frozen BK106.out 0
         have hfz19_1:=blk_frozen BK106.out 1
         have hfz19_2:=blk_frozen BK106.out 2
         have p107 : 0 ≤ (x3_2 : Int):=of_decide_eq_true (by first|(with_reducible assumption)|assumption)
         have q107 : x3_2 < (l0_2.length : Int):=of_decide_eq_true (by first|(with_reducible assumption)|assumption)
         obtain ⟨ad107,e107,hx107_0⟩:=Kd.at_int HR0_2.out x3_2 p107 q107
         cases e107
         replace hx107_0:=(HB.out.cell (World.block_lt_of_cell? w _ hx107_0)).trans hx107_0
         replace p107:=eq_true p107
         replace q107:=eq_true q107
         go_wp2_with (first|((with_reducible refine gate_callee (f:=79) rfl ?_);refine goesL_ (some 45) rfl rfl Try.func79 (by kernel_rfl) rfl #[.int .i64 (rd l0_2 x3_2),.int .i64 256] rfl (by (try simp only [List.map_toArray,List.map_cons,List.map_nil]);first|done|rfl) ?_;(with_reducible refine (spec_l02In.calls (rd l0_2 x3_2) 256 false _ A16.out).mono ?_);rintro e w' ⟨rfl,⟨nd,rfl⟩⟩;refine ⟨_,rfl,?_⟩))
         go_ret
         exact ⟨by first|rfl|(simp [errW_none,errW_some] <;> rfl)|(simp [*,errW_none,errW_some] <;> rfl),by repeat (first|(with_reducible first|exact HB.out|apply below_alloc|apply pw_below_drewN|apply below_drew1|refine below_set ?_ GE106.out)|exact HB.out)⟩
       ·rw [if_neg c15] at H
        exact absurd H (by simp)
      ·rw [if_neg c14] at H
       have c14b0 : decide (x3_2 < (l0_2.length : Int)) = false:=decide_eq_false c14
       clear c14
       obtain rfl:=Option.some.inj H
       have hcz20_0 : wr.cell? ⟨gb106,0,none⟩ = some (.int .i64 a0_0):=(blk_cell BK106.out 0).trans rfl
       have hcz20_1 : wr.cell? ⟨gb106,1,none⟩ = some (.int .i64 a0_1):=(blk_cell BK106.out 1).trans rfl
       have hcz20_2 : wr.cell? ⟨gb106,2,none⟩ = some (.slice A0_2 l0_2.length c0_2):=(blk_cell BK106.out 2).trans rfl
       have hfz20_0:=blk_frozen BK106.out 0
       have hfz20_1:=blk_frozen BK106.out 1
       have hfz20_2:=blk_frozen BK106.out 2
       go_wp2
       go_ret
       exact ⟨by first|rfl|(simp [errW_none,errW_some] <;> rfl)|(simp [*,errW_none,errW_some] <;> rfl),by repeat (first|(with_reducible first|exact HB.out|apply below_alloc|apply pw_below_drewN|apply below_drew1|refine below_set ?_ GE106.out)|exact HB.out)⟩

/-! ### spec_l03At: function 67 -/
def spec_l03At.f (a0_0 : Int) (a0_1 : Int) (l0_2 : List Int) (a1 : Int) (a2 : Int) : Option (Int):=if 0 ≤ (wrap64 ((wrap64 (a1 * a0_1)) + a2)) then (if (wrap64 ((wrap64 (a1 * a0_1)) + a2)) < (l0_2.length : Int) then (some (rd l0_2 (wrap64 ((wrap64 (a1 * a0_1)) + a2)))) else (none)) else (none)
set_option maxHeartbeats 8000000 in
set_option maxRecDepth 100000 in
theorem spec_l03At.calls (a0_0 : Int) (a0_1 : Int) (A0_2 : Option Addr) (c0_2 : Nat) (l0_2 : List Int) (a1 : Int) (a2 : Int) (r : Int) (w : World) (hr0_2 : Kd.C (Kd.int .i64) w A0_2 l0_2.length l0_2) (hc0_2 : l0_2.length ≤ c0_2) (h : spec_l03At.f a0_0 a0_1 l0_2 a1 a2 = some r) :
  Calls Try.prog 67 #[.agg #[.int .i64 a0_0,.int .i64 a0_1,.slice A0_2 l0_2.length c0_2],.int .i64 a1,.int .i64 a2] w fun e w'=>e = .returned (.int .i64 r) ∧ Below w.heap.size w w':=by
 have hu27:=Try.underlying27
 have HR0_2:=Aside0.mk hr0_2
 have HC0_2:=Aside0.mk hc0_2
 clear hr0_2 hc0_2
 have HB:=Aside0.mk (Below.refl w.heap.size w)
 have H : (if 0 ≤ (wrap64 ((wrap64 (a1 * a0_1)) + a2)) then (if (wrap64 ((wrap64 (a1 * a0_1)) + a2)) < (l0_2.length : Int) then (some (rd l0_2 (wrap64 ((wrap64 (a1 * a0_1)) + a2)))) else (none)) else (none)) = some r:=h
 clear h
 obtain ⟨ji4,hji4⟩ : ∃ j_ : Int,(wrap64 ((wrap64 (a1 * a0_1)) + a2)) = j_:=⟨_,rfl⟩
 replace H : (if 0 ≤ (ji4) then (if (ji4) < (l0_2.length : Int) then (some (rd l0_2 (ji4))) else (none)) else (none)) = some r:=by first|(rw [hji4] at H;exact H)|(simp only [hji4] at H ⊢;exact H)
 have hji4w : (IntKind.i64.wrap ((wrap64 (a1 * a0_1)) + a2)) = ji4:=(i64_w _).trans hji4
 by_cases c5 : 0 ≤ (ji4)
 ·rw [if_pos c5] at H
  have c5b0 : decide (0 ≤ (ji4)) = true:=decide_eq_true c5
  clear c5
  by_cases c6 : (ji4) < (l0_2.length : Int)
  ·rw [if_pos c6] at H
   have c6b0 : decide ((ji4) < (l0_2.length : Int)) = true:=decide_eq_true c6
   clear c6
   obtain rfl:=Option.some.inj H
   go_enter Try.func67,Try.ntmps67
   go_wp2_with (first|((with_reducible refine gate_dst (N:=3) rfl ?_);refine box_event ?hg (N:=3) ?hd (cs:=#[.int .i64 a0_0,.int .i64 a0_1,.slice A0_2 l0_2.length c0_2]) (t:=27) ?hr ?_;(case hd=>rfl);(case hg=>rfl);(case hr=>first|(go_simp;done)|(go_simp;rfl));intro gb109 hg w7 hbox hb;have n0_:=Aside0.mk (below_step (by repeat (first|(with_reducible first|exact HB.out|apply below_alloc|apply pw_below_drewN|apply below_drew1)|exact HB.out)) hb);have n1_:=Aside0.mk (hbox);have n2_:=Aside0.mk ((by rw [hg];exact (below_size (by repeat (first|(with_reducible first|exact HB.out|apply below_alloc|apply pw_below_drewN|apply below_drew1)|exact HB.out))) : w.heap.size ≤ gb109));have n3_:=Aside0.mk ((by rw [hg];exact (below_size (by repeat (first|(with_reducible first|exact HB.out|apply below_alloc|apply pw_below_drewN|apply below_drew1)|exact HB.out))) : w.heap.size ≤ gb109));clear HB;have HB:=n0_;have BK109:=n1_;have GW109:=n2_;have GE109:=n3_;clear n0_ n1_ n2_ n3_ hb hbox hg;have hcz8_0 : w7.cell? ⟨gb109,0,none⟩ = some (.int .i64 a0_0):=(blk_cell BK109.out 0).trans rfl;have hcz8_1 : w7.cell? ⟨gb109,1,none⟩ = some (.int .i64 a0_1):=(blk_cell BK109.out 1).trans rfl;have hcz8_2 : w7.cell? ⟨gb109,2,none⟩ = some (.slice A0_2 l0_2.length c0_2):=(blk_cell BK109.out 2).trans rfl;have hfz8_0:=blk_frozen BK109.out 0;have hfz8_1:=blk_frozen BK109.out 1;have hfz8_2:=blk_frozen BK109.out 2;have p110 : 0 ≤ ((ji4) : Int):=of_decide_eq_true (by first|(with_reducible assumption)|assumption);have q110 : (ji4) < (l0_2.length : Int):=of_decide_eq_true (by first|(with_reducible assumption)|assumption);obtain ⟨ad110,e110,hx110_0⟩:=Kd.at_int HR0_2.out (ji4) p110 q110;cases e110;replace hx110_0:=(HB.out.cell (World.block_lt_of_cell? w _ hx110_0)).trans hx110_0;replace p110:=eq_true p110;replace q110:=eq_true q110))
   go_ret
   exact ⟨by first|rfl|(simp [errW_none,errW_some] <;> rfl)|(simp only [← hji4];first|rfl|(simp [errW_none,errW_some] <;> rfl))|(simp [*,errW_none,errW_some] <;> rfl),by repeat (first|(with_reducible first|exact HB.out|apply below_alloc|apply pw_below_drewN|apply below_drew1|refine below_set ?_ GE109.out)|exact HB.out)⟩
  ·rw [if_neg c6] at H
   exact absurd H (by simp)
 ·rw [if_neg c5] at H
  exact absurd H (by simp)

/-! ### spec_l03Swap: function 68 -/
def spec_l03Swap.l0 : Nat → Int → Int → Int → Int → Int → List Int → Option (List Int)
 | 0,_,_,_,_,_,_=>none
 | k + 1,x1,x2,x6,x112000,x112001,x112002=>if x6 < x112001 then ((spec_l03At.f x112000 x112001 x112002 x1 x6).bind fun t112=>((spec_l03At.f x112000 x112001 x112002 x2 x6).bind fun t113=>(if 0 ≤ (wrap64 ((wrap64 (x1 * x112001)) + x6)) then (if (wrap64 ((wrap64 (x1 * x112001)) + x6)) < (x112002.length : Int) then (if 0 ≤ (wrap64 ((wrap64 (x2 * x112001)) + x6)) then (if (wrap64 ((wrap64 (x2 * x112001)) + x6)) < (x112002.length : Int) then (spec_l03Swap.l0 k x1 x2 (wrap64 (x6 + 1)) x112000 x112001 ((x112002.set ((wrap64 ((wrap64 (x1 * x112001)) + x6)) : Int).toNat t113).set ((wrap64 ((wrap64 (x2 * x112001)) + x6)) : Int).toNat t112)) else (none)) else (none)) else (none)) else (none)))) else (some x112002)
def spec_l03Swap.f (k : Nat) (a0_0 : Int) (a0_1 : Int) (l0_2 : List Int) (a1 : Int) (a2 : Int) : Option (List Int):=spec_l03Swap.l0 k a1 a2 0 a0_0 a0_1 l0_2
theorem spec_l03Swap.mono_l : ∀ k,(∀ y0 y1 y2 y3 y4 y5,LeO (spec_l03Swap.l0 k y0 y1 y2 y3 y4 y5) (spec_l03Swap.l0 (k + 1) y0 y1 y2 y3 y4 y5))
 | 0=>fun _ _ _ _ _ _ r h=>by simp [spec_l03Swap.l0] at h
 | k + 1=>by
  have ih0:=spec_l03Swap.mono_l k
  ·intro y0 y1 y2 y3 y4 y5
   unfold spec_l03Swap.l0
   repeat' first
   | (with_reducible exact ih0 _ _ _ _ _ _)
   | (with_reducible exact LeO.refl _)
   | (with_reducible exact LeO.none _)
   | (with_reducible refine LeO.ite ?_ ?_)
   | (with_reducible refine LeO.bind ?_ (fun _=>?_))
   | exact ih0 _ _ _ _ _ _
   | exact LeO.none _
   | refine LeO.ite ?_ ?_
   | refine LeO.bind ?_ (fun _=>?_)
theorem spec_l03Swap.mono : ∀ a0 a1 a2 a3 a4 k,LeO (spec_l03Swap.f k a0 a1 a2 a3 a4) (spec_l03Swap.f (k + 1) a0 a1 a2 a3 a4):=by
 intro a0 a1 a2 a3 a4 k
 have ih0:=spec_l03Swap.mono_l k
 unfold spec_l03Swap.f
 repeat' first
   | (with_reducible exact ih0 _ _ _ _ _ _)
   | (with_reducible exact LeO.refl _)
   | (with_reducible exact LeO.none _)
   | (with_reducible refine LeO.ite ?_ ?_)
   | (with_reducible refine LeO.bind ?_ (fun _=>?_))
   | exact ih0 _ _ _ _ _ _
   | exact LeO.none _
   | refine LeO.ite ?_ ?_
   | refine LeO.bind ?_ (fun _=>?_)
set_option maxHeartbeats 8000000 in
set_option maxRecDepth 100000 in
theorem spec_l03Swap.calls (k : Nat) (a0_0 : Int) (a0_1 : Int) (P0_2_ : Nat → Prop) (u9000_ : Value) (l0_2 : List Int) (a1 : Int) (a2 : Int) (r : List Int) (w0 w : World) (hB : Below w0.heap.size w0 w) (ho0_2 : Kd.R (Kd.int .i64) 2 w w0.heap.size P0_2_ u9000_ l0_2) (h : spec_l03Swap.f k a0_0 a0_1 l0_2 a1 a2 = some r) :
  Calls Try.prog 68 #[.agg #[.int .i64 a0_0,.int .i64 a0_1,u9000_],.int .i64 a1,.int .i64 a2] w fun e w'=>e = .returned (.tuple #[]) ∧ Kd.R (Kd.int .i64) 2 w' w0.heap.size (fun k_=>(P0_2_ k_ ∨ w.heap.size ≤ k_)) u9000_ r ∧ Below w0.heap.size w0 w' ∧ Kept w w' (fun k_=>P0_2_ k_):=by
 have hu27:=Try.underlying27
 have HO0_2:=Aside0.mk (show Kd.R (Kd.int .i64) 2 w w0.heap.size (fun k_=>(P0_2_ k_ ∨ w.heap.size ≤ k_)) u9000_ l0_2 from Kd.R_mono ho0_2 (fun k_ hk=>(.inl hk)))
 have HK:=Aside0.mk (Kept.refl w (fun k_=>P0_2_ k_))
 have HW0:=Aside0.mk hB.size
 have HB:=Aside0.mk hB
 clear hB
 have H : (spec_l03Swap.l0 k a1 a2 0 a0_0 a0_1 l0_2) = some r:=h
 clear h
 have H':=Aside0.mk H
 clear H
 obtain ⟨Ao4,co4,eo4⟩:=Kd.R_slice HO0_2.out
 subst eo4
 go_enter Try.func68,Try.ntmps68
 go_wp2_with (first|((with_reducible refine gate_dst (N:=3) rfl ?_);refine box_event ?hg (N:=3) ?hd (cs:=#[.int .i64 a0_0,.int .i64 a0_1,.slice Ao4 l0_2.length co4]) (t:=27) ?hr ?_;(case hd=>rfl);(case hg=>rfl);(case hr=>first|(go_simp;done)|(go_simp;rfl));intro gb111 hg w5 hbox hb;have n0_:=Aside0.mk (Kd.R_below (by (with_reducible repeat (first|apply Kd.R_alloc|apply Kd.R_drewN));exact HO0_2.out) hb);have n1_:=Aside0.mk (Kept.below (S:=(fun k_=>P0_2_ k_)) (by repeat (first|(with_reducible first|exact HK.out|apply Kept.alloc|apply Kept.drewN)|exact HK.out)) hb);have n2_:=Aside0.mk (below_step (by repeat (first|(with_reducible first|exact HB.out|apply below_alloc|apply pw_below_drewN|apply below_drew1)|exact HB.out)) hb);have n3_:=Aside0.mk (hbox);have n4_:=Aside0.mk ((by rw [hg];exact (by first|exact HK.out.1|exact (show Kept w _ (fun k_=>P0_2_ k_) from by repeat (first|(with_reducible first|exact HK.out|apply Kept.alloc|apply Kept.drewN)|exact HK.out)).1) : w.heap.size ≤ gb111));have n5_:=Aside0.mk ((by rw [hg];exact (below_size (by repeat (first|(with_reducible first|exact HB.out|apply below_alloc|apply pw_below_drewN|apply below_drew1)|exact HB.out))) : w0.heap.size ≤ gb111));clear HO0_2 HK HB;have HO0_2:=n0_;have HK:=n1_;have HB:=n2_;have BK111:=n3_;have GW111:=n4_;have GE111:=n5_;clear n0_ n1_ n2_ n3_ n4_ n5_ hb hbox hg))
 go_loopg [6] k (fun kq v6 w'=>∃ (x6_1 : Int) (x112002_1 : List Int),v6 = .int .i64 x6_1 ∧ Aside0 (spec_l03Swap.l0 kq a1 a2 x6_1 a0_0 a0_1 x112002_1 = some r) ∧ Aside0 (kq ≤ k) ∧ Aside0 (Kd.R (Kd.int .i64) 2 w' w0.heap.size (fun k_=>(P0_2_ k_ ∨ w.heap.size ≤ k_)) (.slice Ao4 l0_2.length co4) x112002_1) ∧ Aside0 (w'.heap[gb111]? = some (.cells #[.int .i64 a0_0,.int .i64 a0_1,(.slice Ao4 l0_2.length co4)] 27 (0,0))) ∧ Aside0 (Kept w w' (fun k_=>P0_2_ k_)) ∧ Aside0 (Below w0.heap.size w0 w'))
 case atStart=>exact ⟨(0),(l0_2),(by first|rfl|(simp;done)|(simp [*];done)),H',⟨Nat.le_refl _⟩,⟨by (with_reducible repeat (first|apply Kd.R_alloc|apply Kd.R_drewN));exact HO0_2.out⟩,⟨by (with_reducible repeat first|refine blk_drewN ?_ _|refine blk_alloc ?_ _);exact BK111.out⟩,⟨by repeat (first|(with_reducible first|exact HK.out|apply Kept.alloc|apply Kept.drewN|refine Kept.setCell ?_ (.inr GW111.out) _)|exact HK.out)⟩,⟨by repeat (first|(with_reducible first|exact HB.out|apply below_alloc|apply pw_below_drewN|apply below_drew1|refine below_set ?_ GE111.out)|exact HB.out)⟩⟩
 case round=>
  clear H'
  (try clear p2)
  obtain ⟨x6_1,x112002_1,rfl,HA,HK1,HO_112002,BK111,HK,HB⟩:=hrel
  have hl112002_1:=(Kd.R_reads' HO_112002.out).1
  rw [hl112002_1] at HO_112002
  (try simp only [hl112002_1])
  (try simp only [hl112002_1] at BK111)
  cases gk with
  | zero=>exact absurd HA.out (by simp [spec_l03Swap.l0])
  | succ k1=>
   have H:=HA.out
   clear HA
   simp only [spec_l03Swap.l0] at H
   by_cases c6 : x6_1 < a0_1
   ·rw [if_pos c6] at H
    have c6b0 : decide (x6_1 < a0_1) = true:=decide_eq_true c6
    clear c6
    replace H:=Option.bind_eq_some_iff.mp H
    obtain ⟨t112,A70,H⟩:=H
    replace H : ((spec_l03At.f a0_0 a0_1 x112002_1 a2 x6_1).bind fun t113=>(if 0 ≤ (wrap64 ((wrap64 (a1 * a0_1)) + x6_1)) then (if (wrap64 ((wrap64 (a1 * a0_1)) + x6_1)) < (x112002_1.length : Int) then (if 0 ≤ (wrap64 ((wrap64 (a2 * a0_1)) + x6_1)) then (if (wrap64 ((wrap64 (a2 * a0_1)) + x6_1)) < (x112002_1.length : Int) then (spec_l03Swap.l0 k1 a1 a2 (wrap64 (x6_1 + 1)) a0_0 a0_1 ((x112002_1.set ((wrap64 ((wrap64 (a1 * a0_1)) + x6_1)) : Int).toNat t113).set ((wrap64 ((wrap64 (a2 * a0_1)) + x6_1)) : Int).toNat t112)) else (none)) else (none)) else (none)) else (none))) = some r:=H
    have A7:=Aside0.mk A70
    clear A70
    replace H:=Option.bind_eq_some_iff.mp H
    obtain ⟨t113,A80,H⟩:=H
    replace H : (if 0 ≤ (wrap64 ((wrap64 (a1 * a0_1)) + x6_1)) then (if (wrap64 ((wrap64 (a1 * a0_1)) + x6_1)) < (x112002_1.length : Int) then (if 0 ≤ (wrap64 ((wrap64 (a2 * a0_1)) + x6_1)) then (if (wrap64 ((wrap64 (a2 * a0_1)) + x6_1)) < (x112002_1.length : Int) then (spec_l03Swap.l0 k1 a1 a2 (wrap64 (x6_1 + 1)) a0_0 a0_1 ((x112002_1.set ((wrap64 ((wrap64 (a1 * a0_1)) + x6_1)) : Int).toNat t113).set ((wrap64 ((wrap64 (a2 * a0_1)) + x6_1)) : Int).toNat t112)) else (none)) else (none)) else (none)) else (none)) = some r:=H
    have A8:=Aside0.mk A80
    clear A80
    obtain ⟨ji9,hji9⟩ : ∃ j_ : Int,(wrap64 ((wrap64 (a1 * a0_1)) + x6_1)) = j_:=⟨_,rfl⟩
    replace H : (if 0 ≤ (ji9) then (if (ji9) < (x112002_1.length : Int) then (if 0 ≤ (wrap64 ((wrap64 (a2 * a0_1)) + x6_1)) then (if (wrap64 ((wrap64 (a2 * a0_1)) + x6_1)) < (x112002_1.length : Int) then (spec_l03Swap.l0 k1 a1 a2 (wrap64 (x6_1 + 1)) a0_0 a0_1 ((x112002_1.set ((ji9) : Int).toNat t113).set ((wrap64 ((wrap64 (a2 * a0_1)) + x6_1)) : Int).toNat t112)) else (none)) else (none)) else (none)) else (none)) = some r:=by first|(rw [hji9] at H;exact H)|(simp only [hji9] at H ⊢;exact H)
    (try rw [hji9] at A7)
    (try rw [hji9] at A8)
    have hji9w : (IntKind.i64.wrap ((wrap64 (a1 * a0_1)) + x6_1)) = ji9:=(i64_w _).trans hji9
    by_cases c10 : 0 ≤ (ji9)
    ·rw [if_pos c10] at H
     have c10b0 : decide (0 ≤ (ji9)) = true:=decide_eq_true c10
     clear c10
     by_cases c11 : (ji9) < (x112002_1.length : Int)
     ·rw [if_pos c11] at H
      have c11b0 : decide ((ji9) < (x112002_1.length : Int)) = true:=decide_eq_true c11
      clear c11
      obtain ⟨y114,hy114⟩ : ∃ y_ : List Int,y_ = (x112002_1.set ((ji9) : Int).toNat t113):=⟨_,rfl⟩
      replace H : (if 0 ≤ (wrap64 ((wrap64 (a2 * a0_1)) + x6_1)) then (if (wrap64 ((wrap64 (a2 * a0_1)) + x6_1)) < (x112002_1.length : Int) then (spec_l03Swap.l0 k1 a1 a2 (wrap64 (x6_1 + 1)) a0_0 a0_1 (y114.set ((wrap64 ((wrap64 (a2 * a0_1)) + x6_1)) : Int).toNat t112)) else (none)) else (none)) = some r:=by first|(rw [hy114];with_reducible exact H)|(have H2_:=(Option.bind_some _ _).symm.trans H;rw [hy114];with_reducible exact H2_)|(have H2_:=(Option.bind_some _ _).symm.trans H;with_reducible exact H2_)|with_reducible exact H|(rw [hy114];exact H)|exact H
      have Ny114:=Aside0.mk hy114
      clear hy114
      obtain ⟨ji13,hji13⟩ : ∃ j_ : Int,(wrap64 ((wrap64 (a2 * a0_1)) + x6_1)) = j_:=⟨_,rfl⟩
      replace H : (if 0 ≤ (ji13) then (if (ji13) < (x112002_1.length : Int) then (spec_l03Swap.l0 k1 a1 a2 (wrap64 (x6_1 + 1)) a0_0 a0_1 (y114.set ((ji13) : Int).toNat t112)) else (none)) else (none)) = some r:=by first|(rw [hji13] at H;exact H)|(simp only [hji13] at H ⊢;exact H)
      (try rw [hji13] at A7)
      (try rw [hji13] at A8)
      have hji13w : (IntKind.i64.wrap ((wrap64 (a2 * a0_1)) + x6_1)) = ji13:=(i64_w _).trans hji13
      by_cases c14 : 0 ≤ (ji13)
      ·rw [if_pos c14] at H
       have c14b0 : decide (0 ≤ (ji13)) = true:=decide_eq_true c14
       clear c14
       by_cases c15 : (ji13) < (x112002_1.length : Int)
       ·rw [if_pos c15] at H
        have c15b0 : decide ((ji13) < (x112002_1.length : Int)) = true:=decide_eq_true c15
        clear c15
        obtain ⟨y115,hy115⟩ : ∃ y_ : List Int,y_ = (y114.set ((ji13) : Int).toNat t112):=⟨_,rfl⟩
        replace H : (spec_l03Swap.l0 k1 a1 a2 (wrap64 (x6_1 + 1)) a0_0 a0_1 y115) = some r:=by first|(rw [hy115];with_reducible exact H)|(have H2_:=(Option.bind_some _ _).symm.trans H;rw [hy115];with_reducible exact H2_)|(have H2_:=(Option.bind_some _ _).symm.trans H;with_reducible exact H2_)|with_reducible exact H|(rw [hy115];exact H)|exact H
        have Ny115:=Aside0.mk hy115
        clear hy115
        have H':=Aside0.mk H
        clear H
        have hcz17_0 : wr.cell? ⟨gb111,0,none⟩ = some (.int .i64 a0_0):=(blk_cell BK111.out 0).trans rfl
        have hcz17_1 : wr.cell? ⟨gb111,1,none⟩ = some (.int .i64 a0_1):=(blk_cell BK111.out 1).trans rfl
        have hcz17_2 : wr.cell? ⟨gb111,2,none⟩ = some (.slice Ao4 x112002_1.length co4):=(blk_cell BK111.out 2).trans rfl
        have hfz17_0:=blk_frozen BK111.out 0
        have hfz17_1:=blk_frozen BK111.out 1
        have hfz17_2:=blk_frozen BK111.out 2
        go_wp2_with (first|((with_reducible refine gate_callee (f:=67) rfl ?_);refine goesL_ (some 18) rfl rfl Try.func67 (by kernel_rfl) rfl #[.agg #[.int .i64 a0_0,.int .i64 a0_1,.slice Ao4 x112002_1.length co4],.int .i64 a1,.int .i64 x6_1] rfl (by (try simp only [List.map_toArray,List.map_cons,List.map_nil]);first|done|rfl) ?_;(with_reducible refine (spec_l03At.calls a0_0 a0_1 _ _ x112002_1 a1 x6_1 t112 _ ?side1 ?side2 A7.out).mono ?_);(case side1=>repeat (first|exact (Kd.R_reads' HO_112002.out).2.2|(with_reducible refine Kd.C_alloc ?_ _)|(with_reducible refine Kd.C_drewN ?_ _)|(with_reducible refine Kd.C_drew ?_)));(case side2=>exact (Kd.R_reads' HO_112002.out).2.1);rintro e w18 ⟨rfl,hb⟩;refine ⟨_,rfl,?_⟩;have n0_:=Aside0.mk (Kd.R_below (by (with_reducible repeat (first|apply Kd.R_alloc|apply Kd.R_drewN));exact HO_112002.out) hb);have n1_:=Aside0.mk (blk_below (g:=gb111) (o:=.cells #[.int .i64 a0_0,.int .i64 a0_1,.slice Ao4 x112002_1.length co4] 27 (0,0)) (by (with_reducible repeat first|refine blk_drewN ?_ _|refine blk_alloc ?_ _);exact BK111.out) hb);have n2_:=Aside0.mk (Kept.below (S:=(fun k_=>P0_2_ k_)) (by repeat (first|(with_reducible first|exact HK.out|apply Kept.alloc|apply Kept.drewN|refine Kept.setCell ?_ (.inr GW111.out) _)|exact HK.out)) hb);have n3_:=Aside0.mk (below_step (by repeat (first|(with_reducible first|exact HB.out|apply below_alloc|apply pw_below_drewN|apply below_drew1|refine below_set ?_ GE111.out)|exact HB.out)) hb);clear HO_112002 BK111 HK HB;have HO_112002:=n0_;have BK111:=n1_;have HK:=n2_;have HB:=n3_;clear n0_ n1_ n2_ n3_;(try clear hb);(try clear hb2);(try clear hk);(try clear hi);have hcz19_0 : w18.cell? ⟨gb111,0,none⟩ = some (.int .i64 a0_0):=(blk_cell BK111.out 0).trans rfl;have hcz19_1 : w18.cell? ⟨gb111,1,none⟩ = some (.int .i64 a0_1):=(blk_cell BK111.out 1).trans rfl;have hcz19_2 : w18.cell? ⟨gb111,2,none⟩ = some (.slice Ao4 x112002_1.length co4):=(blk_cell BK111.out 2).trans rfl;have hfz19_0:=blk_frozen BK111.out 0;have hfz19_1:=blk_frozen BK111.out 1;have hfz19_2:=blk_frozen BK111.out 2)|((with_reducible refine gate_callee (f:=67) rfl ?_);refine goesL_ (some 22) rfl rfl Try.func67 (by kernel_rfl) rfl #[.agg #[.int .i64 a0_0,.int .i64 a0_1,.slice Ao4 x112002_1.length co4],.int .i64 a2,.int .i64 x6_1] rfl (by (try simp only [List.map_toArray,List.map_cons,List.map_nil]);first|done|rfl) ?_;(with_reducible refine (spec_l03At.calls a0_0 a0_1 _ _ x112002_1 a2 x6_1 t113 _ ?side1 ?side2 A8.out).mono ?_);(case side1=>repeat (first|exact (Kd.R_reads' HO_112002.out).2.2|(with_reducible refine Kd.C_alloc ?_ _)|(with_reducible refine Kd.C_drewN ?_ _)|(with_reducible refine Kd.C_drew ?_)));(case side2=>exact (Kd.R_reads' HO_112002.out).2.1);rintro e w20 ⟨rfl,hb⟩;refine ⟨_,rfl,?_⟩;have n0_:=Aside0.mk (Kd.R_below (by (with_reducible repeat (first|apply Kd.R_alloc|apply Kd.R_drewN));exact HO_112002.out) hb);have n1_:=Aside0.mk (blk_below (g:=gb111) (o:=.cells #[.int .i64 a0_0,.int .i64 a0_1,.slice Ao4 x112002_1.length co4] 27 (0,0)) (by (with_reducible repeat first|refine blk_drewN ?_ _|refine blk_alloc ?_ _);exact BK111.out) hb);have n2_:=Aside0.mk (Kept.below (S:=(fun k_=>P0_2_ k_)) (by repeat (first|(with_reducible first|exact HK.out|apply Kept.alloc|apply Kept.drewN|refine Kept.setCell ?_ (.inr GW111.out) _)|exact HK.out)) hb);have n3_:=Aside0.mk (below_step (by repeat (first|(with_reducible first|exact HB.out|apply below_alloc|apply pw_below_drewN|apply below_drew1|refine below_set ?_ GE111.out)|exact HB.out)) hb);clear HO_112002 BK111 HK HB;have HO_112002:=n0_;have BK111:=n1_;have HK:=n2_;have HB:=n3_;clear n0_ n1_ n2_ n3_;(try clear hb);(try clear hb2);(try clear hk);(try clear hi);have hcz21_0 : w20.cell? ⟨gb111,0,none⟩ = some (.int .i64 a0_0):=(blk_cell BK111.out 0).trans rfl;have hcz21_1 : w20.cell? ⟨gb111,1,none⟩ = some (.int .i64 a0_1):=(blk_cell BK111.out 1).trans rfl;have hcz21_2 : w20.cell? ⟨gb111,2,none⟩ = some (.slice Ao4 x112002_1.length co4):=(blk_cell BK111.out 2).trans rfl;have hfz21_0:=blk_frozen BK111.out 0;have hfz21_1:=blk_frozen BK111.out 1;have hfz21_2:=blk_frozen BK111.out 2;have p12 : 0 ≤ ((ji9) : Int):=of_decide_eq_true (by first|(with_reducible assumption)|assumption);have q12 : ((ji9) : Int) < ((x112002_1.length : Int) : Int):=of_decide_eq_true (by first|(with_reducible assumption)|assumption);obtain ⟨go12,co12,eo12,gb12,gl12,cl12,HG12⟩:=Kd.R_form HO_112002.out (by omega);(first|cases eo12|(injection eo12 with ea_ en_ ec_;(first|subst ea_|(injection ea_ with ea_;subst ea_));subst ec_;clear en_));have GB12:=Aside0.mk gb12;have GG12:=Aside0.mk HG12;clear gb12 gl12 HG12;have HMgo12:=Aside0.mk (show (P0_2_ go12 ∨ w.heap.size ≤ go12) from (HO_112002.out.1 _ rfl));obtain ⟨hx12_0,hf12_0⟩:=Kd.R_celln 0 HO_112002.out ((ji9) : Int) p12 q12;replace p12:=eq_true p12;replace q12:=eq_true q12;obtain ⟨hy22_,hz22_⟩:=Kd.R_celln 0 HO_112002.out ((ji9) : Int) (of_decide_eq_true (by first|(with_reducible assumption)|assumption)) (of_decide_eq_true (by first|(with_reducible assumption)|assumption));have HP22:=Kd.R_putg HO_112002.out ((ji9) : Int) t113)|((with_reducible refine gate_store (t:=2) (p:=32) rfl ?_);refine store_event (t:=2) (p:=32) (v:=?vo_w23) (w1:=(w20.setCell ⟨go12,((ji9) : Int).toNat,none⟩ (.int .i64 t113))) ?hg ?ho ?hn ?hr ?_;(case ho=>rfl);(case hg=>rfl);(case hn=>rfl);(case hr=>first|(go_simp;done)|(go_simp;rfl));intro w23 hw;have hg : w20.grownBy w23 (some go12):=(by rw [hw];exact HP22.2);have hp_ : Kd.R (Kd.int .i64) 2 w23 w0.heap.size (fun k_=>(P0_2_ k_ ∨ w.heap.size ≤ k_)) (.slice (some ⟨go12,0,none⟩) x112002_1.length co4) y114:=(by rw [hw,Ny114.out];exact HP22.1);clear HP22;have n0_:=Aside0.mk (hp_);have n1_:=Aside0.mk (blk_grown (g:=gb111) (o:=.cells #[.int .i64 a0_0,.int .i64 a0_1,.slice (some ⟨go12,0,none⟩) x112002_1.length co4] 27 (0,0)) (by (with_reducible repeat first|refine blk_drewN ?_ _|refine blk_alloc ?_ _);exact BK111.out) hg (Kd.R_ne HO_112002.out BK111.out (by decide)));have n2_:=Aside0.mk ((by rw [hw];exact below_set (HB.out) GB12.out : Below w0.heap.size w0 w23));have n3_:=Aside0.mk (Kept.of_grown (S:=(fun k_=>P0_2_ k_)) hg (by repeat (first|(with_reducible first|exact HK.out|apply Kept.alloc|apply Kept.drewN|refine Kept.setCell ?_ (.inr GW111.out) _)|exact HK.out)) (fun k_ e_=>(HO_112002.out.1 k_ e_)));clear HO_112002 BK111 HB HK;have HO_112002:=n0_;have BK111:=n1_;have HB:=n2_;have HK:=n3_;clear n0_ n1_ n2_ n3_ hg hw hp_;have hcz24_0 : w23.cell? ⟨gb111,0,none⟩ = some (.int .i64 a0_0):=(blk_cell BK111.out 0).trans rfl;have hcz24_1 : w23.cell? ⟨gb111,1,none⟩ = some (.int .i64 a0_1):=(blk_cell BK111.out 1).trans rfl;have hcz24_2 : w23.cell? ⟨gb111,2,none⟩ = some (.slice (some ⟨go12,0,none⟩) x112002_1.length co4):=(blk_cell BK111.out 2).trans rfl;have hfz24_0:=blk_frozen BK111.out 0;have hfz24_1:=blk_frozen BK111.out 1;have hfz24_2:=blk_frozen BK111.out 2;have p16 : 0 ≤ ((ji13) : Int):=of_decide_eq_true (by first|(with_reducible assumption)|assumption);have q16 : ((ji13) : Int) < ((x112002_1.length : Int) : Int):=of_decide_eq_true (by first|(with_reducible assumption)|assumption);obtain ⟨hx16_0,hf16_0⟩:=Kd.R_celln 0 HO_112002.out ((ji13) : Int) p16 q16;replace p16:=eq_true p16;replace q16:=eq_true q16;obtain ⟨hy25_,hz25_⟩:=Kd.R_celln 0 HO_112002.out ((ji13) : Int) (of_decide_eq_true (by first|(with_reducible assumption)|assumption)) (of_decide_eq_true (by first|(with_reducible assumption)|assumption));have HP25:=Kd.R_putg HO_112002.out ((ji13) : Int) t112)|((with_reducible refine gate_store (t:=2) (p:=42) rfl ?_);refine store_event (t:=2) (p:=42) (v:=?vo_w26) (w1:=(w23.setCell ⟨go12,((ji13) : Int).toNat,none⟩ (.int .i64 t112))) ?hg ?ho ?hn ?hr ?_;(case ho=>rfl);(case hg=>rfl);(case hn=>rfl);(case hr=>first|(go_simp;done)|(go_simp;rfl));intro w26 hw;have hg : w23.grownBy w26 (some go12):=(by rw [hw];exact HP25.2);have hp_ : Kd.R (Kd.int .i64) 2 w26 w0.heap.size (fun k_=>(P0_2_ k_ ∨ w.heap.size ≤ k_)) (.slice (some ⟨go12,0,none⟩) x112002_1.length co4) y115:=(by rw [hw,Ny115.out];exact HP25.1);clear HP25;have n0_:=Aside0.mk (hp_);have n1_:=Aside0.mk (blk_grown (g:=gb111) (o:=.cells #[.int .i64 a0_0,.int .i64 a0_1,.slice (some ⟨go12,0,none⟩) x112002_1.length co4] 27 (0,0)) (by (with_reducible repeat first|refine blk_drewN ?_ _|refine blk_alloc ?_ _);exact BK111.out) hg (Kd.R_ne HO_112002.out BK111.out (by decide)));have n2_:=Aside0.mk ((by rw [hw];exact below_set (HB.out) GB12.out : Below w0.heap.size w0 w26));have n3_:=Aside0.mk (Kept.of_grown (S:=(fun k_=>P0_2_ k_)) hg (by repeat (first|(with_reducible first|exact HK.out|apply Kept.alloc|apply Kept.drewN|refine Kept.setCell ?_ (.inr GW111.out) _)|exact HK.out)) (fun k_ e_=>(HO_112002.out.1 k_ e_)));clear HO_112002 BK111 HB HK;have HO_112002:=n0_;have BK111:=n1_;have HB:=n2_;have HK:=n3_;clear n0_ n1_ n2_ n3_ hg hw hp_))
        (try simp only [← hl112002_1])
        go_roundg k1
        case measure=>have:=HK1.out;omega
        case rel=>exact ⟨(wrap64 (x6_1 + 1)),(y115),(by first|rfl|(simp;done)|(simp [*];done)),H',⟨by have:=HK1.out;omega⟩,⟨by (try simp only [hl112002_1]);(with_reducible repeat (first|apply Kd.R_alloc|apply Kd.R_drewN));exact HO_112002.out⟩,⟨by (try simp only [hl112002_1]);(with_reducible repeat first|refine blk_drewN ?_ _|refine blk_alloc ?_ _);exact BK111.out⟩,⟨by repeat (first|(with_reducible first|exact HK.out|apply Kept.alloc|apply Kept.drewN|refine Kept.setCell ?_ (.inr GW111.out) _)|exact HK.out)⟩,⟨by repeat (first|(with_reducible first|exact HB.out|apply below_alloc|apply pw_below_drewN|apply below_drew1|refine below_set ?_ GE111.out)|exact HB.out)⟩⟩
       ·rw [if_neg c15] at H
        exact absurd H (by simp)
      ·rw [if_neg c14] at H
       exact absurd H (by simp)
     ·rw [if_neg c11] at H
      exact absurd H (by simp)
    ·rw [if_neg c10] at H
     exact absurd H (by simp)
   ·rw [if_neg c6] at H
    have c6b0 : decide (x6_1 < a0_1) = false:=decide_eq_false c6
    clear c6
    obtain rfl:=Option.some.inj H
    have hcz27_0 : wr.cell? ⟨gb111,0,none⟩ = some (.int .i64 a0_0):=(blk_cell BK111.out 0).trans rfl
    have hcz27_1 : wr.cell? ⟨gb111,1,none⟩ = some (.int .i64 a0_1):=(blk_cell BK111.out 1).trans rfl
    have hcz27_2 : wr.cell? ⟨gb111,2,none⟩ = some (.slice Ao4 x112002_1.length co4):=(blk_cell BK111.out 2).trans rfl
    have hfz27_0:=blk_frozen BK111.out 0
    have hfz27_1:=blk_frozen BK111.out 1
    have hfz27_2:=blk_frozen BK111.out 2
    go_wp2
    first|go_end0|((try simp only [Exit.inBlock,Exit.then]);refine bodyPost_ret (results_none rfl _ _ _) rfl ?_)
    exact ⟨by first|rfl|(simp [errW_none,errW_some] <;> rfl)|(simp [*,errW_none,errW_some] <;> rfl),(by first|exact (by (with_reducible repeat (first|apply Kd.R_alloc|apply Kd.R_drewN));exact HO_112002.out)|(simp only [hl112002_1];exact (by (with_reducible repeat (first|apply Kd.R_alloc|apply Kd.R_drewN));exact HO_112002.out))),by repeat (first|(with_reducible first|exact HB.out|apply below_alloc|apply pw_below_drewN|apply below_drew1|refine below_set ?_ GE111.out)|exact HB.out),by repeat (first|(with_reducible first|exact HK.out|apply Kept.alloc|apply Kept.drewN|refine Kept.setCell ?_ (.inr GW111.out) _)|exact HK.out)⟩

/-! ### spec_l02Times: function 132 -/
def spec_l02Times.l0 : Nat → Int → Int → Int → Int → Int → Option (Int)
 | 0,_,_,_,_,_=>none
 | k + 1,x0,x1,x2,x3,x9=>if x1 > 0 then (if (Int.tmod x1 2) = 1 then (if (wrap64 (x0 * 2)) ≥ x3 then (spec_l02Times.l0 k (Go.bits .xor .i64 (wrap64 (x0 * 2)) x2) (wrap64 (Int.tdiv x1 2)) x2 x3 (Go.bits .xor .i64 x9 x0)) else (spec_l02Times.l0 k (wrap64 (x0 * 2)) (wrap64 (Int.tdiv x1 2)) x2 x3 (Go.bits .xor .i64 x9 x0))) else (if (wrap64 (x0 * 2)) ≥ x3 then (spec_l02Times.l0 k (Go.bits .xor .i64 (wrap64 (x0 * 2)) x2) (wrap64 (Int.tdiv x1 2)) x2 x3 x9) else (spec_l02Times.l0 k (wrap64 (x0 * 2)) (wrap64 (Int.tdiv x1 2)) x2 x3 x9))) else (some x9)
def spec_l02Times.f (k : Nat) (a0 : Int) (a1 : Int) (a2 : Int) (a3 : Int) : Option (Int):=spec_l02Times.l0 k a0 a1 a2 a3 0
theorem spec_l02Times.mono_l : ∀ k,(∀ y0 y1 y2 y3 y4,LeO (spec_l02Times.l0 k y0 y1 y2 y3 y4) (spec_l02Times.l0 (k + 1) y0 y1 y2 y3 y4))
 | 0=>fun _ _ _ _ _ r h=>by simp [spec_l02Times.l0] at h
 | k + 1=>by
  have ih0:=spec_l02Times.mono_l k
  ·intro y0 y1 y2 y3 y4
   unfold spec_l02Times.l0
   repeat' first
   | (with_reducible exact ih0 _ _ _ _ _)
   | (with_reducible exact LeO.refl _)
   | (with_reducible exact LeO.none _)
   | (with_reducible refine LeO.ite ?_ ?_)
   | (with_reducible refine LeO.bind ?_ (fun _=>?_))
   | exact ih0 _ _ _ _ _
   | exact LeO.none _
   | refine LeO.ite ?_ ?_
   | refine LeO.bind ?_ (fun _=>?_)
theorem spec_l02Times.mono : ∀ a0 a1 a2 a3 k,LeO (spec_l02Times.f k a0 a1 a2 a3) (spec_l02Times.f (k + 1) a0 a1 a2 a3):=by
 intro a0 a1 a2 a3 k
 have ih0:=spec_l02Times.mono_l k
 unfold spec_l02Times.f
 repeat' first
   | (with_reducible exact ih0 _ _ _ _ _)
   | (with_reducible exact LeO.refl _)
   | (with_reducible exact LeO.none _)
   | (with_reducible refine LeO.ite ?_ ?_)
   | (with_reducible refine LeO.bind ?_ (fun _=>?_))
   | exact ih0 _ _ _ _ _
   | exact LeO.none _
   | refine LeO.ite ?_ ?_
   | refine LeO.bind ?_ (fun _=>?_)
set_option maxHeartbeats 8000000 in
set_option maxRecDepth 100000 in
theorem spec_l02Times.calls (k : Nat) (a0 : Int) (a1 : Int) (a2 : Int) (a3 : Int) (r : Int) (w : World) (h : spec_l02Times.f k a0 a1 a2 a3 = some r) :
  Calls Try.prog 132 #[.int .i64 a0,.int .i64 a1,.int .i64 a2,.int .i64 a3] w fun e w'=>e = .returned (.int .i64 r) ∧ Drawn0 w w':=by
 have H : (spec_l02Times.l0 k a0 a1 a2 a3 0) = some r:=h
 clear h
 have H':=Aside0.mk H
 clear H
 go_enter Try.func132,Try.ntmps132
 go_wp2
 go_loopg [0,1,9] k (fun kq v0 v1 v9 w'=>∃ (x0_1 : Int) (x1_1 : Int) (x9_1 : Int),v0 = .int .i64 x0_1 ∧ v1 = .int .i64 x1_1 ∧ v9 = .int .i64 x9_1 ∧ Aside0 (spec_l02Times.l0 kq x0_1 x1_1 a2 a3 x9_1 = some r) ∧ Aside0 (kq ≤ k) ∧ Drawn0 w w')
 case atStart=>exact ⟨(a0),(a1),(0),(by first|rfl|(simp;done)|(simp [*];done)),(by first|rfl|(simp;done)|(simp [*];done)),(by first|rfl|(simp;done)|(simp [*];done)),H',⟨Nat.le_refl _⟩,by repeat (first|exact Drawn0.refl _|apply Drawn0.step)⟩
 case round=>
  clear H'
  (try clear c1);(try clear p2)
  obtain ⟨x0_1,x1_1,x9_1,rfl,rfl,rfl,HA,HK1,⟨m1,rfl⟩⟩:=hrel
  cases gk with
  | zero=>exact absurd HA.out (by simp [spec_l02Times.l0])
  | succ k1=>
   have H:=HA.out
   clear HA
   simp only [spec_l02Times.l0] at H
   by_cases c5 : x1_1 > 0
   ·rw [if_pos c5] at H
    have c5b0 : decide (0 < x1_1) = true:=decide_eq_true c5
    clear c5
    by_cases c6 : (Int.tmod x1_1 2) = 1
    ·rw [if_pos c6] at H
     have c6b0 : ((Int.tmod x1_1 2) == 1) = true:=beq_iff_eq.mpr c6
     have c6b1 : ((Int.tmod x1_1 2) != 1) = false:=bne_eq_false_iff_eq.mpr c6
     clear c6
     by_cases c7 : (wrap64 (x0_1 * 2)) ≥ a3
     ·rw [if_pos c7] at H
      have c7b0 : decide (a3 ≤ (wrap64 (x0_1 * 2))) = true:=decide_eq_true c7
      clear c7
      have H':=Aside0.mk H
      clear H
      go_wp2
      go_roundg k1
      case measure=>have:=HK1.out;omega
      case rel=>exact ⟨(Go.bits .xor .i64 (wrap64 (x0_1 * 2)) a2),(wrap64 (Int.tdiv x1_1 2)),(Go.bits .xor .i64 x9_1 x0_1),(by first|rfl|(simp;done)|(simp [*];done)),(by first|rfl|(simp;done)|(simp [*];done)),(by first|rfl|(simp;done)|(simp [*];done)),H',⟨by have:=HK1.out;omega⟩,by repeat (first|exact Drawn0.refl _|apply Drawn0.step)⟩
     ·rw [if_neg c7] at H
      have c7b0 : decide (a3 ≤ (wrap64 (x0_1 * 2))) = false:=decide_eq_false c7
      clear c7
      have H':=Aside0.mk H
      clear H
      go_wp2
      go_roundg k1
      case measure=>have:=HK1.out;omega
      case rel=>exact ⟨(wrap64 (x0_1 * 2)),(wrap64 (Int.tdiv x1_1 2)),(Go.bits .xor .i64 x9_1 x0_1),(by first|rfl|(simp;done)|(simp [*];done)),(by first|rfl|(simp;done)|(simp [*];done)),(by first|rfl|(simp;done)|(simp [*];done)),H',⟨by have:=HK1.out;omega⟩,by repeat (first|exact Drawn0.refl _|apply Drawn0.step)⟩
    ·rw [if_neg c6] at H
     have c6b0 : ((Int.tmod x1_1 2) == 1) = false:=beq_eq_false_iff_ne.mpr c6
     have c6b1 : ((Int.tmod x1_1 2) != 1) = true:=bne_iff_ne.mpr c6
     by_cases c8 : (wrap64 (x0_1 * 2)) ≥ a3
     ·rw [if_pos c8] at H
      have c8b0 : decide (a3 ≤ (wrap64 (x0_1 * 2))) = true:=decide_eq_true c8
      clear c8
      have H':=Aside0.mk H
      clear H
      go_wp2
      go_roundg k1
      case measure=>have:=HK1.out;omega
      case rel=>exact ⟨(Go.bits .xor .i64 (wrap64 (x0_1 * 2)) a2),(wrap64 (Int.tdiv x1_1 2)),(x9_1),(by first|rfl|(simp;done)|(simp [*];done)),(by first|rfl|(simp;done)|(simp [*];done)),(by first|rfl|(simp;done)|(simp [*];done)),H',⟨by have:=HK1.out;omega⟩,by repeat (first|exact Drawn0.refl _|apply Drawn0.step)⟩
     ·rw [if_neg c8] at H
      have c8b0 : decide (a3 ≤ (wrap64 (x0_1 * 2))) = false:=decide_eq_false c8
      clear c8
      have H':=Aside0.mk H
      clear H
      go_wp2
      go_roundg k1
      case measure=>have:=HK1.out;omega
      case rel=>exact ⟨(wrap64 (x0_1 * 2)),(wrap64 (Int.tdiv x1_1 2)),(x9_1),(by first|rfl|(simp;done)|(simp [*];done)),(by first|rfl|(simp;done)|(simp [*];done)),(by first|rfl|(simp;done)|(simp [*];done)),H',⟨by have:=HK1.out;omega⟩,by repeat (first|exact Drawn0.refl _|apply Drawn0.step)⟩
   ·rw [if_neg c5] at H
    have c5b0 : decide (0 < x1_1) = false:=decide_eq_false c5
    clear c5
    obtain rfl:=Option.some.inj H
    go_wp2
    go_ret
    exact ⟨by first|rfl|(simp;done)|(simp [*];done),by repeat (first|exact Drawn0.refl _|apply Drawn0.step)⟩

/-! ### spec_Mul8: function 124 -/
def spec_Mul8.f (k : Nat) (a0 : Int) (a1 : Int) : Option (Int):=(spec_l02In.f a0 256).bind fun t116=>(if t116 = true then ((spec_l02In.f a1 256).bind fun t117=>(if t117 = true then ((spec_l02Times.f k a0 a1 285 256).bind fun t118=>(some t118)) else (some (-1)))) else (some (-1)))
theorem spec_Mul8.mono : ∀ a0 a1 k,LeO (spec_Mul8.f k a0 a1) (spec_Mul8.f (k + 1) a0 a1):=by
 intro a0 a1 k
 unfold spec_Mul8.f
 repeat' first
   | (with_reducible exact spec_l02Times.mono _ _ _ _ _)
   | (with_reducible exact LeO.refl _)
   | (with_reducible exact LeO.none _)
   | (with_reducible refine LeO.ite ?_ ?_)
   | (with_reducible refine LeO.bind ?_ (fun _=>?_))
   | exact spec_l02Times.mono _ _ _ _ _
   | exact LeO.none _
   | refine LeO.ite ?_ ?_
   | refine LeO.bind ?_ (fun _=>?_)
set_option maxHeartbeats 8000000 in
set_option maxRecDepth 100000 in
theorem spec_Mul8.calls (k : Nat) (a0 : Int) (a1 : Int) (r : Int) (w : World) (h : spec_Mul8.f k a0 a1 = some r) :
  Calls Try.prog 124 #[.int .i64 a0,.int .i64 a1] w fun e w'=>e = .returned (.int .i64 r) ∧ Drawn0 w w':=by
 have H : ((spec_l02In.f a0 256).bind fun t116=>(if t116 = true then ((spec_l02In.f a1 256).bind fun t117=>(if t117 = true then ((spec_l02Times.f k a0 a1 285 256).bind fun t118=>(some t118)) else (some (-1)))) else (some (-1)))) = some r:=h
 clear h
 replace H:=Option.bind_eq_some_iff.mp H
 obtain ⟨t116,A30,H⟩:=H
 replace H : (if t116 = true then ((spec_l02In.f a1 256).bind fun t117=>(if t117 = true then ((spec_l02Times.f k a0 a1 285 256).bind fun t118=>(some t118)) else (some (-1)))) else (some (-1))) = some r:=H
 have A3:=Aside0.mk A30
 clear A30
 by_cases c4 : t116 = true
 ·subst c4
  have H1 : ((spec_l02In.f a1 256).bind fun t117=>(if t117 = true then ((spec_l02Times.f k a0 a1 285 256).bind fun t118=>(some t118)) else (some (-1)))) = some r:=by rw [if_pos rfl] at H;exact H
  clear H
  have H:=H1
  clear H1
  replace H:=Option.bind_eq_some_iff.mp H
  obtain ⟨t117,A50,H⟩:=H
  replace H : (if t117 = true then ((spec_l02Times.f k a0 a1 285 256).bind fun t118=>(some t118)) else (some (-1))) = some r:=H
  have A5:=Aside0.mk A50
  clear A50
  by_cases c6 : t117 = true
  ·subst c6
   have H1 : ((spec_l02Times.f k a0 a1 285 256).bind fun t118=>(some t118)) = some r:=by rw [if_pos rfl] at H;exact H
   clear H
   have H:=H1
   clear H1
   replace H:=Option.bind_eq_some_iff.mp H
   obtain ⟨t118,A70,H⟩:=H
   replace H : (some t118) = some r:=H
   have A7:=Aside0.mk A70
   clear A70
   obtain rfl:=Option.some.inj H
   go_enter Try.func124,Try.ntmps124
   go_wp2_with (first|((with_reducible refine gate_callee (f:=79) rfl ?_);refine goesL_ (some 6) rfl rfl Try.func79 (by kernel_rfl) rfl #[.int .i64 a0,.int .i64 256] rfl (by (try simp only [List.map_toArray,List.map_cons,List.map_nil]);first|done|rfl) ?_;(with_reducible refine (spec_l02In.calls a0 256 true _ A3.out).mono ?_);rintro e w' ⟨rfl,⟨nd,rfl⟩⟩;refine ⟨_,rfl,?_⟩)|(go_at_call 79;(with_reducible refine (spec_l02In.calls a1 256 true _ A5.out).mono ?_);rintro e w' ⟨rfl,⟨nd,rfl⟩⟩)|((with_reducible refine gate_callee (f:=132) rfl ?_);refine goesL_ (some 15) rfl rfl Try.func132 (by kernel_rfl) rfl #[.int .i64 a0,.int .i64 a1,.int .i64 285,.int .i64 256] rfl (by (try simp only [List.map_toArray,List.map_cons,List.map_nil]);first|done|rfl) ?_;(with_reducible refine (spec_l02Times.calls k a0 a1 285 256 t118 _ A7.out).mono ?_);rintro e w' ⟨rfl,⟨nd,rfl⟩⟩;refine ⟨_,rfl,?_⟩))
   go_ret
   exact ⟨by first|rfl|(simp;done)|(simp [*];done),by repeat (first|exact Drawn0.refl _|apply Drawn0.step)⟩
  ·replace c6:=Bool.eq_false_iff.mpr c6
   subst c6
   have H1 : (some (-1)) = some r:=by rw [if_neg (show ¬ (false = true) by decide)] at H;exact H
   clear H
   have H:=H1
   clear H1
   obtain rfl:=Option.some.inj H
   go_enter Try.func124,Try.ntmps124
   go_wp2_with (first|((with_reducible refine gate_callee (f:=79) rfl ?_);refine goesL_ (some 6) rfl rfl Try.func79 (by kernel_rfl) rfl #[.int .i64 a0,.int .i64 256] rfl (by (try simp only [List.map_toArray,List.map_cons,List.map_nil]);first|done|rfl) ?_;(with_reducible refine (spec_l02In.calls a0 256 true _ A3.out).mono ?_);rintro e w' ⟨rfl,⟨nd,rfl⟩⟩;refine ⟨_,rfl,?_⟩)|(go_at_call 79;(with_reducible refine (spec_l02In.calls a1 256 false _ A5.out).mono ?_);rintro e w' ⟨rfl,⟨nd,rfl⟩⟩))
   go_ret
   exact ⟨by first|rfl|(simp;done)|(simp [*];done),by repeat (first|exact Drawn0.refl _|apply Drawn0.step)⟩
 ·replace c4:=Bool.eq_false_iff.mpr c4
  subst c4
  have H1 : (some (-1)) = some r:=by rw [if_neg (show ¬ (false = true) by decide)] at H;exact H
  clear H
  have H:=H1
  clear H1
  obtain rfl:=Option.some.inj H
  go_enter Try.func124,Try.ntmps124
  go_wp2_with (first|((with_reducible refine gate_callee (f:=79) rfl ?_);refine goesL_ (some 6) rfl rfl Try.func79 (by kernel_rfl) rfl #[.int .i64 a0,.int .i64 256] rfl (by (try simp only [List.map_toArray,List.map_cons,List.map_nil]);first|done|rfl) ?_;(with_reducible refine (spec_l02In.calls a0 256 false _ A3.out).mono ?_);rintro e w' ⟨rfl,⟨nd,rfl⟩⟩;refine ⟨_,rfl,?_⟩))
  go_ret
  exact ⟨by first|rfl|(simp;done)|(simp [*];done),by repeat (first|exact Drawn0.refl _|apply Drawn0.step)⟩

/-! ### spec_Inv8: function 123 -/
def spec_Inv8.l0 : Nat → Int → Int → Option (Int)
 | 0,_,_=>none
 | k + 1,x0,x3=>if x3 < 256 then ((spec_Mul8.f k x0 x3).bind fun t120=>(if t120 = 1 then (some x3) else (spec_Inv8.l0 k x0 (wrap64 (x3 + 1))))) else (some 0)
def spec_Inv8.f (k : Nat) (a0 : Int) : Option (Int):=(spec_l02In.f a0 256).bind fun t119=>(if t119 = true then (spec_Inv8.l0 k a0 1) else (some (-1)))
theorem spec_Inv8.mono_l : ∀ k,(∀ y0 y1,LeO (spec_Inv8.l0 k y0 y1) (spec_Inv8.l0 (k + 1) y0 y1))
 | 0=>fun _ _ r h=>by simp [spec_Inv8.l0] at h
 | k + 1=>by
  have ih0:=spec_Inv8.mono_l k
  ·intro y0 y1
   unfold spec_Inv8.l0
   repeat' first
   | (with_reducible exact ih0 _ _)
   | (with_reducible exact spec_Mul8.mono _ _ _)
   | (with_reducible exact LeO.refl _)
   | (with_reducible exact LeO.none _)
   | (with_reducible refine LeO.ite ?_ ?_)
   | (with_reducible refine LeO.bind ?_ (fun _=>?_))
   | exact ih0 _ _
   | exact spec_Mul8.mono _ _ _
   | exact LeO.none _
   | refine LeO.ite ?_ ?_
   | refine LeO.bind ?_ (fun _=>?_)
theorem spec_Inv8.mono : ∀ a0 k,LeO (spec_Inv8.f k a0) (spec_Inv8.f (k + 1) a0):=by
 intro a0 k
 have ih0:=spec_Inv8.mono_l k
 unfold spec_Inv8.f
 repeat' first
   | (with_reducible exact ih0 _ _)
   | (with_reducible exact spec_Mul8.mono _ _ _)
   | (with_reducible exact LeO.refl _)
   | (with_reducible exact LeO.none _)
   | (with_reducible refine LeO.ite ?_ ?_)
   | (with_reducible refine LeO.bind ?_ (fun _=>?_))
   | exact ih0 _ _
   | exact spec_Mul8.mono _ _ _
   | exact LeO.none _
   | refine LeO.ite ?_ ?_
   | refine LeO.bind ?_ (fun _=>?_)
set_option maxHeartbeats 8000000 in
set_option maxRecDepth 100000 in
theorem spec_Inv8.calls (k : Nat) (a0 : Int) (r : Int) (w : World) (h : spec_Inv8.f k a0 = some r) :
  Calls Try.prog 123 #[.int .i64 a0] w fun e w'=>e = .returned (.int .i64 r) ∧ Drawn0 w w':=by
 have H : ((spec_l02In.f a0 256).bind fun t119=>(if t119 = true then (spec_Inv8.l0 k a0 1) else (some (-1)))) = some r:=h
 clear h
 replace H:=Option.bind_eq_some_iff.mp H
 obtain ⟨t119,A20,H⟩:=H
 replace H : (if t119 = true then (spec_Inv8.l0 k a0 1) else (some (-1))) = some r:=H
 have A2:=Aside0.mk A20
 clear A20
 by_cases c3 : t119 = true
 ·subst c3
  have H1 : (spec_Inv8.l0 k a0 1) = some r:=by rw [if_pos rfl] at H;exact H
  clear H
  have H:=H1
  clear H1
  have H':=Aside0.mk H
  clear H
  go_enter Try.func123,Try.ntmps123
  go_wp2_with (first|((with_reducible refine gate_callee (f:=79) rfl ?_);refine goesL_ (some 5) rfl rfl Try.func79 (by kernel_rfl) rfl #[.int .i64 a0,.int .i64 256] rfl (by (try simp only [List.map_toArray,List.map_cons,List.map_nil]);first|done|rfl) ?_;(with_reducible refine (spec_l02In.calls a0 256 true _ A2.out).mono ?_);rintro e w' ⟨rfl,⟨nd,rfl⟩⟩;refine ⟨_,rfl,?_⟩))
  go_loopg [3] k (fun kq v3 w'=>∃ (x3_1 : Int),v3 = .int .i64 x3_1 ∧ Aside0 (spec_Inv8.l0 kq a0 x3_1 = some r) ∧ Aside0 (kq ≤ k) ∧ Drawn0 w w')
  case atStart=>exact ⟨(1),(by first|rfl|(simp;done)|(simp [*];done)),H',⟨Nat.le_refl _⟩,by repeat (first|exact Drawn0.refl _|apply Drawn0.step)⟩
  case round=>
   clear H'
   (try clear c1);(try clear p2);(try clear c3)
   obtain ⟨x3_1,rfl,HA,HK1,⟨m1,rfl⟩⟩:=hrel
   cases gk with
   | zero=>exact absurd HA.out (by simp [spec_Inv8.l0])
   | succ k1=>
    have H:=HA.out
    clear HA
    simp only [spec_Inv8.l0] at H
    by_cases c4 : x3_1 < 256
    ·rw [if_pos c4] at H
     have c4b0 : decide (x3_1 < 256) = true:=decide_eq_true c4
     clear c4
     replace H:=Option.bind_eq_some_iff.mp H
     obtain ⟨t120,A50,H⟩:=H
     replace H : (if t120 = 1 then (some x3_1) else (spec_Inv8.l0 k1 a0 (wrap64 (x3_1 + 1)))) = some r:=H
     have A5:=Aside0.mk A50
     clear A50
     by_cases c6 : t120 = 1
     ·rw [if_pos c6] at H
      have c6b0 : (t120 == 1) = true:=beq_iff_eq.mpr c6
      have c6b1 : (t120 != 1) = false:=bne_eq_false_iff_eq.mpr c6
      clear c6
      obtain rfl:=Option.some.inj H
      go_wp2_with (first|((with_reducible refine gate_callee (f:=124) rfl ?_);refine goesL_ (some 13) rfl rfl Try.func124 (by kernel_rfl) rfl #[.int .i64 a0,.int .i64 x3_1] rfl (by (try simp only [List.map_toArray,List.map_cons,List.map_nil]);first|done|rfl) ?_;(with_reducible refine (spec_Mul8.calls k1 a0 x3_1 t120 _ A5.out).mono ?_);rintro e w' ⟨rfl,⟨nd,rfl⟩⟩;refine ⟨_,rfl,?_⟩))
      go_ret
      exact ⟨by first|rfl|(simp;done)|(simp [*];done),by repeat (first|exact Drawn0.refl _|apply Drawn0.step)⟩
     ·rw [if_neg c6] at H
      have c6b0 : (t120 == 1) = false:=beq_eq_false_iff_ne.mpr c6
      have c6b1 : (t120 != 1) = true:=bne_iff_ne.mpr c6
      have H':=Aside0.mk H
      clear H
      go_wp2_with (first|((with_reducible refine gate_callee (f:=124) rfl ?_);refine goesL_ (some 13) rfl rfl Try.func124 (by kernel_rfl) rfl #[.int .i64 a0,.int .i64 x3_1] rfl (by (try simp only [List.map_toArray,List.map_cons,List.map_nil]);first|done|rfl) ?_;(with_reducible refine (spec_Mul8.calls k1 a0 x3_1 t120 _ A5.out).mono ?_);rintro e w' ⟨rfl,⟨nd,rfl⟩⟩;refine ⟨_,rfl,?_⟩))
      go_roundg k1
      case measure=>have:=HK1.out;omega
      case rel=>exact ⟨(wrap64 (x3_1 + 1)),(by first|rfl|(simp;done)|(simp [*];done)),H',⟨by have:=HK1.out;omega⟩,by repeat (first|exact Drawn0.refl _|apply Drawn0.step)⟩
    ·rw [if_neg c4] at H
     have c4b0 : decide (x3_1 < 256) = false:=decide_eq_false c4
     clear c4
     obtain rfl:=Option.some.inj H
     go_wp2
     go_ret
     exact ⟨by first|rfl|(simp;done)|(simp [*];done),by repeat (first|exact Drawn0.refl _|apply Drawn0.step)⟩
 ·replace c3:=Bool.eq_false_iff.mpr c3
  subst c3
  have H1 : (some (-1)) = some r:=by rw [if_neg (show ¬ (false = true) by decide)] at H;exact H
  clear H
  have H:=H1
  clear H1
  obtain rfl:=Option.some.inj H
  go_enter Try.func123,Try.ntmps123
  go_wp2_with (first|((with_reducible refine gate_callee (f:=79) rfl ?_);refine goesL_ (some 5) rfl rfl Try.func79 (by kernel_rfl) rfl #[.int .i64 a0,.int .i64 256] rfl (by (try simp only [List.map_toArray,List.map_cons,List.map_nil]);first|done|rfl) ?_;(with_reducible refine (spec_l02In.calls a0 256 false _ A2.out).mono ?_);rintro e w' ⟨rfl,⟨nd,rfl⟩⟩;refine ⟨_,rfl,?_⟩))
  go_ret
  exact ⟨by first|rfl|(simp;done)|(simp [*];done),by repeat (first|exact Drawn0.refl _|apply Drawn0.step)⟩

end Go.Proofs.Ytffhbpepppodeaa.PFnInverse
