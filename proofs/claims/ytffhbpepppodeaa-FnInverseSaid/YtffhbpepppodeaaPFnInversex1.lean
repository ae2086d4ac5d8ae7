import Derived.Test.YtffhbpepppodeaaPFnInversex0
namespace Go.Proofs.Ytffhbpepppodeaa.PFnInverse
open Go.RowKit Go.Proofs.YtffhbpepppodeaaW.PrintWords Go.Proofs.YtffhbpepppodeaaW.PrintLast Go.Proofs.YtffhbpepppodeaaW.PrintMore
attribute [local go_sem] max2_int min2_int max_two min_two max_three min_three max_four min_four   -- for this text's walks alone
set_option linter.unusedVariables false
set_option linter.unusedSimpArgs false

/-! ### impl_isByte: function 117 -/
def impl_isByte.f (a0 : Int) : Option (Bool):=if a0 ≥ 0 then (some (decide (a0 ≤ 255))) else (some false)
set_option maxHeartbeats 8000000 in
set_option maxRecDepth 100000 in
theorem impl_isByte.calls (a0 : Int) (r : Bool) (w : World) (h : impl_isByte.f a0 = some r) :
  Calls Try.prog 117 #[.int .i64 a0] w fun e w'=>e = .returned (.bool r) ∧ Drawn0 w w':=by
 have H : (if a0 ≥ 0 then (some (decide (a0 ≤ 255))) else (some false)) = some r:=h
 clear h
 by_cases c2 : a0 ≥ 0
 ·rw [if_pos c2] at H
  have c2b0 : decide (0 ≤ a0) = true:=decide_eq_true c2
  clear c2
  obtain rfl:=Option.some.inj H
  go_enter Try.func117,Try.ntmps117
  go_wp2
  go_ret
  exact ⟨by first|rfl|(simp;done)|(simp [*];done),by repeat (first|exact Drawn0.refl _|apply Drawn0.step)⟩
 ·rw [if_neg c2] at H
  have c2b0 : decide (0 ≤ a0) = false:=decide_eq_false c2
  clear c2
  obtain rfl:=Option.some.inj H
  go_enter Try.func117,Try.ntmps117
  go_wp2
  go_ret
  exact ⟨by first|rfl|(simp;done)|(simp [*];done),by repeat (first|exact Drawn0.refl _|apply Drawn0.step)⟩

/-! ### impl_MatrixFault: function 61 -/
mutual
def impl_MatrixFault.j0 : Nat → Bool → Int → Int → List Int → Option (Int)
 | 0,_,_,_,_=>none
 | k + 1,x33,x102000,x102001,x102002=>if x33 = true then (some 1) else (impl_MatrixFault.l0 k x102002 (x102002.length : Int) 0)
def impl_MatrixFault.l0 : Nat → List Int → Int → Int → Option (Int)
 | 0,_,_,_=>none
 | k + 1,x35,x36,x37=>if x37 < x36 then (if 0 ≤ x37 then (if x37 < (x35.length : Int) then ((impl_isByte.f (rd x35 x37)).bind fun t103=>(if t103 = true then (impl_MatrixFault.l0 k x35 x36 (wrap64 (x37 + 1))) else (some 1))) else (none)) else (none)) else (some 0)
end
def impl_MatrixFault.f (k : Nat) (a0_0 : Int) (a0_1 : Int) (l0_2 : List Int) : Option (Int):=if a0_0 < 1 then (impl_MatrixFault.j0 k true a0_0 a0_1 l0_2) else (if a0_0 > 64 then (impl_MatrixFault.j0 k true a0_0 a0_1 l0_2) else (if a0_1 < 1 then (impl_MatrixFault.j0 k true a0_0 a0_1 l0_2) else (if a0_1 > 64 then (impl_MatrixFault.j0 k true a0_0 a0_1 l0_2) else (impl_MatrixFault.j0 k ((l0_2.length : Int) != (wrap64 (a0_0 * a0_1))) a0_0 a0_1 l0_2))))
theorem impl_MatrixFault.mono_l : ∀ k,(∀ y0 y1 y2 y3,LeO (impl_MatrixFault.j0 k y0 y1 y2 y3) (impl_MatrixFault.j0 (k + 1) y0 y1 y2 y3)) ∧ (∀ y0 y1 y2,LeO (impl_MatrixFault.l0 k y0 y1 y2) (impl_MatrixFault.l0 (k + 1) y0 y1 y2))
 | 0=>⟨fun _ _ _ _ r h=>by simp [impl_MatrixFault.j0] at h,fun _ _ _ r h=>by simp [impl_MatrixFault.l0] at h⟩
 | k + 1=>by
  obtain ⟨ih0,ih1⟩:=impl_MatrixFault.mono_l k
  refine ⟨?_,?_⟩
  ·intro y0 y1 y2 y3
   unfold impl_MatrixFault.j0
   repeat' first
   | (with_reducible exact ih0 _ _ _ _)
   | (with_reducible exact ih1 _ _ _)
   | (with_reducible exact LeO.refl _)
   | (with_reducible exact LeO.none _)
   | (with_reducible refine LeO.ite ?_ ?_)
   | (with_reducible refine LeO.bind ?_ (fun _=>?_))
   | exact ih0 _ _ _ _
   | exact ih1 _ _ _
   | exact LeO.none _
   | refine LeO.ite ?_ ?_
   | refine LeO.bind ?_ (fun _=>?_)
  ·intro y0 y1 y2
   unfold impl_MatrixFault.l0
   repeat' first
   | (with_reducible exact ih0 _ _ _ _)
   | (with_reducible exact ih1 _ _ _)
   | (with_reducible exact LeO.refl _)
   | (with_reducible exact LeO.none _)
   | (with_reducible refine LeO.ite ?_ ?_)
   | (with_reducible refine LeO.bind ?_ (fun _=>?_))
   | exact ih0 _ _ _ _
   | exact ih1 _ _ _
   | exact LeO.none _
   | refine LeO.ite ?_ ?_
   | refine LeO.bind ?_ (fun _=>?_)
theorem impl_MatrixFault.mono : ∀ a0 a1 a2 k,LeO (impl_MatrixFault.f k a0 a1 a2) (impl_MatrixFault.f (k + 1) a0 a1 a2):=by
 intro a0 a1 a2 k
 obtain ⟨ih0,ih1⟩:=impl_MatrixFault.mono_l k
 unfold impl_MatrixFault.f
 repeat' first
   | (with_reducible exact ih0 _ _ _ _)
   | (with_reducible exact ih1 _ _ _)
   | (with_reducible exact LeO.refl _)
   | (with_reducible exact LeO.none _)
   | (with_reducible refine LeO.ite ?_ ?_)
   | (with_reducible refine LeO.bind ?_ (fun _=>?_))
   | exact ih0 _ _ _ _
   | exact ih1 _ _ _
   | exact LeO.none _
   | refine LeO.ite ?_ ?_
   | refine LeO.bind ?_ (fun _=>?_)
set_option maxHeartbeats 8000000 in
set_option maxRecDepth 100000 in
theorem impl_MatrixFault.calls (k : Nat) (a0_0 : Int) (a0_1 : Int) (A0_2 : Option Addr) (c0_2 : Nat) (l0_2 : List Int) (r : Int) (w : World) (hr0_2 : Kd.C (Kd.int .i64) w A0_2 l0_2.length l0_2) (hc0_2 : l0_2.length ≤ c0_2) (h : impl_MatrixFault.f k a0_0 a0_1 l0_2 = some r) :
  Calls Try.prog 61 #[.agg #[.int .i64 a0_0,.int .i64 a0_1,.slice A0_2 l0_2.length c0_2]] w fun e w'=>e = .returned (.int .i64 r) ∧ Below w.heap.size w w':=by
 have hu27:=Try.underlying27
 have HR0_2:=Aside0.mk hr0_2
 have HC0_2:=Aside0.mk hc0_2
 clear hr0_2 hc0_2
 have HB:=Aside0.mk (Below.refl w.heap.size w)
 have H : (if a0_0 < 1 then (impl_MatrixFault.j0 k true a0_0 a0_1 l0_2) else (if a0_0 > 64 then (impl_MatrixFault.j0 k true a0_0 a0_1 l0_2) else (if a0_1 < 1 then (impl_MatrixFault.j0 k true a0_0 a0_1 l0_2) else (if a0_1 > 64 then (impl_MatrixFault.j0 k true a0_0 a0_1 l0_2) else (impl_MatrixFault.j0 k ((l0_2.length : Int) != (wrap64 (a0_0 * a0_1))) a0_0 a0_1 l0_2))))) = some r:=h
 clear h
 have HC2:=Aside0.mk H
 clear H
 go_enter Try.func61,Try.ntmps61
 go_upto_region 1 with (first|((with_reducible refine gate_dst (N:=1) rfl ?_);(try (refine gate_guard (by rfl) ?_;dsimp only));refine box_event ?hg (N:=1) ?hd (cs:=#[.int .i64 a0_0,.int .i64 a0_1,.slice A0_2 l0_2.length c0_2]) (t:=27) ?hr ?_;(case hd=>rfl);(case hg=>rfl);(case hr=>first|(go_simp;done)|(go_simp;rfl));intro gb101 hg w3 hbox hb;have n0_:=Aside0.mk (below_step (by repeat (first|(with_reducible first|exact HB.out|apply below_alloc|apply pw_below_drewN|apply below_drew1)|exact HB.out)) hb);have n1_:=Aside0.mk (hbox);have n2_:=Aside0.mk ((by rw [hg];exact (below_size (by repeat (first|(with_reducible first|exact HB.out|apply below_alloc|apply pw_below_drewN|apply below_drew1)|exact HB.out))) : w.heap.size ≤ gb101));have n3_:=Aside0.mk ((by rw [hg];exact (below_size (by repeat (first|(with_reducible first|exact HB.out|apply below_alloc|apply pw_below_drewN|apply below_drew1)|exact HB.out))) : w.heap.size ≤ gb101));clear HB;have HB:=n0_;have BK101:=n1_;have GW101:=n2_;have GE101:=n3_;clear n0_ n1_ n2_ n3_ hb hbox hg))
 (try simp only [Act.put,List.setIfInBounds_toArray,List.set_cons_zero,List.set_cons_succ])
 go_cut [33] (fun v33 wc=>∃ (kq : Nat) (x33_1 : Bool),v33 = .bool x33_1 ∧ Aside0 (impl_MatrixFault.j0 kq x33_1 a0_0 a0_1 l0_2 = some r) ∧ Aside0 (kq ≤ k) ∧ Aside0 (wc.heap[gb101]? = some (.cells #[.int .i64 a0_0,.int .i64 a0_1,(.slice A0_2 l0_2.length c0_2)] 27 (0,0))) ∧ Aside0 (Below w.heap.size w wc))
 case first=>
  have H:=HC2.out
  clear HC2
  by_cases c4 : a0_0 < 1
  ·rw [if_pos c4] at H
   have c4b0 : decide (a0_0 < 1) = true:=decide_eq_true c4
   clear c4
   (first|rw [c4b0]|(simp only [i64_w,i32_w];rw [c4b0])|skip)
   have H':=Aside0.mk H
   clear H
   have hcz5_0 : w3.cell? ⟨gb101,0,none⟩ = some (.int .i64 a0_0):=(blk_cell BK101.out 0).trans rfl
   have hcz5_1 : w3.cell? ⟨gb101,1,none⟩ = some (.int .i64 a0_1):=(blk_cell BK101.out 1).trans rfl
   have hcz5_2 : w3.cell? ⟨gb101,2,none⟩ = some (.slice A0_2 l0_2.length c0_2):=(blk_cell BK101.out 2).trans rfl
   have hfz5_0:=blk_frozen BK101.out 0
   have hfz5_1:=blk_frozen BK101.out 1
   have hfz5_2:=blk_frozen BK101.out 2
   go_wp2
   go_meet
   case rel=>exact ⟨_,(true),(by first|rfl|(simp;done)|(simp [*];done)),H',⟨by first|omega|exact Nat.le_refl _⟩,⟨by (with_reducible repeat first|refine blk_drewN ?_ _|refine blk_alloc ?_ _);exact BK101.out⟩,⟨by repeat (first|(with_reducible first|exact HB.out|apply below_alloc|apply pw_below_drewN|apply below_drew1|refine below_set ?_ GE101.out)|exact HB.out)⟩⟩
  ·rw [if_neg c4] at H
   have c4b0 : decide (a0_0 < 1) = false:=decide_eq_false c4
   clear c4
   (first|rw [c4b0]|(simp only [i64_w,i32_w];rw [c4b0])|skip)
   by_cases c6 : a0_0 > 64
   ·rw [if_pos c6] at H
    have c6b0 : decide (64 < a0_0) = true:=decide_eq_true c6
    clear c6
    have H':=Aside0.mk H
    clear H
    have hcz7_0 : w3.cell? ⟨gb101,0,none⟩ = some (.int .i64 a0_0):=(blk_cell BK101.out 0).trans rfl
    have hcz7_1 : w3.cell? ⟨gb101,1,none⟩ = some (.int .i64 a0_1):=(blk_cell BK101.out 1).trans rfl
    have hcz7_2 : w3.cell? ⟨gb101,2,none⟩ = some (.slice A0_2 l0_2.length c0_2):=(blk_cell BK101.out 2).trans rfl
    have hfz7_0:=blk_frozen BK101.out 0
    have hfz7_1:=blk_frozen BK101.out 1
    have hfz7_2:=blk_frozen BK101.out 2
    go_wp2
    go_meet
    case rel=>exact ⟨_,(true),(by first|rfl|(simp;done)|(simp [*];done)),H',⟨by first|omega|exact Nat.le_refl _⟩,⟨by (with_reducible repeat first|refine blk_drewN ?_ _|refine blk_alloc ?_ _);exact BK101.out⟩,⟨by repeat (first|(with_reducible first|exact HB.out|apply below_alloc|apply pw_below_drewN|apply below_drew1|refine below_set ?_ GE101.out)|exact HB.out)⟩⟩
   ·rw [if_neg c6] at H
    have c6b0 : decide (64 < a0_0) = false:=decide_eq_false c6
    clear c6
    by_cases c8 : a0_1 < 1
    ·rw [if_pos c8] at H
     have c8b0 : decide (a0_1 < 1) = true:=decide_eq_true c8
     clear c8
     have H':=Aside0.mk H
     clear H
     have hcz9_0 : w3.cell? ⟨gb101,0,none⟩ = some (.int .i64 a0_0):=(blk_cell BK101.out 0).trans rfl
     have hcz9_1 : w3.cell? ⟨gb101,1,none⟩ = some (.int .i64 a0_1):=(blk_cell BK101.out 1).trans rfl
     have hcz9_2 : w3.cell? ⟨gb101,2,none⟩ = some (.slice A0_2 l0_2.length c0_2):=(blk_cell BK101.out 2).trans rfl
     have hfz9_0:=blk_frozen BK101.out 0
     have hfz9_1:=blk_frozen BK101.out 1
     have hfz9_2:=blk_frozen BK101.out 2
     go_wp2
     go_meet
     case rel=>exact ⟨_,(true),(by first|rfl|(simp;done)|(simp [*];done)),H',⟨by first|omega|exact Nat.le_refl _⟩,⟨by (with_reducible repeat first|refine blk_drewN ?_ _|refine blk_alloc ?_ _);exact BK101.out⟩,⟨by repeat (first|(with_reducible first|exact HB.out|apply below_alloc|apply pw_below_drewN|apply below_drew1|refine below_set ?_ GE101.out)|exact HB.out)⟩⟩
    ·rw [if_neg c8] at H
     have c8b0 : decide (a0_1 < 1) = false:=decide_eq_false c8
     clear c8
     by_cases c10 : a0_1 > 64
     ·rw [if_pos c10] at H
      have c10b0 : decide (64 < a0_1) = true:=decide_eq_true c10
      clear c10
      have H':=Aside0.mk H
      clear H
      have hcz11_0 : w3.cell? ⟨gb101,0,none⟩ = some (.int .i64 a0_0):=(blk_cell BK101.out 0).trans rfl
      have hcz11_1 : w3.cell? ⟨gb101,1,none⟩ = some (.int .i64 a0_1):=(blk_cell BK101.out 1).trans rfl
      have hcz11_2 : w3.cell? ⟨gb101,2,none⟩ = some (.slice A0_2 l0_2.length c0_2):=(blk_cell BK101.out 2).trans rfl
      have hfz11_0:=blk_frozen BK101.out 0
      have hfz11_1:=blk_frozen BK101.out 1
      have hfz11_2:=blk_frozen BK101.out 2
      go_wp2
      go_meet
      case rel=>exact ⟨_,(true),(by first|rfl|(simp;done)|(simp [*];done)),H',⟨by first|omega|exact Nat.le_refl _⟩,⟨by (with_reducible repeat first|refine blk_drewN ?_ _|refine blk_alloc ?_ _);exact BK101.out⟩,⟨by repeat (first|(with_reducible first|exact HB.out|apply below_alloc|apply pw_below_drewN|apply below_drew1|refine below_set ?_ GE101.out)|exact HB.out)⟩⟩
     ·rw [if_neg c10] at H
      have c10b0 : decide (64 < a0_1) = false:=decide_eq_false c10
      clear c10
      have H':=Aside0.mk H
      clear H
      have hcz12_0 : w3.cell? ⟨gb101,0,none⟩ = some (.int .i64 a0_0):=(blk_cell BK101.out 0).trans rfl
      have hcz12_1 : w3.cell? ⟨gb101,1,none⟩ = some (.int .i64 a0_1):=(blk_cell BK101.out 1).trans rfl
      have hcz12_2 : w3.cell? ⟨gb101,2,none⟩ = some (.slice A0_2 l0_2.length c0_2):=(blk_cell BK101.out 2).trans rfl
      have hfz12_0:=blk_frozen BK101.out 0
      have hfz12_1:=blk_frozen BK101.out 1
      have hfz12_2:=blk_frozen BK101.out 2
      go_wp2
      go_meet
      case rel=>exact ⟨_,(((l0_2.length : Int) != (wrap64 (a0_0 * a0_1)))),(by first|rfl|(simp;done)|(simp [*];done)),H',⟨by first|omega|exact Nat.le_refl _⟩,⟨by (with_reducible repeat first|refine blk_drewN ?_ _|refine blk_alloc ?_ _);exact BK101.out⟩,⟨by repeat (first|(with_reducible first|exact HB.out|apply below_alloc|apply pw_below_drewN|apply below_drew1|refine below_set ?_ GE101.out)|exact HB.out)⟩⟩
 case rest=>
  clear HC2
  (try clear c1);(try clear p2);(try clear c4);(try clear c4b0);(try clear c6);(try clear c6b0);(try clear p6);(try clear c8);(try clear c8b0);(try clear c10);(try clear c10b0);(try clear hcz11_0);(try clear hcz11_1);(try clear hcz11_2);(try clear hcz12_0);(try clear hcz12_1);(try clear hcz12_2);(try clear hcz5_0);(try clear hcz5_1);(try clear hcz5_2);(try clear hcz7_0);(try clear hcz7_1);(try clear hcz7_2);(try clear hcz9_0);(try clear hcz9_1);(try clear hcz9_2);(try clear hfz11_0);(try clear hfz11_1);(try clear hfz11_2);(try clear hfz12_0);(try clear hfz12_1);(try clear hfz12_2);(try clear hfz5_0);(try clear hfz5_1);(try clear hfz5_2);(try clear hfz7_0);(try clear hfz7_1);(try clear hfz7_2);(try clear hfz9_0);(try clear hfz9_1);(try clear hfz9_2)
  obtain ⟨kq,x33_1,rfl,HA,HJ1,BK101,HB⟩:=hcut
  cases kq with
  | zero=>exact absurd HA.out (by simp [impl_MatrixFault.j0])
  | succ kj1=>
   have H:=HA.out
   clear HA
   simp only [impl_MatrixFault.j0] at H
   by_cases c13 : x33_1 = true
   ·subst c13
    have H1 : (some 1) = some r:=by rw [if_pos rfl] at H;exact H
    clear H
    have H:=H1
    clear H1
    obtain rfl:=Option.some.inj H
    go_wp2
    go_ret
    exact ⟨by first|rfl|(simp [errW_none,errW_some] <;> rfl)|(simp [*,errW_none,errW_some] <;> rfl),by repeat (first|(with_reducible first|exact HB.out|apply below_alloc|apply pw_below_drewN|apply below_drew1|refine below_set ?_ GE101.out)|exact HB.out)⟩
   ·replace c13:=Bool.eq_false_iff.mpr c13
    subst c13
    have H1 : (impl_MatrixFault.l0 kj1 l0_2 (l0_2.length : Int) 0) = some r:=by rw [if_neg (show ¬ (false = true) by decide)] at H;exact H
    clear H
    have H:=H1
    clear H1
    have H':=Aside0.mk H
    clear H
    have hcz14_0 : wc.cell? ⟨gb101,0,none⟩ = some (.int .i64 a0_0):=(blk_cell BK101.out 0).trans rfl
    have hcz14_1 : wc.cell? ⟨gb101,1,none⟩ = some (.int .i64 a0_1):=(blk_cell BK101.out 1).trans rfl
    have hcz14_2 : wc.cell? ⟨gb101,2,none⟩ = some (.slice A0_2 l0_2.length c0_2):=(blk_cell BK101.out 2).trans rfl
    have hfz14_0:=blk_frozen BK101.out 0
    have hfz14_1:=blk_frozen BK101.out 1
    have hfz14_2:=blk_frozen BK101.out 2
    go_wp2
    go_loopg [37] kj1 (fun kq v37 w'=>∃ (x37_2 : Int),v37 = .int .i64 x37_2 ∧ Aside0 (impl_MatrixFault.l0 kq l0_2 (l0_2.length : Int) x37_2 = some r) ∧ Aside0 (kq ≤ kj1) ∧ Aside0 (w'.heap[gb101]? = some (.cells #[.int .i64 a0_0,.int .i64 a0_1,(.slice A0_2 l0_2.length c0_2)] 27 (0,0))) ∧ Aside0 (Below w.heap.size w w'))
    case atStart=>exact ⟨(0),(by first|rfl|(simp;done)|(simp [*];done)),H',⟨Nat.le_refl _⟩,⟨by (with_reducible repeat first|refine blk_drewN ?_ _|refine blk_alloc ?_ _);exact BK101.out⟩,⟨by repeat (first|(with_reducible first|exact HB.out|apply below_alloc|apply pw_below_drewN|apply below_drew1|refine below_set ?_ GE101.out)|exact HB.out)⟩⟩
    case round=>
     clear H'
     (try clear c1);(try clear p2);(try clear c4);(try clear c4b0);(try clear c6);(try clear c6b0);(try clear p6);(try clear c8);(try clear c8b0);(try clear c10);(try clear c10b0);(try clear c13);(try clear hcz11_0);(try clear hcz11_1);(try clear hcz11_2);(try clear hcz12_0);(try clear hcz12_1);(try clear hcz12_2);(try clear hcz14_0);(try clear hcz14_1);(try clear hcz14_2);(try clear hcz5_0);(try clear hcz5_1);(try clear hcz5_2);(try clear hcz7_0);(try clear hcz7_1);(try clear hcz7_2);(try clear hcz9_0);(try clear hcz9_1);(try clear hcz9_2);(try clear hfz11_0);(try clear hfz11_1);(try clear hfz11_2);(try clear hfz12_0);(try clear hfz12_1);(try clear hfz12_2);(try clear hfz14_0);(try clear hfz14_1);(try clear hfz14_2);(try clear hfz5_0);(try clear hfz5_1);(try clear hfz5_2);(try clear hfz7_0);(try clear hfz7_1);(try clear hfz7_2);(try clear hfz9_0);(try clear hfz9_1);(try clear hfz9_2);(try clear p2);(try clear p6)
     obtain ⟨x37_2,rfl,HA,HK2,BK101,HB⟩:=hrel
     cases gk with
     | zero=>exact absurd HA.out (by simp [impl_MatrixFault.l0])
     | succ k2=>
      have H:=HA.out
      clear HA
      simp only [impl_MatrixFault.l0] at H
      by_cases c15 : x37_2 < (l0_2.length : Int)
      ·rw [if_pos c15] at H
       have c15b0 : decide (x37_2 < (l0_2.length : Int)) = true:=decide_eq_true c15
       clear c15
       by_cases c16 : 0 ≤ x37_2
       ·rw [if_pos c16] at H
        have c16b0 : decide (0 ≤ x37_2) = true:=decide_eq_true c16
        clear c16
        by_cases c17 : x37_2 < (l0_2.length : Int)
        ·rw [if_pos c17] at H
         have c17b0 : decide (x37_2 < (l0_2.length : Int)) = true:=decide_eq_true c17
         clear c17
         replace H:=Option.bind_eq_some_iff.mp H
         obtain ⟨t103,A180,H⟩:=H
         replace H : (if t103 = true then (impl_MatrixFault.l0 k2 l0_2 (l0_2.length : Int) (wrap64 (x37_2 + 1))) else (some 1)) = some r:=H
         have A18:=Aside0.mk A180
         clear A180
         by_cases c19 : t103 = true
         ·subst c19
          have H1 : (impl_MatrixFault.l0 k2 l0_2 (l0_2.length : Int) (wrap64 (x37_2 + 1))) = some r:=by rw [if_pos rfl] at H;exact H
          clear H
          have H:=H1
          clear H1
          have H':=Aside0.mk H
          clear H
          have p102 : 0 ≤ (x37_2 : Int):=of_decide_eq_true (by first|(with_reducible assumption)|assumption)
          have q102 : x37_2 < (l0_2.length : Int):=of_decide_eq_true (by first|(with_reducible assumption)|assumption)
          obtain ⟨ad102,e102,hx102_0⟩:=Kd.at_int HR0_2.out x37_2 p102 q102
          cases e102
          replace hx102_0:=(HB.out.cell (World.block_lt_of_cell? w _ hx102_0)).trans hx102_0
          replace p102:=eq_true p102
          replace q102:=eq_true q102
          go_wp2_with (first|((with_reducible refine gate_callee (f:=117) rfl ?_);refine goesL_ (some 42) rfl rfl Try.func117 (by kernel_rfl) rfl #[.int .i64 (rd l0_2 x37_2)] rfl (by (try simp only [List.map_toArray,List.map_cons,List.map_nil]);first|done|rfl) ?_;(with_reducible refine (impl_isByte.calls (rd l0_2 x37_2) true _ A18.out).mono ?_);rintro e w' ⟨rfl,⟨nd,rfl⟩⟩;refine ⟨_,rfl,?_⟩))
          go_roundg k2
          case measure=>have:=HJ1.out;have:=HK2.out;omega
          case rel=>exact ⟨(wrap64 (x37_2 + 1)),(by first|rfl|(simp;done)|(simp [*];done)),H',⟨by have:=HJ1.out;have:=HK2.out;omega⟩,⟨by (with_reducible repeat first|refine blk_drewN ?_ _|refine blk_alloc ?_ _);exact BK101.out⟩,⟨by repeat (first|(with_reducible first|exact HB.out|apply below_alloc|apply pw_below_drewN|apply below_drew1|refine below_set ?_ GE101.out)|exact HB.out)⟩⟩
         ·replace c19:=Bool.eq_false_iff.mpr c19
          subst c19
          have H1 : (some 1) = some r:=by rw [if_neg (show ¬ (false = true) by decide)] at H;exact H
          clear H
          have H:=H1
          clear H1
          obtain rfl:=Option.some.inj H
          have p102 : 0 ≤ (x37_2 : Int):=of_decide_eq_true (by first|(with_reducible assumption)|assumption)
          have q102 : x37_2 < (l0_2.length : Int):=of_decide_eq_true (by first|(with_reducible assumption)|assumption)
          obtain ⟨ad102,e102,hx102_0⟩:=Kd.at_int HR0_2.out x37_2 p102 q102
          cases e102
          replace hx102_0:=(HB.out.cell (World.block_lt_of_cell? w _ hx102_0)).trans hx102_0
          replace p102:=eq_true p102
          replace q102:=eq_true q102
          go_wp2_with (first|((with_reducible refine gate_callee (f:=117) rfl ?_);refine goesL_ (some 42) rfl rfl Try.func117 (by kernel_rfl) rfl #[.int .i64 (rd l0_2 x37_2)] rfl (by (try simp only [List.map_toArray,List.map_cons,List.map_nil]);first|done|rfl) ?_;(with_reducible refine (impl_isByte.calls (rd l0_2 x37_2) false _ A18.out).mono ?_);rintro e w' ⟨rfl,⟨nd,rfl⟩⟩;refine ⟨_,rfl,?_⟩))
          go_ret
          exact ⟨by first|rfl|(simp [errW_none,errW_some] <;> rfl)|(simp [*,errW_none,errW_some] <;> rfl),by repeat (first|(with_reducible first|exact HB.out|apply below_alloc|apply pw_below_drewN|apply below_drew1|refine below_set ?_ GE101.out)|exact HB.out)⟩
        ·rw [if_neg c17] at H
         exact absurd H (by simp)
       ·rw [if_neg c16] at H
        exact absurd H (by simp)
      ·rw [if_neg c15] at H
       have c15b0 : decide (x37_2 < (l0_2.length : Int)) = false:=decide_eq_false c15
       clear c15
       obtain rfl:=Option.some.inj H
       go_wp2
       go_ret
       exact ⟨by first|rfl|(simp [errW_none,errW_some] <;> rfl)|(simp [*,errW_none,errW_some] <;> rfl),by repeat (first|(with_reducible first|exact HB.out|apply below_alloc|apply pw_below_drewN|apply below_drew1|refine below_set ?_ GE101.out)|exact HB.out)⟩



/-! ### impl_bytes8: function 118 -/
def impl_bytes8.f  : Option (Int × Int):=some (29,128)
set_option maxHeartbeats 8000000 in
set_option maxRecDepth 100000 in
theorem impl_bytes8.calls  (r1 : Int) (r2 : Int) (w : World) (h : impl_bytes8.f  = some (r1,r2)) :
  Calls Try.prog 118 #[] w fun e w'=>e = .returned (.agg #[.int .u8 r1,.int .u8 r2]) ∧ Below w.heap.size w w':=by
 have hu164:=Try.underlying164
 have HB:=Aside0.mk (Below.refl w.heap.size w)
 have H : (some (29,128)) = some (r1,r2):=h
 clear h
 simp only [Option.some.injEq,Prod.mk.injEq] at H
 obtain ⟨rfl,rfl⟩:=H
 go_enter Try.func118,Try.ntmps118
 go_wp2_with (first|((with_reducible refine gate_dst (N:=0) rfl ?_);refine box_event ?hg (N:=0) ?hd (cs:=#[.int .u8 0,.int .u8 0]) (t:=164) ?hr ?_;(case hd=>rfl);(case hg=>rfl);(case hr=>first|(go_simp;done)|(go_simp;rfl));intro gb104 hg w1 hbox hb;have n0_:=Aside0.mk (below_step (by repeat (first|(with_reducible first|exact HB.out|apply below_alloc|apply pw_below_drewN|apply below_drew1)|exact HB.out)) hb);have n1_:=Aside0.mk (hbox);have n2_:=Aside0.mk ((by rw [hg];exact (below_size (by repeat (first|(with_reducible first|exact HB.out|apply below_alloc|apply pw_below_drewN|apply below_drew1)|exact HB.out))) : w.heap.size ≤ gb104));have n3_:=Aside0.mk ((by rw [hg];exact (below_size (by repeat (first|(with_reducible first|exact HB.out|apply below_alloc|apply pw_below_drewN|apply below_drew1)|exact HB.out))) : w.heap.size ≤ gb104));clear HB;have HB:=n0_;have BK104:=n1_;have GW104:=n2_;have GE104:=n3_;clear n0_ n1_ n2_ n3_ hb hbox hg;have hcz2_0 : w1.cell? ⟨gb104,0,none⟩ = some (.int .u8 0):=(blk_cell BK104.out 0).trans rfl;have hcz2_1 : w1.cell? ⟨gb104,1,none⟩ = some (.int .u8 0):=(blk_cell BK104.out 1).trans rfl;have hfz2_0:=blk_frozen BK104.out 0;have hfz2_1:=blk_frozen BK104.out 1))
 refine bodyPost_ret (results_cell_row rfl _ _ gb104 164 #[.int .u8 29,.int .u8 128] (0,0) _ rfl (by (with_reducible repeat first|refine blk_drewN ?_ _|refine blk_alloc ?_ _);refine blk_put (cs:=#[.int .u8 29,.int .u8 0]) ?_ 1 _ rfl;(with_reducible repeat first|refine blk_drewN ?_ _|refine blk_alloc ?_ _);refine blk_put (cs:=#[.int .u8 0,.int .u8 0]) ?_ 0 _ rfl;(with_reducible repeat first|refine blk_drewN ?_ _|refine blk_alloc ?_ _);exact BK104.out) Try.underlying164 rfl (by kernel_rfl)) rfl ?_
 exact ⟨by first|rfl|(simp [errW_none,errW_some] <;> rfl)|(simp [*,errW_none,errW_some] <;> rfl),by repeat (first|(with_reducible first|exact HB.out|apply below_alloc|apply pw_below_drewN|apply below_drew1|refine below_set ?_ GE104.out)|exact HB.out)⟩

/-! ### impl_field_uint8_double: function 119 -/
def impl_field_uint8_double.f (a0_0 : Int) (a0_1 : Int) (a1 : Int) : Option (Int):=if (Go.bits .and .u8 a1 a0_1) = 0 then (some ((a1 * 2) % 256)) else (some (Go.bits .xor .u8 ((a1 * 2) % 256) a0_0))
set_option maxHeartbeats 8000000 in
set_option maxRecDepth 100000 in
theorem impl_field_uint8_double.calls (a0_0 : Int) (a0_1 : Int) (a1 : Int) (r : Int) (w : World) (h : impl_field_uint8_double.f a0_0 a0_1 a1 = some r) :
  Calls Try.prog 119 #[.agg #[.int .u8 a0_0,.int .u8 a0_1],.int .u8 a1] w fun e w'=>e = .returned (.int .u8 r) ∧ Below w.heap.size w w':=by
 have hu164:=Try.underlying164
 have HB:=Aside0.mk (Below.refl w.heap.size w)
 have H : (if (Go.bits .and .u8 a1 a0_1) = 0 then (some ((a1 * 2) % 256)) else (some (Go.bits .xor .u8 ((a1 * 2) % 256) a0_0))) = some r:=h
 clear h
 by_cases c3 : (Go.bits .and .u8 a1 a0_1) = 0
 ·rw [if_pos c3] at H
  have c3b0 : ((Go.bits .and .u8 a1 a0_1) == 0) = true:=beq_iff_eq.mpr c3
  have c3b1 : ((Go.bits .and .u8 a1 a0_1) != 0) = false:=bne_eq_false_iff_eq.mpr c3
  clear c3
  obtain rfl:=Option.some.inj H
  go_enter Try.func119,Try.ntmps119
  go_wp2_with (first|((with_reducible refine gate_dst (N:=2) rfl ?_);refine box_event ?hg (N:=2) ?hd (cs:=#[.int .u8 a0_0,.int .u8 a0_1]) (t:=164) ?hr ?_;(case hd=>rfl);(case hg=>rfl);(case hr=>first|(go_simp;done)|(go_simp;rfl));intro gb105 hg w4 hbox hb;have n0_:=Aside0.mk (below_step (by repeat (first|(with_reducible first|exact HB.out|apply below_alloc|apply pw_below_drewN|apply below_drew1)|exact HB.out)) hb);have n1_:=Aside0.mk (hbox);have n2_:=Aside0.mk ((by rw [hg];exact (below_size (by repeat (first|(with_reducible first|exact HB.out|apply below_alloc|apply pw_below_drewN|apply below_drew1)|exact HB.out))) : w.heap.size ≤ gb105));have n3_:=Aside0.mk ((by rw [hg];exact (below_size (by repeat (first|(with_reducible first|exact HB.out|apply below_alloc|apply pw_below_drewN|apply below_drew1)|exact HB.out))) : w.heap.size ≤ gb105));clear HB;have HB:=n0_;have BK105:=n1_;have GW105:=n2_;have GE105:=n3_;clear n0_ n1_ n2_ n3_ hb hbox hg;have hcz5_0 : w4.cell? ⟨gb105,0,none⟩ = some (.int .u8 a0_0):=(blk_cell BK105.out 0).trans rfl;have hcz5_1 : w4.cell? ⟨gb105,1,none⟩ = some (.int .u8 a0_1):=(blk_cell BK105.out 1).trans rfl;have hfz5_0:=blk_frozen BK105.out 0;have hfz5_1:=blk_frozen BK105.out 1))
  go_ret
  exact ⟨by first|rfl|(simp [errW_none,errW_some] <;> rfl)|(simp [*,errW_none,errW_some] <;> rfl),by repeat (first|(with_reducible first|exact HB.out|apply below_alloc|apply pw_below_drewN|apply below_drew1|refine below_set ?_ GE105.out)|exact HB.out)⟩
 ·rw [if_neg c3] at H
  have c3b0 : ((Go.bits .and .u8 a1 a0_1) == 0) = false:=beq_eq_false_iff_ne.mpr c3
  have c3b1 : ((Go.bits .and .u8 a1 a0_1) != 0) = true:=bne_iff_ne.mpr c3
  obtain rfl:=Option.some.inj H
  go_enter Try.func119,Try.ntmps119
  go_wp2_with (first|((with_reducible refine gate_dst (N:=2) rfl ?_);refine box_event ?hg (N:=2) ?hd (cs:=#[.int .u8 a0_0,.int .u8 a0_1]) (t:=164) ?hr ?_;(case hd=>rfl);(case hg=>rfl);(case hr=>first|(go_simp;done)|(go_simp;rfl));intro gb105 hg w6 hbox hb;have n0_:=Aside0.mk (below_step (by repeat (first|(with_reducible first|exact HB.out|apply below_alloc|apply pw_below_drewN|apply below_drew1)|exact HB.out)) hb);have n1_:=Aside0.mk (hbox);have n2_:=Aside0.mk ((by rw [hg];exact (below_size (by repeat (first|(with_reducible first|exact HB.out|apply below_alloc|apply pw_below_drewN|apply below_drew1)|exact HB.out))) : w.heap.size ≤ gb105));have n3_:=Aside0.mk ((by rw [hg];exact (below_size (by repeat (first|(with_reducible first|exact HB.out|apply below_alloc|apply pw_below_drewN|apply below_drew1)|exact HB.out))) : w.heap.size ≤ gb105));clear HB;have HB:=n0_;have BK105:=n1_;have GW105:=n2_;have GE105:=n3_;clear n0_ n1_ n2_ n3_ hb hbox hg;have hcz7_0 : w6.cell? ⟨gb105,0,none⟩ = some (.int .u8 a0_0):=(blk_cell BK105.out 0).trans rfl;have hcz7_1 : w6.cell? ⟨gb105,1,none⟩ = some (.int .u8 a0_1):=(blk_cell BK105.out 1).trans rfl;have hfz7_0:=blk_frozen BK105.out 0;have hfz7_1:=blk_frozen BK105.out 1))
  go_ret
  exact ⟨by first|rfl|(simp [errW_none,errW_some] <;> rfl)|(simp [*,errW_none,errW_some] <;> rfl),by repeat (first|(with_reducible first|exact HB.out|apply below_alloc|apply pw_below_drewN|apply below_drew1|refine below_set ?_ GE105.out)|exact HB.out)⟩







end Go.Proofs.Ytffhbpepppodeaa.PFnInverse
