import Derived.Test.YtffhbpepppodeaaPFnRepairedx0
import Derived.Test.YtffhbpepppodeaaPFnRepairedx3
import Derived.Test.YtffhbpepppodeaaPFnRepairedx4
namespace Go.Proofs.Ytffhbpepppodeaa.PFnRepaired
private theorem nn {α : Type} {c : Prop} [Decidable c] {a : Option α} {r : α} (h : (if c then a else none) = some r) : c ∧ a = some r:=by
 split at h
 ·exact ⟨‹c›,h⟩
 ·cases h
open Go.RowKit Go.Proofs.YtffhbpepppodeaaW.PrintWords Go.Proofs.YtffhbpepppodeaaW.PrintLast Go.Proofs.YtffhbpepppodeaaW.PrintMore
attribute [local go_sem] max2_int min2_int max_two min_two max_three min_three max_four min_four   -- for this text's walks alone
set_option linter.unusedVariables false
set_option linter.unusedSimpArgs false

/-! ### spec_CodeRow: function 128 -/
mutual
def spec_CodeRow.j0 : Nat → Int → Bool → Int → Int → Int → Option (List Int)
 | 0,_,_,_,_,_=>none
 | k + 1,x1,x26,x149000,x149001,x149002=>if x26 = true then (some (([] : List Int))) else (if 0 ≤ x149000 then (if (x149000 : Int).toNat ≤ 35184372088832 then ((some (List.replicate (x149000 : Int).toNat 0 : List Int)).bind fun y153=>(if x1 < x149000 then (if 0 ≤ x1 then (if x1 < (y153.length : Int) then (some (y153.set (x1 : Int).toNat 1)) else (none)) else (none)) else (if x1 < (wrap64 (x149000 + x149001)) then (spec_CodeRow.l0 k x1 y153 0 x149000 x149001 x149002) else (spec_CodeRow.l1 k x1 y153 0 x149000 x149001 x149002)))) else (none)) else (none))
def spec_CodeRow.l0 : Nat → Int → List Int → Int → Int → Int → Int → Option (List Int)
 | 0,_,_,_,_,_,_=>none
 | k + 1,x1,x5,x6,x149000,x149001,x149002=>if x6 < x149000 then ((spec_Inv8.f k (Go.bits .xor .i64 x1 x6)).bind fun t157=>(if 0 ≤ x6 then (if x6 < (x5.length : Int) then (spec_CodeRow.l0 k x1 (x5.set (x6 : Int).toNat t157) (wrap64 (x6 + 1)) x149000 x149001 x149002) else (none)) else (none))) else (some x5)
def spec_CodeRow.l1 : Nat → Int → List Int → Int → Int → Int → Int → Option (List Int)
 | 0,_,_,_,_,_,_=>none
 | k + 1,x1,x5,x7,x149000,x149001,x149002=>if x7 < x149000 then (if x149002 = 0 then (none) else (if (Int.tmod x7 x149002) = (wrap64 ((wrap64 (x1 - x149000)) - x149001)) then (if 0 ≤ x7 then (if x7 < (x5.length : Int) then (spec_CodeRow.l1 k x1 (x5.set (x7 : Int).toNat 1) (wrap64 (x7 + 1)) x149000 x149001 x149002) else (none)) else (none)) else (spec_CodeRow.l1 k x1 x5 (wrap64 (x7 + 1)) x149000 x149001 x149002))) else (some x5)
end
def spec_CodeRow.f (k : Nat) (a0_0 : Int) (a0_1 : Int) (a0_2 : Int) (a1 : Int) : Option (List Int):=(spec_CodeFault.f a0_0 a0_1 a0_2).bind fun t149=>(if t149 = 0 then (if a1 < 0 then (spec_CodeRow.j0 k a1 true a0_0 a0_1 a0_2) else (spec_CodeRow.j0 k a1 (decide (a1 ≥ (wrap64 ((wrap64 (a0_0 + a0_1)) + a0_2)))) a0_0 a0_1 a0_2)) else (spec_CodeRow.j0 k a1 true a0_0 a0_1 a0_2))
set_option maxHeartbeats 8000000 in
set_option maxRecDepth 100000 in
theorem spec_CodeRow.calls (k : Nat) (a0_0 : Int) (a0_1 : Int) (a0_2 : Int) (a1 : Int) (r : List Int) (w : World) (h : spec_CodeRow.f k a0_0 a0_1 a0_2 a1 = some r) :
  Calls Try.prog 128 #[.agg #[.int .i64 a0_0,.int .i64 a0_1,.int .i64 a0_2],.int .i64 a1] w fun e w'=>∃ v0_ : Value,e = .returned (v0_) ∧ Kd.R (Kd.int .i64) 2 w' w.heap.size (fun _=>True) v0_ r ∧ Below w.heap.size w w':=by
 have HB:=M0 (Below.refl w.heap.size w)
 have H : ((spec_CodeFault.f a0_0 a0_1 a0_2).bind fun t149=>(if t149 = 0 then (if a1 < 0 then (spec_CodeRow.j0 k a1 true a0_0 a0_1 a0_2) else (spec_CodeRow.j0 k a1 (decide (a1 ≥ (wrap64 ((wrap64 (a0_0 + a0_1)) + a0_2)))) a0_0 a0_1 a0_2)) else (spec_CodeRow.j0 k a1 true a0_0 a0_1 a0_2))) = some r:=h
 clear h
 have HC3:=M0 H
 clear H
 go_enter Try.func128,Try.ntmps128
 go_upto_region 1 with ((refine box_event rfl (N:=2) rfl (cs:=#[.int .i64 a0_0,.int .i64 a0_1,.int .i64 a0_2]) (t:=43) (by go_simp) ?_;intro gb148 hg w4 hbox hb;have BK148:=M0 (hbox);replace HB:=M0 (below_step HB.out hb);clear hb hbox hg))
 repeat (go_quiet (first|(refine box_event ?hg (N:=2) ?hd (cs:=#[.int .i64 a0_0,.int .i64 a0_1,.int .i64 a0_2]) (t:=43) ?hr ?_;(case hd=>rfl);(case hg=>rfl);(case hr=>first|(go_simp;done)|(go_simp;rfl));intro gb148 hg w4 hbox hb;have BK148:=M0 (hbox);have GW148:=M0 ((by rw [hg];exact (below_size (by repeat (first|(with_reducible first|exact HB.out|apply below_alloc|apply pw_below_drewN|apply below_drew1)|exact HB.out))) : w.heap.size ≤ gb148));have GE148:=M0 ((by rw [hg];exact (below_size (by repeat (first|(with_reducible first|exact HB.out|apply below_alloc|apply pw_below_drewN|apply below_drew1)|exact HB.out))) : w.heap.size ≤ gb148));replace HB:=M0 (below_step (by repeat (first|(with_reducible first|exact HB.out|apply below_alloc|apply pw_below_drewN|apply below_drew1)|exact HB.out)) hb);clear hb hbox hg));go_upto_region 1 with (first|(refine box_event ?hg (N:=2) ?hd (cs:=#[.int .i64 a0_0,.int .i64 a0_1,.int .i64 a0_2]) (t:=43) ?hr ?_;(case hd=>rfl);(case hg=>rfl);(case hr=>first|(go_simp;done)|(go_simp;rfl));intro gb148 hg w4 hbox hb;have BK148:=M0 (hbox);have GW148:=M0 ((by rw [hg];exact (below_size (by repeat (first|(with_reducible first|exact HB.out|apply below_alloc|apply pw_below_drewN|apply below_drew1)|exact HB.out))) : w.heap.size ≤ gb148));have GE148:=M0 ((by rw [hg];exact (below_size (by repeat (first|(with_reducible first|exact HB.out|apply below_alloc|apply pw_below_drewN|apply below_drew1)|exact HB.out))) : w.heap.size ≤ gb148));replace HB:=M0 (below_step (by repeat (first|(with_reducible first|exact HB.out|apply below_alloc|apply pw_below_drewN|apply below_drew1)|exact HB.out)) hb);clear hb hbox hg)))
 go_cut [26] (fun v26 wc=>∃ (kq : Nat) (x26_2 : Bool),v26 = .bool x26_2 ∧ Aside0 (spec_CodeRow.j0 kq a1 x26_2 a0_0 a0_1 a0_2 = some r) ∧ Aside0 (kq ≤ k) ∧ Aside0 (wc.heap[gb148]? = some (.cells #[.int .i64 a0_0,.int .i64 a0_1,.int .i64 a0_2] 43 (0,0))) ∧ Aside0 (Below w.heap.size w wc))
 case first=>
  have H:=HC3.out
  clear HC3
  replace H:=Option.bind_eq_some_iff.mp H
  obtain ⟨t149,A50,H⟩:=H
  replace H : (if t149 = 0 then (if a1 < 0 then (spec_CodeRow.j0 k a1 true a0_0 a0_1 a0_2) else (spec_CodeRow.j0 k a1 (decide (a1 ≥ (wrap64 ((wrap64 (a0_0 + a0_1)) + a0_2)))) a0_0 a0_1 a0_2)) else (spec_CodeRow.j0 k a1 true a0_0 a0_1 a0_2)) = some r:=H
  have A5:=M0 A50
  clear A50
  by_cases c6 : t149 = 0
  ·rw [if_pos c6] at H
   have c6b0 : (t149 == 0) = true:=beq_iff_eq.mpr c6
   have c6b1 : (t149 != 0) = false:=bne_eq_false_iff_eq.mpr c6
   clear c6
   (skip)
   by_cases c7 : a1 < 0
   ·rw [if_pos c7] at H
    have c7b0:=decide_eq_true c7
    clear c7
    have H':=M0 H
    clear H
    have hcz8_0:=bcv (v:=.int .i64 a0_0) BK148.out 0 rfl
    have hcz8_1:=bcv (v:=.int .i64 a0_1) BK148.out 1 rfl
    have hcz8_2:=bcv (v:=.int .i64 a0_2) BK148.out 2 rfl
    go_wp2_with ((go_at_call 89;(with_reducible refine (spec_CodeFault.calls a0_0 a0_1 a0_2 t149 _ A5.out).mono ?_);rintro e w9 ⟨rfl,hb⟩;replace BK148:=M0 (blk_below BK148.out hb);replace HB:=M0 (below_step HB.out hb);clear hb))
    repeat (go_quiet (first|(go_at_call 89;(with_reducible refine (spec_CodeFault.calls a0_0 a0_1 a0_2 t149 _ A5.out).mono ?_);rintro e w9 ⟨rfl,hb⟩;replace BK148:=M0 (blk_below (g:=gb148) (o:=.cells #[.int .i64 a0_0,.int .i64 a0_1,.int .i64 a0_2] 43 (0,0)) (by (with_reducible repeat (first|refine blk_drewN ?_ _|refine blk_drew ?_|refine blk_alloc ?_ _));exact BK148.out) hb);replace HB:=M0 (below_step (by repeat (first|(with_reducible first|exact HB.out|apply below_alloc|apply pw_below_drewN|apply below_drew1|refine below_set ?_ GE148.out)|exact HB.out)) hb);clear hb hb2 hk hi));try go_wp2_with (first|(go_at_call 89;(with_reducible refine (spec_CodeFault.calls a0_0 a0_1 a0_2 t149 _ A5.out).mono ?_);rintro e w9 ⟨rfl,hb⟩;replace BK148:=M0 (blk_below (g:=gb148) (o:=.cells #[.int .i64 a0_0,.int .i64 a0_1,.int .i64 a0_2] 43 (0,0)) (by (with_reducible repeat (first|refine blk_drewN ?_ _|refine blk_drew ?_|refine blk_alloc ?_ _));exact BK148.out) hb);replace HB:=M0 (below_step (by repeat (first|(with_reducible first|exact HB.out|apply below_alloc|apply pw_below_drewN|apply below_drew1|refine below_set ?_ GE148.out)|exact HB.out)) hb);clear hb hb2 hk hi)))
    go_meet
    case rel=>exact ⟨_,(true),(by rfl),H',⟨by omega⟩,⟨by exact BK148.out⟩,⟨HB.out⟩⟩
   ·rw [if_neg c7] at H
    have c7b0:=decide_eq_false c7
    clear c7
    have H':=M0 H
    clear H
    have hcz10_0:=bcv (v:=.int .i64 a0_0) BK148.out 0 rfl
    have hcz10_1:=bcv (v:=.int .i64 a0_1) BK148.out 1 rfl
    have hcz10_2:=bcv (v:=.int .i64 a0_2) BK148.out 2 rfl
    go_wp2_with ((go_at_call 89;(with_reducible refine (spec_CodeFault.calls a0_0 a0_1 a0_2 t149 _ A5.out).mono ?_);rintro e w11 ⟨rfl,hb⟩;replace BK148:=M0 (blk_below BK148.out hb);replace HB:=M0 (below_step HB.out hb);clear hb;have hcz12_0:=bcv (v:=.int .i64 a0_0) BK148.out 0 rfl;have hcz12_1:=bcv (v:=.int .i64 a0_1) BK148.out 1 rfl;have hcz12_2:=bcv (v:=.int .i64 a0_2) BK148.out 2 rfl))
    repeat (go_quiet (first|(go_at_call 89;(with_reducible refine (spec_CodeFault.calls a0_0 a0_1 a0_2 t149 _ A5.out).mono ?_);rintro e w11 ⟨rfl,hb⟩;replace BK148:=M0 (blk_below (g:=gb148) (o:=.cells #[.int .i64 a0_0,.int .i64 a0_1,.int .i64 a0_2] 43 (0,0)) (by (with_reducible repeat (first|refine blk_drewN ?_ _|refine blk_drew ?_|refine blk_alloc ?_ _));exact BK148.out) hb);replace HB:=M0 (below_step (by repeat (first|(with_reducible first|exact HB.out|apply below_alloc|apply pw_below_drewN|apply below_drew1|refine below_set ?_ GE148.out)|exact HB.out)) hb);clear hb hb2 hk hi;have hcz12_0:=bcv (v:=.int .i64 a0_0) BK148.out 0 rfl;have hcz12_1:=bcv (v:=.int .i64 a0_1) BK148.out 1 rfl;have hcz12_2:=bcv (v:=.int .i64 a0_2) BK148.out 2 rfl;have hfz12_0:=blk_frozen BK148.out 0;have hfz12_1:=blk_frozen BK148.out 1;have hfz12_2:=blk_frozen BK148.out 2));try go_wp2_with (first|(go_at_call 89;(with_reducible refine (spec_CodeFault.calls a0_0 a0_1 a0_2 t149 _ A5.out).mono ?_);rintro e w11 ⟨rfl,hb⟩;replace BK148:=M0 (blk_below (g:=gb148) (o:=.cells #[.int .i64 a0_0,.int .i64 a0_1,.int .i64 a0_2] 43 (0,0)) (by (with_reducible repeat (first|refine blk_drewN ?_ _|refine blk_drew ?_|refine blk_alloc ?_ _));exact BK148.out) hb);replace HB:=M0 (below_step (by repeat (first|(with_reducible first|exact HB.out|apply below_alloc|apply pw_below_drewN|apply below_drew1|refine below_set ?_ GE148.out)|exact HB.out)) hb);clear hb hb2 hk hi;have hcz12_0:=bcv (v:=.int .i64 a0_0) BK148.out 0 rfl;have hcz12_1:=bcv (v:=.int .i64 a0_1) BK148.out 1 rfl;have hcz12_2:=bcv (v:=.int .i64 a0_2) BK148.out 2 rfl;have hfz12_0:=blk_frozen BK148.out 0;have hfz12_1:=blk_frozen BK148.out 1;have hfz12_2:=blk_frozen BK148.out 2)))
    go_meet
    case rel=>exact ⟨_,(decide (a1 ≥ (wrap64 ((wrap64 (a0_0 + a0_1)) + a0_2)))),(by rfl),H',⟨by omega⟩,⟨by exact BK148.out⟩,⟨HB.out⟩⟩
  ·rw [if_neg c6] at H
   have c6b1 : (t149 != 0) = true:=bne_iff_ne.mpr c6
   (skip)
   have H':=M0 H
   clear H
   have hcz13_0:=bcv (v:=.int .i64 a0_0) BK148.out 0 rfl
   have hcz13_1:=bcv (v:=.int .i64 a0_1) BK148.out 1 rfl
   have hcz13_2:=bcv (v:=.int .i64 a0_2) BK148.out 2 rfl
   go_wp2_with ((go_at_call 89;(with_reducible refine (spec_CodeFault.calls a0_0 a0_1 a0_2 t149 _ A5.out).mono ?_);rintro e w14 ⟨rfl,hb⟩;replace BK148:=M0 (blk_below BK148.out hb);replace HB:=M0 (below_step HB.out hb);clear hb))
   repeat (go_quiet (first|(go_at_call 89;(with_reducible refine (spec_CodeFault.calls a0_0 a0_1 a0_2 t149 _ A5.out).mono ?_);rintro e w14 ⟨rfl,hb⟩;replace BK148:=M0 (blk_below (g:=gb148) (o:=.cells #[.int .i64 a0_0,.int .i64 a0_1,.int .i64 a0_2] 43 (0,0)) (by (with_reducible repeat (first|refine blk_drewN ?_ _|refine blk_drew ?_|refine blk_alloc ?_ _));exact BK148.out) hb);replace HB:=M0 (below_step (by repeat (first|(with_reducible first|exact HB.out|apply below_alloc|apply pw_below_drewN|apply below_drew1|refine below_set ?_ GE148.out)|exact HB.out)) hb);clear hb hb2 hk hi));try go_wp2_with (first|(go_at_call 89;(with_reducible refine (spec_CodeFault.calls a0_0 a0_1 a0_2 t149 _ A5.out).mono ?_);rintro e w14 ⟨rfl,hb⟩;replace BK148:=M0 (blk_below (g:=gb148) (o:=.cells #[.int .i64 a0_0,.int .i64 a0_1,.int .i64 a0_2] 43 (0,0)) (by (with_reducible repeat (first|refine blk_drewN ?_ _|refine blk_drew ?_|refine blk_alloc ?_ _));exact BK148.out) hb);replace HB:=M0 (below_step (by repeat (first|(with_reducible first|exact HB.out|apply below_alloc|apply pw_below_drewN|apply below_drew1|refine below_set ?_ GE148.out)|exact HB.out)) hb);clear hb hb2 hk hi)))
   go_meet
   case rel=>exact ⟨_,(true),(by rfl),H',⟨by omega⟩,⟨by exact BK148.out⟩,⟨HB.out⟩⟩
 case rest=>
  clear HC3
  obtain ⟨kq,x26_2,rfl,HA,HJ2,BK148,HB⟩:=hcut
  cases kq with
  | zero=>exact absurd HA.out (by simp [spec_CodeRow.j0])
  | succ kj2=>
   have H:=HA.out
   clear HA
   simp only [spec_CodeRow.j0] at H
   by_cases c15 : x26_2 = true
   ·subst c15
    have H1 : (some (([] : List Int))) = some r:=by rw [if_pos rfl] at H;exact H
    clear H
    have H:=H1
    clear H1
    obtain ⟨y150,hy150⟩ : ∃ y_ : List Int,y_ = (([] : List Int)):=⟨_,rfl⟩
    rw [← hy150] at H
    have Ny150:=M0 hy150
    clear hy150
    obtain rfl:=Option.some.inj H
    go_wp2_with ((refine Kd.R_lit (Kd.int .i64) _ 2 ?hg (N:=27) ?hd (xs:=([] : List Int)) (inner:=[]) (ok:=fun _=>True) (okp:=fun _=>True) ?hr ?hp (fun _ hk=>hk) trivial (Below.refl _ _) (Nat.le_refl _) (by simp) ?_;(case hd=>rfl);(case hg=>rfl);(case hr=>(go_simp;done));(case hp=>exact (Reps.none _ _));intro v151 w16 ho17 hb hg_ hnew_;clear hg_ hnew_;(rw [← Ny150.out] at ho17);have HO152:=M0 (Kd.R_lower ho17 (below_size HB.out));replace BK148:=M0 (blk_below BK148.out hb);replace HB:=M0 (below_step HB.out hb);clear hb ho17))
    repeat (go_quiet (first|(refine Kd.R_lit (Kd.int .i64) _ 2 ?hg (N:=27) ?hd (xs:=([] : List Int)) (inner:=[]) (ok:=fun _=>True) (okp:=fun _=>True) ?hr ?hp (fun _ hk=>hk) trivial (Below.refl _ _) (Nat.le_refl _) (by simp) ?_;(case hd=>rfl);(case hg=>rfl);(case hr=>first|(go_simp;done)|(go_simp;rfl));(case hp=>exact (Reps.none _ _));intro v151 w16 ho17 hb hg_ hnew_;clear hg_ hnew_;(first|rw [← Ny150.out] at ho17|(simp only [Int.reduceToNat] at ho17;rw [← Ny150.out] at ho17));have HO152:=M0 (Kd.R_lower ho17 (below_size (by repeat (first|(with_reducible first|exact HB.out|apply below_alloc|apply pw_below_drewN|apply below_drew1|refine below_set ?_ GE148.out)|exact HB.out))));replace BK148:=M0 (blk_below (g:=gb148) (o:=.cells #[.int .i64 a0_0,.int .i64 a0_1,.int .i64 a0_2] 43 (0,0)) (by (with_reducible repeat (first|refine blk_drewN ?_ _|refine blk_drew ?_|refine blk_alloc ?_ _));exact BK148.out) hb);replace HB:=M0 (below_step (by repeat (first|(with_reducible first|exact HB.out|apply below_alloc|apply pw_below_drewN|apply below_drew1|refine below_set ?_ GE148.out)|exact HB.out)) hb);clear hb ho17));try go_wp2_with (first|(refine Kd.R_lit (Kd.int .i64) _ 2 ?hg (N:=27) ?hd (xs:=([] : List Int)) (inner:=[]) (ok:=fun _=>True) (okp:=fun _=>True) ?hr ?hp (fun _ hk=>hk) trivial (Below.refl _ _) (Nat.le_refl _) (by simp) ?_;(case hd=>rfl);(case hg=>rfl);(case hr=>first|(go_simp;done)|(go_simp;rfl));(case hp=>exact (Reps.none _ _));intro v151 w16 ho17 hb hg_ hnew_;clear hg_ hnew_;(first|rw [← Ny150.out] at ho17|(simp only [Int.reduceToNat] at ho17;rw [← Ny150.out] at ho17));have HO152:=M0 (Kd.R_lower ho17 (below_size (by repeat (first|(with_reducible first|exact HB.out|apply below_alloc|apply pw_below_drewN|apply below_drew1|refine below_set ?_ GE148.out)|exact HB.out))));replace BK148:=M0 (blk_below (g:=gb148) (o:=.cells #[.int .i64 a0_0,.int .i64 a0_1,.int .i64 a0_2] 43 (0,0)) (by (with_reducible repeat (first|refine blk_drewN ?_ _|refine blk_drew ?_|refine blk_alloc ?_ _));exact BK148.out) hb);replace HB:=M0 (below_step (by repeat (first|(with_reducible first|exact HB.out|apply below_alloc|apply pw_below_drewN|apply below_drew1|refine below_set ?_ GE148.out)|exact HB.out)) hb);clear hb ho17)))
    go_ret
    exact ⟨_,by rfl,by exact HO152.out,HB.out⟩
   ·replace c15:=Bool.eq_false_iff.mpr c15
    subst c15
    have H1 : (if 0 ≤ a0_0 then (if (a0_0 : Int).toNat ≤ 35184372088832 then ((some (List.replicate (a0_0 : Int).toNat 0 : List Int)).bind fun y153=>(if a1 < a0_0 then (if 0 ≤ a1 then (if a1 < (y153.length : Int) then (some (y153.set (a1 : Int).toNat 1)) else (none)) else (none)) else (if a1 < (wrap64 (a0_0 + a0_1)) then (spec_CodeRow.l0 kj2 a1 y153 0 a0_0 a0_1 a0_2) else (spec_CodeRow.l1 kj2 a1 y153 0 a0_0 a0_1 a0_2)))) else (none)) else (none)) = some r:=by rw [if_neg (show ¬ (false = true) by decide)] at H;exact H
    clear H
    have H:=H1
    clear H1
    obtain ⟨c18,H⟩:=nn H
    have c18b0:=eq_true c18
    have c18b1:=decide_eq_true c18
    clear c18
    obtain ⟨c19,H⟩:=nn H
    have c19b0:=eq_true c19
    have c19b1:=decide_eq_true c19
    clear c19
    obtain ⟨y153,hy153⟩ : ∃ y_ : List Int,y_ = (List.replicate (a0_0 : Int).toNat 0):=⟨_,rfl⟩
    replace H : (if a1 < a0_0 then (if 0 ≤ a1 then (if a1 < (y153.length : Int) then (some (y153.set (a1 : Int).toNat 1)) else (none)) else (none)) else (if a1 < (wrap64 (a0_0 + a0_1)) then (spec_CodeRow.l0 kj2 a1 y153 0 a0_0 a0_1 a0_2) else (spec_CodeRow.l1 kj2 a1 y153 0 a0_0 a0_1 a0_2))) = some r:=by (have H2_:=(Option.bind_some _ _).symm.trans H;rw [hy153];with_reducible exact H2_)
    have Ny153:=M0 hy153
    clear hy153
    by_cases c20 : a1 < a0_0
    ·rw [if_pos c20] at H
     have c20b0:=decide_eq_true c20
     clear c20
     obtain ⟨c21,H⟩:=nn H
     have c21b0:=decide_eq_true c21
     clear c21
     obtain ⟨c22,H⟩:=nn H
     have c22b0:=decide_eq_true c22
     clear c22
     obtain ⟨y156,hy156⟩ : ∃ y_ : List Int,y_ = (y153.set (a1 : Int).toNat 1):=⟨_,rfl⟩
     rw [← hy156] at H
     have Ny156:=M0 hy156
     clear hy156
     obtain rfl:=Option.some.inj H
     have hcz24_0:=bcv (v:=.int .i64 a0_0) BK148.out 0 rfl
     go_wp2_with (first|(refine Kd.R_make (Kd.int .i64) _ 2 rfl (N:=30) rfl 22 _ _ rfl a0_0 rfl rfl Try.underlying22 (.int .i64 0) 8 info2 rfl (by decide) (by omega) 0 (ok:=fun _=>True) (okp:=fun _=>True) rfl (fun _ hk=>hk) trivial (of_decide_eq_true (by with_reducible assumption)) (Nat.le_trans (Nat.mul_le_mul_right _ (of_decide_eq_true (by with_reducible assumption) : a0_0.toNat ≤ 35184372088832)) (by omega)) (Below.refl _ _) (Nat.le_refl _) ?_;intro v154 w25 ho26 hb hg_ hnew_;clear hg_ hnew_;(rw [← Ny153.out] at ho26);have HO155:=M0 (Kd.R_lower ho26 (below_size HB.out));replace BK148:=M0 (blk_below BK148.out hb);replace HB:=M0 (below_step HB.out hb);clear hb ho26;have hcz27_0:=bcv (v:=.int .i64 a0_0) BK148.out 0 rfl;have p23 : 0 ≤ (a1 : Int):=of_decide_eq_true (by with_reducible assumption);have q23 : (a1 : Int) < ((y153.length : Int) : Int):=of_decide_eq_true (by with_reducible assumption);obtain ⟨go23,co23,eo23,gb23,gl23,cl23,HG23⟩:=Kd.R_form HO155.out (by omega);(cases eo23);have GB23:=M0 gb23;have GG23:=M0 HG23;clear gb23 gl23 HG23;obtain ⟨hx23_0,hf23_0⟩:=Kd.R_celln 0 HO155.out (a1 : Int) p23 q23;replace p23:=eq_true p23;replace q23:=eq_true q23;obtain ⟨hy28_,hz28_⟩:=Kd.R_celln 0 HO155.out (a1 : Int) (of_decide_eq_true (by with_reducible assumption)) (of_decide_eq_true (by with_reducible assumption));have HP28:=Kd.R_putg HO155.out (a1 : Int) 1)|(refine store_event (t:=2) (p:=59) (v:=?vo_w29) (w1:=(w25.setCell ⟨go23,(a1 : Int).toNat,none⟩ (.int .i64 1))) ?hg ?ho ?hn ?hr ?_;(case ho=>rfl);(case hg=>rfl);(case hn=>rfl);(case hr=>(go_simp;done));intro w29 hw;have hg : w25.grownBy w29 (some go23):=(by rw [hw];exact HP28.2);have hp_ : Kd.R (Kd.int .i64) 2 w29 w.heap.size (fun _=>True) (.slice (some ⟨go23,0,none⟩) y153.length co23) y156:=(by rw [hw,Ny156.out];exact HP28.1);clear HP28;replace BK148:=M0 (blk_grown (g:=gb148) (o:=.cells #[.int .i64 a0_0,.int .i64 a0_1,.int .i64 a0_2] 43 (0,0)) BK148.out hg (Kd.R_ne HO155.out BK148.out (by decide)));replace HO155:=M0 (hp_);replace HB:=M0 ((by rw [hw];exact below_set (HB.out) GB23.out : Below w.heap.size w w29));clear hg hw hp_))
     repeat (go_quiet (first|(refine Kd.R_make (Kd.int .i64) _ 2 rfl (N:=30) rfl 22 _ _ rfl a0_0 rfl rfl Try.underlying22 (.int .i64 0) 8 info2 rfl (by decide) (by omega) 0 (ok:=fun _=>True) (okp:=fun _=>True) rfl (fun _ hk=>hk) trivial (of_decide_eq_true (by first|(with_reducible assumption)|assumption)) (Nat.le_trans (Nat.mul_le_mul_right _ (of_decide_eq_true (by first|(with_reducible assumption)|assumption) : a0_0.toNat ≤ 35184372088832)) (by omega)) (Below.refl _ _) (Nat.le_refl _) ?_;intro v154 w25 ho26 hb hg_ hnew_;clear hg_ hnew_;(first|rw [← Ny153.out] at ho26|(simp only [Int.reduceToNat] at ho26;rw [← Ny153.out] at ho26));have HO155:=M0 (Kd.R_lower ho26 (below_size (by repeat (first|(with_reducible first|exact HB.out|apply below_alloc|apply pw_below_drewN|apply below_drew1|refine below_set ?_ GE148.out)|exact HB.out))));replace BK148:=M0 (blk_below (g:=gb148) (o:=.cells #[.int .i64 a0_0,.int .i64 a0_1,.int .i64 a0_2] 43 (0,0)) (by (with_reducible repeat (first|refine blk_drewN ?_ _|refine blk_drew ?_|refine blk_alloc ?_ _));exact BK148.out) hb);replace HB:=M0 (below_step (by repeat (first|(with_reducible first|exact HB.out|apply below_alloc|apply pw_below_drewN|apply below_drew1|refine below_set ?_ GE148.out)|exact HB.out)) hb);clear hb ho26;have hcz27_0:=bcv (v:=.int .i64 a0_0) BK148.out 0 rfl;have hcz27_1:=bcv (v:=.int .i64 a0_1) BK148.out 1 rfl;have hcz27_2:=bcv (v:=.int .i64 a0_2) BK148.out 2 rfl;have hfz27_0:=blk_frozen BK148.out 0;have hfz27_1:=blk_frozen BK148.out 1;have hfz27_2:=blk_frozen BK148.out 2;have p23 : 0 ≤ (a1 : Int):=of_decide_eq_true (by first|(with_reducible assumption)|assumption);have q23 : (a1 : Int) < ((y153.length : Int) : Int):=of_decide_eq_true (by first|(with_reducible assumption)|assumption);obtain ⟨go23,co23,eo23,gb23,gl23,cl23,HG23⟩:=Kd.R_form HO155.out (by omega);(first|cases eo23|(injection eo23 with ea_ en_ ec_;(first|subst ea_|(injection ea_ with ea_;subst ea_));subst ec_;clear en_));have GB23:=M0 gb23;have GG23:=M0 HG23;clear gb23 gl23 HG23;obtain ⟨hx23_0,hf23_0⟩:=Kd.R_celln 0 HO155.out (a1 : Int) p23 q23;replace p23:=eq_true p23;replace q23:=eq_true q23;obtain ⟨hy28_,hz28_⟩:=Kd.R_celln 0 HO155.out (a1 : Int) (of_decide_eq_true (by first|(with_reducible assumption)|assumption)) (of_decide_eq_true (by first|(with_reducible assumption)|assumption));have HP28:=Kd.R_putg HO155.out (a1 : Int) 1)|((try (rw [drewN_self w25];generalize hq_ : World.drewN w25 _ = w25;have n0_:=M0 (Kd.R_at hq_ HO155.out);have n1_:=M0 (blk_at hq_ BK148.out);have n2_:=M0 (below_at hq_ HB.out);clear hq_ HO155 BK148 HB;have HO155:=n0_;have BK148:=n1_;have HB:=n2_;clear n0_ n1_ n2_;(try (obtain ⟨hy28_,hz28_⟩:=Kd.R_celln 0 HO155.out (a1 : Int) (of_decide_eq_true (by first|(with_reducible assumption)|assumption)) (of_decide_eq_true (by first|(with_reducible assumption)|assumption))));(try (have HP28:=Kd.R_putg HO155.out (a1 : Int) 1))));refine store_event (t:=2) (p:=59) (v:=?vo_w29) (w1:=(w25.setCell ⟨go23,(a1 : Int).toNat,none⟩ (.int .i64 1))) ?hg ?ho ?hn ?hr ?_;(case ho=>rfl);(case hg=>rfl);(case hn=>rfl);(case hr=>first|(go_simp;done)|(go_simp;rfl));intro w29 hw;have hg : w25.grownBy w29 (some go23):=(by rw [hw];exact HP28.2);have hp_ : Kd.R (Kd.int .i64) 2 w29 w.heap.size (fun _=>True) (.slice (some ⟨go23,0,none⟩) y153.length co23) y156:=(by rw [hw,Ny156.out];exact HP28.1);clear HP28;replace BK148:=M0 (blk_grown (g:=gb148) (o:=.cells #[.int .i64 a0_0,.int .i64 a0_1,.int .i64 a0_2] 43 (0,0)) (by (with_reducible repeat (first|refine blk_drewN ?_ _|refine blk_drew ?_|refine blk_alloc ?_ _));exact BK148.out) hg (Kd.R_ne HO155.out BK148.out (by decide)));replace HO155:=M0 (hp_);replace HB:=M0 ((by rw [hw];exact below_set (HB.out) GB23.out : Below w.heap.size w w29));clear hg hw hp_));try go_wp2_with (first|(refine Kd.R_make (Kd.int .i64) _ 2 rfl (N:=30) rfl 22 _ _ rfl a0_0 rfl rfl Try.underlying22 (.int .i64 0) 8 info2 rfl (by decide) (by omega) 0 (ok:=fun _=>True) (okp:=fun _=>True) rfl (fun _ hk=>hk) trivial (of_decide_eq_true (by first|(with_reducible assumption)|assumption)) (Nat.le_trans (Nat.mul_le_mul_right _ (of_decide_eq_true (by first|(with_reducible assumption)|assumption) : a0_0.toNat ≤ 35184372088832)) (by omega)) (Below.refl _ _) (Nat.le_refl _) ?_;intro v154 w25 ho26 hb hg_ hnew_;clear hg_ hnew_;(first|rw [← Ny153.out] at ho26|(simp only [Int.reduceToNat] at ho26;rw [← Ny153.out] at ho26));have HO155:=M0 (Kd.R_lower ho26 (below_size (by repeat (first|(with_reducible first|exact HB.out|apply below_alloc|apply pw_below_drewN|apply below_drew1|refine below_set ?_ GE148.out)|exact HB.out))));replace BK148:=M0 (blk_below (g:=gb148) (o:=.cells #[.int .i64 a0_0,.int .i64 a0_1,.int .i64 a0_2] 43 (0,0)) (by (with_reducible repeat (first|refine blk_drewN ?_ _|refine blk_drew ?_|refine blk_alloc ?_ _));exact BK148.out) hb);replace HB:=M0 (below_step (by repeat (first|(with_reducible first|exact HB.out|apply below_alloc|apply pw_below_drewN|apply below_drew1|refine below_set ?_ GE148.out)|exact HB.out)) hb);clear hb ho26;have hcz27_0:=bcv (v:=.int .i64 a0_0) BK148.out 0 rfl;have hcz27_1:=bcv (v:=.int .i64 a0_1) BK148.out 1 rfl;have hcz27_2:=bcv (v:=.int .i64 a0_2) BK148.out 2 rfl;have hfz27_0:=blk_frozen BK148.out 0;have hfz27_1:=blk_frozen BK148.out 1;have hfz27_2:=blk_frozen BK148.out 2;have p23 : 0 ≤ (a1 : Int):=of_decide_eq_true (by first|(with_reducible assumption)|assumption);have q23 : (a1 : Int) < ((y153.length : Int) : Int):=of_decide_eq_true (by first|(with_reducible assumption)|assumption);obtain ⟨go23,co23,eo23,gb23,gl23,cl23,HG23⟩:=Kd.R_form HO155.out (by omega);(first|cases eo23|(injection eo23 with ea_ en_ ec_;(first|subst ea_|(injection ea_ with ea_;subst ea_));subst ec_;clear en_));have GB23:=M0 gb23;have GG23:=M0 HG23;clear gb23 gl23 HG23;obtain ⟨hx23_0,hf23_0⟩:=Kd.R_celln 0 HO155.out (a1 : Int) p23 q23;replace p23:=eq_true p23;replace q23:=eq_true q23;obtain ⟨hy28_,hz28_⟩:=Kd.R_celln 0 HO155.out (a1 : Int) (of_decide_eq_true (by first|(with_reducible assumption)|assumption)) (of_decide_eq_true (by first|(with_reducible assumption)|assumption));have HP28:=Kd.R_putg HO155.out (a1 : Int) 1)|((try (rw [drewN_self w25];generalize hq_ : World.drewN w25 _ = w25;have n0_:=M0 (Kd.R_at hq_ HO155.out);have n1_:=M0 (blk_at hq_ BK148.out);have n2_:=M0 (below_at hq_ HB.out);clear hq_ HO155 BK148 HB;have HO155:=n0_;have BK148:=n1_;have HB:=n2_;clear n0_ n1_ n2_;(try (obtain ⟨hy28_,hz28_⟩:=Kd.R_celln 0 HO155.out (a1 : Int) (of_decide_eq_true (by first|(with_reducible assumption)|assumption)) (of_decide_eq_true (by first|(with_reducible assumption)|assumption))));(try (have HP28:=Kd.R_putg HO155.out (a1 : Int) 1))));refine store_event (t:=2) (p:=59) (v:=?vo_w29) (w1:=(w25.setCell ⟨go23,(a1 : Int).toNat,none⟩ (.int .i64 1))) ?hg ?ho ?hn ?hr ?_;(case ho=>rfl);(case hg=>rfl);(case hn=>rfl);(case hr=>first|(go_simp;done)|(go_simp;rfl));intro w29 hw;have hg : w25.grownBy w29 (some go23):=(by rw [hw];exact HP28.2);have hp_ : Kd.R (Kd.int .i64) 2 w29 w.heap.size (fun _=>True) (.slice (some ⟨go23,0,none⟩) y153.length co23) y156:=(by rw [hw,Ny156.out];exact HP28.1);clear HP28;replace BK148:=M0 (blk_grown (g:=gb148) (o:=.cells #[.int .i64 a0_0,.int .i64 a0_1,.int .i64 a0_2] 43 (0,0)) (by (with_reducible repeat (first|refine blk_drewN ?_ _|refine blk_drew ?_|refine blk_alloc ?_ _));exact BK148.out) hg (Kd.R_ne HO155.out BK148.out (by decide)));replace HO155:=M0 (hp_);replace HB:=M0 ((by rw [hw];exact below_set (HB.out) GB23.out : Below w.heap.size w w29));clear hg hw hp_)))
     go_ret
     exact ⟨_,by rfl,by exact HO155.out,HB.out⟩
    ·rw [if_neg c20] at H
     have c20b0:=decide_eq_false c20
     clear c20
     by_cases c30 : a1 < (wrap64 (a0_0 + a0_1))
     ·rw [if_pos c30] at H
      have c30b0:=decide_eq_true c30
      clear c30
      have H':=M0 H
      clear H
      have hcz31_0:=bcv (v:=.int .i64 a0_0) BK148.out 0 rfl
      have hcz31_1:=bcv (v:=.int .i64 a0_1) BK148.out 1 rfl
      have hcz31_2:=bcv (v:=.int .i64 a0_2) BK148.out 2 rfl
      have hfz31_0:=blk_frozen BK148.out 0
      have hfz31_1:=blk_frozen BK148.out 1
      have hfz31_2:=blk_frozen BK148.out 2
      go_wp2_with ((refine Kd.R_make (Kd.int .i64) _ 2 rfl (N:=30) rfl 22 _ _ rfl a0_0 rfl rfl Try.underlying22 (.int .i64 0) 8 info2 rfl (by decide) (by omega) 0 (ok:=fun _=>True) (okp:=fun _=>True) rfl (fun _ hk=>hk) trivial (of_decide_eq_true (by with_reducible assumption)) (Nat.le_trans (Nat.mul_le_mul_right _ (of_decide_eq_true (by with_reducible assumption) : a0_0.toNat ≤ 35184372088832)) (by omega)) (Below.refl _ _) (Nat.le_refl _) ?_;intro v154 w32 ho33 hb hg_ hnew_;clear hg_ hnew_;(rw [← Ny153.out] at ho33);have HO155:=M0 (Kd.R_lower ho33 (below_size HB.out));replace BK148:=M0 (blk_below BK148.out hb);replace HB:=M0 (below_step HB.out hb);clear hb ho33;have hcz34_0:=bcv (v:=.int .i64 a0_0) BK148.out 0 rfl;have hcz34_1:=bcv (v:=.int .i64 a0_1) BK148.out 1 rfl;have hcz34_2:=bcv (v:=.int .i64 a0_2) BK148.out 2 rfl;have hfz34_0:=blk_frozen BK148.out 0;have hfz34_1:=blk_frozen BK148.out 1;have hfz34_2:=blk_frozen BK148.out 2))
      repeat (go_quiet (first|(refine Kd.R_make (Kd.int .i64) _ 2 rfl (N:=30) rfl 22 _ _ rfl a0_0 rfl rfl Try.underlying22 (.int .i64 0) 8 info2 rfl (by decide) (by omega) 0 (ok:=fun _=>True) (okp:=fun _=>True) rfl (fun _ hk=>hk) trivial (of_decide_eq_true (by first|(with_reducible assumption)|assumption)) (Nat.le_trans (Nat.mul_le_mul_right _ (of_decide_eq_true (by first|(with_reducible assumption)|assumption) : a0_0.toNat ≤ 35184372088832)) (by omega)) (Below.refl _ _) (Nat.le_refl _) ?_;intro v154 w32 ho33 hb hg_ hnew_;clear hg_ hnew_;(first|rw [← Ny153.out] at ho33|(simp only [Int.reduceToNat] at ho33;rw [← Ny153.out] at ho33));have HO155:=M0 (Kd.R_lower ho33 (below_size (by repeat (first|(with_reducible first|exact HB.out|apply below_alloc|apply pw_below_drewN|apply below_drew1|refine below_set ?_ GE148.out)|exact HB.out))));replace BK148:=M0 (blk_below (g:=gb148) (o:=.cells #[.int .i64 a0_0,.int .i64 a0_1,.int .i64 a0_2] 43 (0,0)) (by (with_reducible repeat (first|refine blk_drewN ?_ _|refine blk_drew ?_|refine blk_alloc ?_ _));exact BK148.out) hb);replace HB:=M0 (below_step (by repeat (first|(with_reducible first|exact HB.out|apply below_alloc|apply pw_below_drewN|apply below_drew1|refine below_set ?_ GE148.out)|exact HB.out)) hb);clear hb ho33;have hcz34_0:=bcv (v:=.int .i64 a0_0) BK148.out 0 rfl;have hcz34_1:=bcv (v:=.int .i64 a0_1) BK148.out 1 rfl;have hcz34_2:=bcv (v:=.int .i64 a0_2) BK148.out 2 rfl;have hfz34_0:=blk_frozen BK148.out 0;have hfz34_1:=blk_frozen BK148.out 1;have hfz34_2:=blk_frozen BK148.out 2));try go_wp2_with (first|(refine Kd.R_make (Kd.int .i64) _ 2 rfl (N:=30) rfl 22 _ _ rfl a0_0 rfl rfl Try.underlying22 (.int .i64 0) 8 info2 rfl (by decide) (by omega) 0 (ok:=fun _=>True) (okp:=fun _=>True) rfl (fun _ hk=>hk) trivial (of_decide_eq_true (by first|(with_reducible assumption)|assumption)) (Nat.le_trans (Nat.mul_le_mul_right _ (of_decide_eq_true (by first|(with_reducible assumption)|assumption) : a0_0.toNat ≤ 35184372088832)) (by omega)) (Below.refl _ _) (Nat.le_refl _) ?_;intro v154 w32 ho33 hb hg_ hnew_;clear hg_ hnew_;(first|rw [← Ny153.out] at ho33|(simp only [Int.reduceToNat] at ho33;rw [← Ny153.out] at ho33));have HO155:=M0 (Kd.R_lower ho33 (below_size (by repeat (first|(with_reducible first|exact HB.out|apply below_alloc|apply pw_below_drewN|apply below_drew1|refine below_set ?_ GE148.out)|exact HB.out))));replace BK148:=M0 (blk_below (g:=gb148) (o:=.cells #[.int .i64 a0_0,.int .i64 a0_1,.int .i64 a0_2] 43 (0,0)) (by (with_reducible repeat (first|refine blk_drewN ?_ _|refine blk_drew ?_|refine blk_alloc ?_ _));exact BK148.out) hb);replace HB:=M0 (below_step (by repeat (first|(with_reducible first|exact HB.out|apply below_alloc|apply pw_below_drewN|apply below_drew1|refine below_set ?_ GE148.out)|exact HB.out)) hb);clear hb ho33;have hcz34_0:=bcv (v:=.int .i64 a0_0) BK148.out 0 rfl;have hcz34_1:=bcv (v:=.int .i64 a0_1) BK148.out 1 rfl;have hcz34_2:=bcv (v:=.int .i64 a0_2) BK148.out 2 rfl;have hfz34_0:=blk_frozen BK148.out 0;have hfz34_1:=blk_frozen BK148.out 1;have hfz34_2:=blk_frozen BK148.out 2)))
      go_loopg [6] kj2 (fun kq v6 w'=>∃ (x5_2 : List Int) (x6_2 : Int),v6 = .int .i64 x6_2 ∧ Aside0 (spec_CodeRow.l0 kq a1 x5_2 x6_2 a0_0 a0_1 a0_2 = some r) ∧ Aside0 (kq ≤ kj2) ∧ Aside0 (Kd.R (Kd.int .i64) 2 w' w.heap.size (fun _=>True) v154 x5_2) ∧ Aside0 (w'.heap[gb148]? = some (.cells #[.int .i64 a0_0,.int .i64 a0_1,.int .i64 a0_2] 43 (0,0))) ∧ Aside0 (Below w.heap.size w w'))
      case atStart=>exact ⟨(y153),(0),(by rfl),H',⟨Nat.le_refl _⟩,⟨by exact HO155.out⟩,⟨by exact BK148.out⟩,⟨HB.out⟩⟩
      case round=>
       clear H'
       (try clear c18b0);(try clear c18b1);(try clear c19b0);(try clear c19b1);(try clear c20b0);(try clear c30b0);(try clear hcz31_0);(try clear hcz31_1);(try clear hcz31_2);(try clear hcz34_0);(try clear hcz34_1);(try clear hcz34_2);(try clear hfz31_0);(try clear hfz31_1);(try clear hfz31_2);(try clear hfz34_0);(try clear hfz34_1);(try clear hfz34_2)
       obtain ⟨x5_2,x6_2,rfl,HA,HK2,HO_5,BK148,HB⟩:=hrel
       cases gk with
       | zero=>exact absurd HA.out (by simp [spec_CodeRow.l0])
       | succ k2=>
        have H:=HA.out
        clear HA
        simp only [spec_CodeRow.l0] at H
        by_cases c35 : x6_2 < a0_0
        ·rw [if_pos c35] at H
         have c35b0:=decide_eq_true c35
         clear c35
         replace H:=Option.bind_eq_some_iff.mp H
         obtain ⟨t157,A360,H⟩:=H
         replace H : (if 0 ≤ x6_2 then (if x6_2 < (x5_2.length : Int) then (spec_CodeRow.l0 k2 a1 (x5_2.set (x6_2 : Int).toNat t157) (wrap64 (x6_2 + 1)) a0_0 a0_1 a0_2) else (none)) else (none)) = some r:=H
         have A36:=M0 A360
         clear A360
         obtain ⟨c37,H⟩:=nn H
         have c37b0:=decide_eq_true c37
         clear c37
         obtain ⟨c38,H⟩:=nn H
         have c38b0:=decide_eq_true c38
         clear c38
         obtain ⟨y158,hy158⟩ : ∃ y_ : List Int,y_ = (x5_2.set (x6_2 : Int).toNat t157):=⟨_,rfl⟩
         rw [← hy158] at H
         have Ny158:=M0 hy158
         clear hy158
         have H':=M0 H
         clear H
         have hcz40_0:=bcv (v:=.int .i64 a0_0) BK148.out 0 rfl
         go_wp2_with (first|(go_at_call 123;(with_reducible refine (spec_Inv8.calls k2 (Go.bits .xor .i64 a1 x6_2) t157 _ A36.out).mono ?_);rintro e w' ⟨rfl,⟨nd,rfl⟩⟩;(try first|exact ⟨rfl,_,World.drewN_drewN _ _ _⟩|exact ⟨rfl,_,Eq.trans (World.drewN_drewN _ _ _) (congrArg (World.drewN _) (Nat.add_assoc _ _ _))⟩);have p39 : 0 ≤ (x6_2 : Int):=of_decide_eq_true (by with_reducible assumption);have q39 : (x6_2 : Int) < ((x5_2.length : Int) : Int):=of_decide_eq_true (by with_reducible assumption);obtain ⟨go39,co39,eo39,gb39,gl39,cl39,HG39⟩:=Kd.R_form HO_5.out (by omega);(cases eo39);have GB39:=M0 gb39;have GG39:=M0 HG39;clear gb39 gl39 HG39;obtain ⟨hx39_0,hf39_0⟩:=Kd.R_celln 0 HO_5.out (x6_2 : Int) p39 q39;replace p39:=eq_true p39;replace q39:=eq_true q39;obtain ⟨hy41_,hz41_⟩:=Kd.R_celln 0 HO_5.out (x6_2 : Int) (of_decide_eq_true (by with_reducible assumption)) (of_decide_eq_true (by with_reducible assumption));have HP41:=Kd.R_putg HO_5.out (x6_2 : Int) t157)|((try (rw [drewN_self wr];generalize hq_ : World.drewN wr _ = wr;have n0_:=M0 (Kd.R_at hq_ HO_5.out);have n1_:=M0 (blk_at hq_ BK148.out);have n2_:=M0 (below_at hq_ HB.out);clear hq_ HO_5 BK148 HB;have HO_5:=n0_;have BK148:=n1_;have HB:=n2_;clear n0_ n1_ n2_;(try (obtain ⟨hy41_,hz41_⟩:=Kd.R_celln 0 HO_5.out (x6_2 : Int) (of_decide_eq_true (by with_reducible assumption)) (of_decide_eq_true (by with_reducible assumption))));(try (have HP41:=Kd.R_putg HO_5.out (x6_2 : Int) t157))));refine store_event (t:=2) (p:=80) (v:=?vo_w42) (w1:=(wr.setCell ⟨go39,(x6_2 : Int).toNat,none⟩ (.int .i64 t157))) ?hg ?ho ?hn ?hr ?_;(case ho=>rfl);(case hg=>rfl);(case hn=>rfl);(case hr=>(go_simp;done));intro w42 hw;have hg : wr.grownBy w42 (some go39):=(by rw [hw];exact HP41.2);have hp_ : Kd.R (Kd.int .i64) 2 w42 w.heap.size (fun _=>True) (.slice (some ⟨go39,0,none⟩) x5_2.length co39) y158:=(by rw [hw,Ny158.out];exact HP41.1);clear HP41;replace BK148:=M0 (blk_grown (g:=gb148) (o:=.cells #[.int .i64 a0_0,.int .i64 a0_1,.int .i64 a0_2] 43 (0,0)) BK148.out hg (Kd.R_ne HO_5.out BK148.out (by decide)));replace HO_5:=M0 (hp_);replace HB:=M0 ((by rw [hw];exact below_set (HB.out) GB39.out : Below w.heap.size w w42));clear hg hw hp_))
         repeat (go_quiet (first|(go_at_call 123;(with_reducible refine (spec_Inv8.calls k2 (Go.bits .xor .i64 a1 x6_2) t157 _ A36.out).mono ?_);rintro e w' ⟨rfl,⟨nd,rfl⟩⟩;(try first|exact ⟨rfl,_,World.drewN_drewN _ _ _⟩|exact ⟨rfl,_,Eq.trans (World.drewN_drewN _ _ _) (congrArg (World.drewN _) (Nat.add_assoc _ _ _))⟩);have p39 : 0 ≤ (x6_2 : Int):=of_decide_eq_true (by first|(with_reducible assumption)|assumption);have q39 : (x6_2 : Int) < ((x5_2.length : Int) : Int):=of_decide_eq_true (by first|(with_reducible assumption)|assumption);obtain ⟨go39,co39,eo39,gb39,gl39,cl39,HG39⟩:=Kd.R_form HO_5.out (by omega);(first|cases eo39|(injection eo39 with ea_ en_ ec_;(first|subst ea_|(injection ea_ with ea_;subst ea_));subst ec_;clear en_));have GB39:=M0 gb39;have GG39:=M0 HG39;clear gb39 gl39 HG39;obtain ⟨hx39_0,hf39_0⟩:=Kd.R_celln 0 HO_5.out (x6_2 : Int) p39 q39;replace p39:=eq_true p39;replace q39:=eq_true q39;obtain ⟨hy41_,hz41_⟩:=Kd.R_celln 0 HO_5.out (x6_2 : Int) (of_decide_eq_true (by first|(with_reducible assumption)|assumption)) (of_decide_eq_true (by first|(with_reducible assumption)|assumption));have HP41:=Kd.R_putg HO_5.out (x6_2 : Int) t157)|((try (rw [drewN_self wr];generalize hq_ : World.drewN wr _ = wr;have n0_:=M0 (Kd.R_at hq_ HO_5.out);have n1_:=M0 (blk_at hq_ BK148.out);have n2_:=M0 (below_at hq_ HB.out);clear hq_ HO_5 BK148 HB;have HO_5:=n0_;have BK148:=n1_;have HB:=n2_;clear n0_ n1_ n2_;(try (obtain ⟨hy41_,hz41_⟩:=Kd.R_celln 0 HO_5.out (x6_2 : Int) (of_decide_eq_true (by first|(with_reducible assumption)|assumption)) (of_decide_eq_true (by first|(with_reducible assumption)|assumption))));(try (have HP41:=Kd.R_putg HO_5.out (x6_2 : Int) t157))));refine store_event (t:=2) (p:=80) (v:=?vo_w42) (w1:=(wr.setCell ⟨go39,(x6_2 : Int).toNat,none⟩ (.int .i64 t157))) ?hg ?ho ?hn ?hr ?_;(case ho=>rfl);(case hg=>rfl);(case hn=>rfl);(case hr=>first|(go_simp;done)|(go_simp;rfl));intro w42 hw;have hg : wr.grownBy w42 (some go39):=(by rw [hw];exact HP41.2);have hp_ : Kd.R (Kd.int .i64) 2 w42 w.heap.size (fun _=>True) (.slice (some ⟨go39,0,none⟩) x5_2.length co39) y158:=(by rw [hw,Ny158.out];exact HP41.1);clear HP41;replace BK148:=M0 (blk_grown (g:=gb148) (o:=.cells #[.int .i64 a0_0,.int .i64 a0_1,.int .i64 a0_2] 43 (0,0)) (by (with_reducible repeat (first|refine blk_drewN ?_ _|refine blk_drew ?_|refine blk_alloc ?_ _));exact BK148.out) hg (Kd.R_ne HO_5.out BK148.out (by decide)));replace HO_5:=M0 (hp_);replace HB:=M0 ((by rw [hw];exact below_set (HB.out) GB39.out : Below w.heap.size w w42));clear hg hw hp_));try go_wp2_with (first|(go_at_call 123;(with_reducible refine (spec_Inv8.calls k2 (Go.bits .xor .i64 a1 x6_2) t157 _ A36.out).mono ?_);rintro e w' ⟨rfl,⟨nd,rfl⟩⟩;(try first|exact ⟨rfl,_,World.drewN_drewN _ _ _⟩|exact ⟨rfl,_,Eq.trans (World.drewN_drewN _ _ _) (congrArg (World.drewN _) (Nat.add_assoc _ _ _))⟩);have p39 : 0 ≤ (x6_2 : Int):=of_decide_eq_true (by first|(with_reducible assumption)|assumption);have q39 : (x6_2 : Int) < ((x5_2.length : Int) : Int):=of_decide_eq_true (by first|(with_reducible assumption)|assumption);obtain ⟨go39,co39,eo39,gb39,gl39,cl39,HG39⟩:=Kd.R_form HO_5.out (by omega);(first|cases eo39|(injection eo39 with ea_ en_ ec_;(first|subst ea_|(injection ea_ with ea_;subst ea_));subst ec_;clear en_));have GB39:=M0 gb39;have GG39:=M0 HG39;clear gb39 gl39 HG39;obtain ⟨hx39_0,hf39_0⟩:=Kd.R_celln 0 HO_5.out (x6_2 : Int) p39 q39;replace p39:=eq_true p39;replace q39:=eq_true q39;obtain ⟨hy41_,hz41_⟩:=Kd.R_celln 0 HO_5.out (x6_2 : Int) (of_decide_eq_true (by first|(with_reducible assumption)|assumption)) (of_decide_eq_true (by first|(with_reducible assumption)|assumption));have HP41:=Kd.R_putg HO_5.out (x6_2 : Int) t157)|((try (rw [drewN_self wr];generalize hq_ : World.drewN wr _ = wr;have n0_:=M0 (Kd.R_at hq_ HO_5.out);have n1_:=M0 (blk_at hq_ BK148.out);have n2_:=M0 (below_at hq_ HB.out);clear hq_ HO_5 BK148 HB;have HO_5:=n0_;have BK148:=n1_;have HB:=n2_;clear n0_ n1_ n2_;(try (obtain ⟨hy41_,hz41_⟩:=Kd.R_celln 0 HO_5.out (x6_2 : Int) (of_decide_eq_true (by first|(with_reducible assumption)|assumption)) (of_decide_eq_true (by first|(with_reducible assumption)|assumption))));(try (have HP41:=Kd.R_putg HO_5.out (x6_2 : Int) t157))));refine store_event (t:=2) (p:=80) (v:=?vo_w42) (w1:=(wr.setCell ⟨go39,(x6_2 : Int).toNat,none⟩ (.int .i64 t157))) ?hg ?ho ?hn ?hr ?_;(case ho=>rfl);(case hg=>rfl);(case hn=>rfl);(case hr=>first|(go_simp;done)|(go_simp;rfl));intro w42 hw;have hg : wr.grownBy w42 (some go39):=(by rw [hw];exact HP41.2);have hp_ : Kd.R (Kd.int .i64) 2 w42 w.heap.size (fun _=>True) (.slice (some ⟨go39,0,none⟩) x5_2.length co39) y158:=(by rw [hw,Ny158.out];exact HP41.1);clear HP41;replace BK148:=M0 (blk_grown (g:=gb148) (o:=.cells #[.int .i64 a0_0,.int .i64 a0_1,.int .i64 a0_2] 43 (0,0)) (by (with_reducible repeat (first|refine blk_drewN ?_ _|refine blk_drew ?_|refine blk_alloc ?_ _));exact BK148.out) hg (Kd.R_ne HO_5.out BK148.out (by decide)));replace HO_5:=M0 (hp_);replace HB:=M0 ((by rw [hw];exact below_set (HB.out) GB39.out : Below w.heap.size w w42));clear hg hw hp_)))
         go_roundg k2
         case measure=>have:=HJ2.out;have:=HK2.out;omega
         case rel=>exact ⟨(y158),(wrap64 (x6_2 + 1)),(by rfl),H',⟨by have:=HJ2.out;have:=HK2.out;omega⟩,⟨by exact HO_5.out⟩,⟨by exact BK148.out⟩,⟨HB.out⟩⟩
        ·rw [if_neg c35] at H
         have c35b0:=decide_eq_false c35
         clear c35
         obtain rfl:=Option.some.inj H
         have hcz43_0:=bcv (v:=.int .i64 a0_0) BK148.out 0 rfl
         go_wp2
         repeat (go_quiet (fail);try go_wp2)
         go_ret
         exact ⟨_,by rfl,by exact HO_5.out,HB.out⟩
     ·rw [if_neg c30] at H
      have c30b0:=decide_eq_false c30
      clear c30
      have H':=M0 H
      clear H
      have hcz44_0:=bcv (v:=.int .i64 a0_0) BK148.out 0 rfl
      have hcz44_1:=bcv (v:=.int .i64 a0_1) BK148.out 1 rfl
      have hcz44_2:=bcv (v:=.int .i64 a0_2) BK148.out 2 rfl
      have hfz44_0:=blk_frozen BK148.out 0
      have hfz44_1:=blk_frozen BK148.out 1
      have hfz44_2:=blk_frozen BK148.out 2
      go_wp2_with ((refine Kd.R_make (Kd.int .i64) _ 2 rfl (N:=30) rfl 22 _ _ rfl a0_0 rfl rfl Try.underlying22 (.int .i64 0) 8 info2 rfl (by decide) (by omega) 0 (ok:=fun _=>True) (okp:=fun _=>True) rfl (fun _ hk=>hk) trivial (of_decide_eq_true (by with_reducible assumption)) (Nat.le_trans (Nat.mul_le_mul_right _ (of_decide_eq_true (by with_reducible assumption) : a0_0.toNat ≤ 35184372088832)) (by omega)) (Below.refl _ _) (Nat.le_refl _) ?_;intro v154 w45 ho46 hb hg_ hnew_;clear hg_ hnew_;(rw [← Ny153.out] at ho46);have HO155:=M0 (Kd.R_lower ho46 (below_size HB.out));replace BK148:=M0 (blk_below BK148.out hb);replace HB:=M0 (below_step HB.out hb);clear hb ho46;have hcz47_0:=bcv (v:=.int .i64 a0_0) BK148.out 0 rfl;have hcz47_1:=bcv (v:=.int .i64 a0_1) BK148.out 1 rfl;have hcz47_2:=bcv (v:=.int .i64 a0_2) BK148.out 2 rfl;have hfz47_0:=blk_frozen BK148.out 0;have hfz47_1:=blk_frozen BK148.out 1;have hfz47_2:=blk_frozen BK148.out 2))
      repeat (go_quiet (first|(refine Kd.R_make (Kd.int .i64) _ 2 rfl (N:=30) rfl 22 _ _ rfl a0_0 rfl rfl Try.underlying22 (.int .i64 0) 8 info2 rfl (by decide) (by omega) 0 (ok:=fun _=>True) (okp:=fun _=>True) rfl (fun _ hk=>hk) trivial (of_decide_eq_true (by first|(with_reducible assumption)|assumption)) (Nat.le_trans (Nat.mul_le_mul_right _ (of_decide_eq_true (by first|(with_reducible assumption)|assumption) : a0_0.toNat ≤ 35184372088832)) (by omega)) (Below.refl _ _) (Nat.le_refl _) ?_;intro v154 w45 ho46 hb hg_ hnew_;clear hg_ hnew_;(first|rw [← Ny153.out] at ho46|(simp only [Int.reduceToNat] at ho46;rw [← Ny153.out] at ho46));have HO155:=M0 (Kd.R_lower ho46 (below_size (by repeat (first|(with_reducible first|exact HB.out|apply below_alloc|apply pw_below_drewN|apply below_drew1|refine below_set ?_ GE148.out)|exact HB.out))));replace BK148:=M0 (blk_below (g:=gb148) (o:=.cells #[.int .i64 a0_0,.int .i64 a0_1,.int .i64 a0_2] 43 (0,0)) (by (with_reducible repeat (first|refine blk_drewN ?_ _|refine blk_drew ?_|refine blk_alloc ?_ _));exact BK148.out) hb);replace HB:=M0 (below_step (by repeat (first|(with_reducible first|exact HB.out|apply below_alloc|apply pw_below_drewN|apply below_drew1|refine below_set ?_ GE148.out)|exact HB.out)) hb);clear hb ho46;have hcz47_0:=bcv (v:=.int .i64 a0_0) BK148.out 0 rfl;have hcz47_1:=bcv (v:=.int .i64 a0_1) BK148.out 1 rfl;have hcz47_2:=bcv (v:=.int .i64 a0_2) BK148.out 2 rfl;have hfz47_0:=blk_frozen BK148.out 0;have hfz47_1:=blk_frozen BK148.out 1;have hfz47_2:=blk_frozen BK148.out 2));try go_wp2_with (first|(refine Kd.R_make (Kd.int .i64) _ 2 rfl (N:=30) rfl 22 _ _ rfl a0_0 rfl rfl Try.underlying22 (.int .i64 0) 8 info2 rfl (by decide) (by omega) 0 (ok:=fun _=>True) (okp:=fun _=>True) rfl (fun _ hk=>hk) trivial (of_decide_eq_true (by first|(with_reducible assumption)|assumption)) (Nat.le_trans (Nat.mul_le_mul_right _ (of_decide_eq_true (by first|(with_reducible assumption)|assumption) : a0_0.toNat ≤ 35184372088832)) (by omega)) (Below.refl _ _) (Nat.le_refl _) ?_;intro v154 w45 ho46 hb hg_ hnew_;clear hg_ hnew_;(first|rw [← Ny153.out] at ho46|(simp only [Int.reduceToNat] at ho46;rw [← Ny153.out] at ho46));have HO155:=M0 (Kd.R_lower ho46 (below_size (by repeat (first|(with_reducible first|exact HB.out|apply below_alloc|apply pw_below_drewN|apply below_drew1|refine below_set ?_ GE148.out)|exact HB.out))));replace BK148:=M0 (blk_below (g:=gb148) (o:=.cells #[.int .i64 a0_0,.int .i64 a0_1,.int .i64 a0_2] 43 (0,0)) (by (with_reducible repeat (first|refine blk_drewN ?_ _|refine blk_drew ?_|refine blk_alloc ?_ _));exact BK148.out) hb);replace HB:=M0 (below_step (by repeat (first|(with_reducible first|exact HB.out|apply below_alloc|apply pw_below_drewN|apply below_drew1|refine below_set ?_ GE148.out)|exact HB.out)) hb);clear hb ho46;have hcz47_0:=bcv (v:=.int .i64 a0_0) BK148.out 0 rfl;have hcz47_1:=bcv (v:=.int .i64 a0_1) BK148.out 1 rfl;have hcz47_2:=bcv (v:=.int .i64 a0_2) BK148.out 2 rfl;have hfz47_0:=blk_frozen BK148.out 0;have hfz47_1:=blk_frozen BK148.out 1;have hfz47_2:=blk_frozen BK148.out 2)))
      go_loopg [7] kj2 (fun kq v7 w'=>∃ (x5_2 : List Int) (x7_2 : Int),v7 = .int .i64 x7_2 ∧ Aside0 (spec_CodeRow.l1 kq a1 x5_2 x7_2 a0_0 a0_1 a0_2 = some r) ∧ Aside0 (kq ≤ kj2) ∧ Aside0 (Kd.R (Kd.int .i64) 2 w' w.heap.size (fun _=>True) v154 x5_2) ∧ Aside0 (w'.heap[gb148]? = some (.cells #[.int .i64 a0_0,.int .i64 a0_1,.int .i64 a0_2] 43 (0,0))) ∧ Aside0 (Below w.heap.size w w'))
      case atStart=>exact ⟨(y153),(0),(by rfl),H',⟨Nat.le_refl _⟩,⟨by exact HO155.out⟩,⟨by exact BK148.out⟩,⟨HB.out⟩⟩
      case round=>
       clear H'
       (try clear c18b0);(try clear c18b1);(try clear c19b0);(try clear c19b1);(try clear c20b0);(try clear c30b0);(try clear hcz44_0);(try clear hcz44_1);(try clear hcz44_2);(try clear hcz47_0);(try clear hcz47_1);(try clear hcz47_2);(try clear hfz44_0);(try clear hfz44_1);(try clear hfz44_2);(try clear hfz47_0);(try clear hfz47_1);(try clear hfz47_2)
       obtain ⟨x5_2,x7_2,rfl,HA,HK2,HO_5,BK148,HB⟩:=hrel
       cases gk with
       | zero=>exact absurd HA.out (by simp [spec_CodeRow.l1])
       | succ k2=>
        have H:=HA.out
        clear HA
        simp only [spec_CodeRow.l1] at H
        by_cases c48 : x7_2 < a0_0
        ·rw [if_pos c48] at H
         have c48b0:=decide_eq_true c48
         clear c48
         by_cases c49 : a0_2 = 0
         ·rw [if_pos c49] at H
          exact absurd H (by simp)
         ·rw [if_neg c49] at H
          have c49b0 : (a0_2 == 0) = false:=beq_eq_false_iff_ne.mpr c49
          have c49b1 : (a0_2 != 0) = true:=bne_iff_ne.mpr c49
          by_cases c50 : (Int.tmod x7_2 a0_2) = (wrap64 ((wrap64 (a1 - a0_0)) - a0_1))
          ·rw [if_pos c50] at H
           have c50b0 : ((Int.tmod x7_2 a0_2) == (wrap64 ((wrap64 (a1 - a0_0)) - a0_1))) = true:=beq_iff_eq.mpr c50
           clear c50
           obtain ⟨c51,H⟩:=nn H
           have c51b0:=decide_eq_true c51
           clear c51
           obtain ⟨c52,H⟩:=nn H
           have c52b0:=decide_eq_true c52
           clear c52
           obtain ⟨y159,hy159⟩ : ∃ y_ : List Int,y_ = (x5_2.set (x7_2 : Int).toNat 1):=⟨_,rfl⟩
           rw [← hy159] at H
           have Ny159:=M0 hy159
           clear hy159
           have H':=M0 H
           clear H
           have hcz54_0:=bcv (v:=.int .i64 a0_0) BK148.out 0 rfl
           have hcz54_1:=bcv (v:=.int .i64 a0_1) BK148.out 1 rfl
           have hcz54_2:=bcv (v:=.int .i64 a0_2) BK148.out 2 rfl
           have p53 : 0 ≤ (x7_2 : Int):=of_decide_eq_true (by with_reducible assumption)
           have q53 : (x7_2 : Int) < ((x5_2.length : Int) : Int):=of_decide_eq_true (by with_reducible assumption)
           obtain ⟨go53,co53,eo53,gb53,gl53,cl53,HG53⟩:=Kd.R_form HO_5.out (by omega)
           (cases eo53)
           have GB53:=M0 gb53
           have GG53:=M0 HG53
           clear gb53 gl53 HG53
           obtain ⟨hx53_0,hf53_0⟩:=Kd.R_celln 0 HO_5.out (x7_2 : Int) p53 q53
           replace p53:=eq_true p53
           replace q53:=eq_true q53
           have HP55:=Kd.R_putg HO_5.out (x7_2 : Int) 1
           go_wp2_with (first|((try (rw [drewN_self wr];generalize hq_ : World.drewN wr _ = wr;have n0_:=M0 (Kd.R_at hq_ HO_5.out);have n1_:=M0 (blk_at hq_ BK148.out);have n2_:=M0 (below_at hq_ HB.out);clear hq_ HO_5 BK148 HB;have HO_5:=n0_;have BK148:=n1_;have HB:=n2_;clear n0_ n1_ n2_;(try (have HP55:=Kd.R_putg HO_5.out (x7_2 : Int) 1))));refine store_event (t:=2) (p:=51) (v:=?vo_w56) (w1:=(wr.setCell ⟨go53,(x7_2 : Int).toNat,none⟩ (.int .i64 1))) ?hg ?ho ?hn ?hr ?_;(case ho=>rfl);(case hg=>rfl);(case hn=>rfl);(case hr=>first|(go_simp;done)|(go_simp;rfl));intro w56 hw;have hg : wr.grownBy w56 (some go53):=(by rw [hw];exact HP55.2);have hp_ : Kd.R (Kd.int .i64) 2 w56 w.heap.size (fun _=>True) (.slice (some ⟨go53,0,none⟩) x5_2.length co53) y159:=(by rw [hw,Ny159.out];exact HP55.1);clear HP55;replace BK148:=M0 (blk_grown (g:=gb148) (o:=.cells #[.int .i64 a0_0,.int .i64 a0_1,.int .i64 a0_2] 43 (0,0)) (by (with_reducible repeat (first|refine blk_drewN ?_ _|refine blk_drew ?_|refine blk_alloc ?_ _));exact BK148.out) hg (Kd.R_ne HO_5.out BK148.out (by decide)));replace HO_5:=M0 (hp_);replace HB:=M0 ((by rw [hw];exact below_set (HB.out) GB53.out : Below w.heap.size w w56));clear hg hw hp_))
           go_quiet (fail)
           go_wp2_with (((try (rw [drewN_self wr];generalize hq_ : World.drewN wr _ = wr;have n0_:=M0 (Kd.R_at hq_ HO_5.out);have n1_:=M0 (blk_at hq_ BK148.out);have n2_:=M0 (below_at hq_ HB.out);clear hq_ HO_5 BK148 HB;have HO_5:=n0_;have BK148:=n1_;have HB:=n2_;clear n0_ n1_ n2_;(try (have HP55:=Kd.R_putg HO_5.out (x7_2 : Int) 1))));(try (obtain ⟨hx53_0,hf53_0⟩:=Kd.R_celln 0 HO_5.out (x7_2 : Int) (of_eq_true p53) (of_eq_true q53)));refine store_event (t:=2) (p:=51) (v:=?vo_w56) (w1:=(wr.setCell ⟨go53,(x7_2 : Int).toNat,none⟩ (.int .i64 1))) ?hg ?ho ?hn ?hr ?_;(case ho=>rfl);(case hg=>rfl);(case hn=>rfl);(case hr=>(go_simp;done));intro w56 hw;have hg : wr.grownBy w56 (some go53):=(by rw [hw];exact HP55.2);have hp_ : Kd.R (Kd.int .i64) 2 w56 w.heap.size (fun _=>True) (.slice (some ⟨go53,0,none⟩) x5_2.length co53) y159:=(by rw [hw,Ny159.out];exact HP55.1);clear HP55;replace BK148:=M0 (blk_grown (g:=gb148) (o:=.cells #[.int .i64 a0_0,.int .i64 a0_1,.int .i64 a0_2] 43 (0,0)) BK148.out hg (Kd.R_ne HO_5.out BK148.out (by decide)));replace HO_5:=M0 (hp_);replace HB:=M0 ((by rw [hw];exact below_set (HB.out) GB53.out : Below w.heap.size w w56));clear hg hw hp_));try go_wp2_with (first|((try (rw [drewN_self wr];generalize hq_ : World.drewN wr _ = wr;have n0_:=M0 (Kd.R_at hq_ HO_5.out);have n1_:=M0 (blk_at hq_ BK148.out);have n2_:=M0 (below_at hq_ HB.out);clear hq_ HO_5 BK148 HB;have HO_5:=n0_;have BK148:=n1_;have HB:=n2_;clear n0_ n1_ n2_;(try (have HP55:=Kd.R_putg HO_5.out (x7_2 : Int) 1))));refine store_event (t:=2) (p:=51) (v:=?vo_w56) (w1:=(wr.setCell ⟨go53,(x7_2 : Int).toNat,none⟩ (.int .i64 1))) ?hg ?ho ?hn ?hr ?_;(case ho=>rfl);(case hg=>rfl);(case hn=>rfl);(case hr=>first|(go_simp;done)|(go_simp;rfl));intro w56 hw;have hg : wr.grownBy w56 (some go53):=(by rw [hw];exact HP55.2);have hp_ : Kd.R (Kd.int .i64) 2 w56 w.heap.size (fun _=>True) (.slice (some ⟨go53,0,none⟩) x5_2.length co53) y159:=(by rw [hw,Ny159.out];exact HP55.1);clear HP55;replace BK148:=M0 (blk_grown (g:=gb148) (o:=.cells #[.int .i64 a0_0,.int .i64 a0_1,.int .i64 a0_2] 43 (0,0)) (by (with_reducible repeat (first|refine blk_drewN ?_ _|refine blk_drew ?_|refine blk_alloc ?_ _));exact BK148.out) hg (Kd.R_ne HO_5.out BK148.out (by decide)));replace HO_5:=M0 (hp_);replace HB:=M0 ((by rw [hw];exact below_set (HB.out) GB53.out : Below w.heap.size w w56));clear hg hw hp_))
           go_roundg k2
           case measure=>have:=HJ2.out;have:=HK2.out;omega
           case rel=>exact ⟨(y159),(wrap64 (x7_2 + 1)),(by rfl),H',⟨by have:=HJ2.out;have:=HK2.out;omega⟩,⟨by exact HO_5.out⟩,⟨by exact BK148.out⟩,⟨HB.out⟩⟩
          ·rw [if_neg c50] at H
           have c50b0 : ((Int.tmod x7_2 a0_2) == (wrap64 ((wrap64 (a1 - a0_0)) - a0_1))) = false:=beq_eq_false_iff_ne.mpr c50
           have H':=M0 H
           clear H
           have hcz57_0:=bcv (v:=.int .i64 a0_0) BK148.out 0 rfl
           have hcz57_1:=bcv (v:=.int .i64 a0_1) BK148.out 1 rfl
           have hcz57_2:=bcv (v:=.int .i64 a0_2) BK148.out 2 rfl
           go_wp2
           repeat (go_quiet (fail);try go_wp2)
           go_roundg k2
           case measure=>have:=HJ2.out;have:=HK2.out;omega
           case rel=>exact ⟨(x5_2),(wrap64 (x7_2 + 1)),(by rfl),H',⟨by have:=HJ2.out;have:=HK2.out;omega⟩,⟨by (with_reducible repeat (apply Kd.R_drewN));exact HO_5.out⟩,⟨by (with_reducible repeat (refine blk_drewN ?_ _));exact BK148.out⟩,⟨by repeat ((with_reducible first|exact HB.out|apply pw_below_drewN))⟩⟩
        ·rw [if_neg c48] at H
         have c48b0:=decide_eq_false c48
         clear c48
         obtain rfl:=Option.some.inj H
         have hcz58_0:=bcv (v:=.int .i64 a0_0) BK148.out 0 rfl
         go_wp2
         repeat (go_quiet (fail);try go_wp2)
         go_ret
         exact ⟨_,by rfl,by exact HO_5.out,HB.out⟩

/-! ### spec_l04All: function 91 -/
def spec_l04All.l0 : Nat → List ByteArray → Int → List ByteArray → Int → Int → Int → Int → Option (List ByteArray)
 | 0,_,_,_,_,_,_,_=>none
 | k + 1,x1,x2,x7,x8,x161000,x161001,x161002=>(spec_CodeSize.f x161000 x161001 x161002).bind fun t164=>(if x8 < t164 then ((spec_CodeRow.f k x161000 x161001 x161002 x8).bind fun t165=>((spec_l04Mix.f k t165 x1 x2).bind fun t168=>(if x7.length < 8796093022208 then (spec_l04All.l0 k x1 x2 (x7 ++ [t168]) (wrap64 (x8 + 1)) x161000 x161001 x161002) else (none)))) else (some x7))
def spec_l04All.f (k : Nat) (a0_0 : Int) (a0_1 : Int) (a0_2 : Int) (l1 : List ByteArray) (a2 : Int) : Option (List ByteArray):=spec_l04All.l0 k l1 a2 (([] : List ByteArray)) 0 a0_0 a0_1 a0_2
set_option maxHeartbeats 8000000 in
set_option maxRecDepth 100000 in
theorem spec_l04All.calls (k : Nat) (a0_0 : Int) (a0_1 : Int) (a0_2 : Int) (A1 : Option Addr) (c1 : Nat) (l1 : List ByteArray) (a2 : Int) (r : List ByteArray) (w : World) (hr1 : Kd.C Kd.string w A1 l1.length l1) (hc1 : l1.length ≤ c1) (h : spec_l04All.f k a0_0 a0_1 a0_2 l1 a2 = some r) :
  Calls Try.prog 91 #[.agg #[.int .i64 a0_0,.int .i64 a0_1,.int .i64 a0_2],.slice A1 l1.length c1,.int .i64 a2] w fun e w'=>∃ v0_ : Value,e = .returned (v0_) ∧ Kd.R Kd.string 9 w' w.heap.size (fun _=>True) v0_ r ∧ Below w.heap.size w w':=by
 have HR1:=M0 hr1
 have HC1:=M0 hc1
 clear hr1 hc1
 have HB:=M0 (Below.refl w.heap.size w)
 have H : (spec_l04All.l0 k l1 a2 (([] : List ByteArray)) 0 a0_0 a0_1 a0_2) = some r:=h
 clear h
 obtain ⟨y161,hy161⟩ : ∃ y_ : List ByteArray,y_ = (([] : List ByteArray)):=⟨_,rfl⟩
 rw [← hy161] at H
 have Ny161:=M0 hy161
 clear hy161
 have H':=M0 H
 clear H
 go_enter Try.func91,Try.ntmps91
 go_wp2_with (first|(refine box_event rfl (N:=3) rfl (cs:=#[.int .i64 a0_0,.int .i64 a0_1,.int .i64 a0_2]) (t:=43) (by go_simp) ?_;intro gb160 hg w4 hbox hb;have BK160:=M0 (hbox);replace HB:=M0 (below_step HB.out hb);clear hb hbox hg)|(refine Kd.R_lit Kd.string _ 9 ?hg (N:=9) ?hd (xs:=([] : List ByteArray)) (inner:=[]) (ok:=fun _=>True) (okp:=fun _=>True) ?hr ?hp (fun _ hk=>hk) trivial (Below.refl _ _) (Nat.le_refl _) (by simp) ?_;(case hd=>rfl);(case hg=>rfl);(case hr=>(go_simp;done));(case hp=>exact (Reps.none _ _));intro v162 w5 ho6 hb hg_ hnew_;clear hg_ hnew_;(rw [← Ny161.out] at ho6);have HO163:=M0 (Kd.R_lower ho6 (below_size HB.out));replace BK160:=M0 (blk_below BK160.out hb);replace HB:=M0 (below_step HB.out hb);clear hb ho6))
 go_loopg [7,8] k (fun kq v7 v8 w'=>∃ (x7_1 : List ByteArray) (x8_1 : Int),v8 = .int .i64 x8_1 ∧ Aside0 (spec_l04All.l0 kq l1 a2 x7_1 x8_1 a0_0 a0_1 a0_2 = some r) ∧ Aside0 (kq ≤ k) ∧ Aside0 (Kd.R Kd.string 9 w' w.heap.size (fun _=>True) v7 x7_1) ∧ Aside0 (w'.heap[gb160]? = some (.cells #[.int .i64 a0_0,.int .i64 a0_1,.int .i64 a0_2] 43 (0,0))) ∧ Aside0 (Below w.heap.size w w'))
 case atStart=>exact ⟨(y161),(0),(by rfl),H',⟨Nat.le_refl _⟩,⟨by exact HO163.out⟩,⟨by exact BK160.out⟩,⟨HB.out⟩⟩
 case round=>
  clear H'
  obtain ⟨x7_1,x8_1,rfl,HA,HK1,HO_7,BK160,HB⟩:=hrel
  cases gk with
  | zero=>exact absurd HA.out (by simp [spec_l04All.l0])
  | succ k1=>
   have H:=HA.out
   clear HA
   simp only [spec_l04All.l0] at H
   replace H:=Option.bind_eq_some_iff.mp H
   obtain ⟨t164,A70,H⟩:=H
   replace H : (if x8_1 < t164 then ((spec_CodeRow.f k1 a0_0 a0_1 a0_2 x8_1).bind fun t165=>((spec_l04Mix.f k1 t165 l1 a2).bind fun t168=>(if x7_1.length < 8796093022208 then (spec_l04All.l0 k1 l1 a2 (x7_1 ++ [t168]) (wrap64 (x8_1 + 1)) a0_0 a0_1 a0_2) else (none)))) else (some x7_1)) = some r:=H
   have A7:=M0 A70
   clear A70
   by_cases c8 : x8_1 < t164
   ·rw [if_pos c8] at H
    have c8b0:=decide_eq_true c8
    clear c8
    replace H:=Option.bind_eq_some_iff.mp H
    obtain ⟨t165,A90,H⟩:=H
    replace H : ((spec_l04Mix.f k1 t165 l1 a2).bind fun t168=>(if x7_1.length < 8796093022208 then (spec_l04All.l0 k1 l1 a2 (x7_1 ++ [t168]) (wrap64 (x8_1 + 1)) a0_0 a0_1 a0_2) else (none))) = some r:=H
    have A9:=M0 A90
    clear A90
    replace H:=Option.bind_eq_some_iff.mp H
    obtain ⟨t168,A100,H⟩:=H
    replace H : (if x7_1.length < 8796093022208 then (spec_l04All.l0 k1 l1 a2 (x7_1 ++ [t168]) (wrap64 (x8_1 + 1)) a0_0 a0_1 a0_2) else (none)) = some r:=H
    have A10:=M0 A100
    clear A100
    obtain ⟨c11,H⟩:=nn H
    have LMc11:=M0 c11
    clear c11
    obtain ⟨y169,hy169⟩ : ∃ y_ : List ByteArray,y_ = (x7_1 ++ [t168]):=⟨_,rfl⟩
    rw [← hy169] at H
    have Ny169:=M0 hy169
    clear hy169
    have H':=M0 H
    clear H
    have hcz12_0:=bcv (v:=.int .i64 a0_0) BK160.out 0 rfl
    have hcz12_1:=bcv (v:=.int .i64 a0_1) BK160.out 1 rfl
    have hcz12_2:=bcv (v:=.int .i64 a0_2) BK160.out 2 rfl
    go_wp2_with (first|(refine goesL_ (some 12) rfl rfl Try.func97 (by kernel_rfl) rfl #[.agg #[.int .i64 a0_0,.int .i64 a0_1,.int .i64 a0_2]] rfl (by (try simp only [List.map_toArray,List.map_cons,List.map_nil]);rfl) ?_;(with_reducible refine (spec_CodeSize.calls a0_0 a0_1 a0_2 t164 _ A7.out).mono ?_);rintro e w13 ⟨rfl,hb⟩;refine ⟨_,rfl,?_⟩;replace HO_7:=M0 (Kd.R_below HO_7.out hb);replace BK160:=M0 (blk_below BK160.out hb);replace HB:=M0 (below_step HB.out hb);clear hb;have hcz14_0:=bcv (v:=.int .i64 a0_0) BK160.out 0 rfl;have hcz14_1:=bcv (v:=.int .i64 a0_1) BK160.out 1 rfl;have hcz14_2:=bcv (v:=.int .i64 a0_2) BK160.out 2 rfl)|(refine goesL_ (some 19) rfl rfl Try.func128 (by kernel_rfl) rfl #[.agg #[.int .i64 a0_0,.int .i64 a0_1,.int .i64 a0_2],.int .i64 x8_1] rfl (by (try simp only [List.map_toArray,List.map_cons,List.map_nil]);rfl) ?_;(with_reducible refine (spec_CodeRow.calls k1 a0_0 a0_1 a0_2 x8_1 t165 _ A9.out).mono ?_);rintro e w15 ⟨v166,rfl,ho0,hb⟩;refine ⟨_,rfl,?_⟩;replace HO_7:=M0 (Kd.R_below HO_7.out hb);have HO167:=M0 (Kd.R_lower ho0 (below_size HB.out));replace BK160:=M0 (blk_below BK160.out hb);replace HB:=M0 (below_step HB.out hb);clear hb ho0;obtain ⟨Ao16,co16,eo16⟩:=Kd.R_slice HO167.out;subst eo16)|(refine goesL_ (some 22) rfl rfl Try.func127 (by kernel_rfl) rfl #[.slice Ao16 t165.length co16,.slice A1 l1.length c1,.int .i64 a2] rfl (by (try simp only [List.map_toArray,List.map_cons,List.map_nil]);rfl) ?_;(with_reducible refine (spec_l04Mix.calls k1 _ _ t165 _ _ l1 a2 t168 _ (Kd.R_reads' HO167.out).2.2 (Kd.R_reads' HO167.out).2.1 (Kd.C_below HR1.out HB.out) HC1.out A10.out).mono ?_);rintro e w17 ⟨rfl,hb⟩;refine ⟨_,rfl,?_⟩;replace HO_7:=M0 (Kd.R_below HO_7.out hb);replace HO167:=M0 (Kd.R_below HO167.out hb);replace BK160:=M0 (blk_below BK160.out hb);replace HB:=M0 (below_step HB.out hb);clear hb)|(at_builtin;refine Kd.R_append Kd.string (w0:=w) w.heap.size rfl (.tmp 16) (.tmp 23) 56 9 (.string ⟨#[]⟩) 16 rfl Try.underlying56 info9 rfl (by decide) (by omega) u7 x7_1 t168 [.string t168] (fun _=>True) (fun _=>False) rfl rfl ?aP (fun _ hk=>hk.elim) ?aF ?aO ?aB ?aS ?aL ?_;(case aP=>exact rfl);(case aB=>exact HB.out);(case aF=>exact (fun _ _=>trivial));(case aO=>exact HO_7.out);(case aS=>exact (below_size HB.out));(case aL=>have:=LMc11.out;omega);intro v170 w18 ho hb hg hat;rw [← Ny169.out] at ho;have n0_:=M0 (blk_grown (g:=gb160) (o:=.cells #[.int .i64 a0_0,.int .i64 a0_1,.int .i64 a0_2] 43 (0,0)) BK160.out hg (Kd.R_ne HO_7.out BK160.out (by decide)));have n1_:=M0 (Kd.R_over' HO167.out (Kd.R_typed HO_7.out) (by decide) hg);have n2_:=M0 (hb);have n3_:=M0 (ho);clear BK160 HO167 HB HO_7;have BK160:=n0_;have HO167:=n1_;have HB:=n2_;have HO171:=n3_;clear n0_ n1_ n2_ n3_ ho hb hg hat))
    go_roundg k1
    case measure=>have:=HK1.out;omega
    case rel=>exact ⟨(y169),(wrap64 (x8_1 + 1)),(by rfl),H',⟨by have:=HK1.out;omega⟩,⟨by exact HO171.out⟩,⟨by exact BK160.out⟩,⟨HB.out⟩⟩
   ·rw [if_neg c8] at H
    have c8b0:=decide_eq_false c8
    clear c8
    obtain rfl:=Option.some.inj H
    have hcz19_0:=bcv (v:=.int .i64 a0_0) BK160.out 0 rfl
    have hcz19_1:=bcv (v:=.int .i64 a0_1) BK160.out 1 rfl
    have hcz19_2:=bcv (v:=.int .i64 a0_2) BK160.out 2 rfl
    go_wp2_with ((refine goesL_ (some 12) rfl rfl Try.func97 (by kernel_rfl) rfl #[.agg #[.int .i64 a0_0,.int .i64 a0_1,.int .i64 a0_2]] rfl (by (try simp only [List.map_toArray,List.map_cons,List.map_nil]);rfl) ?_;(with_reducible refine (spec_CodeSize.calls a0_0 a0_1 a0_2 t164 _ A7.out).mono ?_);rintro e w20 ⟨rfl,hb⟩;refine ⟨_,rfl,?_⟩;replace HO_7:=M0 (Kd.R_below HO_7.out hb);replace BK160:=M0 (blk_below BK160.out hb);replace HB:=M0 (below_step HB.out hb);clear hb))
    go_ret
    exact ⟨_,by rfl,by exact HO_7.out,HB.out⟩

end Go.Proofs.Ytffhbpepppodeaa.PFnRepaired
