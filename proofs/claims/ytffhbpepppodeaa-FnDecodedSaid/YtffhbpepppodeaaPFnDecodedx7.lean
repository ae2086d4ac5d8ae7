import Derived.Test.YtffhbpepppodeaaPFnDecodedx0
import Derived.Test.YtffhbpepppodeaaPFnDecodedx5
import Derived.Test.YtffhbpepppodeaaPFnDecodedx6
namespace Go.Proofs.Ytffhbpepppodeaa.PFnDecoded
private theorem nn {α : Type} {c : Prop} [Decidable c] {a : Option α} {r : α} (h : (if c then a else none) = some r) : c ∧ a = some r:=by
 split at h
 ·exact ⟨‹c›,h⟩
 ·cases h
open Go.RowKit Go.Proofs.YtffhbpepppodeaaW.PrintWords Go.Proofs.YtffhbpepppodeaaW.PrintLast Go.Proofs.YtffhbpepppodeaaW.PrintMore
attribute [local go_sem] cJ cL dn dp cw cy cM cN   -- for this text's walks alone
set_option linter.unusedVariables false
set_option linter.unusedSimpArgs false

/-! ### aM: function 128 -/
mutual
def aM.j0 : Nat → Int → Bool → Int → Int → Int → Option (List Int)
 | 0,_,_,_,_,_=>none
 | k + 1,x1,x26,x153000,x153001,x153002=>if x26 = true then (some (([] : List Int))) else (if 0 ≤ x153000 then (if (x153000 : Int).toNat ≤ 35184372088832 then ((some (List.replicate (x153000 : Int).toNat 0 : List Int)).bind fun y157=>(if x1 < x153000 then (if 0 ≤ x1 then (if x1 < (y157.length : Int) then (some (y157.set (x1 : Int).toNat 1)) else (none)) else (none)) else (if x1 < (wrap64 (x153000 + x153001)) then (aM.l0 k x1 y157 0 x153000 x153001 x153002) else (aM.l1 k x1 y157 0 x153000 x153001 x153002)))) else (none)) else (none))
def aM.l0 : Nat → Int → List Int → Int → Int → Int → Int → Option (List Int)
 | 0,_,_,_,_,_,_=>none
 | k + 1,x1,x5,x6,x153000,x153001,x153002=>if x6 < x153000 then ((bN.f k (Go.bits .xor .i64 x1 x6)).bind fun t161=>(if 0 ≤ x6 then (if x6 < (x5.length : Int) then (aM.l0 k x1 (x5.set (x6 : Int).toNat t161) (wrap64 (x6 + 1)) x153000 x153001 x153002) else (none)) else (none))) else (some x5)
def aM.l1 : Nat → Int → List Int → Int → Int → Int → Int → Option (List Int)
 | 0,_,_,_,_,_,_=>none
 | k + 1,x1,x5,x7,x153000,x153001,x153002=>if x7 < x153000 then (if x153002 = 0 then (none) else (if (Int.tmod x7 x153002) = (wrap64 ((wrap64 (x1 - x153000)) - x153001)) then (if 0 ≤ x7 then (if x7 < (x5.length : Int) then (aM.l1 k x1 (x5.set (x7 : Int).toNat 1) (wrap64 (x7 + 1)) x153000 x153001 x153002) else (none)) else (none)) else (aM.l1 k x1 x5 (wrap64 (x7 + 1)) x153000 x153001 x153002))) else (some x5)
end
def aM.f (k : Nat) (a0_0 : Int) (a0_1 : Int) (a0_2 : Int) (a1 : Int) : Option (List Int):=(bd.f a0_0 a0_1 a0_2).bind fun t153=>(if t153 = 0 then (if a1 < 0 then (aM.j0 k a1 true a0_0 a0_1 a0_2) else (aM.j0 k a1 (decide (a1 ≥ (wrap64 ((wrap64 (a0_0 + a0_1)) + a0_2)))) a0_0 a0_1 a0_2)) else (aM.j0 k a1 true a0_0 a0_1 a0_2))
set_option maxHeartbeats 8000000 in
set_option maxRecDepth 100000 in
theorem aM.calls (k : Nat) (a0_0 : Int) (a0_1 : Int) (a0_2 : Int) (a1 : Int) (r : List Int) (w : World) (h : aM.f k a0_0 a0_1 a0_2 a1 = some r) :
  Calls Try.prog 128 #[.agg #[.int .i64 a0_0,.int .i64 a0_1,.int .i64 a0_2],.int .i64 a1] w fun e w'=>∃ v0_ : Value,e = .returned (v0_) ∧ Kd.R (Kd.int .i64) 2 w' w.heap.size (fun _=>True) v0_ r ∧ Below w.heap.size w w':=by
 have HB:=M0 (Below.refl w.heap.size w)
 have H : ((bd.f a0_0 a0_1 a0_2).bind fun t153=>(if t153 = 0 then (if a1 < 0 then (aM.j0 k a1 true a0_0 a0_1 a0_2) else (aM.j0 k a1 (decide (a1 ≥ (wrap64 ((wrap64 (a0_0 + a0_1)) + a0_2)))) a0_0 a0_1 a0_2)) else (aM.j0 k a1 true a0_0 a0_1 a0_2))) = some r:=h
 clear h
 have HC3:=M0 H
 clear H
 go_enter Try.func128,Try.ntmps128
 go_upto_region 1 with ((refine az rfl (N:=2) rfl (cs:=#[.int .i64 a0_0,.int .i64 a0_1,.int .i64 a0_2]) (t:=43) (by go_simp) ?_;intro gb152 hg w4 hbox hb;have BK152:=M0 (hbox);replace HB:=M0 (ab HB.out hb);clear hb hbox hg))
 repeat (go_quiet (first|(refine az ?hg (N:=2) ?hd (cs:=#[.int .i64 a0_0,.int .i64 a0_1,.int .i64 a0_2]) (t:=43) ?hr ?_;(case hd=>rfl);(case hg=>rfl);(case hr=>first|(go_simp;done)|(go_simp;rfl));intro gb152 hg w4 hbox hb;have BK152:=M0 (hbox);have GW152:=M0 ((by rw [hg];exact (av (by repeat (first|(with_reducible first|exact HB.out|apply bg|apply aK|apply a7)|exact HB.out))) : w.heap.size ≤ gb152));have GE152:=M0 ((by rw [hg];exact (av (by repeat (first|(with_reducible first|exact HB.out|apply bg|apply aK|apply a7)|exact HB.out))) : w.heap.size ≤ gb152));replace HB:=M0 (ab (by repeat (first|(with_reducible first|exact HB.out|apply bg|apply aK|apply a7)|exact HB.out)) hb);clear hb hbox hg));go_upto_region 1 with (first|(refine az ?hg (N:=2) ?hd (cs:=#[.int .i64 a0_0,.int .i64 a0_1,.int .i64 a0_2]) (t:=43) ?hr ?_;(case hd=>rfl);(case hg=>rfl);(case hr=>first|(go_simp;done)|(go_simp;rfl));intro gb152 hg w4 hbox hb;have BK152:=M0 (hbox);have GW152:=M0 ((by rw [hg];exact (av (by repeat (first|(with_reducible first|exact HB.out|apply bg|apply aK|apply a7)|exact HB.out))) : w.heap.size ≤ gb152));have GE152:=M0 ((by rw [hg];exact (av (by repeat (first|(with_reducible first|exact HB.out|apply bg|apply aK|apply a7)|exact HB.out))) : w.heap.size ≤ gb152));replace HB:=M0 (ab (by repeat (first|(with_reducible first|exact HB.out|apply bg|apply aK|apply a7)|exact HB.out)) hb);clear hb hbox hg)))
 go_cut [26] (fun v26 wc=>∃ (kq : Nat) (x26_2 : Bool),v26 = .bool x26_2 ∧ Aside0 (aM.j0 kq a1 x26_2 a0_0 a0_1 a0_2 = some r) ∧ Aside0 (kq ≤ k) ∧ Aside0 (wc.heap[gb152]? = some (.cells #[.int .i64 a0_0,.int .i64 a0_1,.int .i64 a0_2] 43 (0,0))) ∧ Aside0 (Below w.heap.size w wc))
 case first=>
  have H:=HC3.out
  clear HC3
  replace H:=Option.bind_eq_some_iff.mp H
  obtain ⟨t153,A50,H⟩:=H
  replace H : (if t153 = 0 then (if a1 < 0 then (aM.j0 k a1 true a0_0 a0_1 a0_2) else (aM.j0 k a1 (decide (a1 ≥ (wrap64 ((wrap64 (a0_0 + a0_1)) + a0_2)))) a0_0 a0_1 a0_2)) else (aM.j0 k a1 true a0_0 a0_1 a0_2)) = some r:=H
  have A5:=M0 A50
  clear A50
  by_cases c6 : t153 = 0
  ·rw [if_pos c6] at H
   have c6b0 : (t153 == 0) = true:=beq_iff_eq.mpr c6
   have c6b1 : (t153 != 0) = false:=bne_eq_false_iff_eq.mpr c6
   clear c6
   (skip)
   by_cases c7 : a1 < 0
   ·rw [if_pos c7] at H
    have c7b0:=decide_eq_true c7
    clear c7
    have H':=M0 H
    clear H
    have hcz8_0:=bcv (v:=.int .i64 a0_0) BK152.out 0 rfl
    have hcz8_1:=bcv (v:=.int .i64 a0_1) BK152.out 1 rfl
    have hcz8_2:=bcv (v:=.int .i64 a0_2) BK152.out 2 rfl
    go_wp2_with ((go_at_call 89;(with_reducible refine (bd.calls a0_0 a0_1 a0_2 t153 _ A5.out).mono ?_);rintro e w9 ⟨rfl,hb⟩;replace BK152:=M0 (ag BK152.out hb);replace HB:=M0 (ab HB.out hb);clear hb))
    repeat (go_quiet (first|(go_at_call 89;(with_reducible refine (bd.calls a0_0 a0_1 a0_2 t153 _ A5.out).mono ?_);rintro e w9 ⟨rfl,hb⟩;replace BK152:=M0 (ag (g:=gb152) (o:=.cells #[.int .i64 a0_0,.int .i64 a0_1,.int .i64 a0_2] 43 (0,0)) (by (with_reducible repeat (first|refine bx ?_ _|refine bn ?_|refine blk_alloc ?_ _));exact BK152.out) hb);replace HB:=M0 (ab (by repeat (first|(with_reducible first|exact HB.out|apply bg|apply aK|apply a7|refine ay ?_ GE152.out)|exact HB.out)) hb);clear hb hb2 hk hi));try go_wp2_with (first|(go_at_call 89;(with_reducible refine (bd.calls a0_0 a0_1 a0_2 t153 _ A5.out).mono ?_);rintro e w9 ⟨rfl,hb⟩;replace BK152:=M0 (ag (g:=gb152) (o:=.cells #[.int .i64 a0_0,.int .i64 a0_1,.int .i64 a0_2] 43 (0,0)) (by (with_reducible repeat (first|refine bx ?_ _|refine bn ?_|refine blk_alloc ?_ _));exact BK152.out) hb);replace HB:=M0 (ab (by repeat (first|(with_reducible first|exact HB.out|apply bg|apply aK|apply a7|refine ay ?_ GE152.out)|exact HB.out)) hb);clear hb hb2 hk hi)))
    go_meet
    case rel=>exact ⟨_,(true),(by rfl),H',⟨by omega⟩,⟨by exact BK152.out⟩,⟨HB.out⟩⟩
   ·rw [if_neg c7] at H
    have c7b0:=decide_eq_false c7
    clear c7
    have H':=M0 H
    clear H
    have hcz10_0:=bcv (v:=.int .i64 a0_0) BK152.out 0 rfl
    have hcz10_1:=bcv (v:=.int .i64 a0_1) BK152.out 1 rfl
    have hcz10_2:=bcv (v:=.int .i64 a0_2) BK152.out 2 rfl
    go_wp2_with ((go_at_call 89;(with_reducible refine (bd.calls a0_0 a0_1 a0_2 t153 _ A5.out).mono ?_);rintro e w11 ⟨rfl,hb⟩;replace BK152:=M0 (ag BK152.out hb);replace HB:=M0 (ab HB.out hb);clear hb;have hcz12_0:=bcv (v:=.int .i64 a0_0) BK152.out 0 rfl;have hcz12_1:=bcv (v:=.int .i64 a0_1) BK152.out 1 rfl;have hcz12_2:=bcv (v:=.int .i64 a0_2) BK152.out 2 rfl))
    repeat (go_quiet (first|(go_at_call 89;(with_reducible refine (bd.calls a0_0 a0_1 a0_2 t153 _ A5.out).mono ?_);rintro e w11 ⟨rfl,hb⟩;replace BK152:=M0 (ag (g:=gb152) (o:=.cells #[.int .i64 a0_0,.int .i64 a0_1,.int .i64 a0_2] 43 (0,0)) (by (with_reducible repeat (first|refine bx ?_ _|refine bn ?_|refine blk_alloc ?_ _));exact BK152.out) hb);replace HB:=M0 (ab (by repeat (first|(with_reducible first|exact HB.out|apply bg|apply aK|apply a7|refine ay ?_ GE152.out)|exact HB.out)) hb);clear hb hb2 hk hi;have hcz12_0:=bcv (v:=.int .i64 a0_0) BK152.out 0 rfl;have hcz12_1:=bcv (v:=.int .i64 a0_1) BK152.out 1 rfl;have hcz12_2:=bcv (v:=.int .i64 a0_2) BK152.out 2 rfl;have hfz12_0:=aa BK152.out 0;have hfz12_1:=aa BK152.out 1;have hfz12_2:=aa BK152.out 2));try go_wp2_with (first|(go_at_call 89;(with_reducible refine (bd.calls a0_0 a0_1 a0_2 t153 _ A5.out).mono ?_);rintro e w11 ⟨rfl,hb⟩;replace BK152:=M0 (ag (g:=gb152) (o:=.cells #[.int .i64 a0_0,.int .i64 a0_1,.int .i64 a0_2] 43 (0,0)) (by (with_reducible repeat (first|refine bx ?_ _|refine bn ?_|refine blk_alloc ?_ _));exact BK152.out) hb);replace HB:=M0 (ab (by repeat (first|(with_reducible first|exact HB.out|apply bg|apply aK|apply a7|refine ay ?_ GE152.out)|exact HB.out)) hb);clear hb hb2 hk hi;have hcz12_0:=bcv (v:=.int .i64 a0_0) BK152.out 0 rfl;have hcz12_1:=bcv (v:=.int .i64 a0_1) BK152.out 1 rfl;have hcz12_2:=bcv (v:=.int .i64 a0_2) BK152.out 2 rfl;have hfz12_0:=aa BK152.out 0;have hfz12_1:=aa BK152.out 1;have hfz12_2:=aa BK152.out 2)))
    go_meet
    case rel=>exact ⟨_,(decide (a1 ≥ (wrap64 ((wrap64 (a0_0 + a0_1)) + a0_2)))),(by rfl),H',⟨by omega⟩,⟨by exact BK152.out⟩,⟨HB.out⟩⟩
  ·rw [if_neg c6] at H
   have c6b1 : (t153 != 0) = true:=bne_iff_ne.mpr c6
   (skip)
   have H':=M0 H
   clear H
   have hcz13_0:=bcv (v:=.int .i64 a0_0) BK152.out 0 rfl
   have hcz13_1:=bcv (v:=.int .i64 a0_1) BK152.out 1 rfl
   have hcz13_2:=bcv (v:=.int .i64 a0_2) BK152.out 2 rfl
   go_wp2_with ((go_at_call 89;(with_reducible refine (bd.calls a0_0 a0_1 a0_2 t153 _ A5.out).mono ?_);rintro e w14 ⟨rfl,hb⟩;replace BK152:=M0 (ag BK152.out hb);replace HB:=M0 (ab HB.out hb);clear hb))
   repeat (go_quiet (first|(go_at_call 89;(with_reducible refine (bd.calls a0_0 a0_1 a0_2 t153 _ A5.out).mono ?_);rintro e w14 ⟨rfl,hb⟩;replace BK152:=M0 (ag (g:=gb152) (o:=.cells #[.int .i64 a0_0,.int .i64 a0_1,.int .i64 a0_2] 43 (0,0)) (by (with_reducible repeat (first|refine bx ?_ _|refine bn ?_|refine blk_alloc ?_ _));exact BK152.out) hb);replace HB:=M0 (ab (by repeat (first|(with_reducible first|exact HB.out|apply bg|apply aK|apply a7|refine ay ?_ GE152.out)|exact HB.out)) hb);clear hb hb2 hk hi));try go_wp2_with (first|(go_at_call 89;(with_reducible refine (bd.calls a0_0 a0_1 a0_2 t153 _ A5.out).mono ?_);rintro e w14 ⟨rfl,hb⟩;replace BK152:=M0 (ag (g:=gb152) (o:=.cells #[.int .i64 a0_0,.int .i64 a0_1,.int .i64 a0_2] 43 (0,0)) (by (with_reducible repeat (first|refine bx ?_ _|refine bn ?_|refine blk_alloc ?_ _));exact BK152.out) hb);replace HB:=M0 (ab (by repeat (first|(with_reducible first|exact HB.out|apply bg|apply aK|apply a7|refine ay ?_ GE152.out)|exact HB.out)) hb);clear hb hb2 hk hi)))
   go_meet
   case rel=>exact ⟨_,(true),(by rfl),H',⟨by omega⟩,⟨by exact BK152.out⟩,⟨HB.out⟩⟩
 case rest=>
  clear HC3
  obtain ⟨kq,x26_2,rfl,HA,HJ2,BK152,HB⟩:=hcut
  cases kq with
  | zero=>exact absurd HA.out (by simp [aM.j0])
  | succ kj2=>
   have H:=HA.out
   clear HA
   simp only [aM.j0] at H
   by_cases c15 : x26_2 = true
   ·subst c15
    have H1 : (some (([] : List Int))) = some r:=by rw [if_pos rfl] at H;exact H
    clear H
    have H:=H1
    clear H1
    obtain ⟨y154,hy154⟩ : ∃ y_ : List Int,y_ = (([] : List Int)):=⟨_,rfl⟩
    rw [← hy154] at H
    have Ny154:=M0 hy154
    clear hy154
    obtain rfl:=Option.some.inj H
    go_wp2_with ((refine Kd.dR (Kd.int .i64) _ 2 ?hg (N:=27) ?hd (xs:=([] : List Int)) (inner:=[]) (ok:=fun _=>True) (okp:=fun _=>True) ?hr ?hp (fun _ hk=>hk) trivial (Below.refl _ _) (Nat.le_refl _) (by simp) ?_;(case hd=>rfl);(case hg=>rfl);(case hr=>(go_simp;done));(case hp=>exact (Reps.none _ _));intro v155 w16 ho17 hb hg_ hnew_;clear hg_ hnew_;(rw [← Ny154.out] at ho17);have HO156:=M0 (Kd.bh ho17 (av HB.out));replace BK152:=M0 (ag BK152.out hb);replace HB:=M0 (ab HB.out hb);clear hb ho17))
    repeat (go_quiet (first|(refine Kd.dR (Kd.int .i64) _ 2 ?hg (N:=27) ?hd (xs:=([] : List Int)) (inner:=[]) (ok:=fun _=>True) (okp:=fun _=>True) ?hr ?hp (fun _ hk=>hk) trivial (Below.refl _ _) (Nat.le_refl _) (by simp) ?_;(case hd=>rfl);(case hg=>rfl);(case hr=>first|(go_simp;done)|(go_simp;rfl));(case hp=>exact (Reps.none _ _));intro v155 w16 ho17 hb hg_ hnew_;clear hg_ hnew_;(first|rw [← Ny154.out] at ho17|(simp only [Int.reduceToNat] at ho17;rw [← Ny154.out] at ho17));have HO156:=M0 (Kd.bh ho17 (av (by repeat (first|(with_reducible first|exact HB.out|apply bg|apply aK|apply a7|refine ay ?_ GE152.out)|exact HB.out))));replace BK152:=M0 (ag (g:=gb152) (o:=.cells #[.int .i64 a0_0,.int .i64 a0_1,.int .i64 a0_2] 43 (0,0)) (by (with_reducible repeat (first|refine bx ?_ _|refine bn ?_|refine blk_alloc ?_ _));exact BK152.out) hb);replace HB:=M0 (ab (by repeat (first|(with_reducible first|exact HB.out|apply bg|apply aK|apply a7|refine ay ?_ GE152.out)|exact HB.out)) hb);clear hb ho17));try go_wp2_with (first|(refine Kd.dR (Kd.int .i64) _ 2 ?hg (N:=27) ?hd (xs:=([] : List Int)) (inner:=[]) (ok:=fun _=>True) (okp:=fun _=>True) ?hr ?hp (fun _ hk=>hk) trivial (Below.refl _ _) (Nat.le_refl _) (by simp) ?_;(case hd=>rfl);(case hg=>rfl);(case hr=>first|(go_simp;done)|(go_simp;rfl));(case hp=>exact (Reps.none _ _));intro v155 w16 ho17 hb hg_ hnew_;clear hg_ hnew_;(first|rw [← Ny154.out] at ho17|(simp only [Int.reduceToNat] at ho17;rw [← Ny154.out] at ho17));have HO156:=M0 (Kd.bh ho17 (av (by repeat (first|(with_reducible first|exact HB.out|apply bg|apply aK|apply a7|refine ay ?_ GE152.out)|exact HB.out))));replace BK152:=M0 (ag (g:=gb152) (o:=.cells #[.int .i64 a0_0,.int .i64 a0_1,.int .i64 a0_2] 43 (0,0)) (by (with_reducible repeat (first|refine bx ?_ _|refine bn ?_|refine blk_alloc ?_ _));exact BK152.out) hb);replace HB:=M0 (ab (by repeat (first|(with_reducible first|exact HB.out|apply bg|apply aK|apply a7|refine ay ?_ GE152.out)|exact HB.out)) hb);clear hb ho17)))
    go_ret
    exact ⟨_,by rfl,by exact HO156.out,HB.out⟩
   ·replace c15:=Bool.eq_false_iff.mpr c15
    subst c15
    have H1 : (if 0 ≤ a0_0 then (if (a0_0 : Int).toNat ≤ 35184372088832 then ((some (List.replicate (a0_0 : Int).toNat 0 : List Int)).bind fun y157=>(if a1 < a0_0 then (if 0 ≤ a1 then (if a1 < (y157.length : Int) then (some (y157.set (a1 : Int).toNat 1)) else (none)) else (none)) else (if a1 < (wrap64 (a0_0 + a0_1)) then (aM.l0 kj2 a1 y157 0 a0_0 a0_1 a0_2) else (aM.l1 kj2 a1 y157 0 a0_0 a0_1 a0_2)))) else (none)) else (none)) = some r:=by rw [if_neg (show ¬ (false = true) by decide)] at H;exact H
    clear H
    have H:=H1
    clear H1
    obtain ⟨c18,H⟩:=nn H
    have c18b0:=eq_true c18
    have c18b1:=decide_eq_true c18
    clear c18
    obtain ⟨c19,H⟩:=nn H
    have c19b0:=eq_true c19
    have c19b1:=decide_eq_true c19
    clear c19
    obtain ⟨y157,hy157⟩ : ∃ y_ : List Int,y_ = (List.replicate (a0_0 : Int).toNat 0):=⟨_,rfl⟩
    replace H : (if a1 < a0_0 then (if 0 ≤ a1 then (if a1 < (y157.length : Int) then (some (y157.set (a1 : Int).toNat 1)) else (none)) else (none)) else (if a1 < (wrap64 (a0_0 + a0_1)) then (aM.l0 kj2 a1 y157 0 a0_0 a0_1 a0_2) else (aM.l1 kj2 a1 y157 0 a0_0 a0_1 a0_2))) = some r:=by (have H2_:=(Option.bind_some _ _).symm.trans H;rw [hy157];with_reducible exact H2_)
    have Ny157:=M0 hy157
    clear hy157
    by_cases c20 : a1 < a0_0
    ·rw [if_pos c20] at H
     have c20b0:=decide_eq_true c20
     clear c20
     obtain ⟨c21,H⟩:=nn H
     have c21b0:=decide_eq_true c21
     clear c21
     obtain ⟨c22,H⟩:=nn H
     have c22b0:=decide_eq_true c22
     clear c22
     obtain ⟨y160,hy160⟩ : ∃ y_ : List Int,y_ = (y157.set (a1 : Int).toNat 1):=⟨_,rfl⟩
     rw [← hy160] at H
     have Ny160:=M0 hy160
     clear hy160
     obtain rfl:=Option.some.inj H
     have hcz24_0:=bcv (v:=.int .i64 a0_0) BK152.out 0 rfl
     go_wp2_with (first|(refine Kd.ec (Kd.int .i64) _ 2 rfl (N:=30) rfl 22 _ _ rfl a0_0 rfl rfl Try.underlying22 (.int .i64 0) 8 dY rfl (by decide) (by omega) 0 (ok:=fun _=>True) (okp:=fun _=>True) rfl (fun _ hk=>hk) trivial (of_decide_eq_true (by with_reducible assumption)) (Nat.le_trans (Nat.mul_le_mul_right _ (of_decide_eq_true (by with_reducible assumption) : a0_0.toNat ≤ 35184372088832)) (by omega)) (Below.refl _ _) (Nat.le_refl _) ?_;intro v158 w25 ho26 hb hg_ hnew_;clear hg_ hnew_;(rw [← Ny157.out] at ho26);have HO159:=M0 (Kd.bh ho26 (av HB.out));replace BK152:=M0 (ag BK152.out hb);replace HB:=M0 (ab HB.out hb);clear hb ho26;have hcz27_0:=bcv (v:=.int .i64 a0_0) BK152.out 0 rfl;have p23 : 0 ≤ (a1 : Int):=of_decide_eq_true (by with_reducible assumption);have q23 : (a1 : Int) < ((y157.length : Int) : Int):=of_decide_eq_true (by with_reducible assumption);obtain ⟨go23,co23,eo23,gb23,gl23,cl23,HG23⟩:=Kd.dA HO159.out (by omega);(cases eo23);have GB23:=M0 gb23;have GG23:=M0 HG23;clear gb23 gl23 HG23;obtain ⟨hx23_0,hf23_0⟩:=Kd.bR 0 HO159.out (a1 : Int) p23 q23;replace p23:=eq_true p23;replace q23:=eq_true q23;obtain ⟨hy28_,hz28_⟩:=Kd.bR 0 HO159.out (a1 : Int) (of_decide_eq_true (by with_reducible assumption)) (of_decide_eq_true (by with_reducible assumption));have HP28:=Kd.du HO159.out (a1 : Int) 1)|(refine bO (t:=2) (p:=59) (v:=?vo_w29) (w1:=(w25.setCell ⟨go23,(a1 : Int).toNat,none⟩ (.int .i64 1))) ?hg ?ho ?hn ?hr ?_;(case ho=>rfl);(case hg=>rfl);(case hn=>rfl);(case hr=>(go_simp;done));intro w29 hw;have hg : w25.grownBy w29 (some go23):=(by rw [hw];exact HP28.2);have hp_ : Kd.R (Kd.int .i64) 2 w29 w.heap.size (fun _=>True) (.slice (some ⟨go23,0,none⟩) y157.length co23) y160:=(by rw [hw,Ny160.out];exact HP28.1);clear HP28;replace BK152:=M0 (bf (g:=gb152) (o:=.cells #[.int .i64 a0_0,.int .i64 a0_1,.int .i64 a0_2] 43 (0,0)) BK152.out hg (Kd.R_ne HO159.out BK152.out (by decide)));replace HO159:=M0 (hp_);replace HB:=M0 ((by rw [hw];exact ay (HB.out) GB23.out : Below w.heap.size w w29));clear hg hw hp_))
     repeat (go_quiet (first|(refine Kd.ec (Kd.int .i64) _ 2 rfl (N:=30) rfl 22 _ _ rfl a0_0 rfl rfl Try.underlying22 (.int .i64 0) 8 dY rfl (by decide) (by omega) 0 (ok:=fun _=>True) (okp:=fun _=>True) rfl (fun _ hk=>hk) trivial (of_decide_eq_true (by first|(with_reducible assumption)|assumption)) (Nat.le_trans (Nat.mul_le_mul_right _ (of_decide_eq_true (by first|(with_reducible assumption)|assumption) : a0_0.toNat ≤ 35184372088832)) (by omega)) (Below.refl _ _) (Nat.le_refl _) ?_;intro v158 w25 ho26 hb hg_ hnew_;clear hg_ hnew_;(first|rw [← Ny157.out] at ho26|(simp only [Int.reduceToNat] at ho26;rw [← Ny157.out] at ho26));have HO159:=M0 (Kd.bh ho26 (av (by repeat (first|(with_reducible first|exact HB.out|apply bg|apply aK|apply a7|refine ay ?_ GE152.out)|exact HB.out))));replace BK152:=M0 (ag (g:=gb152) (o:=.cells #[.int .i64 a0_0,.int .i64 a0_1,.int .i64 a0_2] 43 (0,0)) (by (with_reducible repeat (first|refine bx ?_ _|refine bn ?_|refine blk_alloc ?_ _));exact BK152.out) hb);replace HB:=M0 (ab (by repeat (first|(with_reducible first|exact HB.out|apply bg|apply aK|apply a7|refine ay ?_ GE152.out)|exact HB.out)) hb);clear hb ho26;have hcz27_0:=bcv (v:=.int .i64 a0_0) BK152.out 0 rfl;have hcz27_1:=bcv (v:=.int .i64 a0_1) BK152.out 1 rfl;have hcz27_2:=bcv (v:=.int .i64 a0_2) BK152.out 2 rfl;have hfz27_0:=aa BK152.out 0;have hfz27_1:=aa BK152.out 1;have hfz27_2:=aa BK152.out 2;have p23 : 0 ≤ (a1 : Int):=of_decide_eq_true (by first|(with_reducible assumption)|assumption);have q23 : (a1 : Int) < ((y157.length : Int) : Int):=of_decide_eq_true (by first|(with_reducible assumption)|assumption);obtain ⟨go23,co23,eo23,gb23,gl23,cl23,HG23⟩:=Kd.dA HO159.out (by omega);(first|cases eo23|(injection eo23 with ea_ en_ ec_;(first|subst ea_|(injection ea_ with ea_;subst ea_));subst ec_;clear en_));have GB23:=M0 gb23;have GG23:=M0 HG23;clear gb23 gl23 HG23;obtain ⟨hx23_0,hf23_0⟩:=Kd.bR 0 HO159.out (a1 : Int) p23 q23;replace p23:=eq_true p23;replace q23:=eq_true q23;obtain ⟨hy28_,hz28_⟩:=Kd.bR 0 HO159.out (a1 : Int) (of_decide_eq_true (by first|(with_reducible assumption)|assumption)) (of_decide_eq_true (by first|(with_reducible assumption)|assumption));have HP28:=Kd.du HO159.out (a1 : Int) 1)|((try (rw [dw w25];generalize hq_ : World.drewN w25 _ = w25;have n0_:=M0 (Kd.R_at hq_ HO159.out);have n1_:=M0 (blk_at hq_ BK152.out);have n2_:=M0 (below_at hq_ HB.out);clear hq_ HO159 BK152 HB;have HO159:=n0_;have BK152:=n1_;have HB:=n2_;clear n0_ n1_ n2_;(try (obtain ⟨hy28_,hz28_⟩:=Kd.bR 0 HO159.out (a1 : Int) (of_decide_eq_true (by first|(with_reducible assumption)|assumption)) (of_decide_eq_true (by first|(with_reducible assumption)|assumption))));(try (have HP28:=Kd.du HO159.out (a1 : Int) 1))));refine bO (t:=2) (p:=59) (v:=?vo_w29) (w1:=(w25.setCell ⟨go23,(a1 : Int).toNat,none⟩ (.int .i64 1))) ?hg ?ho ?hn ?hr ?_;(case ho=>rfl);(case hg=>rfl);(case hn=>rfl);(case hr=>first|(go_simp;done)|(go_simp;rfl));intro w29 hw;have hg : w25.grownBy w29 (some go23):=(by rw [hw];exact HP28.2);have hp_ : Kd.R (Kd.int .i64) 2 w29 w.heap.size (fun _=>True) (.slice (some ⟨go23,0,none⟩) y157.length co23) y160:=(by rw [hw,Ny160.out];exact HP28.1);clear HP28;replace BK152:=M0 (bf (g:=gb152) (o:=.cells #[.int .i64 a0_0,.int .i64 a0_1,.int .i64 a0_2] 43 (0,0)) (by (with_reducible repeat (first|refine bx ?_ _|refine bn ?_|refine blk_alloc ?_ _));exact BK152.out) hg (Kd.R_ne HO159.out BK152.out (by decide)));replace HO159:=M0 (hp_);replace HB:=M0 ((by rw [hw];exact ay (HB.out) GB23.out : Below w.heap.size w w29));clear hg hw hp_));try go_wp2_with (first|(refine Kd.ec (Kd.int .i64) _ 2 rfl (N:=30) rfl 22 _ _ rfl a0_0 rfl rfl Try.underlying22 (.int .i64 0) 8 dY rfl (by decide) (by omega) 0 (ok:=fun _=>True) (okp:=fun _=>True) rfl (fun _ hk=>hk) trivial (of_decide_eq_true (by first|(with_reducible assumption)|assumption)) (Nat.le_trans (Nat.mul_le_mul_right _ (of_decide_eq_true (by first|(with_reducible assumption)|assumption) : a0_0.toNat ≤ 35184372088832)) (by omega)) (Below.refl _ _) (Nat.le_refl _) ?_;intro v158 w25 ho26 hb hg_ hnew_;clear hg_ hnew_;(first|rw [← Ny157.out] at ho26|(simp only [Int.reduceToNat] at ho26;rw [← Ny157.out] at ho26));have HO159:=M0 (Kd.bh ho26 (av (by repeat (first|(with_reducible first|exact HB.out|apply bg|apply aK|apply a7|refine ay ?_ GE152.out)|exact HB.out))));replace BK152:=M0 (ag (g:=gb152) (o:=.cells #[.int .i64 a0_0,.int .i64 a0_1,.int .i64 a0_2] 43 (0,0)) (by (with_reducible repeat (first|refine bx ?_ _|refine bn ?_|refine blk_alloc ?_ _));exact BK152.out) hb);replace HB:=M0 (ab (by repeat (first|(with_reducible first|exact HB.out|apply bg|apply aK|apply a7|refine ay ?_ GE152.out)|exact HB.out)) hb);clear hb ho26;have hcz27_0:=bcv (v:=.int .i64 a0_0) BK152.out 0 rfl;have hcz27_1:=bcv (v:=.int .i64 a0_1) BK152.out 1 rfl;have hcz27_2:=bcv (v:=.int .i64 a0_2) BK152.out 2 rfl;have hfz27_0:=aa BK152.out 0;have hfz27_1:=aa BK152.out 1;have hfz27_2:=aa BK152.out 2;have p23 : 0 ≤ (a1 : Int):=of_decide_eq_true (by first|(with_reducible assumption)|assumption);have q23 : (a1 : Int) < ((y157.length : Int) : Int):=of_decide_eq_true (by first|(with_reducible assumption)|assumption);obtain ⟨go23,co23,eo23,gb23,gl23,cl23,HG23⟩:=Kd.dA HO159.out (by omega);(first|cases eo23|(injection eo23 with ea_ en_ ec_;(first|subst ea_|(injection ea_ with ea_;subst ea_));subst ec_;clear en_));have GB23:=M0 gb23;have GG23:=M0 HG23;clear gb23 gl23 HG23;obtain ⟨hx23_0,hf23_0⟩:=Kd.bR 0 HO159.out (a1 : Int) p23 q23;replace p23:=eq_true p23;replace q23:=eq_true q23;obtain ⟨hy28_,hz28_⟩:=Kd.bR 0 HO159.out (a1 : Int) (of_decide_eq_true (by first|(with_reducible assumption)|assumption)) (of_decide_eq_true (by first|(with_reducible assumption)|assumption));have HP28:=Kd.du HO159.out (a1 : Int) 1)|((try (rw [dw w25];generalize hq_ : World.drewN w25 _ = w25;have n0_:=M0 (Kd.R_at hq_ HO159.out);have n1_:=M0 (blk_at hq_ BK152.out);have n2_:=M0 (below_at hq_ HB.out);clear hq_ HO159 BK152 HB;have HO159:=n0_;have BK152:=n1_;have HB:=n2_;clear n0_ n1_ n2_;(try (obtain ⟨hy28_,hz28_⟩:=Kd.bR 0 HO159.out (a1 : Int) (of_decide_eq_true (by first|(with_reducible assumption)|assumption)) (of_decide_eq_true (by first|(with_reducible assumption)|assumption))));(try (have HP28:=Kd.du HO159.out (a1 : Int) 1))));refine bO (t:=2) (p:=59) (v:=?vo_w29) (w1:=(w25.setCell ⟨go23,(a1 : Int).toNat,none⟩ (.int .i64 1))) ?hg ?ho ?hn ?hr ?_;(case ho=>rfl);(case hg=>rfl);(case hn=>rfl);(case hr=>first|(go_simp;done)|(go_simp;rfl));intro w29 hw;have hg : w25.grownBy w29 (some go23):=(by rw [hw];exact HP28.2);have hp_ : Kd.R (Kd.int .i64) 2 w29 w.heap.size (fun _=>True) (.slice (some ⟨go23,0,none⟩) y157.length co23) y160:=(by rw [hw,Ny160.out];exact HP28.1);clear HP28;replace BK152:=M0 (bf (g:=gb152) (o:=.cells #[.int .i64 a0_0,.int .i64 a0_1,.int .i64 a0_2] 43 (0,0)) (by (with_reducible repeat (first|refine bx ?_ _|refine bn ?_|refine blk_alloc ?_ _));exact BK152.out) hg (Kd.R_ne HO159.out BK152.out (by decide)));replace HO159:=M0 (hp_);replace HB:=M0 ((by rw [hw];exact ay (HB.out) GB23.out : Below w.heap.size w w29));clear hg hw hp_)))
     go_ret
     exact ⟨_,by rfl,by exact HO159.out,HB.out⟩
    ·rw [if_neg c20] at H
     have c20b0:=decide_eq_false c20
     clear c20
     by_cases c30 : a1 < (wrap64 (a0_0 + a0_1))
     ·rw [if_pos c30] at H
      have c30b0:=decide_eq_true c30
      clear c30
      have H':=M0 H
      clear H
      have hcz31_0:=bcv (v:=.int .i64 a0_0) BK152.out 0 rfl
      have hcz31_1:=bcv (v:=.int .i64 a0_1) BK152.out 1 rfl
      have hcz31_2:=bcv (v:=.int .i64 a0_2) BK152.out 2 rfl
      have hfz31_0:=aa BK152.out 0
      have hfz31_1:=aa BK152.out 1
      have hfz31_2:=aa BK152.out 2
      go_wp2_with ((refine Kd.ec (Kd.int .i64) _ 2 rfl (N:=30) rfl 22 _ _ rfl a0_0 rfl rfl Try.underlying22 (.int .i64 0) 8 dY rfl (by decide) (by omega) 0 (ok:=fun _=>True) (okp:=fun _=>True) rfl (fun _ hk=>hk) trivial (of_decide_eq_true (by with_reducible assumption)) (Nat.le_trans (Nat.mul_le_mul_right _ (of_decide_eq_true (by with_reducible assumption) : a0_0.toNat ≤ 35184372088832)) (by omega)) (Below.refl _ _) (Nat.le_refl _) ?_;intro v158 w32 ho33 hb hg_ hnew_;clear hg_ hnew_;(rw [← Ny157.out] at ho33);have HO159:=M0 (Kd.bh ho33 (av HB.out));replace BK152:=M0 (ag BK152.out hb);replace HB:=M0 (ab HB.out hb);clear hb ho33;have hcz34_0:=bcv (v:=.int .i64 a0_0) BK152.out 0 rfl;have hcz34_1:=bcv (v:=.int .i64 a0_1) BK152.out 1 rfl;have hcz34_2:=bcv (v:=.int .i64 a0_2) BK152.out 2 rfl;have hfz34_0:=aa BK152.out 0;have hfz34_1:=aa BK152.out 1;have hfz34_2:=aa BK152.out 2))
      repeat (go_quiet (first|(refine Kd.ec (Kd.int .i64) _ 2 rfl (N:=30) rfl 22 _ _ rfl a0_0 rfl rfl Try.underlying22 (.int .i64 0) 8 dY rfl (by decide) (by omega) 0 (ok:=fun _=>True) (okp:=fun _=>True) rfl (fun _ hk=>hk) trivial (of_decide_eq_true (by first|(with_reducible assumption)|assumption)) (Nat.le_trans (Nat.mul_le_mul_right _ (of_decide_eq_true (by first|(with_reducible assumption)|assumption) : a0_0.toNat ≤ 35184372088832)) (by omega)) (Below.refl _ _) (Nat.le_refl _) ?_;intro v158 w32 ho33 hb hg_ hnew_;clear hg_ hnew_;(first|rw [← Ny157.out] at ho33|(simp only [Int.reduceToNat] at ho33;rw [← Ny157.out] at ho33));have HO159:=M0 (Kd.bh ho33 (av (by repeat (first|(with_reducible first|exact HB.out|apply bg|apply aK|apply a7|refine ay ?_ GE152.out)|exact HB.out))));replace BK152:=M0 (ag (g:=gb152) (o:=.cells #[.int .i64 a0_0,.int .i64 a0_1,.int .i64 a0_2] 43 (0,0)) (by (with_reducible repeat (first|refine bx ?_ _|refine bn ?_|refine blk_alloc ?_ _));exact BK152.out) hb);replace HB:=M0 (ab (by repeat (first|(with_reducible first|exact HB.out|apply bg|apply aK|apply a7|refine ay ?_ GE152.out)|exact HB.out)) hb);clear hb ho33;have hcz34_0:=bcv (v:=.int .i64 a0_0) BK152.out 0 rfl;have hcz34_1:=bcv (v:=.int .i64 a0_1) BK152.out 1 rfl;have hcz34_2:=bcv (v:=.int .i64 a0_2) BK152.out 2 rfl;have hfz34_0:=aa BK152.out 0;have hfz34_1:=aa BK152.out 1;have hfz34_2:=aa BK152.out 2));try go_wp2_with (first|(refine Kd.ec (Kd.int .i64) _ 2 rfl (N:=30) rfl 22 _ _ rfl a0_0 rfl rfl Try.underlying22 (.int .i64 0) 8 dY rfl (by decide) (by omega) 0 (ok:=fun _=>True) (okp:=fun _=>True) rfl (fun _ hk=>hk) trivial (of_decide_eq_true (by first|(with_reducible assumption)|assumption)) (Nat.le_trans (Nat.mul_le_mul_right _ (of_decide_eq_true (by first|(with_reducible assumption)|assumption) : a0_0.toNat ≤ 35184372088832)) (by omega)) (Below.refl _ _) (Nat.le_refl _) ?_;intro v158 w32 ho33 hb hg_ hnew_;clear hg_ hnew_;(first|rw [← Ny157.out] at ho33|(simp only [Int.reduceToNat] at ho33;rw [← Ny157.out] at ho33));have HO159:=M0 (Kd.bh ho33 (av (by repeat (first|(with_reducible first|exact HB.out|apply bg|apply aK|apply a7|refine ay ?_ GE152.out)|exact HB.out))));replace BK152:=M0 (ag (g:=gb152) (o:=.cells #[.int .i64 a0_0,.int .i64 a0_1,.int .i64 a0_2] 43 (0,0)) (by (with_reducible repeat (first|refine bx ?_ _|refine bn ?_|refine blk_alloc ?_ _));exact BK152.out) hb);replace HB:=M0 (ab (by repeat (first|(with_reducible first|exact HB.out|apply bg|apply aK|apply a7|refine ay ?_ GE152.out)|exact HB.out)) hb);clear hb ho33;have hcz34_0:=bcv (v:=.int .i64 a0_0) BK152.out 0 rfl;have hcz34_1:=bcv (v:=.int .i64 a0_1) BK152.out 1 rfl;have hcz34_2:=bcv (v:=.int .i64 a0_2) BK152.out 2 rfl;have hfz34_0:=aa BK152.out 0;have hfz34_1:=aa BK152.out 1;have hfz34_2:=aa BK152.out 2)))
      go_loopg [6] kj2 (fun kq v6 w'=>∃ (x5_2 : List Int) (x6_2 : Int),v6 = .int .i64 x6_2 ∧ Aside0 (aM.l0 kq a1 x5_2 x6_2 a0_0 a0_1 a0_2 = some r) ∧ Aside0 (kq ≤ kj2) ∧ Aside0 (Kd.R (Kd.int .i64) 2 w' w.heap.size (fun _=>True) v158 x5_2) ∧ Aside0 (w'.heap[gb152]? = some (.cells #[.int .i64 a0_0,.int .i64 a0_1,.int .i64 a0_2] 43 (0,0))) ∧ Aside0 (Below w.heap.size w w'))
      case atStart=>exact ⟨(y157),(0),(by rfl),H',⟨Nat.le_refl _⟩,⟨by exact HO159.out⟩,⟨by exact BK152.out⟩,⟨HB.out⟩⟩
      case round=>
       clear H'
       (try clear c18b0);(try clear c18b1);(try clear c19b0);(try clear c19b1);(try clear c20b0);(try clear c30b0);(try clear hcz31_0);(try clear hcz31_1);(try clear hcz31_2);(try clear hcz34_0);(try clear hcz34_1);(try clear hcz34_2);(try clear hfz31_0);(try clear hfz31_1);(try clear hfz31_2);(try clear hfz34_0);(try clear hfz34_1);(try clear hfz34_2)
       obtain ⟨x5_2,x6_2,rfl,HA,HK2,HO_5,BK152,HB⟩:=hrel
       cases gk with
       | zero=>exact absurd HA.out (by simp [aM.l0])
       | succ k2=>
        have H:=HA.out
        clear HA
        simp only [aM.l0] at H
        by_cases c35 : x6_2 < a0_0
        ·rw [if_pos c35] at H
         have c35b0:=decide_eq_true c35
         clear c35
         replace H:=Option.bind_eq_some_iff.mp H
         obtain ⟨t161,A360,H⟩:=H
         replace H : (if 0 ≤ x6_2 then (if x6_2 < (x5_2.length : Int) then (aM.l0 k2 a1 (x5_2.set (x6_2 : Int).toNat t161) (wrap64 (x6_2 + 1)) a0_0 a0_1 a0_2) else (none)) else (none)) = some r:=H
         have A36:=M0 A360
         clear A360
         obtain ⟨c37,H⟩:=nn H
         have c37b0:=decide_eq_true c37
         clear c37
         obtain ⟨c38,H⟩:=nn H
         have c38b0:=decide_eq_true c38
         clear c38
         obtain ⟨y162,hy162⟩ : ∃ y_ : List Int,y_ = (x5_2.set (x6_2 : Int).toNat t161):=⟨_,rfl⟩
         rw [← hy162] at H
         have Ny162:=M0 hy162
         clear hy162
         have H':=M0 H
         clear H
         have hcz40_0:=bcv (v:=.int .i64 a0_0) BK152.out 0 rfl
         go_wp2_with (first|(go_at_call 123;(with_reducible refine (bN.calls k2 (Go.bits .xor .i64 a1 x6_2) t161 _ A36.out).mono ?_);rintro e w' ⟨rfl,⟨nd,rfl⟩⟩;(try first|exact ⟨rfl,_,World.drewN_drewN _ _ _⟩|exact ⟨rfl,_,Eq.trans (World.drewN_drewN _ _ _) (congrArg (World.drewN _) (Nat.add_assoc _ _ _))⟩);have p39 : 0 ≤ (x6_2 : Int):=of_decide_eq_true (by with_reducible assumption);have q39 : (x6_2 : Int) < ((x5_2.length : Int) : Int):=of_decide_eq_true (by with_reducible assumption);obtain ⟨go39,co39,eo39,gb39,gl39,cl39,HG39⟩:=Kd.dA HO_5.out (by omega);(cases eo39);have GB39:=M0 gb39;have GG39:=M0 HG39;clear gb39 gl39 HG39;obtain ⟨hx39_0,hf39_0⟩:=Kd.bR 0 HO_5.out (x6_2 : Int) p39 q39;replace p39:=eq_true p39;replace q39:=eq_true q39;obtain ⟨hy41_,hz41_⟩:=Kd.bR 0 HO_5.out (x6_2 : Int) (of_decide_eq_true (by with_reducible assumption)) (of_decide_eq_true (by with_reducible assumption));have HP41:=Kd.du HO_5.out (x6_2 : Int) t161)|((try (rw [dw wr];generalize hq_ : World.drewN wr _ = wr;have n0_:=M0 (Kd.R_at hq_ HO_5.out);have n1_:=M0 (blk_at hq_ BK152.out);have n2_:=M0 (below_at hq_ HB.out);clear hq_ HO_5 BK152 HB;have HO_5:=n0_;have BK152:=n1_;have HB:=n2_;clear n0_ n1_ n2_;(try (obtain ⟨hy41_,hz41_⟩:=Kd.bR 0 HO_5.out (x6_2 : Int) (of_decide_eq_true (by with_reducible assumption)) (of_decide_eq_true (by with_reducible assumption))));(try (have HP41:=Kd.du HO_5.out (x6_2 : Int) t161))));refine bO (t:=2) (p:=80) (v:=?vo_w42) (w1:=(wr.setCell ⟨go39,(x6_2 : Int).toNat,none⟩ (.int .i64 t161))) ?hg ?ho ?hn ?hr ?_;(case ho=>rfl);(case hg=>rfl);(case hn=>rfl);(case hr=>(go_simp;done));intro w42 hw;have hg : wr.grownBy w42 (some go39):=(by rw [hw];exact HP41.2);have hp_ : Kd.R (Kd.int .i64) 2 w42 w.heap.size (fun _=>True) (.slice (some ⟨go39,0,none⟩) x5_2.length co39) y162:=(by rw [hw,Ny162.out];exact HP41.1);clear HP41;replace BK152:=M0 (bf (g:=gb152) (o:=.cells #[.int .i64 a0_0,.int .i64 a0_1,.int .i64 a0_2] 43 (0,0)) BK152.out hg (Kd.R_ne HO_5.out BK152.out (by decide)));replace HO_5:=M0 (hp_);replace HB:=M0 ((by rw [hw];exact ay (HB.out) GB39.out : Below w.heap.size w w42));clear hg hw hp_))
         repeat (go_quiet (first|(go_at_call 123;(with_reducible refine (bN.calls k2 (Go.bits .xor .i64 a1 x6_2) t161 _ A36.out).mono ?_);rintro e w' ⟨rfl,⟨nd,rfl⟩⟩;(try first|exact ⟨rfl,_,World.drewN_drewN _ _ _⟩|exact ⟨rfl,_,Eq.trans (World.drewN_drewN _ _ _) (congrArg (World.drewN _) (Nat.add_assoc _ _ _))⟩);have p39 : 0 ≤ (x6_2 : Int):=of_decide_eq_true (by first|(with_reducible assumption)|assumption);have q39 : (x6_2 : Int) < ((x5_2.length : Int) : Int):=of_decide_eq_true (by first|(with_reducible assumption)|assumption);obtain ⟨go39,co39,eo39,gb39,gl39,cl39,HG39⟩:=Kd.dA HO_5.out (by omega);(first|cases eo39|(injection eo39 with ea_ en_ ec_;(first|subst ea_|(injection ea_ with ea_;subst ea_));subst ec_;clear en_));have GB39:=M0 gb39;have GG39:=M0 HG39;clear gb39 gl39 HG39;obtain ⟨hx39_0,hf39_0⟩:=Kd.bR 0 HO_5.out (x6_2 : Int) p39 q39;replace p39:=eq_true p39;replace q39:=eq_true q39;obtain ⟨hy41_,hz41_⟩:=Kd.bR 0 HO_5.out (x6_2 : Int) (of_decide_eq_true (by first|(with_reducible assumption)|assumption)) (of_decide_eq_true (by first|(with_reducible assumption)|assumption));have HP41:=Kd.du HO_5.out (x6_2 : Int) t161)|((try (rw [dw wr];generalize hq_ : World.drewN wr _ = wr;have n0_:=M0 (Kd.R_at hq_ HO_5.out);have n1_:=M0 (blk_at hq_ BK152.out);have n2_:=M0 (below_at hq_ HB.out);clear hq_ HO_5 BK152 HB;have HO_5:=n0_;have BK152:=n1_;have HB:=n2_;clear n0_ n1_ n2_;(try (obtain ⟨hy41_,hz41_⟩:=Kd.bR 0 HO_5.out (x6_2 : Int) (of_decide_eq_true (by first|(with_reducible assumption)|assumption)) (of_decide_eq_true (by first|(with_reducible assumption)|assumption))));(try (have HP41:=Kd.du HO_5.out (x6_2 : Int) t161))));refine bO (t:=2) (p:=80) (v:=?vo_w42) (w1:=(wr.setCell ⟨go39,(x6_2 : Int).toNat,none⟩ (.int .i64 t161))) ?hg ?ho ?hn ?hr ?_;(case ho=>rfl);(case hg=>rfl);(case hn=>rfl);(case hr=>first|(go_simp;done)|(go_simp;rfl));intro w42 hw;have hg : wr.grownBy w42 (some go39):=(by rw [hw];exact HP41.2);have hp_ : Kd.R (Kd.int .i64) 2 w42 w.heap.size (fun _=>True) (.slice (some ⟨go39,0,none⟩) x5_2.length co39) y162:=(by rw [hw,Ny162.out];exact HP41.1);clear HP41;replace BK152:=M0 (bf (g:=gb152) (o:=.cells #[.int .i64 a0_0,.int .i64 a0_1,.int .i64 a0_2] 43 (0,0)) (by (with_reducible repeat (first|refine bx ?_ _|refine bn ?_|refine blk_alloc ?_ _));exact BK152.out) hg (Kd.R_ne HO_5.out BK152.out (by decide)));replace HO_5:=M0 (hp_);replace HB:=M0 ((by rw [hw];exact ay (HB.out) GB39.out : Below w.heap.size w w42));clear hg hw hp_));try go_wp2_with (first|(go_at_call 123;(with_reducible refine (bN.calls k2 (Go.bits .xor .i64 a1 x6_2) t161 _ A36.out).mono ?_);rintro e w' ⟨rfl,⟨nd,rfl⟩⟩;(try first|exact ⟨rfl,_,World.drewN_drewN _ _ _⟩|exact ⟨rfl,_,Eq.trans (World.drewN_drewN _ _ _) (congrArg (World.drewN _) (Nat.add_assoc _ _ _))⟩);have p39 : 0 ≤ (x6_2 : Int):=of_decide_eq_true (by first|(with_reducible assumption)|assumption);have q39 : (x6_2 : Int) < ((x5_2.length : Int) : Int):=of_decide_eq_true (by first|(with_reducible assumption)|assumption);obtain ⟨go39,co39,eo39,gb39,gl39,cl39,HG39⟩:=Kd.dA HO_5.out (by omega);(first|cases eo39|(injection eo39 with ea_ en_ ec_;(first|subst ea_|(injection ea_ with ea_;subst ea_));subst ec_;clear en_));have GB39:=M0 gb39;have GG39:=M0 HG39;clear gb39 gl39 HG39;obtain ⟨hx39_0,hf39_0⟩:=Kd.bR 0 HO_5.out (x6_2 : Int) p39 q39;replace p39:=eq_true p39;replace q39:=eq_true q39;obtain ⟨hy41_,hz41_⟩:=Kd.bR 0 HO_5.out (x6_2 : Int) (of_decide_eq_true (by first|(with_reducible assumption)|assumption)) (of_decide_eq_true (by first|(with_reducible assumption)|assumption));have HP41:=Kd.du HO_5.out (x6_2 : Int) t161)|((try (rw [dw wr];generalize hq_ : World.drewN wr _ = wr;have n0_:=M0 (Kd.R_at hq_ HO_5.out);have n1_:=M0 (blk_at hq_ BK152.out);have n2_:=M0 (below_at hq_ HB.out);clear hq_ HO_5 BK152 HB;have HO_5:=n0_;have BK152:=n1_;have HB:=n2_;clear n0_ n1_ n2_;(try (obtain ⟨hy41_,hz41_⟩:=Kd.bR 0 HO_5.out (x6_2 : Int) (of_decide_eq_true (by first|(with_reducible assumption)|assumption)) (of_decide_eq_true (by first|(with_reducible assumption)|assumption))));(try (have HP41:=Kd.du HO_5.out (x6_2 : Int) t161))));refine bO (t:=2) (p:=80) (v:=?vo_w42) (w1:=(wr.setCell ⟨go39,(x6_2 : Int).toNat,none⟩ (.int .i64 t161))) ?hg ?ho ?hn ?hr ?_;(case ho=>rfl);(case hg=>rfl);(case hn=>rfl);(case hr=>first|(go_simp;done)|(go_simp;rfl));intro w42 hw;have hg : wr.grownBy w42 (some go39):=(by rw [hw];exact HP41.2);have hp_ : Kd.R (Kd.int .i64) 2 w42 w.heap.size (fun _=>True) (.slice (some ⟨go39,0,none⟩) x5_2.length co39) y162:=(by rw [hw,Ny162.out];exact HP41.1);clear HP41;replace BK152:=M0 (bf (g:=gb152) (o:=.cells #[.int .i64 a0_0,.int .i64 a0_1,.int .i64 a0_2] 43 (0,0)) (by (with_reducible repeat (first|refine bx ?_ _|refine bn ?_|refine blk_alloc ?_ _));exact BK152.out) hg (Kd.R_ne HO_5.out BK152.out (by decide)));replace HO_5:=M0 (hp_);replace HB:=M0 ((by rw [hw];exact ay (HB.out) GB39.out : Below w.heap.size w w42));clear hg hw hp_)))
         go_roundg k2
         case measure=>have:=HJ2.out;have:=HK2.out;omega
         case rel=>exact ⟨(y162),(wrap64 (x6_2 + 1)),(by rfl),H',⟨by have:=HJ2.out;have:=HK2.out;omega⟩,⟨by exact HO_5.out⟩,⟨by exact BK152.out⟩,⟨HB.out⟩⟩
        ·rw [if_neg c35] at H
         have c35b0:=decide_eq_false c35
         clear c35
         obtain rfl:=Option.some.inj H
         have hcz43_0:=bcv (v:=.int .i64 a0_0) BK152.out 0 rfl
         go_wp2
         repeat (go_quiet (fail);try go_wp2)
         go_ret
         exact ⟨_,by rfl,by exact HO_5.out,HB.out⟩
     ·rw [if_neg c30] at H
      have c30b0:=decide_eq_false c30
      clear c30
      have H':=M0 H
      clear H
      have hcz44_0:=bcv (v:=.int .i64 a0_0) BK152.out 0 rfl
      have hcz44_1:=bcv (v:=.int .i64 a0_1) BK152.out 1 rfl
      have hcz44_2:=bcv (v:=.int .i64 a0_2) BK152.out 2 rfl
      have hfz44_0:=aa BK152.out 0
      have hfz44_1:=aa BK152.out 1
      have hfz44_2:=aa BK152.out 2
      go_wp2_with ((refine Kd.ec (Kd.int .i64) _ 2 rfl (N:=30) rfl 22 _ _ rfl a0_0 rfl rfl Try.underlying22 (.int .i64 0) 8 dY rfl (by decide) (by omega) 0 (ok:=fun _=>True) (okp:=fun _=>True) rfl (fun _ hk=>hk) trivial (of_decide_eq_true (by with_reducible assumption)) (Nat.le_trans (Nat.mul_le_mul_right _ (of_decide_eq_true (by with_reducible assumption) : a0_0.toNat ≤ 35184372088832)) (by omega)) (Below.refl _ _) (Nat.le_refl _) ?_;intro v158 w45 ho46 hb hg_ hnew_;clear hg_ hnew_;(rw [← Ny157.out] at ho46);have HO159:=M0 (Kd.bh ho46 (av HB.out));replace BK152:=M0 (ag BK152.out hb);replace HB:=M0 (ab HB.out hb);clear hb ho46;have hcz47_0:=bcv (v:=.int .i64 a0_0) BK152.out 0 rfl;have hcz47_1:=bcv (v:=.int .i64 a0_1) BK152.out 1 rfl;have hcz47_2:=bcv (v:=.int .i64 a0_2) BK152.out 2 rfl;have hfz47_0:=aa BK152.out 0;have hfz47_1:=aa BK152.out 1;have hfz47_2:=aa BK152.out 2))
      repeat (go_quiet (first|(refine Kd.ec (Kd.int .i64) _ 2 rfl (N:=30) rfl 22 _ _ rfl a0_0 rfl rfl Try.underlying22 (.int .i64 0) 8 dY rfl (by decide) (by omega) 0 (ok:=fun _=>True) (okp:=fun _=>True) rfl (fun _ hk=>hk) trivial (of_decide_eq_true (by first|(with_reducible assumption)|assumption)) (Nat.le_trans (Nat.mul_le_mul_right _ (of_decide_eq_true (by first|(with_reducible assumption)|assumption) : a0_0.toNat ≤ 35184372088832)) (by omega)) (Below.refl _ _) (Nat.le_refl _) ?_;intro v158 w45 ho46 hb hg_ hnew_;clear hg_ hnew_;(first|rw [← Ny157.out] at ho46|(simp only [Int.reduceToNat] at ho46;rw [← Ny157.out] at ho46));have HO159:=M0 (Kd.bh ho46 (av (by repeat (first|(with_reducible first|exact HB.out|apply bg|apply aK|apply a7|refine ay ?_ GE152.out)|exact HB.out))));replace BK152:=M0 (ag (g:=gb152) (o:=.cells #[.int .i64 a0_0,.int .i64 a0_1,.int .i64 a0_2] 43 (0,0)) (by (with_reducible repeat (first|refine bx ?_ _|refine bn ?_|refine blk_alloc ?_ _));exact BK152.out) hb);replace HB:=M0 (ab (by repeat (first|(with_reducible first|exact HB.out|apply bg|apply aK|apply a7|refine ay ?_ GE152.out)|exact HB.out)) hb);clear hb ho46;have hcz47_0:=bcv (v:=.int .i64 a0_0) BK152.out 0 rfl;have hcz47_1:=bcv (v:=.int .i64 a0_1) BK152.out 1 rfl;have hcz47_2:=bcv (v:=.int .i64 a0_2) BK152.out 2 rfl;have hfz47_0:=aa BK152.out 0;have hfz47_1:=aa BK152.out 1;have hfz47_2:=aa BK152.out 2));try go_wp2_with (first|(refine Kd.ec (Kd.int .i64) _ 2 rfl (N:=30) rfl 22 _ _ rfl a0_0 rfl rfl Try.underlying22 (.int .i64 0) 8 dY rfl (by decide) (by omega) 0 (ok:=fun _=>True) (okp:=fun _=>True) rfl (fun _ hk=>hk) trivial (of_decide_eq_true (by first|(with_reducible assumption)|assumption)) (Nat.le_trans (Nat.mul_le_mul_right _ (of_decide_eq_true (by first|(with_reducible assumption)|assumption) : a0_0.toNat ≤ 35184372088832)) (by omega)) (Below.refl _ _) (Nat.le_refl _) ?_;intro v158 w45 ho46 hb hg_ hnew_;clear hg_ hnew_;(first|rw [← Ny157.out] at ho46|(simp only [Int.reduceToNat] at ho46;rw [← Ny157.out] at ho46));have HO159:=M0 (Kd.bh ho46 (av (by repeat (first|(with_reducible first|exact HB.out|apply bg|apply aK|apply a7|refine ay ?_ GE152.out)|exact HB.out))));replace BK152:=M0 (ag (g:=gb152) (o:=.cells #[.int .i64 a0_0,.int .i64 a0_1,.int .i64 a0_2] 43 (0,0)) (by (with_reducible repeat (first|refine bx ?_ _|refine bn ?_|refine blk_alloc ?_ _));exact BK152.out) hb);replace HB:=M0 (ab (by repeat (first|(with_reducible first|exact HB.out|apply bg|apply aK|apply a7|refine ay ?_ GE152.out)|exact HB.out)) hb);clear hb ho46;have hcz47_0:=bcv (v:=.int .i64 a0_0) BK152.out 0 rfl;have hcz47_1:=bcv (v:=.int .i64 a0_1) BK152.out 1 rfl;have hcz47_2:=bcv (v:=.int .i64 a0_2) BK152.out 2 rfl;have hfz47_0:=aa BK152.out 0;have hfz47_1:=aa BK152.out 1;have hfz47_2:=aa BK152.out 2)))
      go_loopg [7] kj2 (fun kq v7 w'=>∃ (x5_2 : List Int) (x7_2 : Int),v7 = .int .i64 x7_2 ∧ Aside0 (aM.l1 kq a1 x5_2 x7_2 a0_0 a0_1 a0_2 = some r) ∧ Aside0 (kq ≤ kj2) ∧ Aside0 (Kd.R (Kd.int .i64) 2 w' w.heap.size (fun _=>True) v158 x5_2) ∧ Aside0 (w'.heap[gb152]? = some (.cells #[.int .i64 a0_0,.int .i64 a0_1,.int .i64 a0_2] 43 (0,0))) ∧ Aside0 (Below w.heap.size w w'))
      case atStart=>exact ⟨(y157),(0),(by rfl),H',⟨Nat.le_refl _⟩,⟨by exact HO159.out⟩,⟨by exact BK152.out⟩,⟨HB.out⟩⟩
      case round=>
       clear H'
       (try clear c18b0);(try clear c18b1);(try clear c19b0);(try clear c19b1);(try clear c20b0);(try clear c30b0);(try clear hcz44_0);(try clear hcz44_1);(try clear hcz44_2);(try clear hcz47_0);(try clear hcz47_1);(try clear hcz47_2);(try clear hfz44_0);(try clear hfz44_1);(try clear hfz44_2);(try clear hfz47_0);(try clear hfz47_1);(try clear hfz47_2)
       obtain ⟨x5_2,x7_2,rfl,HA,HK2,HO_5,BK152,HB⟩:=hrel
       cases gk with
       | zero=>exact absurd HA.out (by simp [aM.l1])
       | succ k2=>
        have H:=HA.out
        clear HA
        simp only [aM.l1] at H
        by_cases c48 : x7_2 < a0_0
        ·rw [if_pos c48] at H
         have c48b0:=decide_eq_true c48
         clear c48
         by_cases c49 : a0_2 = 0
         ·rw [if_pos c49] at H
          exact absurd H (by simp)
         ·rw [if_neg c49] at H
          have c49b0 : (a0_2 == 0) = false:=beq_eq_false_iff_ne.mpr c49
          have c49b1 : (a0_2 != 0) = true:=bne_iff_ne.mpr c49
          by_cases c50 : (Int.tmod x7_2 a0_2) = (wrap64 ((wrap64 (a1 - a0_0)) - a0_1))
          ·rw [if_pos c50] at H
           have c50b0 : ((Int.tmod x7_2 a0_2) == (wrap64 ((wrap64 (a1 - a0_0)) - a0_1))) = true:=beq_iff_eq.mpr c50
           clear c50
           obtain ⟨c51,H⟩:=nn H
           have c51b0:=decide_eq_true c51
           clear c51
           obtain ⟨c52,H⟩:=nn H
           have c52b0:=decide_eq_true c52
           clear c52
           obtain ⟨y163,hy163⟩ : ∃ y_ : List Int,y_ = (x5_2.set (x7_2 : Int).toNat 1):=⟨_,rfl⟩
           rw [← hy163] at H
           have Ny163:=M0 hy163
           clear hy163
           have H':=M0 H
           clear H
           have hcz54_0:=bcv (v:=.int .i64 a0_0) BK152.out 0 rfl
           have hcz54_1:=bcv (v:=.int .i64 a0_1) BK152.out 1 rfl
           have hcz54_2:=bcv (v:=.int .i64 a0_2) BK152.out 2 rfl
           have p53 : 0 ≤ (x7_2 : Int):=of_decide_eq_true (by with_reducible assumption)
           have q53 : (x7_2 : Int) < ((x5_2.length : Int) : Int):=of_decide_eq_true (by with_reducible assumption)
           obtain ⟨go53,co53,eo53,gb53,gl53,cl53,HG53⟩:=Kd.dA HO_5.out (by omega)
           (cases eo53)
           have GB53:=M0 gb53
           have GG53:=M0 HG53
           clear gb53 gl53 HG53
           obtain ⟨hx53_0,hf53_0⟩:=Kd.bR 0 HO_5.out (x7_2 : Int) p53 q53
           replace p53:=eq_true p53
           replace q53:=eq_true q53
           have HP55:=Kd.du HO_5.out (x7_2 : Int) 1
           go_wp2_with (first|((try (rw [dw wr];generalize hq_ : World.drewN wr _ = wr;have n0_:=M0 (Kd.R_at hq_ HO_5.out);have n1_:=M0 (blk_at hq_ BK152.out);have n2_:=M0 (below_at hq_ HB.out);clear hq_ HO_5 BK152 HB;have HO_5:=n0_;have BK152:=n1_;have HB:=n2_;clear n0_ n1_ n2_;(try (have HP55:=Kd.du HO_5.out (x7_2 : Int) 1))));refine bO (t:=2) (p:=51) (v:=?vo_w56) (w1:=(wr.setCell ⟨go53,(x7_2 : Int).toNat,none⟩ (.int .i64 1))) ?hg ?ho ?hn ?hr ?_;(case ho=>rfl);(case hg=>rfl);(case hn=>rfl);(case hr=>first|(go_simp;done)|(go_simp;rfl));intro w56 hw;have hg : wr.grownBy w56 (some go53):=(by rw [hw];exact HP55.2);have hp_ : Kd.R (Kd.int .i64) 2 w56 w.heap.size (fun _=>True) (.slice (some ⟨go53,0,none⟩) x5_2.length co53) y163:=(by rw [hw,Ny163.out];exact HP55.1);clear HP55;replace BK152:=M0 (bf (g:=gb152) (o:=.cells #[.int .i64 a0_0,.int .i64 a0_1,.int .i64 a0_2] 43 (0,0)) (by (with_reducible repeat (first|refine bx ?_ _|refine bn ?_|refine blk_alloc ?_ _));exact BK152.out) hg (Kd.R_ne HO_5.out BK152.out (by decide)));replace HO_5:=M0 (hp_);replace HB:=M0 ((by rw [hw];exact ay (HB.out) GB53.out : Below w.heap.size w w56));clear hg hw hp_))
           go_quiet (fail)
           go_wp2_with (((try (rw [dw wr];generalize hq_ : World.drewN wr _ = wr;have n0_:=M0 (Kd.R_at hq_ HO_5.out);have n1_:=M0 (blk_at hq_ BK152.out);have n2_:=M0 (below_at hq_ HB.out);clear hq_ HO_5 BK152 HB;have HO_5:=n0_;have BK152:=n1_;have HB:=n2_;clear n0_ n1_ n2_;(try (have HP55:=Kd.du HO_5.out (x7_2 : Int) 1))));(try (obtain ⟨hx53_0,hf53_0⟩:=Kd.bR 0 HO_5.out (x7_2 : Int) (of_eq_true p53) (of_eq_true q53)));refine bO (t:=2) (p:=51) (v:=?vo_w56) (w1:=(wr.setCell ⟨go53,(x7_2 : Int).toNat,none⟩ (.int .i64 1))) ?hg ?ho ?hn ?hr ?_;(case ho=>rfl);(case hg=>rfl);(case hn=>rfl);(case hr=>(go_simp;done));intro w56 hw;have hg : wr.grownBy w56 (some go53):=(by rw [hw];exact HP55.2);have hp_ : Kd.R (Kd.int .i64) 2 w56 w.heap.size (fun _=>True) (.slice (some ⟨go53,0,none⟩) x5_2.length co53) y163:=(by rw [hw,Ny163.out];exact HP55.1);clear HP55;replace BK152:=M0 (bf (g:=gb152) (o:=.cells #[.int .i64 a0_0,.int .i64 a0_1,.int .i64 a0_2] 43 (0,0)) BK152.out hg (Kd.R_ne HO_5.out BK152.out (by decide)));replace HO_5:=M0 (hp_);replace HB:=M0 ((by rw [hw];exact ay (HB.out) GB53.out : Below w.heap.size w w56));clear hg hw hp_));try go_wp2_with (first|((try (rw [dw wr];generalize hq_ : World.drewN wr _ = wr;have n0_:=M0 (Kd.R_at hq_ HO_5.out);have n1_:=M0 (blk_at hq_ BK152.out);have n2_:=M0 (below_at hq_ HB.out);clear hq_ HO_5 BK152 HB;have HO_5:=n0_;have BK152:=n1_;have HB:=n2_;clear n0_ n1_ n2_;(try (have HP55:=Kd.du HO_5.out (x7_2 : Int) 1))));refine bO (t:=2) (p:=51) (v:=?vo_w56) (w1:=(wr.setCell ⟨go53,(x7_2 : Int).toNat,none⟩ (.int .i64 1))) ?hg ?ho ?hn ?hr ?_;(case ho=>rfl);(case hg=>rfl);(case hn=>rfl);(case hr=>first|(go_simp;done)|(go_simp;rfl));intro w56 hw;have hg : wr.grownBy w56 (some go53):=(by rw [hw];exact HP55.2);have hp_ : Kd.R (Kd.int .i64) 2 w56 w.heap.size (fun _=>True) (.slice (some ⟨go53,0,none⟩) x5_2.length co53) y163:=(by rw [hw,Ny163.out];exact HP55.1);clear HP55;replace BK152:=M0 (bf (g:=gb152) (o:=.cells #[.int .i64 a0_0,.int .i64 a0_1,.int .i64 a0_2] 43 (0,0)) (by (with_reducible repeat (first|refine bx ?_ _|refine bn ?_|refine blk_alloc ?_ _));exact BK152.out) hg (Kd.R_ne HO_5.out BK152.out (by decide)));replace HO_5:=M0 (hp_);replace HB:=M0 ((by rw [hw];exact ay (HB.out) GB53.out : Below w.heap.size w w56));clear hg hw hp_))
           go_roundg k2
           case measure=>have:=HJ2.out;have:=HK2.out;omega
           case rel=>exact ⟨(y163),(wrap64 (x7_2 + 1)),(by rfl),H',⟨by have:=HJ2.out;have:=HK2.out;omega⟩,⟨by exact HO_5.out⟩,⟨by exact BK152.out⟩,⟨HB.out⟩⟩
          ·rw [if_neg c50] at H
           have c50b0 : ((Int.tmod x7_2 a0_2) == (wrap64 ((wrap64 (a1 - a0_0)) - a0_1))) = false:=beq_eq_false_iff_ne.mpr c50
           have H':=M0 H
           clear H
           have hcz57_0:=bcv (v:=.int .i64 a0_0) BK152.out 0 rfl
           have hcz57_1:=bcv (v:=.int .i64 a0_1) BK152.out 1 rfl
           have hcz57_2:=bcv (v:=.int .i64 a0_2) BK152.out 2 rfl
           go_wp2
           repeat (go_quiet (fail);try go_wp2)
           go_roundg k2
           case measure=>have:=HJ2.out;have:=HK2.out;omega
           case rel=>exact ⟨(x5_2),(wrap64 (x7_2 + 1)),(by rfl),H',⟨by have:=HJ2.out;have:=HK2.out;omega⟩,⟨by (with_reducible repeat (apply Kd.dx));exact HO_5.out⟩,⟨by (with_reducible repeat (refine bx ?_ _));exact BK152.out⟩,⟨by repeat ((with_reducible first|exact HB.out|apply aK))⟩⟩
        ·rw [if_neg c48] at H
         have c48b0:=decide_eq_false c48
         clear c48
         obtain rfl:=Option.some.inj H
         have hcz58_0:=bcv (v:=.int .i64 a0_0) BK152.out 0 rfl
         go_wp2
         repeat (go_quiet (fail);try go_wp2)
         go_ret
         exact ⟨_,by rfl,by exact HO_5.out,HB.out⟩

/-! ### bF: function 91 -/
def bF.l0 : Nat → List ByteArray → Int → List ByteArray → Int → Int → Int → Int → Option (List ByteArray)
 | 0,_,_,_,_,_,_,_=>none
 | k + 1,x1,x2,x7,x8,x165000,x165001,x165002=>(cn.f x165000 x165001 x165002).bind fun t168=>(if x8 < t168 then ((aM.f k x165000 x165001 x165002 x8).bind fun t169=>((a8.f k t169 x1 x2).bind fun t172=>(if x7.length < 8796093022208 then (bF.l0 k x1 x2 (x7 ++ [t172]) (wrap64 (x8 + 1)) x165000 x165001 x165002) else (none)))) else (some x7))
def bF.f (k : Nat) (a0_0 : Int) (a0_1 : Int) (a0_2 : Int) (l1 : List ByteArray) (a2 : Int) : Option (List ByteArray):=bF.l0 k l1 a2 (([] : List ByteArray)) 0 a0_0 a0_1 a0_2
set_option maxHeartbeats 8000000 in
set_option maxRecDepth 100000 in
theorem bF.calls (k : Nat) (a0_0 : Int) (a0_1 : Int) (a0_2 : Int) (A1 : Option Addr) (c1 : Nat) (l1 : List ByteArray) (a2 : Int) (r : List ByteArray) (w : World) (hr1 : Kd.C Kd.string w A1 l1.length l1) (hc1 : l1.length ≤ c1) (h : bF.f k a0_0 a0_1 a0_2 l1 a2 = some r) :
  Calls Try.prog 91 #[.agg #[.int .i64 a0_0,.int .i64 a0_1,.int .i64 a0_2],.slice A1 l1.length c1,.int .i64 a2] w fun e w'=>∃ v0_ : Value,e = .returned (v0_) ∧ Kd.R Kd.string 9 w' w.heap.size (fun _=>True) v0_ r ∧ Below w.heap.size w w':=by
 have HR1:=M0 hr1
 have HC1:=M0 hc1
 clear hr1 hc1
 have HB:=M0 (Below.refl w.heap.size w)
 have H : (bF.l0 k l1 a2 (([] : List ByteArray)) 0 a0_0 a0_1 a0_2) = some r:=h
 clear h
 obtain ⟨y165,hy165⟩ : ∃ y_ : List ByteArray,y_ = (([] : List ByteArray)):=⟨_,rfl⟩
 rw [← hy165] at H
 have Ny165:=M0 hy165
 clear hy165
 have H':=M0 H
 clear H
 go_enter Try.func91,Try.ntmps91
 go_wp2_with (first|(refine az rfl (N:=3) rfl (cs:=#[.int .i64 a0_0,.int .i64 a0_1,.int .i64 a0_2]) (t:=43) (by go_simp) ?_;intro gb164 hg w4 hbox hb;have BK164:=M0 (hbox);replace HB:=M0 (ab HB.out hb);clear hb hbox hg)|(refine Kd.dR Kd.string _ 9 ?hg (N:=9) ?hd (xs:=([] : List ByteArray)) (inner:=[]) (ok:=fun _=>True) (okp:=fun _=>True) ?hr ?hp (fun _ hk=>hk) trivial (Below.refl _ _) (Nat.le_refl _) (by simp) ?_;(case hd=>rfl);(case hg=>rfl);(case hr=>(go_simp;done));(case hp=>exact (Reps.none _ _));intro v166 w5 ho6 hb hg_ hnew_;clear hg_ hnew_;(rw [← Ny165.out] at ho6);have HO167:=M0 (Kd.bh ho6 (av HB.out));replace BK164:=M0 (ag BK164.out hb);replace HB:=M0 (ab HB.out hb);clear hb ho6))
 go_loopg [7,8] k (fun kq v7 v8 w'=>∃ (x7_1 : List ByteArray) (x8_1 : Int),v8 = .int .i64 x8_1 ∧ Aside0 (bF.l0 kq l1 a2 x7_1 x8_1 a0_0 a0_1 a0_2 = some r) ∧ Aside0 (kq ≤ k) ∧ Aside0 (Kd.R Kd.string 9 w' w.heap.size (fun _=>True) v7 x7_1) ∧ Aside0 (w'.heap[gb164]? = some (.cells #[.int .i64 a0_0,.int .i64 a0_1,.int .i64 a0_2] 43 (0,0))) ∧ Aside0 (Below w.heap.size w w'))
 case atStart=>exact ⟨(y165),(0),(by rfl),H',⟨Nat.le_refl _⟩,⟨by exact HO167.out⟩,⟨by exact BK164.out⟩,⟨HB.out⟩⟩
 case round=>
  clear H'
  obtain ⟨x7_1,x8_1,rfl,HA,HK1,HO_7,BK164,HB⟩:=hrel
  cases gk with
  | zero=>exact absurd HA.out (by simp [bF.l0])
  | succ k1=>
   have H:=HA.out
   clear HA
   simp only [bF.l0] at H
   replace H:=Option.bind_eq_some_iff.mp H
   obtain ⟨t168,A70,H⟩:=H
   replace H : (if x8_1 < t168 then ((aM.f k1 a0_0 a0_1 a0_2 x8_1).bind fun t169=>((a8.f k1 t169 l1 a2).bind fun t172=>(if x7_1.length < 8796093022208 then (bF.l0 k1 l1 a2 (x7_1 ++ [t172]) (wrap64 (x8_1 + 1)) a0_0 a0_1 a0_2) else (none)))) else (some x7_1)) = some r:=H
   have A7:=M0 A70
   clear A70
   by_cases c8 : x8_1 < t168
   ·rw [if_pos c8] at H
    have c8b0:=decide_eq_true c8
    clear c8
    replace H:=Option.bind_eq_some_iff.mp H
    obtain ⟨t169,A90,H⟩:=H
    replace H : ((a8.f k1 t169 l1 a2).bind fun t172=>(if x7_1.length < 8796093022208 then (bF.l0 k1 l1 a2 (x7_1 ++ [t172]) (wrap64 (x8_1 + 1)) a0_0 a0_1 a0_2) else (none))) = some r:=H
    have A9:=M0 A90
    clear A90
    replace H:=Option.bind_eq_some_iff.mp H
    obtain ⟨t172,A100,H⟩:=H
    replace H : (if x7_1.length < 8796093022208 then (bF.l0 k1 l1 a2 (x7_1 ++ [t172]) (wrap64 (x8_1 + 1)) a0_0 a0_1 a0_2) else (none)) = some r:=H
    have A10:=M0 A100
    clear A100
    obtain ⟨c11,H⟩:=nn H
    have LMc11:=M0 c11
    clear c11
    obtain ⟨y173,hy173⟩ : ∃ y_ : List ByteArray,y_ = (x7_1 ++ [t172]):=⟨_,rfl⟩
    rw [← hy173] at H
    have Ny173:=M0 hy173
    clear hy173
    have H':=M0 H
    clear H
    have hcz12_0:=bcv (v:=.int .i64 a0_0) BK164.out 0 rfl
    have hcz12_1:=bcv (v:=.int .i64 a0_1) BK164.out 1 rfl
    have hcz12_2:=bcv (v:=.int .i64 a0_2) BK164.out 2 rfl
    go_wp2_with (first|(refine aG (some 12) rfl rfl Try.func97 (by kernel_rfl) rfl #[.agg #[.int .i64 a0_0,.int .i64 a0_1,.int .i64 a0_2]] rfl (by (try simp only [List.map_toArray,List.map_cons,List.map_nil]);rfl) ?_;(with_reducible refine (cn.calls a0_0 a0_1 a0_2 t168 _ A7.out).mono ?_);rintro e w13 ⟨rfl,hb⟩;refine ⟨_,rfl,?_⟩;replace HO_7:=M0 (Kd.aX HO_7.out hb);replace BK164:=M0 (ag BK164.out hb);replace HB:=M0 (ab HB.out hb);clear hb;have hcz14_0:=bcv (v:=.int .i64 a0_0) BK164.out 0 rfl;have hcz14_1:=bcv (v:=.int .i64 a0_1) BK164.out 1 rfl;have hcz14_2:=bcv (v:=.int .i64 a0_2) BK164.out 2 rfl)|(refine aG (some 19) rfl rfl Try.func128 (by kernel_rfl) rfl #[.agg #[.int .i64 a0_0,.int .i64 a0_1,.int .i64 a0_2],.int .i64 x8_1] rfl (by (try simp only [List.map_toArray,List.map_cons,List.map_nil]);rfl) ?_;(with_reducible refine (aM.calls k1 a0_0 a0_1 a0_2 x8_1 t169 _ A9.out).mono ?_);rintro e w15 ⟨v170,rfl,ho0,hb⟩;refine ⟨_,rfl,?_⟩;replace HO_7:=M0 (Kd.aX HO_7.out hb);have HO171:=M0 (Kd.bh ho0 (av HB.out));replace BK164:=M0 (ag BK164.out hb);replace HB:=M0 (ab HB.out hb);clear hb ho0;obtain ⟨Ao16,co16,eo16⟩:=Kd.a9 HO171.out;subst eo16)|(refine aG (some 22) rfl rfl Try.func127 (by kernel_rfl) rfl #[.slice Ao16 t169.length co16,.slice A1 l1.length c1,.int .i64 a2] rfl (by (try simp only [List.map_toArray,List.map_cons,List.map_nil]);rfl) ?_;(with_reducible refine (a8.calls k1 _ _ t169 _ _ l1 a2 t172 _ (Kd.aA HO171.out).2.2 (Kd.aA HO171.out).2.1 (Kd.bG HR1.out HB.out) HC1.out A10.out).mono ?_);rintro e w17 ⟨rfl,hb⟩;refine ⟨_,rfl,?_⟩;replace HO_7:=M0 (Kd.aX HO_7.out hb);replace HO171:=M0 (Kd.aX HO171.out hb);replace BK164:=M0 (ag BK164.out hb);replace HB:=M0 (ab HB.out hb);clear hb)|(at_builtin;refine Kd.cQ Kd.string (w0:=w) w.heap.size rfl (.tmp 16) (.tmp 23) 56 9 (.string ⟨#[]⟩) 16 rfl Try.underlying56 info9 rfl (by decide) (by omega) u7 x7_1 t172 [.string t172] (fun _=>True) (fun _=>False) rfl rfl ?aP (fun _ hk=>hk.elim) ?aF ?aO ?aB ?aS ?aL ?_;(case aP=>exact rfl);(case aB=>exact HB.out);(case aF=>exact (fun _ _=>trivial));(case aO=>exact HO_7.out);(case aS=>exact (av HB.out));(case aL=>have:=LMc11.out;omega);intro v174 w18 ho hb hg hat;rw [← Ny173.out] at ho;have n0_:=M0 (bf (g:=gb164) (o:=.cells #[.int .i64 a0_0,.int .i64 a0_1,.int .i64 a0_2] 43 (0,0)) BK164.out hg (Kd.R_ne HO_7.out BK164.out (by decide)));have n1_:=M0 (Kd.cW HO171.out (Kd.cV HO_7.out) (by decide) hg);have n2_:=M0 (hb);have n3_:=M0 (ho);clear BK164 HO171 HB HO_7;have BK164:=n0_;have HO171:=n1_;have HB:=n2_;have HO175:=n3_;clear n0_ n1_ n2_ n3_ ho hb hg hat))
    go_roundg k1
    case measure=>have:=HK1.out;omega
    case rel=>exact ⟨(y173),(wrap64 (x8_1 + 1)),(by rfl),H',⟨by have:=HK1.out;omega⟩,⟨by exact HO175.out⟩,⟨by exact BK164.out⟩,⟨HB.out⟩⟩
   ·rw [if_neg c8] at H
    have c8b0:=decide_eq_false c8
    clear c8
    obtain rfl:=Option.some.inj H
    have hcz19_0:=bcv (v:=.int .i64 a0_0) BK164.out 0 rfl
    have hcz19_1:=bcv (v:=.int .i64 a0_1) BK164.out 1 rfl
    have hcz19_2:=bcv (v:=.int .i64 a0_2) BK164.out 2 rfl
    go_wp2_with ((refine aG (some 12) rfl rfl Try.func97 (by kernel_rfl) rfl #[.agg #[.int .i64 a0_0,.int .i64 a0_1,.int .i64 a0_2]] rfl (by (try simp only [List.map_toArray,List.map_cons,List.map_nil]);rfl) ?_;(with_reducible refine (cn.calls a0_0 a0_1 a0_2 t168 _ A7.out).mono ?_);rintro e w20 ⟨rfl,hb⟩;refine ⟨_,rfl,?_⟩;replace HO_7:=M0 (Kd.aX HO_7.out hb);replace BK164:=M0 (ag BK164.out hb);replace HB:=M0 (ab HB.out hb);clear hb))
    go_ret
    exact ⟨_,by rfl,by exact HO_7.out,HB.out⟩

/-! ### bA: function 67 -/
def bA.f (a0_0 : Int) (a0_1 : Int) (l0_2 : List Int) (a1 : Int) (a2 : Int) : Option (Int):=if 0 ≤ (wrap64 ((wrap64 (a1 * a0_1)) + a2)) then (if (wrap64 ((wrap64 (a1 * a0_1)) + a2)) < (l0_2.length : Int) then (some (rd l0_2 (wrap64 ((wrap64 (a1 * a0_1)) + a2)))) else (none)) else (none)
set_option maxHeartbeats 8000000 in
set_option maxRecDepth 100000 in
theorem bA.calls (a0_0 : Int) (a0_1 : Int) (A0_2 : Option Addr) (c0_2 : Nat) (l0_2 : List Int) (a1 : Int) (a2 : Int) (r : Int) (w : World) (hr0_2 : Kd.C (Kd.int .i64) w A0_2 l0_2.length l0_2) (hc0_2 : l0_2.length ≤ c0_2) (h : bA.f a0_0 a0_1 l0_2 a1 a2 = some r) :
  Calls Try.prog 67 #[.agg #[.int .i64 a0_0,.int .i64 a0_1,.slice A0_2 l0_2.length c0_2],.int .i64 a1,.int .i64 a2] w fun e w'=>e = .returned (.int .i64 r) ∧ Below w.heap.size w w':=by
 have HR0_2:=M0 hr0_2
 have HC0_2:=M0 hc0_2
 clear hr0_2 hc0_2
 have HB:=M0 (Below.refl w.heap.size w)
 have H : (if 0 ≤ (wrap64 ((wrap64 (a1 * a0_1)) + a2)) then (if (wrap64 ((wrap64 (a1 * a0_1)) + a2)) < (l0_2.length : Int) then (some (rd l0_2 (wrap64 ((wrap64 (a1 * a0_1)) + a2)))) else (none)) else (none)) = some r:=h
 clear h
 obtain ⟨ji4,hji4⟩ : ∃ j_ : Int,(wrap64 ((wrap64 (a1 * a0_1)) + a2)) = j_:=⟨_,rfl⟩
 replace H : (if 0 ≤ (ji4) then (if (ji4) < (l0_2.length : Int) then (some (rd l0_2 (ji4))) else (none)) else (none)) = some r:=by (rw [hji4] at H;exact H)
 have hji4w : (IntKind.i64.wrap ((wrap64 (a1 * a0_1)) + a2)) = ji4:=(ae _).trans hji4
 obtain ⟨c5,H⟩:=nn H
 have c5b0:=decide_eq_true c5
 clear c5
 obtain ⟨c6,H⟩:=nn H
 have c6b0:=decide_eq_true c6
 clear c6
 obtain rfl:=Option.some.inj H
 go_enter Try.func67,Try.ntmps67
 go_wp2_with ((refine az rfl (N:=3) rfl (cs:=#[.int .i64 a0_0,.int .i64 a0_1,.slice A0_2 l0_2.length c0_2]) (t:=27) (by go_simp) ?_;intro gb176 hg w7 hbox hb;have BK176:=M0 (hbox);replace HB:=M0 (ab HB.out hb);clear hb hbox hg;have hcz8_1:=bcv (v:=.int .i64 a0_1) BK176.out 1 rfl;have hcz8_2:=bcv (v:=.slice A0_2 l0_2.length c0_2) BK176.out 2 rfl;have p177 : 0 ≤ ((ji4) : Int):=of_decide_eq_true (by with_reducible assumption);have q177 : (ji4) < (l0_2.length : Int):=of_decide_eq_true (by with_reducible assumption);obtain ⟨ad177,e177,hx177_0⟩:=Kd.dB HR0_2.out (ji4) p177 q177;cases e177;replace hx177_0:=(HB.out.cell (World.block_lt_of_cell? w _ hx177_0)).trans hx177_0;replace p177:=eq_true p177;replace q177:=eq_true q177))
 go_ret
 exact ⟨by rfl,HB.out⟩

end Go.Proofs.Ytffhbpepppodeaa.PFnDecoded
