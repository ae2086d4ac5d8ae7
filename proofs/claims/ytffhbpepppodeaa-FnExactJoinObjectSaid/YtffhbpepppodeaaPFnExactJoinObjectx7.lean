import Derived.Test.YtffhbpepppodeaaPFnExactJoinObjectx0
import Derived.Test.YtffhbpepppodeaaPFnExactJoinObjectx5
import Derived.Test.YtffhbpepppodeaaPFnExactJoinObjectx6
namespace Go.Proofs.Ytffhbpepppodeaa.PFnExactJoinObject
private theorem nn {α : Type} {c : Prop} [Decidable c] {a : Option α} {r : α} (h : (if c then a else none) = some r) : c ∧ a = some r:=by
 split at h
 ·exact ⟨‹c›,h⟩
 ·cases h
open Go.RowKit Go.Proofs.YtffhbpepppodeaaW.PrintWords Go.Proofs.YtffhbpepppodeaaW.PrintLast Go.Proofs.YtffhbpepppodeaaW.PrintMore
attribute [local go_sem] cF cG cW cX cn cp cI cJ   -- for this text's walks alone
set_option linter.unusedVariables false
set_option linter.unusedSimpArgs false

/-! ### aG: function 128 -/
mutual
def aG.j0 : Nat → Int → Bool → Int → Int → Int → Option (List Int)
 | 0,_,_,_,_,_=>none
 | k + 1,x1,x26,x189000,x189001,x189002=>if x26 = true then (some (([] : List Int))) else (if 0 ≤ x189000 then (if (x189000 : Int).toNat ≤ 35184372088832 then ((some (List.replicate (x189000 : Int).toNat 0 : List Int)).bind fun y193=>(if x1 < x189000 then (if 0 ≤ x1 then (if x1 < (y193.length : Int) then (some (y193.set (x1 : Int).toNat 1)) else (none)) else (none)) else (if x1 < (wrap64 (x189000 + x189001)) then (aG.l0 k x1 y193 0 x189000 x189001 x189002) else (aG.l1 k x1 y193 0 x189000 x189001 x189002)))) else (none)) else (none))
def aG.l0 : Nat → Int → List Int → Int → Int → Int → Int → Option (List Int)
 | 0,_,_,_,_,_,_=>none
 | k + 1,x1,x5,x6,x189000,x189001,x189002=>if x6 < x189000 then ((bI.f k (Go.bits .xor .i64 x1 x6)).bind fun t197=>(if 0 ≤ x6 then (if x6 < (x5.length : Int) then (aG.l0 k x1 (x5.set (x6 : Int).toNat t197) (wrap64 (x6 + 1)) x189000 x189001 x189002) else (none)) else (none))) else (some x5)
def aG.l1 : Nat → Int → List Int → Int → Int → Int → Int → Option (List Int)
 | 0,_,_,_,_,_,_=>none
 | k + 1,x1,x5,x7,x189000,x189001,x189002=>if x7 < x189000 then (if x189002 = 0 then (none) else (if (Int.tmod x7 x189002) = (wrap64 ((wrap64 (x1 - x189000)) - x189001)) then (if 0 ≤ x7 then (if x7 < (x5.length : Int) then (aG.l1 k x1 (x5.set (x7 : Int).toNat 1) (wrap64 (x7 + 1)) x189000 x189001 x189002) else (none)) else (none)) else (aG.l1 k x1 x5 (wrap64 (x7 + 1)) x189000 x189001 x189002))) else (some x5)
end
def aG.f (k : Nat) (a0_0 : Int) (a0_1 : Int) (a0_2 : Int) (a1 : Int) : Option (List Int):=(aY.f a0_0 a0_1 a0_2).bind fun t189=>(if t189 = 0 then (if a1 < 0 then (aG.j0 k a1 true a0_0 a0_1 a0_2) else (aG.j0 k a1 (decide (a1 ≥ (wrap64 ((wrap64 (a0_0 + a0_1)) + a0_2)))) a0_0 a0_1 a0_2)) else (aG.j0 k a1 true a0_0 a0_1 a0_2))
set_option maxHeartbeats 8000000 in
set_option maxRecDepth 100000 in
theorem aG.calls (k : Nat) (a0_0 : Int) (a0_1 : Int) (a0_2 : Int) (a1 : Int) (r : List Int) (w : World) (h : aG.f k a0_0 a0_1 a0_2 a1 = some r) :
  Calls Try.prog 128 #[.agg #[.int .i64 a0_0,.int .i64 a0_1,.int .i64 a0_2],.int .i64 a1] w fun e w'=>∃ v0_ : Value,e = .returned (v0_) ∧ Kd.R (Kd.int .i64) 2 w' w.heap.size (fun _=>True) v0_ r ∧ Below w.heap.size w w':=by
 have HB:=M0 (Below.refl w.heap.size w)
 have H : ((aY.f a0_0 a0_1 a0_2).bind fun t189=>(if t189 = 0 then (if a1 < 0 then (aG.j0 k a1 true a0_0 a0_1 a0_2) else (aG.j0 k a1 (decide (a1 ≥ (wrap64 ((wrap64 (a0_0 + a0_1)) + a0_2)))) a0_0 a0_1 a0_2)) else (aG.j0 k a1 true a0_0 a0_1 a0_2))) = some r:=h
 clear h
 have HC3:=M0 H
 clear H
 go_enter Try.func128,Try.ntmps128
 go_upto_region 1 with (((with_reducible refine ak (N:=2) rfl ?_);refine aw rfl (N:=2) rfl (cs:=#[.int .i64 a0_0,.int .i64 a0_1,.int .i64 a0_2]) (t:=43) (by go_simp) ?_;intro gb188 hg w4 hbox hb;have BK188:=M0 (hbox);replace HB:=M0 (aa HB.out hb);clear hb hbox hg))
 repeat (go_quiet (first|((with_reducible refine ak (N:=2) rfl ?_);refine aw ?hg (N:=2) ?hd (cs:=#[.int .i64 a0_0,.int .i64 a0_1,.int .i64 a0_2]) (t:=43) ?hr ?_;(case hd=>rfl);(case hg=>rfl);(case hr=>first|(go_simp;done)|(go_simp;rfl));intro gb188 hg w4 hbox hb;have BK188:=M0 (hbox);have GW188:=M0 ((by rw [hg];exact (aj (by repeat (first|(with_reducible first|exact HB.out|apply ba|apply aN|apply aQ)|exact HB.out))) : w.heap.size ≤ gb188));have GE188:=M0 ((by rw [hg];exact (aj (by repeat (first|(with_reducible first|exact HB.out|apply ba|apply aN|apply aQ)|exact HB.out))) : w.heap.size ≤ gb188));replace HB:=M0 (aa (by repeat (first|(with_reducible first|exact HB.out|apply ba|apply aN|apply aQ)|exact HB.out)) hb);clear hb hbox hg));go_upto_region 1 with (first|((with_reducible refine ak (N:=2) rfl ?_);refine aw ?hg (N:=2) ?hd (cs:=#[.int .i64 a0_0,.int .i64 a0_1,.int .i64 a0_2]) (t:=43) ?hr ?_;(case hd=>rfl);(case hg=>rfl);(case hr=>first|(go_simp;done)|(go_simp;rfl));intro gb188 hg w4 hbox hb;have BK188:=M0 (hbox);have GW188:=M0 ((by rw [hg];exact (aj (by repeat (first|(with_reducible first|exact HB.out|apply ba|apply aN|apply aQ)|exact HB.out))) : w.heap.size ≤ gb188));have GE188:=M0 ((by rw [hg];exact (aj (by repeat (first|(with_reducible first|exact HB.out|apply ba|apply aN|apply aQ)|exact HB.out))) : w.heap.size ≤ gb188));replace HB:=M0 (aa (by repeat (first|(with_reducible first|exact HB.out|apply ba|apply aN|apply aQ)|exact HB.out)) hb);clear hb hbox hg)))
 go_cut [26] (fun v26 wc=>∃ (kq : Nat) (x26_2 : Bool),v26 = .bool x26_2 ∧ Aside0 (aG.j0 kq a1 x26_2 a0_0 a0_1 a0_2 = some r) ∧ Aside0 (kq ≤ k) ∧ Aside0 (wc.heap[gb188]? = some (.cells #[.int .i64 a0_0,.int .i64 a0_1,.int .i64 a0_2] 43 (0,0))) ∧ Aside0 (Below w.heap.size w wc))
 case first=>
  have H:=HC3.out
  clear HC3
  replace H:=Option.bind_eq_some_iff.mp H
  obtain ⟨t189,A50,H⟩:=H
  replace H : (if t189 = 0 then (if a1 < 0 then (aG.j0 k a1 true a0_0 a0_1 a0_2) else (aG.j0 k a1 (decide (a1 ≥ (wrap64 ((wrap64 (a0_0 + a0_1)) + a0_2)))) a0_0 a0_1 a0_2)) else (aG.j0 k a1 true a0_0 a0_1 a0_2)) = some r:=H
  have A5:=M0 A50
  clear A50
  by_cases c6 : t189 = 0
  ·rw [if_pos c6] at H
   have c6b0 : (t189 == 0) = true:=beq_iff_eq.mpr c6
   have c6b1 : (t189 != 0) = false:=bne_eq_false_iff_eq.mpr c6
   clear c6
   (skip)
   by_cases c7 : a1 < 0
   ·rw [if_pos c7] at H
    have c7b0:=decide_eq_true c7
    clear c7
    have H':=M0 H
    clear H
    have hcz8_0:=bcv (v:=.int .i64 a0_0) BK188.out 0 rfl
    have hcz8_1:=bcv (v:=.int .i64 a0_1) BK188.out 1 rfl
    have hcz8_2:=bcv (v:=.int .i64 a0_2) BK188.out 2 rfl
    go_wp2_with ((go_at_call 89;(with_reducible refine (aY.calls a0_0 a0_1 a0_2 t189 _ A5.out).mono ?_);rintro e w9 ⟨rfl,hb⟩;replace BK188:=M0 (ab BK188.out hb);replace HB:=M0 (aa HB.out hb);clear hb))
    repeat (go_quiet (first|(go_at_call 89;(with_reducible refine (aY.calls a0_0 a0_1 a0_2 t189 _ A5.out).mono ?_);rintro e w9 ⟨rfl,hb⟩;replace BK188:=M0 (ab (g:=gb188) (o:=.cells #[.int .i64 a0_0,.int .i64 a0_1,.int .i64 a0_2] 43 (0,0)) (by (with_reducible repeat (first|refine bM ?_ _|refine bl ?_|refine bX ?_ _));exact BK188.out) hb);replace HB:=M0 (aa (by repeat (first|(with_reducible first|exact HB.out|apply ba|apply aN|apply aQ|refine ax ?_ GE188.out)|exact HB.out)) hb);clear hb hb2 hk hi));try go_wp2_with (first|(go_at_call 89;(with_reducible refine (aY.calls a0_0 a0_1 a0_2 t189 _ A5.out).mono ?_);rintro e w9 ⟨rfl,hb⟩;replace BK188:=M0 (ab (g:=gb188) (o:=.cells #[.int .i64 a0_0,.int .i64 a0_1,.int .i64 a0_2] 43 (0,0)) (by (with_reducible repeat (first|refine bM ?_ _|refine bl ?_|refine bX ?_ _));exact BK188.out) hb);replace HB:=M0 (aa (by repeat (first|(with_reducible first|exact HB.out|apply ba|apply aN|apply aQ|refine ax ?_ GE188.out)|exact HB.out)) hb);clear hb hb2 hk hi)))
    go_meet
    case rel=>exact ⟨_,(true),(by rfl),H',⟨by omega⟩,⟨by exact BK188.out⟩,⟨HB.out⟩⟩
   ·rw [if_neg c7] at H
    have c7b0:=decide_eq_false c7
    clear c7
    have H':=M0 H
    clear H
    have hcz10_0:=bcv (v:=.int .i64 a0_0) BK188.out 0 rfl
    have hcz10_1:=bcv (v:=.int .i64 a0_1) BK188.out 1 rfl
    have hcz10_2:=bcv (v:=.int .i64 a0_2) BK188.out 2 rfl
    go_wp2_with ((go_at_call 89;(with_reducible refine (aY.calls a0_0 a0_1 a0_2 t189 _ A5.out).mono ?_);rintro e w11 ⟨rfl,hb⟩;replace BK188:=M0 (ab BK188.out hb);replace HB:=M0 (aa HB.out hb);clear hb;have hcz12_0:=bcv (v:=.int .i64 a0_0) BK188.out 0 rfl;have hcz12_1:=bcv (v:=.int .i64 a0_1) BK188.out 1 rfl;have hcz12_2:=bcv (v:=.int .i64 a0_2) BK188.out 2 rfl))
    repeat (go_quiet (first|(go_at_call 89;(with_reducible refine (aY.calls a0_0 a0_1 a0_2 t189 _ A5.out).mono ?_);rintro e w11 ⟨rfl,hb⟩;replace BK188:=M0 (ab (g:=gb188) (o:=.cells #[.int .i64 a0_0,.int .i64 a0_1,.int .i64 a0_2] 43 (0,0)) (by (with_reducible repeat (first|refine bM ?_ _|refine bl ?_|refine bX ?_ _));exact BK188.out) hb);replace HB:=M0 (aa (by repeat (first|(with_reducible first|exact HB.out|apply ba|apply aN|apply aQ|refine ax ?_ GE188.out)|exact HB.out)) hb);clear hb hb2 hk hi;have hcz12_0:=bcv (v:=.int .i64 a0_0) BK188.out 0 rfl;have hcz12_1:=bcv (v:=.int .i64 a0_1) BK188.out 1 rfl;have hcz12_2:=bcv (v:=.int .i64 a0_2) BK188.out 2 rfl;have hfz12_0:=ag BK188.out 0;have hfz12_1:=ag BK188.out 1;have hfz12_2:=ag BK188.out 2));try go_wp2_with (first|(go_at_call 89;(with_reducible refine (aY.calls a0_0 a0_1 a0_2 t189 _ A5.out).mono ?_);rintro e w11 ⟨rfl,hb⟩;replace BK188:=M0 (ab (g:=gb188) (o:=.cells #[.int .i64 a0_0,.int .i64 a0_1,.int .i64 a0_2] 43 (0,0)) (by (with_reducible repeat (first|refine bM ?_ _|refine bl ?_|refine bX ?_ _));exact BK188.out) hb);replace HB:=M0 (aa (by repeat (first|(with_reducible first|exact HB.out|apply ba|apply aN|apply aQ|refine ax ?_ GE188.out)|exact HB.out)) hb);clear hb hb2 hk hi;have hcz12_0:=bcv (v:=.int .i64 a0_0) BK188.out 0 rfl;have hcz12_1:=bcv (v:=.int .i64 a0_1) BK188.out 1 rfl;have hcz12_2:=bcv (v:=.int .i64 a0_2) BK188.out 2 rfl;have hfz12_0:=ag BK188.out 0;have hfz12_1:=ag BK188.out 1;have hfz12_2:=ag BK188.out 2)))
    go_meet
    case rel=>exact ⟨_,(decide (a1 ≥ (wrap64 ((wrap64 (a0_0 + a0_1)) + a0_2)))),(by rfl),H',⟨by omega⟩,⟨by exact BK188.out⟩,⟨HB.out⟩⟩
  ·rw [if_neg c6] at H
   have c6b1 : (t189 != 0) = true:=bne_iff_ne.mpr c6
   (skip)
   have H':=M0 H
   clear H
   have hcz13_0:=bcv (v:=.int .i64 a0_0) BK188.out 0 rfl
   have hcz13_1:=bcv (v:=.int .i64 a0_1) BK188.out 1 rfl
   have hcz13_2:=bcv (v:=.int .i64 a0_2) BK188.out 2 rfl
   go_wp2_with ((go_at_call 89;(with_reducible refine (aY.calls a0_0 a0_1 a0_2 t189 _ A5.out).mono ?_);rintro e w14 ⟨rfl,hb⟩;replace BK188:=M0 (ab BK188.out hb);replace HB:=M0 (aa HB.out hb);clear hb))
   repeat (go_quiet (first|(go_at_call 89;(with_reducible refine (aY.calls a0_0 a0_1 a0_2 t189 _ A5.out).mono ?_);rintro e w14 ⟨rfl,hb⟩;replace BK188:=M0 (ab (g:=gb188) (o:=.cells #[.int .i64 a0_0,.int .i64 a0_1,.int .i64 a0_2] 43 (0,0)) (by (with_reducible repeat (first|refine bM ?_ _|refine bl ?_|refine bX ?_ _));exact BK188.out) hb);replace HB:=M0 (aa (by repeat (first|(with_reducible first|exact HB.out|apply ba|apply aN|apply aQ|refine ax ?_ GE188.out)|exact HB.out)) hb);clear hb hb2 hk hi));try go_wp2_with (first|(go_at_call 89;(with_reducible refine (aY.calls a0_0 a0_1 a0_2 t189 _ A5.out).mono ?_);rintro e w14 ⟨rfl,hb⟩;replace BK188:=M0 (ab (g:=gb188) (o:=.cells #[.int .i64 a0_0,.int .i64 a0_1,.int .i64 a0_2] 43 (0,0)) (by (with_reducible repeat (first|refine bM ?_ _|refine bl ?_|refine bX ?_ _));exact BK188.out) hb);replace HB:=M0 (aa (by repeat (first|(with_reducible first|exact HB.out|apply ba|apply aN|apply aQ|refine ax ?_ GE188.out)|exact HB.out)) hb);clear hb hb2 hk hi)))
   go_meet
   case rel=>exact ⟨_,(true),(by rfl),H',⟨by omega⟩,⟨by exact BK188.out⟩,⟨HB.out⟩⟩
 case rest=>
  clear HC3
  obtain ⟨kq,x26_2,rfl,HA,HJ2,BK188,HB⟩:=hcut
  cases kq with
  | zero=>exact absurd HA.out (by simp [aG.j0])
  | succ kj2=>
   have H:=HA.out
   clear HA
   simp only [aG.j0] at H
   by_cases c15 : x26_2 = true
   ·subst c15
    have H1 : (some (([] : List Int))) = some r:=by rw [if_pos rfl] at H;exact H
    clear H
    have H:=H1
    clear H1
    obtain ⟨y190,hy190⟩ : ∃ y_ : List Int,y_ = (([] : List Int)):=⟨_,rfl⟩
    rw [← hy190] at H
    have Ny190:=M0 hy190
    clear hy190
    obtain rfl:=Option.some.inj H
    go_wp2_with (((with_reducible refine ak (N:=27) rfl ?_);refine Kd.R_lit (Kd.int .i64) _ 2 ?hg (N:=27) ?hd (xs:=([] : List Int)) (inner:=[]) (ok:=fun _=>True) (okp:=fun _=>True) ?hr ?hp (fun _ hk=>hk) trivial (Below.refl _ _) (Nat.le_refl _) (by simp) ?_;(case hd=>rfl);(case hg=>rfl);(case hr=>(go_simp;done));(case hp=>exact (Reps.none _ _));intro v191 w16 ho17 hb hg_ hnew_;clear hg_ hnew_;(rw [← Ny190.out] at ho17);have HO192:=M0 (Kd.bj ho17 (aj HB.out));replace BK188:=M0 (ab BK188.out hb);replace HB:=M0 (aa HB.out hb);clear hb ho17))
    repeat (go_quiet (first|((with_reducible refine ak (N:=27) rfl ?_);refine Kd.R_lit (Kd.int .i64) _ 2 ?hg (N:=27) ?hd (xs:=([] : List Int)) (inner:=[]) (ok:=fun _=>True) (okp:=fun _=>True) ?hr ?hp (fun _ hk=>hk) trivial (Below.refl _ _) (Nat.le_refl _) (by simp) ?_;(case hd=>rfl);(case hg=>rfl);(case hr=>first|(go_simp;done)|(go_simp;rfl));(case hp=>exact (Reps.none _ _));intro v191 w16 ho17 hb hg_ hnew_;clear hg_ hnew_;(first|rw [← Ny190.out] at ho17|(simp only [Int.reduceToNat] at ho17;rw [← Ny190.out] at ho17));have HO192:=M0 (Kd.bj ho17 (aj (by repeat (first|(with_reducible first|exact HB.out|apply ba|apply aN|apply aQ|refine ax ?_ GE188.out)|exact HB.out))));replace BK188:=M0 (ab (g:=gb188) (o:=.cells #[.int .i64 a0_0,.int .i64 a0_1,.int .i64 a0_2] 43 (0,0)) (by (with_reducible repeat (first|refine bM ?_ _|refine bl ?_|refine bX ?_ _));exact BK188.out) hb);replace HB:=M0 (aa (by repeat (first|(with_reducible first|exact HB.out|apply ba|apply aN|apply aQ|refine ax ?_ GE188.out)|exact HB.out)) hb);clear hb ho17));try go_wp2_with (first|((with_reducible refine ak (N:=27) rfl ?_);refine Kd.R_lit (Kd.int .i64) _ 2 ?hg (N:=27) ?hd (xs:=([] : List Int)) (inner:=[]) (ok:=fun _=>True) (okp:=fun _=>True) ?hr ?hp (fun _ hk=>hk) trivial (Below.refl _ _) (Nat.le_refl _) (by simp) ?_;(case hd=>rfl);(case hg=>rfl);(case hr=>first|(go_simp;done)|(go_simp;rfl));(case hp=>exact (Reps.none _ _));intro v191 w16 ho17 hb hg_ hnew_;clear hg_ hnew_;(first|rw [← Ny190.out] at ho17|(simp only [Int.reduceToNat] at ho17;rw [← Ny190.out] at ho17));have HO192:=M0 (Kd.bj ho17 (aj (by repeat (first|(with_reducible first|exact HB.out|apply ba|apply aN|apply aQ|refine ax ?_ GE188.out)|exact HB.out))));replace BK188:=M0 (ab (g:=gb188) (o:=.cells #[.int .i64 a0_0,.int .i64 a0_1,.int .i64 a0_2] 43 (0,0)) (by (with_reducible repeat (first|refine bM ?_ _|refine bl ?_|refine bX ?_ _));exact BK188.out) hb);replace HB:=M0 (aa (by repeat (first|(with_reducible first|exact HB.out|apply ba|apply aN|apply aQ|refine ax ?_ GE188.out)|exact HB.out)) hb);clear hb ho17)))
    go_ret
    exact ⟨_,by rfl,by exact HO192.out,HB.out⟩
   ·replace c15:=Bool.eq_false_iff.mpr c15
    subst c15
    have H1 : (if 0 ≤ a0_0 then (if (a0_0 : Int).toNat ≤ 35184372088832 then ((some (List.replicate (a0_0 : Int).toNat 0 : List Int)).bind fun y193=>(if a1 < a0_0 then (if 0 ≤ a1 then (if a1 < (y193.length : Int) then (some (y193.set (a1 : Int).toNat 1)) else (none)) else (none)) else (if a1 < (wrap64 (a0_0 + a0_1)) then (aG.l0 kj2 a1 y193 0 a0_0 a0_1 a0_2) else (aG.l1 kj2 a1 y193 0 a0_0 a0_1 a0_2)))) else (none)) else (none)) = some r:=by rw [if_neg (show ¬ (false = true) by decide)] at H;exact H
    clear H
    have H:=H1
    clear H1
    obtain ⟨c18,H⟩:=nn H
    have c18b0:=eq_true c18
    have c18b1:=decide_eq_true c18
    clear c18
    obtain ⟨c19,H⟩:=nn H
    have c19b0:=eq_true c19
    have c19b1:=decide_eq_true c19
    clear c19
    obtain ⟨y193,hy193⟩ : ∃ y_ : List Int,y_ = (List.replicate (a0_0 : Int).toNat 0):=⟨_,rfl⟩
    replace H : (if a1 < a0_0 then (if 0 ≤ a1 then (if a1 < (y193.length : Int) then (some (y193.set (a1 : Int).toNat 1)) else (none)) else (none)) else (if a1 < (wrap64 (a0_0 + a0_1)) then (aG.l0 kj2 a1 y193 0 a0_0 a0_1 a0_2) else (aG.l1 kj2 a1 y193 0 a0_0 a0_1 a0_2))) = some r:=by (have H2_:=(Option.bind_some _ _).symm.trans H;rw [hy193];with_reducible exact H2_)
    have Ny193:=M0 hy193
    clear hy193
    by_cases c20 : a1 < a0_0
    ·rw [if_pos c20] at H
     have c20b0:=decide_eq_true c20
     clear c20
     obtain ⟨c21,H⟩:=nn H
     have c21b0:=decide_eq_true c21
     clear c21
     obtain ⟨c22,H⟩:=nn H
     have c22b0:=decide_eq_true c22
     clear c22
     obtain ⟨y196,hy196⟩ : ∃ y_ : List Int,y_ = (y193.set (a1 : Int).toNat 1):=⟨_,rfl⟩
     rw [← hy196] at H
     have Ny196:=M0 hy196
     clear hy196
     obtain rfl:=Option.some.inj H
     have hcz24_0:=bcv (v:=.int .i64 a0_0) BK188.out 0 rfl
     go_wp2_with (first|((with_reducible refine ak (N:=30) rfl ?_);refine Kd.dV (Kd.int .i64) _ 2 rfl (N:=30) rfl 22 _ _ rfl a0_0 rfl rfl Try.underlying22 (.int .i64 0) 8 dY rfl (by decide) (by omega) 0 (ok:=fun _=>True) (okp:=fun _=>True) rfl (fun _ hk=>hk) trivial (of_decide_eq_true (by with_reducible assumption)) (Nat.le_trans (Nat.mul_le_mul_right _ (of_decide_eq_true (by with_reducible assumption) : a0_0.toNat ≤ 35184372088832)) (by omega)) (Below.refl _ _) (Nat.le_refl _) ?_;intro v194 w25 ho26 hb hg_ hnew_;clear hg_ hnew_;(rw [← Ny193.out] at ho26);have HO195:=M0 (Kd.bj ho26 (aj HB.out));replace BK188:=M0 (ab BK188.out hb);replace HB:=M0 (aa HB.out hb);clear hb ho26;have hcz27_0:=bcv (v:=.int .i64 a0_0) BK188.out 0 rfl;have p23 : 0 ≤ (a1 : Int):=of_decide_eq_true (by with_reducible assumption);have q23 : (a1 : Int) < ((y193.length : Int) : Int):=of_decide_eq_true (by with_reducible assumption);obtain ⟨go23,co23,eo23,gb23,gl23,cl23,HG23⟩:=Kd.du HO195.out (by omega);(cases eo23);have GB23:=M0 gb23;have GG23:=M0 HG23;clear gb23 gl23 HG23;obtain ⟨hx23_0,hf23_0⟩:=Kd.bQ 0 HO195.out (a1 : Int) p23 q23;replace p23:=eq_true p23;replace q23:=eq_true q23;obtain ⟨hy28_,hz28_⟩:=Kd.bQ 0 HO195.out (a1 : Int) (of_decide_eq_true (by with_reducible assumption)) (of_decide_eq_true (by with_reducible assumption));have HP28:=Kd.dj HO195.out (a1 : Int) 1)|((with_reducible refine bo (t:=2) (p:=59) rfl ?_);refine bK (t:=2) (p:=59) (v:=?vo_w29) (w1:=(w25.setCell ⟨go23,(a1 : Int).toNat,none⟩ (.int .i64 1))) ?hg ?ho ?hn ?hr ?_;(case ho=>rfl);(case hg=>rfl);(case hn=>rfl);(case hr=>(go_simp;done));intro w29 hw;have hg : w25.grownBy w29 (some go23):=(by rw [hw];exact HP28.2);have hp_ : Kd.R (Kd.int .i64) 2 w29 w.heap.size (fun _=>True) (.slice (some ⟨go23,0,none⟩) y193.length co23) y196:=(by rw [hw,Ny196.out];exact HP28.1);clear HP28;replace BK188:=M0 (bm (g:=gb188) (o:=.cells #[.int .i64 a0_0,.int .i64 a0_1,.int .i64 a0_2] 43 (0,0)) BK188.out hg (Kd.R_ne HO195.out BK188.out (by decide)));replace HO195:=M0 (hp_);replace HB:=M0 ((by rw [hw];exact ax (HB.out) GB23.out : Below w.heap.size w w29));clear hg hw hp_))
     repeat (go_quiet (first|((with_reducible refine ak (N:=30) rfl ?_);refine Kd.dV (Kd.int .i64) _ 2 rfl (N:=30) rfl 22 _ _ rfl a0_0 rfl rfl Try.underlying22 (.int .i64 0) 8 dY rfl (by decide) (by omega) 0 (ok:=fun _=>True) (okp:=fun _=>True) rfl (fun _ hk=>hk) trivial (of_decide_eq_true (by first|(with_reducible assumption)|assumption)) (Nat.le_trans (Nat.mul_le_mul_right _ (of_decide_eq_true (by first|(with_reducible assumption)|assumption) : a0_0.toNat ≤ 35184372088832)) (by omega)) (Below.refl _ _) (Nat.le_refl _) ?_;intro v194 w25 ho26 hb hg_ hnew_;clear hg_ hnew_;(first|rw [← Ny193.out] at ho26|(simp only [Int.reduceToNat] at ho26;rw [← Ny193.out] at ho26));have HO195:=M0 (Kd.bj ho26 (aj (by repeat (first|(with_reducible first|exact HB.out|apply ba|apply aN|apply aQ|refine ax ?_ GE188.out)|exact HB.out))));replace BK188:=M0 (ab (g:=gb188) (o:=.cells #[.int .i64 a0_0,.int .i64 a0_1,.int .i64 a0_2] 43 (0,0)) (by (with_reducible repeat (first|refine bM ?_ _|refine bl ?_|refine bX ?_ _));exact BK188.out) hb);replace HB:=M0 (aa (by repeat (first|(with_reducible first|exact HB.out|apply ba|apply aN|apply aQ|refine ax ?_ GE188.out)|exact HB.out)) hb);clear hb ho26;have hcz27_0:=bcv (v:=.int .i64 a0_0) BK188.out 0 rfl;have hcz27_1:=bcv (v:=.int .i64 a0_1) BK188.out 1 rfl;have hcz27_2:=bcv (v:=.int .i64 a0_2) BK188.out 2 rfl;have hfz27_0:=ag BK188.out 0;have hfz27_1:=ag BK188.out 1;have hfz27_2:=ag BK188.out 2;have p23 : 0 ≤ (a1 : Int):=of_decide_eq_true (by first|(with_reducible assumption)|assumption);have q23 : (a1 : Int) < ((y193.length : Int) : Int):=of_decide_eq_true (by first|(with_reducible assumption)|assumption);obtain ⟨go23,co23,eo23,gb23,gl23,cl23,HG23⟩:=Kd.du HO195.out (by omega);(first|cases eo23|(injection eo23 with ea_ en_ ec_;(first|subst ea_|(injection ea_ with ea_;subst ea_));subst ec_;clear en_));have GB23:=M0 gb23;have GG23:=M0 HG23;clear gb23 gl23 HG23;obtain ⟨hx23_0,hf23_0⟩:=Kd.bQ 0 HO195.out (a1 : Int) p23 q23;replace p23:=eq_true p23;replace q23:=eq_true q23;obtain ⟨hy28_,hz28_⟩:=Kd.bQ 0 HO195.out (a1 : Int) (of_decide_eq_true (by first|(with_reducible assumption)|assumption)) (of_decide_eq_true (by first|(with_reducible assumption)|assumption));have HP28:=Kd.dj HO195.out (a1 : Int) 1)|((with_reducible refine bo (t:=2) (p:=59) rfl ?_);(try (rw [dF w25];generalize hq_ : World.drewN w25 _ = w25;have n0_:=M0 (Kd.R_at hq_ HO195.out);have n1_:=M0 (blk_at hq_ BK188.out);have n2_:=M0 (below_at hq_ HB.out);clear hq_ HO195 BK188 HB;have HO195:=n0_;have BK188:=n1_;have HB:=n2_;clear n0_ n1_ n2_;(try (obtain ⟨hy28_,hz28_⟩:=Kd.bQ 0 HO195.out (a1 : Int) (of_decide_eq_true (by first|(with_reducible assumption)|assumption)) (of_decide_eq_true (by first|(with_reducible assumption)|assumption))));(try (have HP28:=Kd.dj HO195.out (a1 : Int) 1))));refine bK (t:=2) (p:=59) (v:=?vo_w29) (w1:=(w25.setCell ⟨go23,(a1 : Int).toNat,none⟩ (.int .i64 1))) ?hg ?ho ?hn ?hr ?_;(case ho=>rfl);(case hg=>rfl);(case hn=>rfl);(case hr=>first|(go_simp;done)|(go_simp;rfl));intro w29 hw;have hg : w25.grownBy w29 (some go23):=(by rw [hw];exact HP28.2);have hp_ : Kd.R (Kd.int .i64) 2 w29 w.heap.size (fun _=>True) (.slice (some ⟨go23,0,none⟩) y193.length co23) y196:=(by rw [hw,Ny196.out];exact HP28.1);clear HP28;replace BK188:=M0 (bm (g:=gb188) (o:=.cells #[.int .i64 a0_0,.int .i64 a0_1,.int .i64 a0_2] 43 (0,0)) (by (with_reducible repeat (first|refine bM ?_ _|refine bl ?_|refine bX ?_ _));exact BK188.out) hg (Kd.R_ne HO195.out BK188.out (by decide)));replace HO195:=M0 (hp_);replace HB:=M0 ((by rw [hw];exact ax (HB.out) GB23.out : Below w.heap.size w w29));clear hg hw hp_));try go_wp2_with (first|((with_reducible refine ak (N:=30) rfl ?_);refine Kd.dV (Kd.int .i64) _ 2 rfl (N:=30) rfl 22 _ _ rfl a0_0 rfl rfl Try.underlying22 (.int .i64 0) 8 dY rfl (by decide) (by omega) 0 (ok:=fun _=>True) (okp:=fun _=>True) rfl (fun _ hk=>hk) trivial (of_decide_eq_true (by first|(with_reducible assumption)|assumption)) (Nat.le_trans (Nat.mul_le_mul_right _ (of_decide_eq_true (by first|(with_reducible assumption)|assumption) : a0_0.toNat ≤ 35184372088832)) (by omega)) (Below.refl _ _) (Nat.le_refl _) ?_;intro v194 w25 ho26 hb hg_ hnew_;clear hg_ hnew_;(first|rw [← Ny193.out] at ho26|(simp only [Int.reduceToNat] at ho26;rw [← Ny193.out] at ho26));have HO195:=M0 (Kd.bj ho26 (aj (by repeat (first|(with_reducible first|exact HB.out|apply ba|apply aN|apply aQ|refine ax ?_ GE188.out)|exact HB.out))));replace BK188:=M0 (ab (g:=gb188) (o:=.cells #[.int .i64 a0_0,.int .i64 a0_1,.int .i64 a0_2] 43 (0,0)) (by (with_reducible repeat (first|refine bM ?_ _|refine bl ?_|refine bX ?_ _));exact BK188.out) hb);replace HB:=M0 (aa (by repeat (first|(with_reducible first|exact HB.out|apply ba|apply aN|apply aQ|refine ax ?_ GE188.out)|exact HB.out)) hb);clear hb ho26;have hcz27_0:=bcv (v:=.int .i64 a0_0) BK188.out 0 rfl;have hcz27_1:=bcv (v:=.int .i64 a0_1) BK188.out 1 rfl;have hcz27_2:=bcv (v:=.int .i64 a0_2) BK188.out 2 rfl;have hfz27_0:=ag BK188.out 0;have hfz27_1:=ag BK188.out 1;have hfz27_2:=ag BK188.out 2;have p23 : 0 ≤ (a1 : Int):=of_decide_eq_true (by first|(with_reducible assumption)|assumption);have q23 : (a1 : Int) < ((y193.length : Int) : Int):=of_decide_eq_true (by first|(with_reducible assumption)|assumption);obtain ⟨go23,co23,eo23,gb23,gl23,cl23,HG23⟩:=Kd.du HO195.out (by omega);(first|cases eo23|(injection eo23 with ea_ en_ ec_;(first|subst ea_|(injection ea_ with ea_;subst ea_));subst ec_;clear en_));have GB23:=M0 gb23;have GG23:=M0 HG23;clear gb23 gl23 HG23;obtain ⟨hx23_0,hf23_0⟩:=Kd.bQ 0 HO195.out (a1 : Int) p23 q23;replace p23:=eq_true p23;replace q23:=eq_true q23;obtain ⟨hy28_,hz28_⟩:=Kd.bQ 0 HO195.out (a1 : Int) (of_decide_eq_true (by first|(with_reducible assumption)|assumption)) (of_decide_eq_true (by first|(with_reducible assumption)|assumption));have HP28:=Kd.dj HO195.out (a1 : Int) 1)|((with_reducible refine bo (t:=2) (p:=59) rfl ?_);(try (rw [dF w25];generalize hq_ : World.drewN w25 _ = w25;have n0_:=M0 (Kd.R_at hq_ HO195.out);have n1_:=M0 (blk_at hq_ BK188.out);have n2_:=M0 (below_at hq_ HB.out);clear hq_ HO195 BK188 HB;have HO195:=n0_;have BK188:=n1_;have HB:=n2_;clear n0_ n1_ n2_;(try (obtain ⟨hy28_,hz28_⟩:=Kd.bQ 0 HO195.out (a1 : Int) (of_decide_eq_true (by first|(with_reducible assumption)|assumption)) (of_decide_eq_true (by first|(with_reducible assumption)|assumption))));(try (have HP28:=Kd.dj HO195.out (a1 : Int) 1))));refine bK (t:=2) (p:=59) (v:=?vo_w29) (w1:=(w25.setCell ⟨go23,(a1 : Int).toNat,none⟩ (.int .i64 1))) ?hg ?ho ?hn ?hr ?_;(case ho=>rfl);(case hg=>rfl);(case hn=>rfl);(case hr=>first|(go_simp;done)|(go_simp;rfl));intro w29 hw;have hg : w25.grownBy w29 (some go23):=(by rw [hw];exact HP28.2);have hp_ : Kd.R (Kd.int .i64) 2 w29 w.heap.size (fun _=>True) (.slice (some ⟨go23,0,none⟩) y193.length co23) y196:=(by rw [hw,Ny196.out];exact HP28.1);clear HP28;replace BK188:=M0 (bm (g:=gb188) (o:=.cells #[.int .i64 a0_0,.int .i64 a0_1,.int .i64 a0_2] 43 (0,0)) (by (with_reducible repeat (first|refine bM ?_ _|refine bl ?_|refine bX ?_ _));exact BK188.out) hg (Kd.R_ne HO195.out BK188.out (by decide)));replace HO195:=M0 (hp_);replace HB:=M0 ((by rw [hw];exact ax (HB.out) GB23.out : Below w.heap.size w w29));clear hg hw hp_)))
     go_ret
     exact ⟨_,by rfl,by exact HO195.out,HB.out⟩
    ·rw [if_neg c20] at H
     have c20b0:=decide_eq_false c20
     clear c20
     by_cases c30 : a1 < (wrap64 (a0_0 + a0_1))
     ·rw [if_pos c30] at H
      have c30b0:=decide_eq_true c30
      clear c30
      have H':=M0 H
      clear H
      have hcz31_0:=bcv (v:=.int .i64 a0_0) BK188.out 0 rfl
      have hcz31_1:=bcv (v:=.int .i64 a0_1) BK188.out 1 rfl
      have hcz31_2:=bcv (v:=.int .i64 a0_2) BK188.out 2 rfl
      have hfz31_0:=ag BK188.out 0
      have hfz31_1:=ag BK188.out 1
      have hfz31_2:=ag BK188.out 2
      go_wp2_with (((with_reducible refine ak (N:=30) rfl ?_);refine Kd.dV (Kd.int .i64) _ 2 rfl (N:=30) rfl 22 _ _ rfl a0_0 rfl rfl Try.underlying22 (.int .i64 0) 8 dY rfl (by decide) (by omega) 0 (ok:=fun _=>True) (okp:=fun _=>True) rfl (fun _ hk=>hk) trivial (of_decide_eq_true (by with_reducible assumption)) (Nat.le_trans (Nat.mul_le_mul_right _ (of_decide_eq_true (by with_reducible assumption) : a0_0.toNat ≤ 35184372088832)) (by omega)) (Below.refl _ _) (Nat.le_refl _) ?_;intro v194 w32 ho33 hb hg_ hnew_;clear hg_ hnew_;(rw [← Ny193.out] at ho33);have HO195:=M0 (Kd.bj ho33 (aj HB.out));replace BK188:=M0 (ab BK188.out hb);replace HB:=M0 (aa HB.out hb);clear hb ho33;have hcz34_0:=bcv (v:=.int .i64 a0_0) BK188.out 0 rfl;have hcz34_1:=bcv (v:=.int .i64 a0_1) BK188.out 1 rfl;have hcz34_2:=bcv (v:=.int .i64 a0_2) BK188.out 2 rfl;have hfz34_0:=ag BK188.out 0;have hfz34_1:=ag BK188.out 1;have hfz34_2:=ag BK188.out 2))
      repeat (go_quiet (first|((with_reducible refine ak (N:=30) rfl ?_);refine Kd.dV (Kd.int .i64) _ 2 rfl (N:=30) rfl 22 _ _ rfl a0_0 rfl rfl Try.underlying22 (.int .i64 0) 8 dY rfl (by decide) (by omega) 0 (ok:=fun _=>True) (okp:=fun _=>True) rfl (fun _ hk=>hk) trivial (of_decide_eq_true (by first|(with_reducible assumption)|assumption)) (Nat.le_trans (Nat.mul_le_mul_right _ (of_decide_eq_true (by first|(with_reducible assumption)|assumption) : a0_0.toNat ≤ 35184372088832)) (by omega)) (Below.refl _ _) (Nat.le_refl _) ?_;intro v194 w32 ho33 hb hg_ hnew_;clear hg_ hnew_;(first|rw [← Ny193.out] at ho33|(simp only [Int.reduceToNat] at ho33;rw [← Ny193.out] at ho33));have HO195:=M0 (Kd.bj ho33 (aj (by repeat (first|(with_reducible first|exact HB.out|apply ba|apply aN|apply aQ|refine ax ?_ GE188.out)|exact HB.out))));replace BK188:=M0 (ab (g:=gb188) (o:=.cells #[.int .i64 a0_0,.int .i64 a0_1,.int .i64 a0_2] 43 (0,0)) (by (with_reducible repeat (first|refine bM ?_ _|refine bl ?_|refine bX ?_ _));exact BK188.out) hb);replace HB:=M0 (aa (by repeat (first|(with_reducible first|exact HB.out|apply ba|apply aN|apply aQ|refine ax ?_ GE188.out)|exact HB.out)) hb);clear hb ho33;have hcz34_0:=bcv (v:=.int .i64 a0_0) BK188.out 0 rfl;have hcz34_1:=bcv (v:=.int .i64 a0_1) BK188.out 1 rfl;have hcz34_2:=bcv (v:=.int .i64 a0_2) BK188.out 2 rfl;have hfz34_0:=ag BK188.out 0;have hfz34_1:=ag BK188.out 1;have hfz34_2:=ag BK188.out 2));try go_wp2_with (first|((with_reducible refine ak (N:=30) rfl ?_);refine Kd.dV (Kd.int .i64) _ 2 rfl (N:=30) rfl 22 _ _ rfl a0_0 rfl rfl Try.underlying22 (.int .i64 0) 8 dY rfl (by decide) (by omega) 0 (ok:=fun _=>True) (okp:=fun _=>True) rfl (fun _ hk=>hk) trivial (of_decide_eq_true (by first|(with_reducible assumption)|assumption)) (Nat.le_trans (Nat.mul_le_mul_right _ (of_decide_eq_true (by first|(with_reducible assumption)|assumption) : a0_0.toNat ≤ 35184372088832)) (by omega)) (Below.refl _ _) (Nat.le_refl _) ?_;intro v194 w32 ho33 hb hg_ hnew_;clear hg_ hnew_;(first|rw [← Ny193.out] at ho33|(simp only [Int.reduceToNat] at ho33;rw [← Ny193.out] at ho33));have HO195:=M0 (Kd.bj ho33 (aj (by repeat (first|(with_reducible first|exact HB.out|apply ba|apply aN|apply aQ|refine ax ?_ GE188.out)|exact HB.out))));replace BK188:=M0 (ab (g:=gb188) (o:=.cells #[.int .i64 a0_0,.int .i64 a0_1,.int .i64 a0_2] 43 (0,0)) (by (with_reducible repeat (first|refine bM ?_ _|refine bl ?_|refine bX ?_ _));exact BK188.out) hb);replace HB:=M0 (aa (by repeat (first|(with_reducible first|exact HB.out|apply ba|apply aN|apply aQ|refine ax ?_ GE188.out)|exact HB.out)) hb);clear hb ho33;have hcz34_0:=bcv (v:=.int .i64 a0_0) BK188.out 0 rfl;have hcz34_1:=bcv (v:=.int .i64 a0_1) BK188.out 1 rfl;have hcz34_2:=bcv (v:=.int .i64 a0_2) BK188.out 2 rfl;have hfz34_0:=ag BK188.out 0;have hfz34_1:=ag BK188.out 1;have hfz34_2:=ag BK188.out 2)))
      go_loopg [6] kj2 (fun kq v6 w'=>∃ (x5_2 : List Int) (x6_2 : Int),v6 = .int .i64 x6_2 ∧ Aside0 (aG.l0 kq a1 x5_2 x6_2 a0_0 a0_1 a0_2 = some r) ∧ Aside0 (kq ≤ kj2) ∧ Aside0 (Kd.R (Kd.int .i64) 2 w' w.heap.size (fun _=>True) v194 x5_2) ∧ Aside0 (w'.heap[gb188]? = some (.cells #[.int .i64 a0_0,.int .i64 a0_1,.int .i64 a0_2] 43 (0,0))) ∧ Aside0 (Below w.heap.size w w'))
      case atStart=>exact ⟨(y193),(0),(by rfl),H',⟨Nat.le_refl _⟩,⟨by exact HO195.out⟩,⟨by exact BK188.out⟩,⟨HB.out⟩⟩
      case round=>
       clear H'
       (try clear c18b0);(try clear c18b1);(try clear c19b0);(try clear c19b1);(try clear c20b0);(try clear c30b0);(try clear hcz31_0);(try clear hcz31_1);(try clear hcz31_2);(try clear hcz34_0);(try clear hcz34_1);(try clear hcz34_2);(try clear hfz31_0);(try clear hfz31_1);(try clear hfz31_2);(try clear hfz34_0);(try clear hfz34_1);(try clear hfz34_2)
       obtain ⟨x5_2,x6_2,rfl,HA,HK2,HO_5,BK188,HB⟩:=hrel
       cases gk with
       | zero=>exact absurd HA.out (by simp [aG.l0])
       | succ k2=>
        have H:=HA.out
        clear HA
        simp only [aG.l0] at H
        by_cases c35 : x6_2 < a0_0
        ·rw [if_pos c35] at H
         have c35b0:=decide_eq_true c35
         clear c35
         replace H:=Option.bind_eq_some_iff.mp H
         obtain ⟨t197,A360,H⟩:=H
         replace H : (if 0 ≤ x6_2 then (if x6_2 < (x5_2.length : Int) then (aG.l0 k2 a1 (x5_2.set (x6_2 : Int).toNat t197) (wrap64 (x6_2 + 1)) a0_0 a0_1 a0_2) else (none)) else (none)) = some r:=H
         have A36:=M0 A360
         clear A360
         obtain ⟨c37,H⟩:=nn H
         have c37b0:=decide_eq_true c37
         clear c37
         obtain ⟨c38,H⟩:=nn H
         have c38b0:=decide_eq_true c38
         clear c38
         obtain ⟨y198,hy198⟩ : ∃ y_ : List Int,y_ = (x5_2.set (x6_2 : Int).toNat t197):=⟨_,rfl⟩
         rw [← hy198] at H
         have Ny198:=M0 hy198
         clear hy198
         have H':=M0 H
         clear H
         have hcz40_0:=bcv (v:=.int .i64 a0_0) BK188.out 0 rfl
         go_wp2_with (first|(go_at_call 123;(with_reducible refine (bI.calls k2 (Go.bits .xor .i64 a1 x6_2) t197 _ A36.out).mono ?_);rintro e w' ⟨rfl,⟨nd,rfl⟩⟩;(try first|exact ⟨rfl,_,World.drewN_drewN _ _ _⟩|exact ⟨rfl,_,Eq.trans (World.drewN_drewN _ _ _) (congrArg (World.drewN _) (Nat.add_assoc _ _ _))⟩);have p39 : 0 ≤ (x6_2 : Int):=of_decide_eq_true (by with_reducible assumption);have q39 : (x6_2 : Int) < ((x5_2.length : Int) : Int):=of_decide_eq_true (by with_reducible assumption);obtain ⟨go39,co39,eo39,gb39,gl39,cl39,HG39⟩:=Kd.du HO_5.out (by omega);(cases eo39);have GB39:=M0 gb39;have GG39:=M0 HG39;clear gb39 gl39 HG39;obtain ⟨hx39_0,hf39_0⟩:=Kd.bQ 0 HO_5.out (x6_2 : Int) p39 q39;replace p39:=eq_true p39;replace q39:=eq_true q39;obtain ⟨hy41_,hz41_⟩:=Kd.bQ 0 HO_5.out (x6_2 : Int) (of_decide_eq_true (by with_reducible assumption)) (of_decide_eq_true (by with_reducible assumption));have HP41:=Kd.dj HO_5.out (x6_2 : Int) t197)|((with_reducible refine bo (t:=2) (p:=80) rfl ?_);(try (rw [dF wr];generalize hq_ : World.drewN wr _ = wr;have n0_:=M0 (Kd.R_at hq_ HO_5.out);have n1_:=M0 (blk_at hq_ BK188.out);have n2_:=M0 (below_at hq_ HB.out);clear hq_ HO_5 BK188 HB;have HO_5:=n0_;have BK188:=n1_;have HB:=n2_;clear n0_ n1_ n2_;(try (obtain ⟨hy41_,hz41_⟩:=Kd.bQ 0 HO_5.out (x6_2 : Int) (of_decide_eq_true (by with_reducible assumption)) (of_decide_eq_true (by with_reducible assumption))));(try (have HP41:=Kd.dj HO_5.out (x6_2 : Int) t197))));refine bK (t:=2) (p:=80) (v:=?vo_w42) (w1:=(wr.setCell ⟨go39,(x6_2 : Int).toNat,none⟩ (.int .i64 t197))) ?hg ?ho ?hn ?hr ?_;(case ho=>rfl);(case hg=>rfl);(case hn=>rfl);(case hr=>(go_simp;done));intro w42 hw;have hg : wr.grownBy w42 (some go39):=(by rw [hw];exact HP41.2);have hp_ : Kd.R (Kd.int .i64) 2 w42 w.heap.size (fun _=>True) (.slice (some ⟨go39,0,none⟩) x5_2.length co39) y198:=(by rw [hw,Ny198.out];exact HP41.1);clear HP41;replace BK188:=M0 (bm (g:=gb188) (o:=.cells #[.int .i64 a0_0,.int .i64 a0_1,.int .i64 a0_2] 43 (0,0)) BK188.out hg (Kd.R_ne HO_5.out BK188.out (by decide)));replace HO_5:=M0 (hp_);replace HB:=M0 ((by rw [hw];exact ax (HB.out) GB39.out : Below w.heap.size w w42));clear hg hw hp_))
         repeat (go_quiet (first|(go_at_call 123;(with_reducible refine (bI.calls k2 (Go.bits .xor .i64 a1 x6_2) t197 _ A36.out).mono ?_);rintro e w' ⟨rfl,⟨nd,rfl⟩⟩;(try first|exact ⟨rfl,_,World.drewN_drewN _ _ _⟩|exact ⟨rfl,_,Eq.trans (World.drewN_drewN _ _ _) (congrArg (World.drewN _) (Nat.add_assoc _ _ _))⟩);have p39 : 0 ≤ (x6_2 : Int):=of_decide_eq_true (by first|(with_reducible assumption)|assumption);have q39 : (x6_2 : Int) < ((x5_2.length : Int) : Int):=of_decide_eq_true (by first|(with_reducible assumption)|assumption);obtain ⟨go39,co39,eo39,gb39,gl39,cl39,HG39⟩:=Kd.du HO_5.out (by omega);(first|cases eo39|(injection eo39 with ea_ en_ ec_;(first|subst ea_|(injection ea_ with ea_;subst ea_));subst ec_;clear en_));have GB39:=M0 gb39;have GG39:=M0 HG39;clear gb39 gl39 HG39;obtain ⟨hx39_0,hf39_0⟩:=Kd.bQ 0 HO_5.out (x6_2 : Int) p39 q39;replace p39:=eq_true p39;replace q39:=eq_true q39;obtain ⟨hy41_,hz41_⟩:=Kd.bQ 0 HO_5.out (x6_2 : Int) (of_decide_eq_true (by first|(with_reducible assumption)|assumption)) (of_decide_eq_true (by first|(with_reducible assumption)|assumption));have HP41:=Kd.dj HO_5.out (x6_2 : Int) t197)|((with_reducible refine bo (t:=2) (p:=80) rfl ?_);(try (rw [dF wr];generalize hq_ : World.drewN wr _ = wr;have n0_:=M0 (Kd.R_at hq_ HO_5.out);have n1_:=M0 (blk_at hq_ BK188.out);have n2_:=M0 (below_at hq_ HB.out);clear hq_ HO_5 BK188 HB;have HO_5:=n0_;have BK188:=n1_;have HB:=n2_;clear n0_ n1_ n2_;(try (obtain ⟨hy41_,hz41_⟩:=Kd.bQ 0 HO_5.out (x6_2 : Int) (of_decide_eq_true (by first|(with_reducible assumption)|assumption)) (of_decide_eq_true (by first|(with_reducible assumption)|assumption))));(try (have HP41:=Kd.dj HO_5.out (x6_2 : Int) t197))));refine bK (t:=2) (p:=80) (v:=?vo_w42) (w1:=(wr.setCell ⟨go39,(x6_2 : Int).toNat,none⟩ (.int .i64 t197))) ?hg ?ho ?hn ?hr ?_;(case ho=>rfl);(case hg=>rfl);(case hn=>rfl);(case hr=>first|(go_simp;done)|(go_simp;rfl));intro w42 hw;have hg : wr.grownBy w42 (some go39):=(by rw [hw];exact HP41.2);have hp_ : Kd.R (Kd.int .i64) 2 w42 w.heap.size (fun _=>True) (.slice (some ⟨go39,0,none⟩) x5_2.length co39) y198:=(by rw [hw,Ny198.out];exact HP41.1);clear HP41;replace BK188:=M0 (bm (g:=gb188) (o:=.cells #[.int .i64 a0_0,.int .i64 a0_1,.int .i64 a0_2] 43 (0,0)) (by (with_reducible repeat (first|refine bM ?_ _|refine bl ?_|refine bX ?_ _));exact BK188.out) hg (Kd.R_ne HO_5.out BK188.out (by decide)));replace HO_5:=M0 (hp_);replace HB:=M0 ((by rw [hw];exact ax (HB.out) GB39.out : Below w.heap.size w w42));clear hg hw hp_));try go_wp2_with (first|(go_at_call 123;(with_reducible refine (bI.calls k2 (Go.bits .xor .i64 a1 x6_2) t197 _ A36.out).mono ?_);rintro e w' ⟨rfl,⟨nd,rfl⟩⟩;(try first|exact ⟨rfl,_,World.drewN_drewN _ _ _⟩|exact ⟨rfl,_,Eq.trans (World.drewN_drewN _ _ _) (congrArg (World.drewN _) (Nat.add_assoc _ _ _))⟩);have p39 : 0 ≤ (x6_2 : Int):=of_decide_eq_true (by first|(with_reducible assumption)|assumption);have q39 : (x6_2 : Int) < ((x5_2.length : Int) : Int):=of_decide_eq_true (by first|(with_reducible assumption)|assumption);obtain ⟨go39,co39,eo39,gb39,gl39,cl39,HG39⟩:=Kd.du HO_5.out (by omega);(first|cases eo39|(injection eo39 with ea_ en_ ec_;(first|subst ea_|(injection ea_ with ea_;subst ea_));subst ec_;clear en_));have GB39:=M0 gb39;have GG39:=M0 HG39;clear gb39 gl39 HG39;obtain ⟨hx39_0,hf39_0⟩:=Kd.bQ 0 HO_5.out (x6_2 : Int) p39 q39;replace p39:=eq_true p39;replace q39:=eq_true q39;obtain ⟨hy41_,hz41_⟩:=Kd.bQ 0 HO_5.out (x6_2 : Int) (of_decide_eq_true (by first|(with_reducible assumption)|assumption)) (of_decide_eq_true (by first|(with_reducible assumption)|assumption));have HP41:=Kd.dj HO_5.out (x6_2 : Int) t197)|((with_reducible refine bo (t:=2) (p:=80) rfl ?_);(try (rw [dF wr];generalize hq_ : World.drewN wr _ = wr;have n0_:=M0 (Kd.R_at hq_ HO_5.out);have n1_:=M0 (blk_at hq_ BK188.out);have n2_:=M0 (below_at hq_ HB.out);clear hq_ HO_5 BK188 HB;have HO_5:=n0_;have BK188:=n1_;have HB:=n2_;clear n0_ n1_ n2_;(try (obtain ⟨hy41_,hz41_⟩:=Kd.bQ 0 HO_5.out (x6_2 : Int) (of_decide_eq_true (by first|(with_reducible assumption)|assumption)) (of_decide_eq_true (by first|(with_reducible assumption)|assumption))));(try (have HP41:=Kd.dj HO_5.out (x6_2 : Int) t197))));refine bK (t:=2) (p:=80) (v:=?vo_w42) (w1:=(wr.setCell ⟨go39,(x6_2 : Int).toNat,none⟩ (.int .i64 t197))) ?hg ?ho ?hn ?hr ?_;(case ho=>rfl);(case hg=>rfl);(case hn=>rfl);(case hr=>first|(go_simp;done)|(go_simp;rfl));intro w42 hw;have hg : wr.grownBy w42 (some go39):=(by rw [hw];exact HP41.2);have hp_ : Kd.R (Kd.int .i64) 2 w42 w.heap.size (fun _=>True) (.slice (some ⟨go39,0,none⟩) x5_2.length co39) y198:=(by rw [hw,Ny198.out];exact HP41.1);clear HP41;replace BK188:=M0 (bm (g:=gb188) (o:=.cells #[.int .i64 a0_0,.int .i64 a0_1,.int .i64 a0_2] 43 (0,0)) (by (with_reducible repeat (first|refine bM ?_ _|refine bl ?_|refine bX ?_ _));exact BK188.out) hg (Kd.R_ne HO_5.out BK188.out (by decide)));replace HO_5:=M0 (hp_);replace HB:=M0 ((by rw [hw];exact ax (HB.out) GB39.out : Below w.heap.size w w42));clear hg hw hp_)))
         go_roundg k2
         case measure=>have:=HJ2.out;have:=HK2.out;omega
         case rel=>exact ⟨(y198),(wrap64 (x6_2 + 1)),(by rfl),H',⟨by have:=HJ2.out;have:=HK2.out;omega⟩,⟨by exact HO_5.out⟩,⟨by exact BK188.out⟩,⟨HB.out⟩⟩
        ·rw [if_neg c35] at H
         have c35b0:=decide_eq_false c35
         clear c35
         obtain rfl:=Option.some.inj H
         have hcz43_0:=bcv (v:=.int .i64 a0_0) BK188.out 0 rfl
         go_wp2
         repeat (go_quiet (fail);try go_wp2)
         go_ret
         exact ⟨_,by rfl,by exact HO_5.out,HB.out⟩
     ·rw [if_neg c30] at H
      have c30b0:=decide_eq_false c30
      clear c30
      have H':=M0 H
      clear H
      have hcz44_0:=bcv (v:=.int .i64 a0_0) BK188.out 0 rfl
      have hcz44_1:=bcv (v:=.int .i64 a0_1) BK188.out 1 rfl
      have hcz44_2:=bcv (v:=.int .i64 a0_2) BK188.out 2 rfl
      have hfz44_0:=ag BK188.out 0
      have hfz44_1:=ag BK188.out 1
      have hfz44_2:=ag BK188.out 2
      go_wp2_with (((with_reducible refine ak (N:=30) rfl ?_);refine Kd.dV (Kd.int .i64) _ 2 rfl (N:=30) rfl 22 _ _ rfl a0_0 rfl rfl Try.underlying22 (.int .i64 0) 8 dY rfl (by decide) (by omega) 0 (ok:=fun _=>True) (okp:=fun _=>True) rfl (fun _ hk=>hk) trivial (of_decide_eq_true (by with_reducible assumption)) (Nat.le_trans (Nat.mul_le_mul_right _ (of_decide_eq_true (by with_reducible assumption) : a0_0.toNat ≤ 35184372088832)) (by omega)) (Below.refl _ _) (Nat.le_refl _) ?_;intro v194 w45 ho46 hb hg_ hnew_;clear hg_ hnew_;(rw [← Ny193.out] at ho46);have HO195:=M0 (Kd.bj ho46 (aj HB.out));replace BK188:=M0 (ab BK188.out hb);replace HB:=M0 (aa HB.out hb);clear hb ho46;have hcz47_0:=bcv (v:=.int .i64 a0_0) BK188.out 0 rfl;have hcz47_1:=bcv (v:=.int .i64 a0_1) BK188.out 1 rfl;have hcz47_2:=bcv (v:=.int .i64 a0_2) BK188.out 2 rfl;have hfz47_0:=ag BK188.out 0;have hfz47_1:=ag BK188.out 1;have hfz47_2:=ag BK188.out 2))
      repeat (go_quiet (first|((with_reducible refine ak (N:=30) rfl ?_);refine Kd.dV (Kd.int .i64) _ 2 rfl (N:=30) rfl 22 _ _ rfl a0_0 rfl rfl Try.underlying22 (.int .i64 0) 8 dY rfl (by decide) (by omega) 0 (ok:=fun _=>True) (okp:=fun _=>True) rfl (fun _ hk=>hk) trivial (of_decide_eq_true (by first|(with_reducible assumption)|assumption)) (Nat.le_trans (Nat.mul_le_mul_right _ (of_decide_eq_true (by first|(with_reducible assumption)|assumption) : a0_0.toNat ≤ 35184372088832)) (by omega)) (Below.refl _ _) (Nat.le_refl _) ?_;intro v194 w45 ho46 hb hg_ hnew_;clear hg_ hnew_;(first|rw [← Ny193.out] at ho46|(simp only [Int.reduceToNat] at ho46;rw [← Ny193.out] at ho46));have HO195:=M0 (Kd.bj ho46 (aj (by repeat (first|(with_reducible first|exact HB.out|apply ba|apply aN|apply aQ|refine ax ?_ GE188.out)|exact HB.out))));replace BK188:=M0 (ab (g:=gb188) (o:=.cells #[.int .i64 a0_0,.int .i64 a0_1,.int .i64 a0_2] 43 (0,0)) (by (with_reducible repeat (first|refine bM ?_ _|refine bl ?_|refine bX ?_ _));exact BK188.out) hb);replace HB:=M0 (aa (by repeat (first|(with_reducible first|exact HB.out|apply ba|apply aN|apply aQ|refine ax ?_ GE188.out)|exact HB.out)) hb);clear hb ho46;have hcz47_0:=bcv (v:=.int .i64 a0_0) BK188.out 0 rfl;have hcz47_1:=bcv (v:=.int .i64 a0_1) BK188.out 1 rfl;have hcz47_2:=bcv (v:=.int .i64 a0_2) BK188.out 2 rfl;have hfz47_0:=ag BK188.out 0;have hfz47_1:=ag BK188.out 1;have hfz47_2:=ag BK188.out 2));try go_wp2_with (first|((with_reducible refine ak (N:=30) rfl ?_);refine Kd.dV (Kd.int .i64) _ 2 rfl (N:=30) rfl 22 _ _ rfl a0_0 rfl rfl Try.underlying22 (.int .i64 0) 8 dY rfl (by decide) (by omega) 0 (ok:=fun _=>True) (okp:=fun _=>True) rfl (fun _ hk=>hk) trivial (of_decide_eq_true (by first|(with_reducible assumption)|assumption)) (Nat.le_trans (Nat.mul_le_mul_right _ (of_decide_eq_true (by first|(with_reducible assumption)|assumption) : a0_0.toNat ≤ 35184372088832)) (by omega)) (Below.refl _ _) (Nat.le_refl _) ?_;intro v194 w45 ho46 hb hg_ hnew_;clear hg_ hnew_;(first|rw [← Ny193.out] at ho46|(simp only [Int.reduceToNat] at ho46;rw [← Ny193.out] at ho46));have HO195:=M0 (Kd.bj ho46 (aj (by repeat (first|(with_reducible first|exact HB.out|apply ba|apply aN|apply aQ|refine ax ?_ GE188.out)|exact HB.out))));replace BK188:=M0 (ab (g:=gb188) (o:=.cells #[.int .i64 a0_0,.int .i64 a0_1,.int .i64 a0_2] 43 (0,0)) (by (with_reducible repeat (first|refine bM ?_ _|refine bl ?_|refine bX ?_ _));exact BK188.out) hb);replace HB:=M0 (aa (by repeat (first|(with_reducible first|exact HB.out|apply ba|apply aN|apply aQ|refine ax ?_ GE188.out)|exact HB.out)) hb);clear hb ho46;have hcz47_0:=bcv (v:=.int .i64 a0_0) BK188.out 0 rfl;have hcz47_1:=bcv (v:=.int .i64 a0_1) BK188.out 1 rfl;have hcz47_2:=bcv (v:=.int .i64 a0_2) BK188.out 2 rfl;have hfz47_0:=ag BK188.out 0;have hfz47_1:=ag BK188.out 1;have hfz47_2:=ag BK188.out 2)))
      go_loopg [7] kj2 (fun kq v7 w'=>∃ (x5_2 : List Int) (x7_2 : Int),v7 = .int .i64 x7_2 ∧ Aside0 (aG.l1 kq a1 x5_2 x7_2 a0_0 a0_1 a0_2 = some r) ∧ Aside0 (kq ≤ kj2) ∧ Aside0 (Kd.R (Kd.int .i64) 2 w' w.heap.size (fun _=>True) v194 x5_2) ∧ Aside0 (w'.heap[gb188]? = some (.cells #[.int .i64 a0_0,.int .i64 a0_1,.int .i64 a0_2] 43 (0,0))) ∧ Aside0 (Below w.heap.size w w'))
      case atStart=>exact ⟨(y193),(0),(by rfl),H',⟨Nat.le_refl _⟩,⟨by exact HO195.out⟩,⟨by exact BK188.out⟩,⟨HB.out⟩⟩
      case round=>
       clear H'
       (try clear c18b0);(try clear c18b1);(try clear c19b0);(try clear c19b1);(try clear c20b0);(try clear c30b0);(try clear hcz44_0);(try clear hcz44_1);(try clear hcz44_2);(try clear hcz47_0);(try clear hcz47_1);(try clear hcz47_2);(try clear hfz44_0);(try clear hfz44_1);(try clear hfz44_2);(try clear hfz47_0);(try clear hfz47_1);(try clear hfz47_2)
       obtain ⟨x5_2,x7_2,rfl,HA,HK2,HO_5,BK188,HB⟩:=hrel
       cases gk with
       | zero=>exact absurd HA.out (by simp [aG.l1])
       | succ k2=>
        have H:=HA.out
        clear HA
        simp only [aG.l1] at H
        by_cases c48 : x7_2 < a0_0
        ·rw [if_pos c48] at H
         have c48b0:=decide_eq_true c48
         clear c48
         by_cases c49 : a0_2 = 0
         ·rw [if_pos c49] at H
          exact absurd H (by simp)
         ·rw [if_neg c49] at H
          have c49b0 : (a0_2 == 0) = false:=beq_eq_false_iff_ne.mpr c49
          have c49b1 : (a0_2 != 0) = true:=bne_iff_ne.mpr c49
          by_cases c50 : (Int.tmod x7_2 a0_2) = (wrap64 ((wrap64 (a1 - a0_0)) - a0_1))
          ·rw [if_pos c50] at H
           have c50b0 : ((Int.tmod x7_2 a0_2) == (wrap64 ((wrap64 (a1 - a0_0)) - a0_1))) = true:=beq_iff_eq.mpr c50
           clear c50
           obtain ⟨c51,H⟩:=nn H
           have c51b0:=decide_eq_true c51
           clear c51
           obtain ⟨c52,H⟩:=nn H
           have c52b0:=decide_eq_true c52
           clear c52
           obtain ⟨y199,hy199⟩ : ∃ y_ : List Int,y_ = (x5_2.set (x7_2 : Int).toNat 1):=⟨_,rfl⟩
           rw [← hy199] at H
           have Ny199:=M0 hy199
           clear hy199
           have H':=M0 H
           clear H
           have hcz54_0:=bcv (v:=.int .i64 a0_0) BK188.out 0 rfl
           have hcz54_1:=bcv (v:=.int .i64 a0_1) BK188.out 1 rfl
           have hcz54_2:=bcv (v:=.int .i64 a0_2) BK188.out 2 rfl
           have p53 : 0 ≤ (x7_2 : Int):=of_decide_eq_true (by with_reducible assumption)
           have q53 : (x7_2 : Int) < ((x5_2.length : Int) : Int):=of_decide_eq_true (by with_reducible assumption)
           obtain ⟨go53,co53,eo53,gb53,gl53,cl53,HG53⟩:=Kd.du HO_5.out (by omega)
           (cases eo53)
           have GB53:=M0 gb53
           have GG53:=M0 HG53
           clear gb53 gl53 HG53
           obtain ⟨hx53_0,hf53_0⟩:=Kd.bQ 0 HO_5.out (x7_2 : Int) p53 q53
           replace p53:=eq_true p53
           replace q53:=eq_true q53
           have HP55:=Kd.dj HO_5.out (x7_2 : Int) 1
           go_wp2_with (first|((with_reducible refine bo (t:=2) (p:=51) rfl ?_);(try (rw [dF wr];generalize hq_ : World.drewN wr _ = wr;have n0_:=M0 (Kd.R_at hq_ HO_5.out);have n1_:=M0 (blk_at hq_ BK188.out);have n2_:=M0 (below_at hq_ HB.out);clear hq_ HO_5 BK188 HB;have HO_5:=n0_;have BK188:=n1_;have HB:=n2_;clear n0_ n1_ n2_;(try (have HP55:=Kd.dj HO_5.out (x7_2 : Int) 1))));refine bK (t:=2) (p:=51) (v:=?vo_w56) (w1:=(wr.setCell ⟨go53,(x7_2 : Int).toNat,none⟩ (.int .i64 1))) ?hg ?ho ?hn ?hr ?_;(case ho=>rfl);(case hg=>rfl);(case hn=>rfl);(case hr=>first|(go_simp;done)|(go_simp;rfl));intro w56 hw;have hg : wr.grownBy w56 (some go53):=(by rw [hw];exact HP55.2);have hp_ : Kd.R (Kd.int .i64) 2 w56 w.heap.size (fun _=>True) (.slice (some ⟨go53,0,none⟩) x5_2.length co53) y199:=(by rw [hw,Ny199.out];exact HP55.1);clear HP55;replace BK188:=M0 (bm (g:=gb188) (o:=.cells #[.int .i64 a0_0,.int .i64 a0_1,.int .i64 a0_2] 43 (0,0)) (by (with_reducible repeat (first|refine bM ?_ _|refine bl ?_|refine bX ?_ _));exact BK188.out) hg (Kd.R_ne HO_5.out BK188.out (by decide)));replace HO_5:=M0 (hp_);replace HB:=M0 ((by rw [hw];exact ax (HB.out) GB53.out : Below w.heap.size w w56));clear hg hw hp_))
           go_quiet (fail)
           go_wp2_with (((with_reducible refine bo (t:=2) (p:=51) rfl ?_);(try (rw [dF wr];generalize hq_ : World.drewN wr _ = wr;have n0_:=M0 (Kd.R_at hq_ HO_5.out);have n1_:=M0 (blk_at hq_ BK188.out);have n2_:=M0 (below_at hq_ HB.out);clear hq_ HO_5 BK188 HB;have HO_5:=n0_;have BK188:=n1_;have HB:=n2_;clear n0_ n1_ n2_;(try (have HP55:=Kd.dj HO_5.out (x7_2 : Int) 1))));(try (obtain ⟨hx53_0,hf53_0⟩:=Kd.bQ 0 HO_5.out (x7_2 : Int) (of_eq_true p53) (of_eq_true q53)));refine bK (t:=2) (p:=51) (v:=?vo_w56) (w1:=(wr.setCell ⟨go53,(x7_2 : Int).toNat,none⟩ (.int .i64 1))) ?hg ?ho ?hn ?hr ?_;(case ho=>rfl);(case hg=>rfl);(case hn=>rfl);(case hr=>(go_simp;done));intro w56 hw;have hg : wr.grownBy w56 (some go53):=(by rw [hw];exact HP55.2);have hp_ : Kd.R (Kd.int .i64) 2 w56 w.heap.size (fun _=>True) (.slice (some ⟨go53,0,none⟩) x5_2.length co53) y199:=(by rw [hw,Ny199.out];exact HP55.1);clear HP55;replace BK188:=M0 (bm (g:=gb188) (o:=.cells #[.int .i64 a0_0,.int .i64 a0_1,.int .i64 a0_2] 43 (0,0)) BK188.out hg (Kd.R_ne HO_5.out BK188.out (by decide)));replace HO_5:=M0 (hp_);replace HB:=M0 ((by rw [hw];exact ax (HB.out) GB53.out : Below w.heap.size w w56));clear hg hw hp_));try go_wp2_with (first|((with_reducible refine bo (t:=2) (p:=51) rfl ?_);(try (rw [dF wr];generalize hq_ : World.drewN wr _ = wr;have n0_:=M0 (Kd.R_at hq_ HO_5.out);have n1_:=M0 (blk_at hq_ BK188.out);have n2_:=M0 (below_at hq_ HB.out);clear hq_ HO_5 BK188 HB;have HO_5:=n0_;have BK188:=n1_;have HB:=n2_;clear n0_ n1_ n2_;(try (have HP55:=Kd.dj HO_5.out (x7_2 : Int) 1))));refine bK (t:=2) (p:=51) (v:=?vo_w56) (w1:=(wr.setCell ⟨go53,(x7_2 : Int).toNat,none⟩ (.int .i64 1))) ?hg ?ho ?hn ?hr ?_;(case ho=>rfl);(case hg=>rfl);(case hn=>rfl);(case hr=>first|(go_simp;done)|(go_simp;rfl));intro w56 hw;have hg : wr.grownBy w56 (some go53):=(by rw [hw];exact HP55.2);have hp_ : Kd.R (Kd.int .i64) 2 w56 w.heap.size (fun _=>True) (.slice (some ⟨go53,0,none⟩) x5_2.length co53) y199:=(by rw [hw,Ny199.out];exact HP55.1);clear HP55;replace BK188:=M0 (bm (g:=gb188) (o:=.cells #[.int .i64 a0_0,.int .i64 a0_1,.int .i64 a0_2] 43 (0,0)) (by (with_reducible repeat (first|refine bM ?_ _|refine bl ?_|refine bX ?_ _));exact BK188.out) hg (Kd.R_ne HO_5.out BK188.out (by decide)));replace HO_5:=M0 (hp_);replace HB:=M0 ((by rw [hw];exact ax (HB.out) GB53.out : Below w.heap.size w w56));clear hg hw hp_))
           go_roundg k2
           case measure=>have:=HJ2.out;have:=HK2.out;omega
           case rel=>exact ⟨(y199),(wrap64 (x7_2 + 1)),(by rfl),H',⟨by have:=HJ2.out;have:=HK2.out;omega⟩,⟨by exact HO_5.out⟩,⟨by exact BK188.out⟩,⟨HB.out⟩⟩
          ·rw [if_neg c50] at H
           have c50b0 : ((Int.tmod x7_2 a0_2) == (wrap64 ((wrap64 (a1 - a0_0)) - a0_1))) = false:=beq_eq_false_iff_ne.mpr c50
           have H':=M0 H
           clear H
           have hcz57_0:=bcv (v:=.int .i64 a0_0) BK188.out 0 rfl
           have hcz57_1:=bcv (v:=.int .i64 a0_1) BK188.out 1 rfl
           have hcz57_2:=bcv (v:=.int .i64 a0_2) BK188.out 2 rfl
           go_wp2
           repeat (go_quiet (fail);try go_wp2)
           go_roundg k2
           case measure=>have:=HJ2.out;have:=HK2.out;omega
           case rel=>exact ⟨(x5_2),(wrap64 (x7_2 + 1)),(by rfl),H',⟨by have:=HJ2.out;have:=HK2.out;omega⟩,⟨by (with_reducible repeat (apply Kd.R_drewN));exact HO_5.out⟩,⟨by (with_reducible repeat (refine bM ?_ _));exact BK188.out⟩,⟨by repeat ((with_reducible first|exact HB.out|apply aN))⟩⟩
        ·rw [if_neg c48] at H
         have c48b0:=decide_eq_false c48
         clear c48
         obtain rfl:=Option.some.inj H
         have hcz58_0:=bcv (v:=.int .i64 a0_0) BK188.out 0 rfl
         go_wp2
         repeat (go_quiet (fail);try go_wp2)
         go_ret
         exact ⟨_,by rfl,by exact HO_5.out,HB.out⟩

/-! ### bH: function 91 -/
def bH.l0 : Nat → List ByteArray → Int → List ByteArray → Int → Int → Int → Int → Option (List ByteArray)
 | 0,_,_,_,_,_,_,_=>none
 | k + 1,x1,x2,x7,x8,x201000,x201001,x201002=>(b8.f x201000 x201001 x201002).bind fun t204=>(if x8 < t204 then ((aG.f k x201000 x201001 x201002 x8).bind fun t205=>((a5.f k t205 x1 x2).bind fun t208=>(if x7.length < 8796093022208 then (bH.l0 k x1 x2 (x7 ++ [t208]) (wrap64 (x8 + 1)) x201000 x201001 x201002) else (none)))) else (some x7))
def bH.f (k : Nat) (a0_0 : Int) (a0_1 : Int) (a0_2 : Int) (l1 : List ByteArray) (a2 : Int) : Option (List ByteArray):=bH.l0 k l1 a2 (([] : List ByteArray)) 0 a0_0 a0_1 a0_2
set_option maxHeartbeats 8000000 in
set_option maxRecDepth 100000 in
theorem bH.calls (k : Nat) (a0_0 : Int) (a0_1 : Int) (a0_2 : Int) (A1 : Option Addr) (c1 : Nat) (l1 : List ByteArray) (a2 : Int) (r : List ByteArray) (w : World) (hr1 : Kd.C Kd.string w A1 l1.length l1) (hc1 : l1.length ≤ c1) (h : bH.f k a0_0 a0_1 a0_2 l1 a2 = some r) :
  Calls Try.prog 91 #[.agg #[.int .i64 a0_0,.int .i64 a0_1,.int .i64 a0_2],.slice A1 l1.length c1,.int .i64 a2] w fun e w'=>∃ v0_ : Value,e = .returned (v0_) ∧ Kd.R Kd.string 9 w' w.heap.size (fun _=>True) v0_ r ∧ Below w.heap.size w w':=by
 have HR1:=M0 hr1
 have HC1:=M0 hc1
 clear hr1 hc1
 have HB:=M0 (Below.refl w.heap.size w)
 have H : (bH.l0 k l1 a2 (([] : List ByteArray)) 0 a0_0 a0_1 a0_2) = some r:=h
 clear h
 obtain ⟨y201,hy201⟩ : ∃ y_ : List ByteArray,y_ = (([] : List ByteArray)):=⟨_,rfl⟩
 rw [← hy201] at H
 have Ny201:=M0 hy201
 clear hy201
 have H':=M0 H
 clear H
 go_enter Try.func91,Try.ntmps91
 go_wp2_with (first|((with_reducible refine ak (N:=3) rfl ?_);refine aw rfl (N:=3) rfl (cs:=#[.int .i64 a0_0,.int .i64 a0_1,.int .i64 a0_2]) (t:=43) (by go_simp) ?_;intro gb200 hg w4 hbox hb;have BK200:=M0 (hbox);replace HB:=M0 (aa HB.out hb);clear hb hbox hg)|((with_reducible refine ak (N:=9) rfl ?_);refine Kd.R_lit Kd.string _ 9 ?hg (N:=9) ?hd (xs:=([] : List ByteArray)) (inner:=[]) (ok:=fun _=>True) (okp:=fun _=>True) ?hr ?hp (fun _ hk=>hk) trivial (Below.refl _ _) (Nat.le_refl _) (by simp) ?_;(case hd=>rfl);(case hg=>rfl);(case hr=>(go_simp;done));(case hp=>exact (Reps.none _ _));intro v202 w5 ho6 hb hg_ hnew_;clear hg_ hnew_;(rw [← Ny201.out] at ho6);have HO203:=M0 (Kd.bj ho6 (aj HB.out));replace BK200:=M0 (ab BK200.out hb);replace HB:=M0 (aa HB.out hb);clear hb ho6))
 go_loopg [7,8] k (fun kq v7 v8 w'=>∃ (x7_1 : List ByteArray) (x8_1 : Int),v8 = .int .i64 x8_1 ∧ Aside0 (bH.l0 kq l1 a2 x7_1 x8_1 a0_0 a0_1 a0_2 = some r) ∧ Aside0 (kq ≤ k) ∧ Aside0 (Kd.R Kd.string 9 w' w.heap.size (fun _=>True) v7 x7_1) ∧ Aside0 (w'.heap[gb200]? = some (.cells #[.int .i64 a0_0,.int .i64 a0_1,.int .i64 a0_2] 43 (0,0))) ∧ Aside0 (Below w.heap.size w w'))
 case atStart=>exact ⟨(y201),(0),(by rfl),H',⟨Nat.le_refl _⟩,⟨by exact HO203.out⟩,⟨by exact BK200.out⟩,⟨HB.out⟩⟩
 case round=>
  clear H'
  obtain ⟨x7_1,x8_1,rfl,HA,HK1,HO_7,BK200,HB⟩:=hrel
  cases gk with
  | zero=>exact absurd HA.out (by simp [bH.l0])
  | succ k1=>
   have H:=HA.out
   clear HA
   simp only [bH.l0] at H
   replace H:=Option.bind_eq_some_iff.mp H
   obtain ⟨t204,A70,H⟩:=H
   replace H : (if x8_1 < t204 then ((aG.f k1 a0_0 a0_1 a0_2 x8_1).bind fun t205=>((a5.f k1 t205 l1 a2).bind fun t208=>(if x7_1.length < 8796093022208 then (bH.l0 k1 l1 a2 (x7_1 ++ [t208]) (wrap64 (x8_1 + 1)) a0_0 a0_1 a0_2) else (none)))) else (some x7_1)) = some r:=H
   have A7:=M0 A70
   clear A70
   by_cases c8 : x8_1 < t204
   ·rw [if_pos c8] at H
    have c8b0:=decide_eq_true c8
    clear c8
    replace H:=Option.bind_eq_some_iff.mp H
    obtain ⟨t205,A90,H⟩:=H
    replace H : ((a5.f k1 t205 l1 a2).bind fun t208=>(if x7_1.length < 8796093022208 then (bH.l0 k1 l1 a2 (x7_1 ++ [t208]) (wrap64 (x8_1 + 1)) a0_0 a0_1 a0_2) else (none))) = some r:=H
    have A9:=M0 A90
    clear A90
    replace H:=Option.bind_eq_some_iff.mp H
    obtain ⟨t208,A100,H⟩:=H
    replace H : (if x7_1.length < 8796093022208 then (bH.l0 k1 l1 a2 (x7_1 ++ [t208]) (wrap64 (x8_1 + 1)) a0_0 a0_1 a0_2) else (none)) = some r:=H
    have A10:=M0 A100
    clear A100
    obtain ⟨c11,H⟩:=nn H
    have LMc11:=M0 c11
    clear c11
    obtain ⟨y209,hy209⟩ : ∃ y_ : List ByteArray,y_ = (x7_1 ++ [t208]):=⟨_,rfl⟩
    rw [← hy209] at H
    have Ny209:=M0 hy209
    clear hy209
    have H':=M0 H
    clear H
    have hcz12_0:=bcv (v:=.int .i64 a0_0) BK200.out 0 rfl
    have hcz12_1:=bcv (v:=.int .i64 a0_1) BK200.out 1 rfl
    have hcz12_2:=bcv (v:=.int .i64 a0_2) BK200.out 2 rfl
    go_wp2_with (first|((with_reducible refine ah (f:=97) rfl ?_);refine aH (some 12) rfl rfl Try.func97 (by kernel_rfl) rfl #[.agg #[.int .i64 a0_0,.int .i64 a0_1,.int .i64 a0_2]] rfl (by (try simp only [List.map_toArray,List.map_cons,List.map_nil]);rfl) ?_;(with_reducible refine (b8.calls a0_0 a0_1 a0_2 t204 _ A7.out).mono ?_);rintro e w13 ⟨rfl,hb⟩;refine ⟨_,rfl,?_⟩;replace HO_7:=M0 (Kd.aK HO_7.out hb);replace BK200:=M0 (ab BK200.out hb);replace HB:=M0 (aa HB.out hb);clear hb;have hcz14_0:=bcv (v:=.int .i64 a0_0) BK200.out 0 rfl;have hcz14_1:=bcv (v:=.int .i64 a0_1) BK200.out 1 rfl;have hcz14_2:=bcv (v:=.int .i64 a0_2) BK200.out 2 rfl)|((with_reducible refine ah (f:=128) rfl ?_);refine aH (some 19) rfl rfl Try.func128 (by kernel_rfl) rfl #[.agg #[.int .i64 a0_0,.int .i64 a0_1,.int .i64 a0_2],.int .i64 x8_1] rfl (by (try simp only [List.map_toArray,List.map_cons,List.map_nil]);rfl) ?_;(with_reducible refine (aG.calls k1 a0_0 a0_1 a0_2 x8_1 t205 _ A9.out).mono ?_);rintro e w15 ⟨v206,rfl,ho0,hb⟩;refine ⟨_,rfl,?_⟩;replace HO_7:=M0 (Kd.aK HO_7.out hb);have HO207:=M0 (Kd.bj ho0 (aj HB.out));replace BK200:=M0 (ab BK200.out hb);replace HB:=M0 (aa HB.out hb);clear hb ho0;obtain ⟨Ao16,co16,eo16⟩:=Kd.bc HO207.out;subst eo16)|((with_reducible refine ah (f:=127) rfl ?_);refine aH (some 22) rfl rfl Try.func127 (by kernel_rfl) rfl #[.slice Ao16 t205.length co16,.slice A1 l1.length c1,.int .i64 a2] rfl (by (try simp only [List.map_toArray,List.map_cons,List.map_nil]);rfl) ?_;(with_reducible refine (a5.calls k1 _ _ t205 _ _ l1 a2 t208 _ (Kd.aE HO207.out).2.2 (Kd.aE HO207.out).2.1 (Kd.a8 HR1.out HB.out) HC1.out A10.out).mono ?_);rintro e w17 ⟨rfl,hb⟩;refine ⟨_,rfl,?_⟩;replace HO_7:=M0 (Kd.aK HO_7.out hb);replace HO207:=M0 (Kd.aK HO207.out hb);replace BK200:=M0 (ab BK200.out hb);replace HB:=M0 (aa HB.out hb);clear hb)|((with_reducible refine dw (b:=.append) (xs:=#[.tmp 16,.tmp 23]) rfl ?_);at_builtin;refine Kd.R_append Kd.string (w0:=w) w.heap.size rfl (.tmp 16) (.tmp 23) 56 9 (.string ⟨#[]⟩) 16 rfl Try.underlying56 info9 rfl (by decide) (by omega) u7 x7_1 t208 [.string t208] (fun _=>True) (fun _=>False) rfl rfl ?aP (fun _ hk=>hk.elim) ?aF ?aO ?aB ?aS ?aL ?_;(case aP=>exact rfl);(case aB=>exact HB.out);(case aF=>exact (fun _ _=>trivial));(case aO=>exact HO_7.out);(case aS=>exact (aj HB.out));(case aL=>have:=LMc11.out;omega);intro v210 w18 ho hb hg hat;rw [← Ny209.out] at ho;have n0_:=M0 (bm (g:=gb200) (o:=.cells #[.int .i64 a0_0,.int .i64 a0_1,.int .i64 a0_2] 43 (0,0)) BK200.out hg (Kd.R_ne HO_7.out BK200.out (by decide)));have n1_:=M0 (Kd.df HO207.out (Kd.cV HO_7.out) (by decide) hg);have n2_:=M0 (hb);have n3_:=M0 (ho);clear BK200 HO207 HB HO_7;have BK200:=n0_;have HO207:=n1_;have HB:=n2_;have HO211:=n3_;clear n0_ n1_ n2_ n3_ ho hb hg hat))
    go_roundg k1
    case measure=>have:=HK1.out;omega
    case rel=>exact ⟨(y209),(wrap64 (x8_1 + 1)),(by rfl),H',⟨by have:=HK1.out;omega⟩,⟨by exact HO211.out⟩,⟨by exact BK200.out⟩,⟨HB.out⟩⟩
   ·rw [if_neg c8] at H
    have c8b0:=decide_eq_false c8
    clear c8
    obtain rfl:=Option.some.inj H
    have hcz19_0:=bcv (v:=.int .i64 a0_0) BK200.out 0 rfl
    have hcz19_1:=bcv (v:=.int .i64 a0_1) BK200.out 1 rfl
    have hcz19_2:=bcv (v:=.int .i64 a0_2) BK200.out 2 rfl
    go_wp2_with (((with_reducible refine ah (f:=97) rfl ?_);refine aH (some 12) rfl rfl Try.func97 (by kernel_rfl) rfl #[.agg #[.int .i64 a0_0,.int .i64 a0_1,.int .i64 a0_2]] rfl (by (try simp only [List.map_toArray,List.map_cons,List.map_nil]);rfl) ?_;(with_reducible refine (b8.calls a0_0 a0_1 a0_2 t204 _ A7.out).mono ?_);rintro e w20 ⟨rfl,hb⟩;refine ⟨_,rfl,?_⟩;replace HO_7:=M0 (Kd.aK HO_7.out hb);replace BK200:=M0 (ab BK200.out hb);replace HB:=M0 (aa HB.out hb);clear hb))
    go_ret
    exact ⟨_,by rfl,by exact HO_7.out,HB.out⟩

/-! ### bs: function 67 -/
def bs.f (a0_0 : Int) (a0_1 : Int) (l0_2 : List Int) (a1 : Int) (a2 : Int) : Option (Int):=if 0 ≤ (wrap64 ((wrap64 (a1 * a0_1)) + a2)) then (if (wrap64 ((wrap64 (a1 * a0_1)) + a2)) < (l0_2.length : Int) then (some (rd l0_2 (wrap64 ((wrap64 (a1 * a0_1)) + a2)))) else (none)) else (none)
set_option maxHeartbeats 8000000 in
set_option maxRecDepth 100000 in
theorem bs.calls (a0_0 : Int) (a0_1 : Int) (A0_2 : Option Addr) (c0_2 : Nat) (l0_2 : List Int) (a1 : Int) (a2 : Int) (r : Int) (w : World) (hr0_2 : Kd.C (Kd.int .i64) w A0_2 l0_2.length l0_2) (hc0_2 : l0_2.length ≤ c0_2) (h : bs.f a0_0 a0_1 l0_2 a1 a2 = some r) :
  Calls Try.prog 67 #[.agg #[.int .i64 a0_0,.int .i64 a0_1,.slice A0_2 l0_2.length c0_2],.int .i64 a1,.int .i64 a2] w fun e w'=>e = .returned (.int .i64 r) ∧ Below w.heap.size w w':=by
 have HR0_2:=M0 hr0_2
 have HC0_2:=M0 hc0_2
 clear hr0_2 hc0_2
 have HB:=M0 (Below.refl w.heap.size w)
 have H : (if 0 ≤ (wrap64 ((wrap64 (a1 * a0_1)) + a2)) then (if (wrap64 ((wrap64 (a1 * a0_1)) + a2)) < (l0_2.length : Int) then (some (rd l0_2 (wrap64 ((wrap64 (a1 * a0_1)) + a2)))) else (none)) else (none)) = some r:=h
 clear h
 obtain ⟨ji4,hji4⟩ : ∃ j_ : Int,(wrap64 ((wrap64 (a1 * a0_1)) + a2)) = j_:=⟨_,rfl⟩
 replace H : (if 0 ≤ (ji4) then (if (ji4) < (l0_2.length : Int) then (some (rd l0_2 (ji4))) else (none)) else (none)) = some r:=by (rw [hji4] at H;exact H)
 have hji4w : (IntKind.i64.wrap ((wrap64 (a1 * a0_1)) + a2)) = ji4:=(ae _).trans hji4
 obtain ⟨c5,H⟩:=nn H
 have c5b0:=decide_eq_true c5
 clear c5
 obtain ⟨c6,H⟩:=nn H
 have c6b0:=decide_eq_true c6
 clear c6
 obtain rfl:=Option.some.inj H
 go_enter Try.func67,Try.ntmps67
 go_wp2_with (((with_reducible refine ak (N:=3) rfl ?_);refine aw rfl (N:=3) rfl (cs:=#[.int .i64 a0_0,.int .i64 a0_1,.slice A0_2 l0_2.length c0_2]) (t:=27) (by go_simp) ?_;intro gb212 hg w7 hbox hb;have BK212:=M0 (hbox);replace HB:=M0 (aa HB.out hb);clear hb hbox hg;have hcz8_1:=bcv (v:=.int .i64 a0_1) BK212.out 1 rfl;have hcz8_2:=bcv (v:=.slice A0_2 l0_2.length c0_2) BK212.out 2 rfl;have p213 : 0 ≤ ((ji4) : Int):=of_decide_eq_true (by with_reducible assumption);have q213 : (ji4) < (l0_2.length : Int):=of_decide_eq_true (by with_reducible assumption);obtain ⟨ad213,e213,hx213_0⟩:=Kd.at_int HR0_2.out (ji4) p213 q213;cases e213;replace hx213_0:=(HB.out.cell (World.block_lt_of_cell? w _ hx213_0)).trans hx213_0;replace p213:=eq_true p213;replace q213:=eq_true q213))
 go_ret
 exact ⟨by rfl,HB.out⟩

end Go.Proofs.Ytffhbpepppodeaa.PFnExactJoinObject
