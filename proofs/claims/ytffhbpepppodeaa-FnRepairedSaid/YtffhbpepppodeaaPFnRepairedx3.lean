import Derived.Test.YtffhbpepppodeaaPFnRepairedx0
namespace Go.Proofs.Ytffhbpepppodeaa.PFnRepaired
private theorem nn {α : Type} {c : Prop} [Decidable c] {a : Option α} {r : α} (h : (if c then a else none) = some r) : c ∧ a = some r:=by
 split at h
 ·exact ⟨‹c›,h⟩
 ·cases h
open Go.RowKit Go.Proofs.YtffhbpepppodeaaW.PrintWords Go.Proofs.YtffhbpepppodeaaW.PrintLast Go.Proofs.YtffhbpepppodeaaW.PrintMore
attribute [local go_sem] max2_int min2_int max_two min_two max_three min_three max_four min_four   -- for this text's walks alone
set_option linter.unusedVariables false
set_option linter.unusedSimpArgs false

/-! ### laws_lwTexts: function 36 -/
def laws_lwTexts.l0 : Nat → List ByteArray → List ByteArray → Int → Option (Bool)
 | 0,_,_,_=>none
 | k + 1,x0,x1,x5=>if x5 < (x0.length : Int) then (if 0 ≤ x5 then (if x5 < (x1.length : Int) then (if (rdOf ByteArray.empty x0 x5).toList = (rdOf ByteArray.empty x1 x5).toList then (laws_lwTexts.l0 k x0 x1 (wrap64 (x5 + 1))) else (some false)) else (none)) else (none)) else (some true)
def laws_lwTexts.f (k : Nat) (l0 : List ByteArray) (l1 : List ByteArray) : Option (Bool):=if (l0.length : Int) = (l1.length : Int) then (laws_lwTexts.l0 k l0 l1 0) else (some false)
set_option maxHeartbeats 8000000 in
set_option maxRecDepth 100000 in
theorem laws_lwTexts.calls (k : Nat) (A0 : Option Addr) (c0 : Nat) (l0 : List ByteArray) (A1 : Option Addr) (c1 : Nat) (l1 : List ByteArray) (r : Bool) (w : World) (hr0 : Kd.C Kd.string w A0 l0.length l0) (hc0 : l0.length ≤ c0) (hr1 : Kd.C Kd.string w A1 l1.length l1) (hc1 : l1.length ≤ c1) (h : laws_lwTexts.f k l0 l1 = some r) :
  Calls Try.prog 36 #[.slice A0 l0.length c0,.slice A1 l1.length c1] w fun e w'=>e = .returned (.bool r) ∧ Drawn0 w w':=by
 have HR0:=M0 hr0
 have HC0:=M0 hc0
 clear hr0 hc0
 have HR1:=M0 hr1
 have HC1:=M0 hc1
 clear hr1 hc1
 have H : (if (l0.length : Int) = (l1.length : Int) then (laws_lwTexts.l0 k l0 l1 0) else (some false)) = some r:=h
 clear h
 by_cases c3 : (l0.length : Int) = (l1.length : Int)
 ·rw [if_pos c3] at H
  have c3b0 : ((l0.length : Int) == (l1.length : Int)) = true:=beq_iff_eq.mpr c3
  have c3b1 : ((l0.length : Int) != (l1.length : Int)) = false:=bne_eq_false_iff_eq.mpr c3
  have c3b2 : (l0.length == l1.length) = true:=by (simp at c3 ⊢;omega)
  clear c3
  have H':=M0 H
  clear H
  go_enter Try.func36,Try.ntmps36
  go_wp2
  repeat (go_quiet (fail);try go_wp2)
  go_loopg [5] k (fun kq v5 w'=>∃ (x5_1 : Int),v5 = .int .i64 x5_1 ∧ Aside0 (laws_lwTexts.l0 kq l0 l1 x5_1 = some r) ∧ Aside0 (kq ≤ k) ∧ Drawn0 w w')
  case atStart=>exact ⟨(0),(by rfl),H',⟨Nat.le_refl _⟩,by repeat (exact Drawn0.refl _)⟩
  case round=>
   clear H'
   (try clear c3b0);(try clear c3b1);(try clear c3b2)
   obtain ⟨x5_1,rfl,HA,HK1,⟨m1,rfl⟩⟩:=hrel
   cases gk with
   | zero=>exact absurd HA.out (by simp [laws_lwTexts.l0])
   | succ k1=>
    have H:=HA.out
    clear HA
    simp only [laws_lwTexts.l0] at H
    by_cases c4 : x5_1 < (l0.length : Int)
    ·rw [if_pos c4] at H
     have c4b0:=decide_eq_true c4
     clear c4
     obtain ⟨c5,H⟩:=nn H
     have c5b0:=decide_eq_true c5
     clear c5
     obtain ⟨c6,H⟩:=nn H
     have c6b0:=decide_eq_true c6
     clear c6
     by_cases c7 : (rdOf ByteArray.empty l0 x5_1).toList = (rdOf ByteArray.empty l1 x5_1).toList
     ·rw [if_pos c7] at H
      have c7b0 : ((rdOf ByteArray.empty l0 x5_1).toList == (rdOf ByteArray.empty l1 x5_1).toList) = true:=beq_iff_eq.mpr c7
      clear c7
      have H':=M0 H
      clear H
      have p121 : 0 ≤ (x5_1 : Int):=of_decide_eq_true (by with_reducible assumption)
      have q121 : x5_1 < (l0.length : Int):=of_decide_eq_true (by with_reducible assumption)
      obtain ⟨ad121,e121,hx121_0⟩:=Kd.at_string HR0.out x5_1 p121 q121
      cases e121
      replace p121:=eq_true p121
      replace q121:=eq_true q121
      have p122 : 0 ≤ (x5_1 : Int):=of_decide_eq_true (by with_reducible assumption)
      have q122 : x5_1 < (l1.length : Int):=of_decide_eq_true (by with_reducible assumption)
      obtain ⟨ad122,e122,hx122_0⟩:=Kd.at_string HR1.out x5_1 p122 q122
      cases e122
      replace p122:=eq_true p122
      replace q122:=eq_true q122
      go_wp2
      repeat (go_quiet (fail);try go_wp2)
      go_roundg k1
      case measure=>have:=HK1.out;omega
      case rel=>exact ⟨(wrap64 (x5_1 + 1)),(by rfl),H',⟨by have:=HK1.out;omega⟩,by repeat (first|exact Drawn0.refl _|apply Drawn0.step)⟩
     ·rw [if_neg c7] at H
      have c7b0 : ((rdOf ByteArray.empty l0 x5_1).toList == (rdOf ByteArray.empty l1 x5_1).toList) = false:=beq_eq_false_iff_ne.mpr c7
      obtain rfl:=Option.some.inj H
      have p121 : 0 ≤ (x5_1 : Int):=of_decide_eq_true (by with_reducible assumption)
      have q121 : x5_1 < (l0.length : Int):=of_decide_eq_true (by with_reducible assumption)
      obtain ⟨ad121,e121,hx121_0⟩:=Kd.at_string HR0.out x5_1 p121 q121
      cases e121
      replace p121:=eq_true p121
      replace q121:=eq_true q121
      have p122 : 0 ≤ (x5_1 : Int):=of_decide_eq_true (by with_reducible assumption)
      have q122 : x5_1 < (l1.length : Int):=of_decide_eq_true (by with_reducible assumption)
      obtain ⟨ad122,e122,hx122_0⟩:=Kd.at_string HR1.out x5_1 p122 q122
      cases e122
      replace p122:=eq_true p122
      replace q122:=eq_true q122
      go_wp2
      repeat (go_quiet (fail);try go_wp2)
      go_ret
      exact ⟨by rfl,by repeat (first|exact Drawn0.refl _|apply Drawn0.step)⟩
    ·rw [if_neg c4] at H
     have c4b0:=decide_eq_false c4
     clear c4
     obtain rfl:=Option.some.inj H
     go_wp2
     repeat (go_quiet (fail);try go_wp2)
     go_ret
     exact ⟨by rfl,by repeat (first|exact Drawn0.refl _|apply Drawn0.step)⟩
 ·rw [if_neg c3] at H
  have c3b1 : ((l0.length : Int) != (l1.length : Int)) = true:=bne_iff_ne.mpr c3
  obtain rfl:=Option.some.inj H
  go_enter Try.func36,Try.ntmps36
  go_wp2
  repeat (go_quiet (fail);try go_wp2)
  go_ret
  exact ⟨by rfl,by repeat (exact Drawn0.refl _)⟩

/-! ### spec_CodeFault: function 89 -/
def spec_CodeFault.f (a0_0 : Int) (a0_1 : Int) (a0_2 : Int) : Option (Int):=if a0_0 < 1 then (some 1) else (if a0_0 > 32 then (some 1) else (if a0_1 < 0 then (some 1) else (if a0_1 > 16 then (some 1) else (if a0_2 < 0 then (some 1) else (if a0_2 > a0_0 then (some 1) else (if (wrap64 ((wrap64 (a0_0 + a0_1)) + a0_2)) > 64 then (some 1) else (some 0)))))))
set_option maxHeartbeats 8000000 in
set_option maxRecDepth 100000 in
theorem spec_CodeFault.calls (a0_0 : Int) (a0_1 : Int) (a0_2 : Int) (r : Int) (w : World) (h : spec_CodeFault.f a0_0 a0_1 a0_2 = some r) :
  Calls Try.prog 89 #[.agg #[.int .i64 a0_0,.int .i64 a0_1,.int .i64 a0_2]] w fun e w'=>e = .returned (.int .i64 r) ∧ Below w.heap.size w w':=by
 have HB:=M0 (Below.refl w.heap.size w)
 have H : (if a0_0 < 1 then (some 1) else (if a0_0 > 32 then (some 1) else (if a0_1 < 0 then (some 1) else (if a0_1 > 16 then (some 1) else (if a0_2 < 0 then (some 1) else (if a0_2 > a0_0 then (some 1) else (if (wrap64 ((wrap64 (a0_0 + a0_1)) + a0_2)) > 64 then (some 1) else (some 0)))))))) = some r:=h
 clear h
 by_cases c2 : a0_0 < 1
 ·rw [if_pos c2] at H
  have c2b0:=decide_eq_true c2
  clear c2
  obtain rfl:=Option.some.inj H
  go_enter Try.func89,Try.ntmps89
  go_wp2_with (((with_reducible refine gate_dst (N:=1) rfl ?_);refine box_event rfl (N:=1) rfl (cs:=#[.int .i64 a0_0,.int .i64 a0_1,.int .i64 a0_2]) (t:=43) (by go_simp) ?_;intro gb123 hg w3 hbox hb;have BK123:=M0 (hbox);replace HB:=M0 (below_step HB.out hb);clear hb hbox hg;have hcz4_0:=bcv (v:=.int .i64 a0_0) BK123.out 0 rfl))
  go_ret
  exact ⟨by rfl,HB.out⟩
 ·rw [if_neg c2] at H
  have c2b0:=decide_eq_false c2
  clear c2
  by_cases c5 : a0_0 > 32
  ·rw [if_pos c5] at H
   have c5b0:=decide_eq_true c5
   clear c5
   obtain rfl:=Option.some.inj H
   go_enter Try.func89,Try.ntmps89
   go_wp2_with (((with_reducible refine gate_dst (N:=1) rfl ?_);refine box_event rfl (N:=1) rfl (cs:=#[.int .i64 a0_0,.int .i64 a0_1,.int .i64 a0_2]) (t:=43) (by go_simp) ?_;intro gb123 hg w6 hbox hb;have BK123:=M0 (hbox);replace HB:=M0 (below_step HB.out hb);clear hb hbox hg;have hcz7_0:=bcv (v:=.int .i64 a0_0) BK123.out 0 rfl))
   go_ret
   exact ⟨by rfl,HB.out⟩
  ·rw [if_neg c5] at H
   have c5b0:=decide_eq_false c5
   clear c5
   by_cases c8 : a0_1 < 0
   ·rw [if_pos c8] at H
    have c8b0:=decide_eq_true c8
    clear c8
    obtain rfl:=Option.some.inj H
    go_enter Try.func89,Try.ntmps89
    go_wp2_with (((with_reducible refine gate_dst (N:=1) rfl ?_);refine box_event rfl (N:=1) rfl (cs:=#[.int .i64 a0_0,.int .i64 a0_1,.int .i64 a0_2]) (t:=43) (by go_simp) ?_;intro gb123 hg w9 hbox hb;have BK123:=M0 (hbox);replace HB:=M0 (below_step HB.out hb);clear hb hbox hg;have hcz10_0:=bcv (v:=.int .i64 a0_0) BK123.out 0 rfl;have hcz10_1:=bcv (v:=.int .i64 a0_1) BK123.out 1 rfl))
    go_ret
    exact ⟨by rfl,HB.out⟩
   ·rw [if_neg c8] at H
    have c8b0:=decide_eq_false c8
    clear c8
    by_cases c11 : a0_1 > 16
    ·rw [if_pos c11] at H
     have c11b0:=decide_eq_true c11
     clear c11
     obtain rfl:=Option.some.inj H
     go_enter Try.func89,Try.ntmps89
     go_wp2_with (((with_reducible refine gate_dst (N:=1) rfl ?_);refine box_event rfl (N:=1) rfl (cs:=#[.int .i64 a0_0,.int .i64 a0_1,.int .i64 a0_2]) (t:=43) (by go_simp) ?_;intro gb123 hg w12 hbox hb;have BK123:=M0 (hbox);replace HB:=M0 (below_step HB.out hb);clear hb hbox hg;have hcz13_0:=bcv (v:=.int .i64 a0_0) BK123.out 0 rfl;have hcz13_1:=bcv (v:=.int .i64 a0_1) BK123.out 1 rfl))
     go_ret
     exact ⟨by rfl,HB.out⟩
    ·rw [if_neg c11] at H
     have c11b0:=decide_eq_false c11
     clear c11
     by_cases c14 : a0_2 < 0
     ·rw [if_pos c14] at H
      have c14b0:=decide_eq_true c14
      clear c14
      obtain rfl:=Option.some.inj H
      go_enter Try.func89,Try.ntmps89
      go_wp2_with (((with_reducible refine gate_dst (N:=1) rfl ?_);refine box_event rfl (N:=1) rfl (cs:=#[.int .i64 a0_0,.int .i64 a0_1,.int .i64 a0_2]) (t:=43) (by go_simp) ?_;intro gb123 hg w15 hbox hb;have BK123:=M0 (hbox);replace HB:=M0 (below_step HB.out hb);clear hb hbox hg;have hcz16_0:=bcv (v:=.int .i64 a0_0) BK123.out 0 rfl;have hcz16_1:=bcv (v:=.int .i64 a0_1) BK123.out 1 rfl;have hcz16_2:=bcv (v:=.int .i64 a0_2) BK123.out 2 rfl))
      go_ret
      exact ⟨by rfl,HB.out⟩
     ·rw [if_neg c14] at H
      have c14b0:=decide_eq_false c14
      clear c14
      by_cases c17 : a0_2 > a0_0
      ·rw [if_pos c17] at H
       have c17b0:=decide_eq_true c17
       clear c17
       obtain rfl:=Option.some.inj H
       go_enter Try.func89,Try.ntmps89
       go_wp2_with (((with_reducible refine gate_dst (N:=1) rfl ?_);refine box_event rfl (N:=1) rfl (cs:=#[.int .i64 a0_0,.int .i64 a0_1,.int .i64 a0_2]) (t:=43) (by go_simp) ?_;intro gb123 hg w18 hbox hb;have BK123:=M0 (hbox);replace HB:=M0 (below_step HB.out hb);clear hb hbox hg;have hcz19_0:=bcv (v:=.int .i64 a0_0) BK123.out 0 rfl;have hcz19_1:=bcv (v:=.int .i64 a0_1) BK123.out 1 rfl;have hcz19_2:=bcv (v:=.int .i64 a0_2) BK123.out 2 rfl))
       go_ret
       exact ⟨by rfl,HB.out⟩
      ·rw [if_neg c17] at H
       have c17b0:=decide_eq_false c17
       clear c17
       by_cases c20 : (wrap64 ((wrap64 (a0_0 + a0_1)) + a0_2)) > 64
       ·rw [if_pos c20] at H
        have c20b0:=decide_eq_true c20
        clear c20
        obtain rfl:=Option.some.inj H
        go_enter Try.func89,Try.ntmps89
        go_wp2_with (((with_reducible refine gate_dst (N:=1) rfl ?_);refine box_event rfl (N:=1) rfl (cs:=#[.int .i64 a0_0,.int .i64 a0_1,.int .i64 a0_2]) (t:=43) (by go_simp) ?_;intro gb123 hg w21 hbox hb;have BK123:=M0 (hbox);replace HB:=M0 (below_step HB.out hb);clear hb hbox hg;have hcz22_0:=bcv (v:=.int .i64 a0_0) BK123.out 0 rfl;have hcz22_1:=bcv (v:=.int .i64 a0_1) BK123.out 1 rfl;have hcz22_2:=bcv (v:=.int .i64 a0_2) BK123.out 2 rfl))
        go_ret
        exact ⟨by rfl,HB.out⟩
       ·rw [if_neg c20] at H
        have c20b0:=decide_eq_false c20
        clear c20
        obtain rfl:=Option.some.inj H
        go_enter Try.func89,Try.ntmps89
        go_wp2_with (((with_reducible refine gate_dst (N:=1) rfl ?_);refine box_event rfl (N:=1) rfl (cs:=#[.int .i64 a0_0,.int .i64 a0_1,.int .i64 a0_2]) (t:=43) (by go_simp) ?_;intro gb123 hg w23 hbox hb;have BK123:=M0 (hbox);replace HB:=M0 (below_step HB.out hb);clear hb hbox hg;have hcz24_0:=bcv (v:=.int .i64 a0_0) BK123.out 0 rfl;have hcz24_1:=bcv (v:=.int .i64 a0_1) BK123.out 1 rfl;have hcz24_2:=bcv (v:=.int .i64 a0_2) BK123.out 2 rfl))
        go_ret
        exact ⟨by rfl,HB.out⟩

/-! ### spec_l04Len: function 90 -/
def spec_l04Len.l0 : Nat → List ByteArray → List Bool → Int → Int → Option (Int)
 | 0,_,_,_,_=>none
 | k + 1,x0,x1,x5,x6=>if x6 < (x0.length : Int) then (if 0 ≤ x6 then (if x6 < (x1.length : Int) then (if rdOf false x1 x6 = true then (if x5 ≥ 0 then (if ((rdOf ByteArray.empty x0 x6).size : Int) = x5 then (if ((rdOf ByteArray.empty x0 x6).size : Int) < 1 then (some (-1)) else (if ((rdOf ByteArray.empty x0 x6).size : Int) > 4096 then (some (-1)) else (spec_l04Len.l0 k x0 x1 ((rdOf ByteArray.empty x0 x6).size : Int) (wrap64 (x6 + 1))))) else (some (-1))) else (if ((rdOf ByteArray.empty x0 x6).size : Int) < 1 then (some (-1)) else (if ((rdOf ByteArray.empty x0 x6).size : Int) > 4096 then (some (-1)) else (spec_l04Len.l0 k x0 x1 ((rdOf ByteArray.empty x0 x6).size : Int) (wrap64 (x6 + 1)))))) else (spec_l04Len.l0 k x0 x1 x5 (wrap64 (x6 + 1)))) else (none)) else (none)) else (some x5)
def spec_l04Len.f (k : Nat) (l0 : List ByteArray) (l1 : List Bool) : Option (Int):=spec_l04Len.l0 k l0 l1 (-1) 0
set_option maxHeartbeats 8000000 in
set_option maxRecDepth 100000 in
theorem spec_l04Len.calls (k : Nat) (A0 : Option Addr) (c0 : Nat) (l0 : List ByteArray) (A1 : Option Addr) (c1 : Nat) (l1 : List Bool) (r : Int) (w : World) (hr0 : Kd.C Kd.string w A0 l0.length l0) (hc0 : l0.length ≤ c0) (hr1 : Kd.C Kd.bool w A1 l1.length l1) (hc1 : l1.length ≤ c1) (h : spec_l04Len.f k l0 l1 = some r) :
  Calls Try.prog 90 #[.slice A0 l0.length c0,.slice A1 l1.length c1] w fun e w'=>e = .returned (.int .i64 r) ∧ Drawn0 w w':=by
 have HR0:=M0 hr0
 have HC0:=M0 hc0
 clear hr0 hc0
 have HR1:=M0 hr1
 have HC1:=M0 hc1
 clear hr1 hc1
 have H : (spec_l04Len.l0 k l0 l1 (-1) 0) = some r:=h
 clear h
 have H':=M0 H
 clear H
 go_enter Try.func90,Try.ntmps90
 go_wp2
 go_loopg [5,6] k (fun kq v5 v6 w'=>∃ (x5_1 : Int) (x6_1 : Int),v5 = .int .i64 x5_1 ∧ v6 = .int .i64 x6_1 ∧ Aside0 (spec_l04Len.l0 kq l0 l1 x5_1 x6_1 = some r) ∧ Aside0 (kq ≤ k) ∧ Drawn0 w w')
 case atStart=>exact ⟨((-1)),(0),(by rfl),(by rfl),H',⟨Nat.le_refl _⟩,by repeat (exact Drawn0.refl _)⟩
 case round=>
  clear H'
  obtain ⟨x5_1,x6_1,rfl,rfl,HA,HK1,⟨m1,rfl⟩⟩:=hrel
  cases gk with
  | zero=>exact absurd HA.out (by simp [spec_l04Len.l0])
  | succ k1=>
   have H:=HA.out
   clear HA
   simp only [spec_l04Len.l0] at H
   by_cases c3 : x6_1 < (l0.length : Int)
   ·rw [if_pos c3] at H
    have c3b0:=decide_eq_true c3
    clear c3
    obtain ⟨c4,H⟩:=nn H
    have c4b0:=decide_eq_true c4
    clear c4
    obtain ⟨c5,H⟩:=nn H
    have c5b0:=decide_eq_true c5
    clear c5
    obtain ⟨bq6,hbq6⟩ : ∃ b_ : Bool,b_ = (rdOf false l1 x6_1):=⟨_,rfl⟩
    replace H : (if bq6 = true then (if x5_1 ≥ 0 then (if ((rdOf ByteArray.empty l0 x6_1).size : Int) = x5_1 then (if ((rdOf ByteArray.empty l0 x6_1).size : Int) < 1 then (some (-1)) else (if ((rdOf ByteArray.empty l0 x6_1).size : Int) > 4096 then (some (-1)) else (spec_l04Len.l0 k1 l0 l1 ((rdOf ByteArray.empty l0 x6_1).size : Int) (wrap64 (x6_1 + 1))))) else (some (-1))) else (if ((rdOf ByteArray.empty l0 x6_1).size : Int) < 1 then (some (-1)) else (if ((rdOf ByteArray.empty l0 x6_1).size : Int) > 4096 then (some (-1)) else (spec_l04Len.l0 k1 l0 l1 ((rdOf ByteArray.empty l0 x6_1).size : Int) (wrap64 (x6_1 + 1)))))) else (spec_l04Len.l0 k1 l0 l1 x5_1 (wrap64 (x6_1 + 1)))) = some r:=by rw [← hbq6] at H;exact H
    have Nbq6:=M0 hbq6
    clear hbq6
    by_cases c7 : bq6 = true
    ·subst c7
     have H1 : (if x5_1 ≥ 0 then (if ((rdOf ByteArray.empty l0 x6_1).size : Int) = x5_1 then (if ((rdOf ByteArray.empty l0 x6_1).size : Int) < 1 then (some (-1)) else (if ((rdOf ByteArray.empty l0 x6_1).size : Int) > 4096 then (some (-1)) else (spec_l04Len.l0 k1 l0 l1 ((rdOf ByteArray.empty l0 x6_1).size : Int) (wrap64 (x6_1 + 1))))) else (some (-1))) else (if ((rdOf ByteArray.empty l0 x6_1).size : Int) < 1 then (some (-1)) else (if ((rdOf ByteArray.empty l0 x6_1).size : Int) > 4096 then (some (-1)) else (spec_l04Len.l0 k1 l0 l1 ((rdOf ByteArray.empty l0 x6_1).size : Int) (wrap64 (x6_1 + 1)))))) = some r:=by rw [if_pos rfl] at H;exact H
     clear H
     have H:=H1
     clear H1
     by_cases c8 : x5_1 ≥ 0
     ·rw [if_pos c8] at H
      have c8b0:=decide_eq_true c8
      clear c8
      by_cases c9 : ((rdOf ByteArray.empty l0 x6_1).size : Int) = x5_1
      ·rw [if_pos c9] at H
       have c9b0 : (((rdOf ByteArray.empty l0 x6_1).size : Int) == x5_1) = true:=beq_iff_eq.mpr c9
       have c9b1 : (((rdOf ByteArray.empty l0 x6_1).size : Int) != x5_1) = false:=bne_eq_false_iff_eq.mpr c9
       clear c9
       by_cases c10 : ((rdOf ByteArray.empty l0 x6_1).size : Int) < 1
       ·rw [if_pos c10] at H
        have c10b0:=decide_eq_true c10
        clear c10
        obtain rfl:=Option.some.inj H
        have p124 : 0 ≤ (x6_1 : Int):=of_decide_eq_true (by with_reducible assumption)
        have q124 : x6_1 < (l1.length : Int):=of_decide_eq_true (by with_reducible assumption)
        obtain ⟨ad124,e124,hx124_0⟩:=Kd.at_bool HR1.out x6_1 p124 q124
        (try rw [← Nbq6.out] at hx124_0)
        cases e124
        replace p124:=eq_true p124
        replace q124:=eq_true q124
        have p125 : 0 ≤ (x6_1 : Int):=of_decide_eq_true (by with_reducible assumption)
        have q125 : x6_1 < (l0.length : Int):=of_decide_eq_true (by with_reducible assumption)
        obtain ⟨ad125,e125,hx125_0⟩:=Kd.at_string HR0.out x6_1 p125 q125
        cases e125
        replace p125:=eq_true p125
        replace q125:=eq_true q125
        have p126 : 0 ≤ (x6_1 : Int):=of_decide_eq_true (by with_reducible assumption)
        have q126 : x6_1 < (l0.length : Int):=of_decide_eq_true (by with_reducible assumption)
        obtain ⟨ad126,e126,hx126_0⟩:=Kd.at_string HR0.out x6_1 p126 q126
        obtain rfl : ad125 = ad126:=(by injection e126)
        replace p126:=eq_true p126
        replace q126:=eq_true q126
        go_wp2
        go_ret
        exact ⟨by rfl,by repeat (first|exact Drawn0.refl _|apply Drawn0.step)⟩
       ·rw [if_neg c10] at H
        have c10b0:=decide_eq_false c10
        have c10b1 : decide ((rdOf ByteArray.empty l0 x6_1).size < 1) = false:=decide_eq_false (by omega)
        clear c10
        by_cases c11 : ((rdOf ByteArray.empty l0 x6_1).size : Int) > 4096
        ·rw [if_pos c11] at H
         have c11b0:=decide_eq_true c11
         clear c11
         obtain rfl:=Option.some.inj H
         have p124 : 0 ≤ (x6_1 : Int):=of_decide_eq_true (by with_reducible assumption)
         have q124 : x6_1 < (l1.length : Int):=of_decide_eq_true (by with_reducible assumption)
         obtain ⟨ad124,e124,hx124_0⟩:=Kd.at_bool HR1.out x6_1 p124 q124
         (try rw [← Nbq6.out] at hx124_0)
         cases e124
         replace p124:=eq_true p124
         replace q124:=eq_true q124
         have p125 : 0 ≤ (x6_1 : Int):=of_decide_eq_true (by with_reducible assumption)
         have q125 : x6_1 < (l0.length : Int):=of_decide_eq_true (by with_reducible assumption)
         obtain ⟨ad125,e125,hx125_0⟩:=Kd.at_string HR0.out x6_1 p125 q125
         cases e125
         replace p125:=eq_true p125
         replace q125:=eq_true q125
         have p126 : 0 ≤ (x6_1 : Int):=of_decide_eq_true (by with_reducible assumption)
         have q126 : x6_1 < (l0.length : Int):=of_decide_eq_true (by with_reducible assumption)
         obtain ⟨ad126,e126,hx126_0⟩:=Kd.at_string HR0.out x6_1 p126 q126
         obtain rfl : ad125 = ad126:=(by injection e126)
         replace p126:=eq_true p126
         replace q126:=eq_true q126
         have p127 : 0 ≤ (x6_1 : Int):=of_decide_eq_true (by with_reducible assumption)
         have q127 : x6_1 < (l0.length : Int):=of_decide_eq_true (by with_reducible assumption)
         obtain ⟨ad127,e127,hx127_0⟩:=Kd.at_string HR0.out x6_1 p127 q127
         obtain rfl : ad125 = ad127:=(by injection e127)
         replace p127:=eq_true p127
         replace q127:=eq_true q127
         go_wp2
         go_ret
         exact ⟨by rfl,by repeat (first|exact Drawn0.refl _|apply Drawn0.step)⟩
        ·rw [if_neg c11] at H
         have c11b0:=decide_eq_false c11
         clear c11
         have H':=M0 H
         clear H
         have p124 : 0 ≤ (x6_1 : Int):=of_decide_eq_true (by with_reducible assumption)
         have q124 : x6_1 < (l1.length : Int):=of_decide_eq_true (by with_reducible assumption)
         obtain ⟨ad124,e124,hx124_0⟩:=Kd.at_bool HR1.out x6_1 p124 q124
         (try rw [← Nbq6.out] at hx124_0)
         cases e124
         replace p124:=eq_true p124
         replace q124:=eq_true q124
         have p125 : 0 ≤ (x6_1 : Int):=of_decide_eq_true (by with_reducible assumption)
         have q125 : x6_1 < (l0.length : Int):=of_decide_eq_true (by with_reducible assumption)
         obtain ⟨ad125,e125,hx125_0⟩:=Kd.at_string HR0.out x6_1 p125 q125
         cases e125
         replace p125:=eq_true p125
         replace q125:=eq_true q125
         have p126 : 0 ≤ (x6_1 : Int):=of_decide_eq_true (by with_reducible assumption)
         have q126 : x6_1 < (l0.length : Int):=of_decide_eq_true (by with_reducible assumption)
         obtain ⟨ad126,e126,hx126_0⟩:=Kd.at_string HR0.out x6_1 p126 q126
         obtain rfl : ad125 = ad126:=(by injection e126)
         replace p126:=eq_true p126
         replace q126:=eq_true q126
         have p127 : 0 ≤ (x6_1 : Int):=of_decide_eq_true (by with_reducible assumption)
         have q127 : x6_1 < (l0.length : Int):=of_decide_eq_true (by with_reducible assumption)
         obtain ⟨ad127,e127,hx127_0⟩:=Kd.at_string HR0.out x6_1 p127 q127
         obtain rfl : ad125 = ad127:=(by injection e127)
         replace p127:=eq_true p127
         replace q127:=eq_true q127
         have p128 : 0 ≤ (x6_1 : Int):=of_decide_eq_true (by with_reducible assumption)
         have q128 : x6_1 < (l0.length : Int):=of_decide_eq_true (by with_reducible assumption)
         obtain ⟨ad128,e128,hx128_0⟩:=Kd.at_string HR0.out x6_1 p128 q128
         obtain rfl : ad125 = ad128:=(by injection e128)
         replace p128:=eq_true p128
         replace q128:=eq_true q128
         go_wp2
         go_roundg k1
         case measure=>have:=HK1.out;omega
         case rel=>exact ⟨(((rdOf ByteArray.empty l0 x6_1).size : Int)),(wrap64 (x6_1 + 1)),(by rfl),(by rfl),H',⟨by have:=HK1.out;omega⟩,by repeat (first|exact Drawn0.refl _|apply Drawn0.step)⟩
      ·rw [if_neg c9] at H
       have c9b1 : (((rdOf ByteArray.empty l0 x6_1).size : Int) != x5_1) = true:=bne_iff_ne.mpr c9
       obtain rfl:=Option.some.inj H
       have p124 : 0 ≤ (x6_1 : Int):=of_decide_eq_true (by with_reducible assumption)
       have q124 : x6_1 < (l1.length : Int):=of_decide_eq_true (by with_reducible assumption)
       obtain ⟨ad124,e124,hx124_0⟩:=Kd.at_bool HR1.out x6_1 p124 q124
       (try rw [← Nbq6.out] at hx124_0)
       cases e124
       replace p124:=eq_true p124
       replace q124:=eq_true q124
       have p125 : 0 ≤ (x6_1 : Int):=of_decide_eq_true (by with_reducible assumption)
       have q125 : x6_1 < (l0.length : Int):=of_decide_eq_true (by with_reducible assumption)
       obtain ⟨ad125,e125,hx125_0⟩:=Kd.at_string HR0.out x6_1 p125 q125
       cases e125
       replace p125:=eq_true p125
       replace q125:=eq_true q125
       go_wp2
       go_ret
       exact ⟨by rfl,by repeat (first|exact Drawn0.refl _|apply Drawn0.step)⟩
     ·rw [if_neg c8] at H
      have c8b0:=decide_eq_false c8
      clear c8
      by_cases c12 : ((rdOf ByteArray.empty l0 x6_1).size : Int) < 1
      ·rw [if_pos c12] at H
       have c12b0:=decide_eq_true c12
       clear c12
       obtain rfl:=Option.some.inj H
       have p124 : 0 ≤ (x6_1 : Int):=of_decide_eq_true (by with_reducible assumption)
       have q124 : x6_1 < (l1.length : Int):=of_decide_eq_true (by with_reducible assumption)
       obtain ⟨ad124,e124,hx124_0⟩:=Kd.at_bool HR1.out x6_1 p124 q124
       (try rw [← Nbq6.out] at hx124_0)
       cases e124
       replace p124:=eq_true p124
       replace q124:=eq_true q124
       have p129 : 0 ≤ (x6_1 : Int):=of_decide_eq_true (by with_reducible assumption)
       have q129 : x6_1 < (l0.length : Int):=of_decide_eq_true (by with_reducible assumption)
       obtain ⟨ad129,e129,hx129_0⟩:=Kd.at_string HR0.out x6_1 p129 q129
       cases e129
       replace p129:=eq_true p129
       replace q129:=eq_true q129
       go_wp2
       go_ret
       exact ⟨by rfl,by repeat (first|exact Drawn0.refl _|apply Drawn0.step)⟩
      ·rw [if_neg c12] at H
       have c12b0:=decide_eq_false c12
       have c12b1 : decide ((rdOf ByteArray.empty l0 x6_1).size < 1) = false:=decide_eq_false (by omega)
       clear c12
       by_cases c13 : ((rdOf ByteArray.empty l0 x6_1).size : Int) > 4096
       ·rw [if_pos c13] at H
        have c13b0:=decide_eq_true c13
        clear c13
        obtain rfl:=Option.some.inj H
        have p124 : 0 ≤ (x6_1 : Int):=of_decide_eq_true (by with_reducible assumption)
        have q124 : x6_1 < (l1.length : Int):=of_decide_eq_true (by with_reducible assumption)
        obtain ⟨ad124,e124,hx124_0⟩:=Kd.at_bool HR1.out x6_1 p124 q124
        (try rw [← Nbq6.out] at hx124_0)
        cases e124
        replace p124:=eq_true p124
        replace q124:=eq_true q124
        have p129 : 0 ≤ (x6_1 : Int):=of_decide_eq_true (by with_reducible assumption)
        have q129 : x6_1 < (l0.length : Int):=of_decide_eq_true (by with_reducible assumption)
        obtain ⟨ad129,e129,hx129_0⟩:=Kd.at_string HR0.out x6_1 p129 q129
        cases e129
        replace p129:=eq_true p129
        replace q129:=eq_true q129
        have p130 : 0 ≤ (x6_1 : Int):=of_decide_eq_true (by with_reducible assumption)
        have q130 : x6_1 < (l0.length : Int):=of_decide_eq_true (by with_reducible assumption)
        obtain ⟨ad130,e130,hx130_0⟩:=Kd.at_string HR0.out x6_1 p130 q130
        obtain rfl : ad129 = ad130:=(by injection e130)
        replace p130:=eq_true p130
        replace q130:=eq_true q130
        go_wp2
        go_ret
        exact ⟨by rfl,by repeat (first|exact Drawn0.refl _|apply Drawn0.step)⟩
       ·rw [if_neg c13] at H
        have c13b0:=decide_eq_false c13
        clear c13
        have H':=M0 H
        clear H
        have p124 : 0 ≤ (x6_1 : Int):=of_decide_eq_true (by with_reducible assumption)
        have q124 : x6_1 < (l1.length : Int):=of_decide_eq_true (by with_reducible assumption)
        obtain ⟨ad124,e124,hx124_0⟩:=Kd.at_bool HR1.out x6_1 p124 q124
        (try rw [← Nbq6.out] at hx124_0)
        cases e124
        replace p124:=eq_true p124
        replace q124:=eq_true q124
        have p129 : 0 ≤ (x6_1 : Int):=of_decide_eq_true (by with_reducible assumption)
        have q129 : x6_1 < (l0.length : Int):=of_decide_eq_true (by with_reducible assumption)
        obtain ⟨ad129,e129,hx129_0⟩:=Kd.at_string HR0.out x6_1 p129 q129
        cases e129
        replace p129:=eq_true p129
        replace q129:=eq_true q129
        have p130 : 0 ≤ (x6_1 : Int):=of_decide_eq_true (by with_reducible assumption)
        have q130 : x6_1 < (l0.length : Int):=of_decide_eq_true (by with_reducible assumption)
        obtain ⟨ad130,e130,hx130_0⟩:=Kd.at_string HR0.out x6_1 p130 q130
        obtain rfl : ad129 = ad130:=(by injection e130)
        replace p130:=eq_true p130
        replace q130:=eq_true q130
        have p131 : 0 ≤ (x6_1 : Int):=of_decide_eq_true (by with_reducible assumption)
        have q131 : x6_1 < (l0.length : Int):=of_decide_eq_true (by with_reducible assumption)
        obtain ⟨ad131,e131,hx131_0⟩:=Kd.at_string HR0.out x6_1 p131 q131
        obtain rfl : ad129 = ad131:=(by injection e131)
        replace p131:=eq_true p131
        replace q131:=eq_true q131
        go_wp2
        go_roundg k1
        case measure=>have:=HK1.out;omega
        case rel=>exact ⟨(((rdOf ByteArray.empty l0 x6_1).size : Int)),(wrap64 (x6_1 + 1)),(by rfl),(by rfl),H',⟨by have:=HK1.out;omega⟩,by repeat (first|exact Drawn0.refl _|apply Drawn0.step)⟩
    ·replace c7:=Bool.eq_false_iff.mpr c7
     subst c7
     have H1 : (spec_l04Len.l0 k1 l0 l1 x5_1 (wrap64 (x6_1 + 1))) = some r:=by rw [if_neg (show ¬ (false = true) by decide)] at H;exact H
     clear H
     have H:=H1
     clear H1
     have H':=M0 H
     clear H
     have p124 : 0 ≤ (x6_1 : Int):=of_decide_eq_true (by with_reducible assumption)
     have q124 : x6_1 < (l1.length : Int):=of_decide_eq_true (by with_reducible assumption)
     obtain ⟨ad124,e124,hx124_0⟩:=Kd.at_bool HR1.out x6_1 p124 q124
     (try rw [← Nbq6.out] at hx124_0)
     cases e124
     replace p124:=eq_true p124
     replace q124:=eq_true q124
     go_wp2
     go_roundg k1
     case measure=>have:=HK1.out;omega
     case rel=>exact ⟨(x5_1),(wrap64 (x6_1 + 1)),(by rfl),(by rfl),H',⟨by have:=HK1.out;omega⟩,by repeat (first|exact Drawn0.refl _|apply Drawn0.step)⟩
   ·rw [if_neg c3] at H
    have c3b0:=decide_eq_false c3
    clear c3
    obtain rfl:=Option.some.inj H
    go_wp2
    go_ret
    exact ⟨by rfl,by repeat (first|exact Drawn0.refl _|apply Drawn0.step)⟩

/-! ### spec_CodeSize: function 97 -/
def spec_CodeSize.f (a0_0 : Int) (a0_1 : Int) (a0_2 : Int) : Option (Int):=(spec_CodeFault.f a0_0 a0_1 a0_2).bind fun t133=>(if t133 = 0 then (some (wrap64 ((wrap64 (a0_0 + a0_1)) + a0_2))) else (some 0))
set_option maxHeartbeats 8000000 in
set_option maxRecDepth 100000 in
theorem spec_CodeSize.calls (a0_0 : Int) (a0_1 : Int) (a0_2 : Int) (r : Int) (w : World) (h : spec_CodeSize.f a0_0 a0_1 a0_2 = some r) :
  Calls Try.prog 97 #[.agg #[.int .i64 a0_0,.int .i64 a0_1,.int .i64 a0_2]] w fun e w'=>e = .returned (.int .i64 r) ∧ Below w.heap.size w w':=by
 have HB:=M0 (Below.refl w.heap.size w)
 have H : ((spec_CodeFault.f a0_0 a0_1 a0_2).bind fun t133=>(if t133 = 0 then (some (wrap64 ((wrap64 (a0_0 + a0_1)) + a0_2))) else (some 0))) = some r:=h
 clear h
 replace H:=Option.bind_eq_some_iff.mp H
 obtain ⟨t133,A20,H⟩:=H
 replace H : (if t133 = 0 then (some (wrap64 ((wrap64 (a0_0 + a0_1)) + a0_2))) else (some 0)) = some r:=H
 have A2:=M0 A20
 clear A20
 by_cases c3 : t133 = 0
 ·rw [if_pos c3] at H
  have c3b1 : (t133 != 0) = false:=bne_eq_false_iff_eq.mpr c3
  clear c3
  obtain rfl:=Option.some.inj H
  go_enter Try.func97,Try.ntmps97
  go_wp2_with (first|((with_reducible refine gate_dst (N:=1) rfl ?_);refine box_event rfl (N:=1) rfl (cs:=#[.int .i64 a0_0,.int .i64 a0_1,.int .i64 a0_2]) (t:=43) (by go_simp) ?_;intro gb132 hg w4 hbox hb;have BK132:=M0 (hbox);replace HB:=M0 (below_step HB.out hb);clear hb hbox hg;have hcz5_0:=bcv (v:=.int .i64 a0_0) BK132.out 0 rfl;have hcz5_1:=bcv (v:=.int .i64 a0_1) BK132.out 1 rfl;have hcz5_2:=bcv (v:=.int .i64 a0_2) BK132.out 2 rfl)|((with_reducible refine gate_callee (f:=89) rfl ?_);refine goesL_ (some 4) rfl rfl Try.func89 (by kernel_rfl) rfl #[.agg #[.int .i64 a0_0,.int .i64 a0_1,.int .i64 a0_2]] rfl (by (try simp only [List.map_toArray,List.map_cons,List.map_nil]);rfl) ?_;(with_reducible refine (spec_CodeFault.calls a0_0 a0_1 a0_2 t133 _ A2.out).mono ?_);rintro e w6 ⟨rfl,hb⟩;refine ⟨_,rfl,?_⟩;replace BK132:=M0 (blk_below BK132.out hb);replace HB:=M0 (below_step HB.out hb);clear hb;have hcz7_0:=bcv (v:=.int .i64 a0_0) BK132.out 0 rfl;have hcz7_1:=bcv (v:=.int .i64 a0_1) BK132.out 1 rfl;have hcz7_2:=bcv (v:=.int .i64 a0_2) BK132.out 2 rfl))
  go_ret
  exact ⟨by rfl,HB.out⟩
 ·rw [if_neg c3] at H
  have c3b1 : (t133 != 0) = true:=bne_iff_ne.mpr c3
  obtain rfl:=Option.some.inj H
  go_enter Try.func97,Try.ntmps97
  go_wp2_with (first|((with_reducible refine gate_dst (N:=1) rfl ?_);refine box_event rfl (N:=1) rfl (cs:=#[.int .i64 a0_0,.int .i64 a0_1,.int .i64 a0_2]) (t:=43) (by go_simp) ?_;intro gb132 hg w8 hbox hb;have BK132:=M0 (hbox);replace HB:=M0 (below_step HB.out hb);clear hb hbox hg;have hcz9_0:=bcv (v:=.int .i64 a0_0) BK132.out 0 rfl;have hcz9_1:=bcv (v:=.int .i64 a0_1) BK132.out 1 rfl;have hcz9_2:=bcv (v:=.int .i64 a0_2) BK132.out 2 rfl)|((with_reducible refine gate_callee (f:=89) rfl ?_);refine goesL_ (some 4) rfl rfl Try.func89 (by kernel_rfl) rfl #[.agg #[.int .i64 a0_0,.int .i64 a0_1,.int .i64 a0_2]] rfl (by (try simp only [List.map_toArray,List.map_cons,List.map_nil]);rfl) ?_;(with_reducible refine (spec_CodeFault.calls a0_0 a0_1 a0_2 t133 _ A2.out).mono ?_);rintro e w10 ⟨rfl,hb⟩;refine ⟨_,rfl,?_⟩;replace BK132:=M0 (blk_below BK132.out hb);replace HB:=M0 (below_step HB.out hb);clear hb))
  go_ret
  exact ⟨by rfl,HB.out⟩

/-! ### spec_l02In: function 79 -/
def spec_l02In.f (a0 : Int) (a1 : Int) : Option (Bool):=if a0 ≥ 0 then (some (decide (a0 < a1))) else (some false)
set_option maxHeartbeats 8000000 in
set_option maxRecDepth 100000 in
theorem spec_l02In.calls (a0 : Int) (a1 : Int) (r : Bool) (w : World) (h : spec_l02In.f a0 a1 = some r) :
  Calls Try.prog 79 #[.int .i64 a0,.int .i64 a1] w fun e w'=>e = .returned (.bool r) ∧ Drawn0 w w':=by
 have H : (if a0 ≥ 0 then (some (decide (a0 < a1))) else (some false)) = some r:=h
 clear h
 by_cases c3 : a0 ≥ 0
 ·rw [if_pos c3] at H
  have c3b0:=decide_eq_true c3
  clear c3
  obtain rfl:=Option.some.inj H
  go_enter Try.func79,Try.ntmps79
  go_wp2
  go_ret
  exact ⟨by rfl,by repeat (exact Drawn0.refl _)⟩
 ·rw [if_neg c3] at H
  have c3b0:=decide_eq_false c3
  clear c3
  obtain rfl:=Option.some.inj H
  go_enter Try.func79,Try.ntmps79
  go_wp2
  go_ret
  exact ⟨by rfl,by repeat (exact Drawn0.refl _)⟩

/-! ### spec_l02Times: function 132 -/
def spec_l02Times.l0 : Nat → Int → Int → Int → Int → Int → Option (Int)
 | 0,_,_,_,_,_=>none
 | k + 1,x0,x1,x2,x3,x9=>if x1 > 0 then (if (Int.tmod x1 2) = 1 then (if (wrap64 (x0 * 2)) ≥ x3 then (spec_l02Times.l0 k (Go.bits .xor .i64 (wrap64 (x0 * 2)) x2) (wrap64 (Int.tdiv x1 2)) x2 x3 (Go.bits .xor .i64 x9 x0)) else (spec_l02Times.l0 k (wrap64 (x0 * 2)) (wrap64 (Int.tdiv x1 2)) x2 x3 (Go.bits .xor .i64 x9 x0))) else (if (wrap64 (x0 * 2)) ≥ x3 then (spec_l02Times.l0 k (Go.bits .xor .i64 (wrap64 (x0 * 2)) x2) (wrap64 (Int.tdiv x1 2)) x2 x3 x9) else (spec_l02Times.l0 k (wrap64 (x0 * 2)) (wrap64 (Int.tdiv x1 2)) x2 x3 x9))) else (some x9)
def spec_l02Times.f (k : Nat) (a0 : Int) (a1 : Int) (a2 : Int) (a3 : Int) : Option (Int):=spec_l02Times.l0 k a0 a1 a2 a3 0
set_option maxHeartbeats 8000000 in
set_option maxRecDepth 100000 in
theorem spec_l02Times.calls (k : Nat) (a0 : Int) (a1 : Int) (a2 : Int) (a3 : Int) (r : Int) (w : World) (h : spec_l02Times.f k a0 a1 a2 a3 = some r) :
  Calls Try.prog 132 #[.int .i64 a0,.int .i64 a1,.int .i64 a2,.int .i64 a3] w fun e w'=>e = .returned (.int .i64 r) ∧ Drawn0 w w':=by
 have H : (spec_l02Times.l0 k a0 a1 a2 a3 0) = some r:=h
 clear h
 have H':=M0 H
 clear H
 go_enter Try.func132,Try.ntmps132
 go_wp2
 go_loopg [0,1,9] k (fun kq v0 v1 v9 w'=>∃ (x0_1 : Int) (x1_1 : Int) (x9_1 : Int),v0 = .int .i64 x0_1 ∧ v1 = .int .i64 x1_1 ∧ v9 = .int .i64 x9_1 ∧ Aside0 (spec_l02Times.l0 kq x0_1 x1_1 a2 a3 x9_1 = some r) ∧ Aside0 (kq ≤ k) ∧ Drawn0 w w')
 case atStart=>exact ⟨(a0),(a1),(0),(by rfl),(by rfl),(by rfl),H',⟨Nat.le_refl _⟩,by repeat (exact Drawn0.refl _)⟩
 case round=>
  clear H'
  obtain ⟨x0_1,x1_1,x9_1,rfl,rfl,rfl,HA,HK1,⟨m1,rfl⟩⟩:=hrel
  cases gk with
  | zero=>exact absurd HA.out (by simp [spec_l02Times.l0])
  | succ k1=>
   have H:=HA.out
   clear HA
   simp only [spec_l02Times.l0] at H
   by_cases c5 : x1_1 > 0
   ·rw [if_pos c5] at H
    have c5b0:=decide_eq_true c5
    clear c5
    by_cases c6 : (Int.tmod x1_1 2) = 1
    ·rw [if_pos c6] at H
     have c6b0 : ((Int.tmod x1_1 2) == 1) = true:=beq_iff_eq.mpr c6
     have c6b1 : ((Int.tmod x1_1 2) != 1) = false:=bne_eq_false_iff_eq.mpr c6
     clear c6
     by_cases c7 : (wrap64 (x0_1 * 2)) ≥ a3
     ·rw [if_pos c7] at H
      have c7b0:=decide_eq_true c7
      clear c7
      have H':=M0 H
      clear H
      go_wp2
      go_roundg k1
      case measure=>have:=HK1.out;omega
      case rel=>exact ⟨(Go.bits .xor .i64 (wrap64 (x0_1 * 2)) a2),(wrap64 (Int.tdiv x1_1 2)),(Go.bits .xor .i64 x9_1 x0_1),(by rfl),(by rfl),(by rfl),H',⟨by have:=HK1.out;omega⟩,by repeat (first|exact Drawn0.refl _|apply Drawn0.step)⟩
     ·rw [if_neg c7] at H
      have c7b0:=decide_eq_false c7
      clear c7
      have H':=M0 H
      clear H
      go_wp2
      go_roundg k1
      case measure=>have:=HK1.out;omega
      case rel=>exact ⟨(wrap64 (x0_1 * 2)),(wrap64 (Int.tdiv x1_1 2)),(Go.bits .xor .i64 x9_1 x0_1),(by rfl),(by rfl),(by rfl),H',⟨by have:=HK1.out;omega⟩,by repeat (first|exact Drawn0.refl _|apply Drawn0.step)⟩
    ·rw [if_neg c6] at H
     have c6b0 : ((Int.tmod x1_1 2) == 1) = false:=beq_eq_false_iff_ne.mpr c6
     have c6b1 : ((Int.tmod x1_1 2) != 1) = true:=bne_iff_ne.mpr c6
     by_cases c8 : (wrap64 (x0_1 * 2)) ≥ a3
     ·rw [if_pos c8] at H
      have c8b0:=decide_eq_true c8
      clear c8
      have H':=M0 H
      clear H
      go_wp2
      go_roundg k1
      case measure=>have:=HK1.out;omega
      case rel=>exact ⟨(Go.bits .xor .i64 (wrap64 (x0_1 * 2)) a2),(wrap64 (Int.tdiv x1_1 2)),(x9_1),(by rfl),(by rfl),(by rfl),H',⟨by have:=HK1.out;omega⟩,by repeat (first|exact Drawn0.refl _|apply Drawn0.step)⟩
     ·rw [if_neg c8] at H
      have c8b0:=decide_eq_false c8
      clear c8
      have H':=M0 H
      clear H
      go_wp2
      go_roundg k1
      case measure=>have:=HK1.out;omega
      case rel=>exact ⟨(wrap64 (x0_1 * 2)),(wrap64 (Int.tdiv x1_1 2)),(x9_1),(by rfl),(by rfl),(by rfl),H',⟨by have:=HK1.out;omega⟩,by repeat (first|exact Drawn0.refl _|apply Drawn0.step)⟩
   ·rw [if_neg c5] at H
    have c5b0:=decide_eq_false c5
    clear c5
    obtain rfl:=Option.some.inj H
    go_wp2
    go_ret
    exact ⟨by rfl,by repeat (first|exact Drawn0.refl _|apply Drawn0.step)⟩

/-! ### spec_Mul8: function 124 -/
def spec_Mul8.f (k : Nat) (a0 : Int) (a1 : Int) : Option (Int):=(spec_l02In.f a0 256).bind fun t134=>(if t134 = true then ((spec_l02In.f a1 256).bind fun t135=>(if t135 = true then ((spec_l02Times.f k a0 a1 285 256).bind fun t136=>(some t136)) else (some (-1)))) else (some (-1)))
set_option maxHeartbeats 8000000 in
set_option maxRecDepth 100000 in
theorem spec_Mul8.calls (k : Nat) (a0 : Int) (a1 : Int) (r : Int) (w : World) (h : spec_Mul8.f k a0 a1 = some r) :
  Calls Try.prog 124 #[.int .i64 a0,.int .i64 a1] w fun e w'=>e = .returned (.int .i64 r) ∧ Drawn0 w w':=by
 have H : ((spec_l02In.f a0 256).bind fun t134=>(if t134 = true then ((spec_l02In.f a1 256).bind fun t135=>(if t135 = true then ((spec_l02Times.f k a0 a1 285 256).bind fun t136=>(some t136)) else (some (-1)))) else (some (-1)))) = some r:=h
 clear h
 replace H:=Option.bind_eq_some_iff.mp H
 obtain ⟨t134,A30,H⟩:=H
 replace H : (if t134 = true then ((spec_l02In.f a1 256).bind fun t135=>(if t135 = true then ((spec_l02Times.f k a0 a1 285 256).bind fun t136=>(some t136)) else (some (-1)))) else (some (-1))) = some r:=H
 have A3:=M0 A30
 clear A30
 by_cases c4 : t134 = true
 ·subst c4
  have H1 : ((spec_l02In.f a1 256).bind fun t135=>(if t135 = true then ((spec_l02Times.f k a0 a1 285 256).bind fun t136=>(some t136)) else (some (-1)))) = some r:=by rw [if_pos rfl] at H;exact H
  clear H
  have H:=H1
  clear H1
  replace H:=Option.bind_eq_some_iff.mp H
  obtain ⟨t135,A50,H⟩:=H
  replace H : (if t135 = true then ((spec_l02Times.f k a0 a1 285 256).bind fun t136=>(some t136)) else (some (-1))) = some r:=H
  have A5:=M0 A50
  clear A50
  by_cases c6 : t135 = true
  ·subst c6
   have H1 : ((spec_l02Times.f k a0 a1 285 256).bind fun t136=>(some t136)) = some r:=by rw [if_pos rfl] at H;exact H
   clear H
   have H:=H1
   clear H1
   replace H:=Option.bind_eq_some_iff.mp H
   obtain ⟨t136,A70,H⟩:=H
   replace H : (some t136) = some r:=H
   have A7:=M0 A70
   clear A70
   obtain rfl:=Option.some.inj H
   go_enter Try.func124,Try.ntmps124
   go_wp2_with (first|((with_reducible refine gate_callee (f:=79) rfl ?_);refine goesL_ (some 6) rfl rfl Try.func79 (by kernel_rfl) rfl #[.int .i64 a0,.int .i64 256] rfl (by (try simp only [List.map_toArray,List.map_cons,List.map_nil]);rfl) ?_;(with_reducible refine (spec_l02In.calls a0 256 true _ A3.out).mono ?_);rintro e w' ⟨rfl,⟨nd,rfl⟩⟩;refine ⟨_,rfl,?_⟩)|(go_at_call 79;(with_reducible refine (spec_l02In.calls a1 256 true _ A5.out).mono ?_);rintro e w' ⟨rfl,⟨nd,rfl⟩⟩)|((with_reducible refine gate_callee (f:=132) rfl ?_);refine goesL_ (some 15) rfl rfl Try.func132 (by kernel_rfl) rfl #[.int .i64 a0,.int .i64 a1,.int .i64 285,.int .i64 256] rfl (by (try simp only [List.map_toArray,List.map_cons,List.map_nil]);rfl) ?_;(with_reducible refine (spec_l02Times.calls k a0 a1 285 256 t136 _ A7.out).mono ?_);rintro e w' ⟨rfl,⟨nd,rfl⟩⟩;refine ⟨_,rfl,?_⟩))
   go_ret
   exact ⟨by rfl,by repeat (first|exact Drawn0.refl _|apply Drawn0.step)⟩
  ·replace c6:=Bool.eq_false_iff.mpr c6
   subst c6
   have H1 : (some (-1)) = some r:=by rw [if_neg (show ¬ (false = true) by decide)] at H;exact H
   clear H
   have H:=H1
   clear H1
   obtain rfl:=Option.some.inj H
   go_enter Try.func124,Try.ntmps124
   go_wp2_with (first|((with_reducible refine gate_callee (f:=79) rfl ?_);refine goesL_ (some 6) rfl rfl Try.func79 (by kernel_rfl) rfl #[.int .i64 a0,.int .i64 256] rfl (by (try simp only [List.map_toArray,List.map_cons,List.map_nil]);rfl) ?_;(with_reducible refine (spec_l02In.calls a0 256 true _ A3.out).mono ?_);rintro e w' ⟨rfl,⟨nd,rfl⟩⟩;refine ⟨_,rfl,?_⟩)|(go_at_call 79;(with_reducible refine (spec_l02In.calls a1 256 false _ A5.out).mono ?_);rintro e w' ⟨rfl,⟨nd,rfl⟩⟩))
   go_ret
   exact ⟨by rfl,by repeat (first|exact Drawn0.refl _|apply Drawn0.step)⟩
 ·replace c4:=Bool.eq_false_iff.mpr c4
  subst c4
  have H1 : (some (-1)) = some r:=by rw [if_neg (show ¬ (false = true) by decide)] at H;exact H
  clear H
  have H:=H1
  clear H1
  obtain rfl:=Option.some.inj H
  go_enter Try.func124,Try.ntmps124
  go_wp2_with (((with_reducible refine gate_callee (f:=79) rfl ?_);refine goesL_ (some 6) rfl rfl Try.func79 (by kernel_rfl) rfl #[.int .i64 a0,.int .i64 256] rfl (by (try simp only [List.map_toArray,List.map_cons,List.map_nil]);rfl) ?_;(with_reducible refine (spec_l02In.calls a0 256 false _ A3.out).mono ?_);rintro e w' ⟨rfl,⟨nd,rfl⟩⟩;refine ⟨_,rfl,?_⟩))
  go_ret
  exact ⟨by rfl,by repeat (first|exact Drawn0.refl _|apply Drawn0.step)⟩

end Go.Proofs.Ytffhbpepppodeaa.PFnRepaired
