import Derived.Test.YtffhbpepppodeaaPFnExactJoinObjectx0
namespace Go.Proofs.Ytffhbpepppodeaa.PFnExactJoinObject
private theorem nn {α : Type} {c : Prop} [Decidable c] {a : Option α} {r : α} (h : (if c then a else none) = some r) : c ∧ a = some r:=by
 split at h
 ·exact ⟨‹c›,h⟩
 ·cases h
open Go.RowKit Go.Proofs.YtffhbpepppodeaaW.PrintWords Go.Proofs.YtffhbpepppodeaaW.PrintLast Go.Proofs.YtffhbpepppodeaaW.PrintMore
attribute [local go_sem] cF cG cW cX cn cp cI cJ   -- for this text's walks alone
set_option linter.unusedVariables false
set_option linter.unusedSimpArgs false

/-! ### aY: function 89 -/
def aY.f (a0_0 : Int) (a0_1 : Int) (a0_2 : Int) : Option (Int):=if a0_0 < 1 then (some 1) else (if a0_0 > 32 then (some 1) else (if a0_1 < 0 then (some 1) else (if a0_1 > 16 then (some 1) else (if a0_2 < 0 then (some 1) else (if a0_2 > a0_0 then (some 1) else (if (wrap64 ((wrap64 (a0_0 + a0_1)) + a0_2)) > 64 then (some 1) else (some 0)))))))
set_option maxHeartbeats 8000000 in
set_option maxRecDepth 100000 in
theorem aY.calls (a0_0 : Int) (a0_1 : Int) (a0_2 : Int) (r : Int) (w : World) (h : aY.f a0_0 a0_1 a0_2 = some r) :
  Calls Try.prog 89 #[.agg #[.int .i64 a0_0,.int .i64 a0_1,.int .i64 a0_2]] w fun e w'=>e = .returned (.int .i64 r) ∧ Below w.heap.size w w':=by
 have HB:=M0 (Below.refl w.heap.size w)
 have H : (if a0_0 < 1 then (some 1) else (if a0_0 > 32 then (some 1) else (if a0_1 < 0 then (some 1) else (if a0_1 > 16 then (some 1) else (if a0_2 < 0 then (some 1) else (if a0_2 > a0_0 then (some 1) else (if (wrap64 ((wrap64 (a0_0 + a0_1)) + a0_2)) > 64 then (some 1) else (some 0)))))))) = some r:=h
 clear h
 by_cases c2 : a0_0 < 1
 ·rw [if_pos c2] at H
  have c2b0:=decide_eq_true c2
  clear c2
  obtain rfl:=Option.some.inj H
  go_enter Try.func89,Try.ntmps89
  go_wp2_with (((with_reducible refine ak (N:=1) rfl ?_);refine aw rfl (N:=1) rfl (cs:=#[.int .i64 a0_0,.int .i64 a0_1,.int .i64 a0_2]) (t:=43) (by go_simp) ?_;intro gb163 hg w3 hbox hb;have BK163:=M0 (hbox);replace HB:=M0 (aa HB.out hb);clear hb hbox hg;have hcz4_0:=bcv (v:=.int .i64 a0_0) BK163.out 0 rfl))
  go_ret
  exact ⟨by rfl,HB.out⟩
 ·rw [if_neg c2] at H
  have c2b0:=decide_eq_false c2
  clear c2
  by_cases c5 : a0_0 > 32
  ·rw [if_pos c5] at H
   have c5b0:=decide_eq_true c5
   clear c5
   obtain rfl:=Option.some.inj H
   go_enter Try.func89,Try.ntmps89
   go_wp2_with (((with_reducible refine ak (N:=1) rfl ?_);refine aw rfl (N:=1) rfl (cs:=#[.int .i64 a0_0,.int .i64 a0_1,.int .i64 a0_2]) (t:=43) (by go_simp) ?_;intro gb163 hg w6 hbox hb;have BK163:=M0 (hbox);replace HB:=M0 (aa HB.out hb);clear hb hbox hg;have hcz7_0:=bcv (v:=.int .i64 a0_0) BK163.out 0 rfl))
   go_ret
   exact ⟨by rfl,HB.out⟩
  ·rw [if_neg c5] at H
   have c5b0:=decide_eq_false c5
   clear c5
   by_cases c8 : a0_1 < 0
   ·rw [if_pos c8] at H
    have c8b0:=decide_eq_true c8
    clear c8
    obtain rfl:=Option.some.inj H
    go_enter Try.func89,Try.ntmps89
    go_wp2_with (((with_reducible refine ak (N:=1) rfl ?_);refine aw rfl (N:=1) rfl (cs:=#[.int .i64 a0_0,.int .i64 a0_1,.int .i64 a0_2]) (t:=43) (by go_simp) ?_;intro gb163 hg w9 hbox hb;have BK163:=M0 (hbox);replace HB:=M0 (aa HB.out hb);clear hb hbox hg;have hcz10_0:=bcv (v:=.int .i64 a0_0) BK163.out 0 rfl;have hcz10_1:=bcv (v:=.int .i64 a0_1) BK163.out 1 rfl))
    go_ret
    exact ⟨by rfl,HB.out⟩
   ·rw [if_neg c8] at H
    have c8b0:=decide_eq_false c8
    clear c8
    by_cases c11 : a0_1 > 16
    ·rw [if_pos c11] at H
     have c11b0:=decide_eq_true c11
     clear c11
     obtain rfl:=Option.some.inj H
     go_enter Try.func89,Try.ntmps89
     go_wp2_with (((with_reducible refine ak (N:=1) rfl ?_);refine aw rfl (N:=1) rfl (cs:=#[.int .i64 a0_0,.int .i64 a0_1,.int .i64 a0_2]) (t:=43) (by go_simp) ?_;intro gb163 hg w12 hbox hb;have BK163:=M0 (hbox);replace HB:=M0 (aa HB.out hb);clear hb hbox hg;have hcz13_0:=bcv (v:=.int .i64 a0_0) BK163.out 0 rfl;have hcz13_1:=bcv (v:=.int .i64 a0_1) BK163.out 1 rfl))
     go_ret
     exact ⟨by rfl,HB.out⟩
    ·rw [if_neg c11] at H
     have c11b0:=decide_eq_false c11
     clear c11
     by_cases c14 : a0_2 < 0
     ·rw [if_pos c14] at H
      have c14b0:=decide_eq_true c14
      clear c14
      obtain rfl:=Option.some.inj H
      go_enter Try.func89,Try.ntmps89
      go_wp2_with (((with_reducible refine ak (N:=1) rfl ?_);refine aw rfl (N:=1) rfl (cs:=#[.int .i64 a0_0,.int .i64 a0_1,.int .i64 a0_2]) (t:=43) (by go_simp) ?_;intro gb163 hg w15 hbox hb;have BK163:=M0 (hbox);replace HB:=M0 (aa HB.out hb);clear hb hbox hg;have hcz16_0:=bcv (v:=.int .i64 a0_0) BK163.out 0 rfl;have hcz16_1:=bcv (v:=.int .i64 a0_1) BK163.out 1 rfl;have hcz16_2:=bcv (v:=.int .i64 a0_2) BK163.out 2 rfl))
      go_ret
      exact ⟨by rfl,HB.out⟩
     ·rw [if_neg c14] at H
      have c14b0:=decide_eq_false c14
      clear c14
      by_cases c17 : a0_2 > a0_0
      ·rw [if_pos c17] at H
       have c17b0:=decide_eq_true c17
       clear c17
       obtain rfl:=Option.some.inj H
       go_enter Try.func89,Try.ntmps89
       go_wp2_with (((with_reducible refine ak (N:=1) rfl ?_);refine aw rfl (N:=1) rfl (cs:=#[.int .i64 a0_0,.int .i64 a0_1,.int .i64 a0_2]) (t:=43) (by go_simp) ?_;intro gb163 hg w18 hbox hb;have BK163:=M0 (hbox);replace HB:=M0 (aa HB.out hb);clear hb hbox hg;have hcz19_0:=bcv (v:=.int .i64 a0_0) BK163.out 0 rfl;have hcz19_1:=bcv (v:=.int .i64 a0_1) BK163.out 1 rfl;have hcz19_2:=bcv (v:=.int .i64 a0_2) BK163.out 2 rfl))
       go_ret
       exact ⟨by rfl,HB.out⟩
      ·rw [if_neg c17] at H
       have c17b0:=decide_eq_false c17
       clear c17
       by_cases c20 : (wrap64 ((wrap64 (a0_0 + a0_1)) + a0_2)) > 64
       ·rw [if_pos c20] at H
        have c20b0:=decide_eq_true c20
        clear c20
        obtain rfl:=Option.some.inj H
        go_enter Try.func89,Try.ntmps89
        go_wp2_with (((with_reducible refine ak (N:=1) rfl ?_);refine aw rfl (N:=1) rfl (cs:=#[.int .i64 a0_0,.int .i64 a0_1,.int .i64 a0_2]) (t:=43) (by go_simp) ?_;intro gb163 hg w21 hbox hb;have BK163:=M0 (hbox);replace HB:=M0 (aa HB.out hb);clear hb hbox hg;have hcz22_0:=bcv (v:=.int .i64 a0_0) BK163.out 0 rfl;have hcz22_1:=bcv (v:=.int .i64 a0_1) BK163.out 1 rfl;have hcz22_2:=bcv (v:=.int .i64 a0_2) BK163.out 2 rfl))
        go_ret
        exact ⟨by rfl,HB.out⟩
       ·rw [if_neg c20] at H
        have c20b0:=decide_eq_false c20
        clear c20
        obtain rfl:=Option.some.inj H
        go_enter Try.func89,Try.ntmps89
        go_wp2_with (((with_reducible refine ak (N:=1) rfl ?_);refine aw rfl (N:=1) rfl (cs:=#[.int .i64 a0_0,.int .i64 a0_1,.int .i64 a0_2]) (t:=43) (by go_simp) ?_;intro gb163 hg w23 hbox hb;have BK163:=M0 (hbox);replace HB:=M0 (aa HB.out hb);clear hb hbox hg;have hcz24_0:=bcv (v:=.int .i64 a0_0) BK163.out 0 rfl;have hcz24_1:=bcv (v:=.int .i64 a0_1) BK163.out 1 rfl;have hcz24_2:=bcv (v:=.int .i64 a0_2) BK163.out 2 rfl))
        go_ret
        exact ⟨by rfl,HB.out⟩

/-! ### bd: function 90 -/
def bd.l0 : Nat → List ByteArray → List Bool → Int → Int → Option (Int)
 | 0,_,_,_,_=>none
 | k + 1,x0,x1,x5,x6=>if x6 < (x0.length : Int) then (if 0 ≤ x6 then (if x6 < (x1.length : Int) then (if rdOf false x1 x6 = true then (if x5 ≥ 0 then (if ((rdOf ByteArray.empty x0 x6).size : Int) = x5 then (if ((rdOf ByteArray.empty x0 x6).size : Int) < 1 then (some (-1)) else (if ((rdOf ByteArray.empty x0 x6).size : Int) > 4096 then (some (-1)) else (bd.l0 k x0 x1 ((rdOf ByteArray.empty x0 x6).size : Int) (wrap64 (x6 + 1))))) else (some (-1))) else (if ((rdOf ByteArray.empty x0 x6).size : Int) < 1 then (some (-1)) else (if ((rdOf ByteArray.empty x0 x6).size : Int) > 4096 then (some (-1)) else (bd.l0 k x0 x1 ((rdOf ByteArray.empty x0 x6).size : Int) (wrap64 (x6 + 1)))))) else (bd.l0 k x0 x1 x5 (wrap64 (x6 + 1)))) else (none)) else (none)) else (some x5)
def bd.f (k : Nat) (l0 : List ByteArray) (l1 : List Bool) : Option (Int):=bd.l0 k l0 l1 (-1) 0
set_option maxHeartbeats 8000000 in
set_option maxRecDepth 100000 in
theorem bd.calls (k : Nat) (A0 : Option Addr) (c0 : Nat) (l0 : List ByteArray) (A1 : Option Addr) (c1 : Nat) (l1 : List Bool) (r : Int) (w : World) (hr0 : Kd.C Kd.string w A0 l0.length l0) (hc0 : l0.length ≤ c0) (hr1 : Kd.C Kd.bool w A1 l1.length l1) (hc1 : l1.length ≤ c1) (h : bd.f k l0 l1 = some r) :
  Calls Try.prog 90 #[.slice A0 l0.length c0,.slice A1 l1.length c1] w fun e w'=>e = .returned (.int .i64 r) ∧ Drawn0 w w':=by
 have HR0:=M0 hr0
 have HC0:=M0 hc0
 clear hr0 hc0
 have HR1:=M0 hr1
 have HC1:=M0 hc1
 clear hr1 hc1
 have H : (bd.l0 k l0 l1 (-1) 0) = some r:=h
 clear h
 have H':=M0 H
 clear H
 go_enter Try.func90,Try.ntmps90
 go_wp2
 go_loopg [5,6] k (fun kq v5 v6 w'=>∃ (x5_1 : Int) (x6_1 : Int),v5 = .int .i64 x5_1 ∧ v6 = .int .i64 x6_1 ∧ Aside0 (bd.l0 kq l0 l1 x5_1 x6_1 = some r) ∧ Aside0 (kq ≤ k) ∧ Drawn0 w w')
 case atStart=>exact ⟨((-1)),(0),(by rfl),(by rfl),H',⟨Nat.le_refl _⟩,by repeat (exact Drawn0.refl _)⟩
 case round=>
  clear H'
  obtain ⟨x5_1,x6_1,rfl,rfl,HA,HK1,⟨m1,rfl⟩⟩:=hrel
  cases gk with
  | zero=>exact absurd HA.out (by simp [bd.l0])
  | succ k1=>
   have H:=HA.out
   clear HA
   simp only [bd.l0] at H
   by_cases c3 : x6_1 < (l0.length : Int)
   ·rw [if_pos c3] at H
    have c3b0:=decide_eq_true c3
    clear c3
    obtain ⟨c4,H⟩:=nn H
    have c4b0:=decide_eq_true c4
    clear c4
    obtain ⟨c5,H⟩:=nn H
    have c5b0:=decide_eq_true c5
    clear c5
    obtain ⟨bq6,hbq6⟩ : ∃ b_ : Bool,b_ = (rdOf false l1 x6_1):=⟨_,rfl⟩
    replace H : (if bq6 = true then (if x5_1 ≥ 0 then (if ((rdOf ByteArray.empty l0 x6_1).size : Int) = x5_1 then (if ((rdOf ByteArray.empty l0 x6_1).size : Int) < 1 then (some (-1)) else (if ((rdOf ByteArray.empty l0 x6_1).size : Int) > 4096 then (some (-1)) else (bd.l0 k1 l0 l1 ((rdOf ByteArray.empty l0 x6_1).size : Int) (wrap64 (x6_1 + 1))))) else (some (-1))) else (if ((rdOf ByteArray.empty l0 x6_1).size : Int) < 1 then (some (-1)) else (if ((rdOf ByteArray.empty l0 x6_1).size : Int) > 4096 then (some (-1)) else (bd.l0 k1 l0 l1 ((rdOf ByteArray.empty l0 x6_1).size : Int) (wrap64 (x6_1 + 1)))))) else (bd.l0 k1 l0 l1 x5_1 (wrap64 (x6_1 + 1)))) = some r:=by rw [← hbq6] at H;exact H
    have Nbq6:=M0 hbq6
    clear hbq6
    by_cases c7 : bq6 = true
    ·subst c7
     have H1 : (if x5_1 ≥ 0 then (if ((rdOf ByteArray.empty l0 x6_1).size : Int) = x5_1 then (if ((rdOf ByteArray.empty l0 x6_1).size : Int) < 1 then (some (-1)) else (if ((rdOf ByteArray.empty l0 x6_1).size : Int) > 4096 then (some (-1)) else (bd.l0 k1 l0 l1 ((rdOf ByteArray.empty l0 x6_1).size : Int) (wrap64 (x6_1 + 1))))) else (some (-1))) else (if ((rdOf ByteArray.empty l0 x6_1).size : Int) < 1 then (some (-1)) else (if ((rdOf ByteArray.empty l0 x6_1).size : Int) > 4096 then (some (-1)) else (bd.l0 k1 l0 l1 ((rdOf ByteArray.empty l0 x6_1).size : Int) (wrap64 (x6_1 + 1)))))) = some r:=by rw [if_pos rfl] at H;exact H
     clear H
     have H:=H1
     clear H1
     by_cases c8 : x5_1 ≥ 0
     ·rw [if_pos c8] at H
      have c8b0:=decide_eq_true c8
      clear c8
      by_cases c9 : ((rdOf ByteArray.empty l0 x6_1).size : Int) = x5_1
      ·rw [if_pos c9] at H
       have c9b0 : (((rdOf ByteArray.empty l0 x6_1).size : Int) == x5_1) = true:=beq_iff_eq.mpr c9
       have c9b1 : (((rdOf ByteArray.empty l0 x6_1).size : Int) != x5_1) = false:=bne_eq_false_iff_eq.mpr c9
       clear c9
       by_cases c10 : ((rdOf ByteArray.empty l0 x6_1).size : Int) < 1
       ·rw [if_pos c10] at H
        have c10b0:=decide_eq_true c10
        clear c10
        obtain rfl:=Option.some.inj H
        have p164 : 0 ≤ (x6_1 : Int):=of_decide_eq_true (by with_reducible assumption)
        have q164 : x6_1 < (l1.length : Int):=of_decide_eq_true (by with_reducible assumption)
        obtain ⟨ad164,e164,hx164_0⟩:=Kd.dH HR1.out x6_1 p164 q164
        (try rw [← Nbq6.out] at hx164_0)
        cases e164
        replace p164:=eq_true p164
        replace q164:=eq_true q164
        have p165 : 0 ≤ (x6_1 : Int):=of_decide_eq_true (by with_reducible assumption)
        have q165 : x6_1 < (l0.length : Int):=of_decide_eq_true (by with_reducible assumption)
        obtain ⟨ad165,e165,hx165_0⟩:=Kd.bu HR0.out x6_1 p165 q165
        cases e165
        replace p165:=eq_true p165
        replace q165:=eq_true q165
        have p166 : 0 ≤ (x6_1 : Int):=of_decide_eq_true (by with_reducible assumption)
        have q166 : x6_1 < (l0.length : Int):=of_decide_eq_true (by with_reducible assumption)
        obtain ⟨ad166,e166,hx166_0⟩:=Kd.bu HR0.out x6_1 p166 q166
        obtain rfl : ad165 = ad166:=(by injection e166)
        replace p166:=eq_true p166
        replace q166:=eq_true q166
        go_wp2
        go_ret
        exact ⟨by rfl,by repeat (first|exact Drawn0.refl _|apply Drawn0.step)⟩
       ·rw [if_neg c10] at H
        have c10b0:=decide_eq_false c10
        have c10b1 : decide ((rdOf ByteArray.empty l0 x6_1).size < 1) = false:=decide_eq_false (by omega)
        clear c10
        by_cases c11 : ((rdOf ByteArray.empty l0 x6_1).size : Int) > 4096
        ·rw [if_pos c11] at H
         have c11b0:=decide_eq_true c11
         clear c11
         obtain rfl:=Option.some.inj H
         have p164 : 0 ≤ (x6_1 : Int):=of_decide_eq_true (by with_reducible assumption)
         have q164 : x6_1 < (l1.length : Int):=of_decide_eq_true (by with_reducible assumption)
         obtain ⟨ad164,e164,hx164_0⟩:=Kd.dH HR1.out x6_1 p164 q164
         (try rw [← Nbq6.out] at hx164_0)
         cases e164
         replace p164:=eq_true p164
         replace q164:=eq_true q164
         have p165 : 0 ≤ (x6_1 : Int):=of_decide_eq_true (by with_reducible assumption)
         have q165 : x6_1 < (l0.length : Int):=of_decide_eq_true (by with_reducible assumption)
         obtain ⟨ad165,e165,hx165_0⟩:=Kd.bu HR0.out x6_1 p165 q165
         cases e165
         replace p165:=eq_true p165
         replace q165:=eq_true q165
         have p166 : 0 ≤ (x6_1 : Int):=of_decide_eq_true (by with_reducible assumption)
         have q166 : x6_1 < (l0.length : Int):=of_decide_eq_true (by with_reducible assumption)
         obtain ⟨ad166,e166,hx166_0⟩:=Kd.bu HR0.out x6_1 p166 q166
         obtain rfl : ad165 = ad166:=(by injection e166)
         replace p166:=eq_true p166
         replace q166:=eq_true q166
         have p167 : 0 ≤ (x6_1 : Int):=of_decide_eq_true (by with_reducible assumption)
         have q167 : x6_1 < (l0.length : Int):=of_decide_eq_true (by with_reducible assumption)
         obtain ⟨ad167,e167,hx167_0⟩:=Kd.bu HR0.out x6_1 p167 q167
         obtain rfl : ad165 = ad167:=(by injection e167)
         replace p167:=eq_true p167
         replace q167:=eq_true q167
         go_wp2
         go_ret
         exact ⟨by rfl,by repeat (first|exact Drawn0.refl _|apply Drawn0.step)⟩
        ·rw [if_neg c11] at H
         have c11b0:=decide_eq_false c11
         clear c11
         have H':=M0 H
         clear H
         have p164 : 0 ≤ (x6_1 : Int):=of_decide_eq_true (by with_reducible assumption)
         have q164 : x6_1 < (l1.length : Int):=of_decide_eq_true (by with_reducible assumption)
         obtain ⟨ad164,e164,hx164_0⟩:=Kd.dH HR1.out x6_1 p164 q164
         (try rw [← Nbq6.out] at hx164_0)
         cases e164
         replace p164:=eq_true p164
         replace q164:=eq_true q164
         have p165 : 0 ≤ (x6_1 : Int):=of_decide_eq_true (by with_reducible assumption)
         have q165 : x6_1 < (l0.length : Int):=of_decide_eq_true (by with_reducible assumption)
         obtain ⟨ad165,e165,hx165_0⟩:=Kd.bu HR0.out x6_1 p165 q165
         cases e165
         replace p165:=eq_true p165
         replace q165:=eq_true q165
         have p166 : 0 ≤ (x6_1 : Int):=of_decide_eq_true (by with_reducible assumption)
         have q166 : x6_1 < (l0.length : Int):=of_decide_eq_true (by with_reducible assumption)
         obtain ⟨ad166,e166,hx166_0⟩:=Kd.bu HR0.out x6_1 p166 q166
         obtain rfl : ad165 = ad166:=(by injection e166)
         replace p166:=eq_true p166
         replace q166:=eq_true q166
         have p167 : 0 ≤ (x6_1 : Int):=of_decide_eq_true (by with_reducible assumption)
         have q167 : x6_1 < (l0.length : Int):=of_decide_eq_true (by with_reducible assumption)
         obtain ⟨ad167,e167,hx167_0⟩:=Kd.bu HR0.out x6_1 p167 q167
         obtain rfl : ad165 = ad167:=(by injection e167)
         replace p167:=eq_true p167
         replace q167:=eq_true q167
         have p168 : 0 ≤ (x6_1 : Int):=of_decide_eq_true (by with_reducible assumption)
         have q168 : x6_1 < (l0.length : Int):=of_decide_eq_true (by with_reducible assumption)
         obtain ⟨ad168,e168,hx168_0⟩:=Kd.bu HR0.out x6_1 p168 q168
         obtain rfl : ad165 = ad168:=(by injection e168)
         replace p168:=eq_true p168
         replace q168:=eq_true q168
         go_wp2
         go_roundg k1
         case measure=>have:=HK1.out;omega
         case rel=>exact ⟨(((rdOf ByteArray.empty l0 x6_1).size : Int)),(wrap64 (x6_1 + 1)),(by rfl),(by rfl),H',⟨by have:=HK1.out;omega⟩,by repeat (first|exact Drawn0.refl _|apply Drawn0.step)⟩
      ·rw [if_neg c9] at H
       have c9b1 : (((rdOf ByteArray.empty l0 x6_1).size : Int) != x5_1) = true:=bne_iff_ne.mpr c9
       obtain rfl:=Option.some.inj H
       have p164 : 0 ≤ (x6_1 : Int):=of_decide_eq_true (by with_reducible assumption)
       have q164 : x6_1 < (l1.length : Int):=of_decide_eq_true (by with_reducible assumption)
       obtain ⟨ad164,e164,hx164_0⟩:=Kd.dH HR1.out x6_1 p164 q164
       (try rw [← Nbq6.out] at hx164_0)
       cases e164
       replace p164:=eq_true p164
       replace q164:=eq_true q164
       have p165 : 0 ≤ (x6_1 : Int):=of_decide_eq_true (by with_reducible assumption)
       have q165 : x6_1 < (l0.length : Int):=of_decide_eq_true (by with_reducible assumption)
       obtain ⟨ad165,e165,hx165_0⟩:=Kd.bu HR0.out x6_1 p165 q165
       cases e165
       replace p165:=eq_true p165
       replace q165:=eq_true q165
       go_wp2
       go_ret
       exact ⟨by rfl,by repeat (first|exact Drawn0.refl _|apply Drawn0.step)⟩
     ·rw [if_neg c8] at H
      have c8b0:=decide_eq_false c8
      clear c8
      by_cases c12 : ((rdOf ByteArray.empty l0 x6_1).size : Int) < 1
      ·rw [if_pos c12] at H
       have c12b0:=decide_eq_true c12
       clear c12
       obtain rfl:=Option.some.inj H
       have p164 : 0 ≤ (x6_1 : Int):=of_decide_eq_true (by with_reducible assumption)
       have q164 : x6_1 < (l1.length : Int):=of_decide_eq_true (by with_reducible assumption)
       obtain ⟨ad164,e164,hx164_0⟩:=Kd.dH HR1.out x6_1 p164 q164
       (try rw [← Nbq6.out] at hx164_0)
       cases e164
       replace p164:=eq_true p164
       replace q164:=eq_true q164
       have p169 : 0 ≤ (x6_1 : Int):=of_decide_eq_true (by with_reducible assumption)
       have q169 : x6_1 < (l0.length : Int):=of_decide_eq_true (by with_reducible assumption)
       obtain ⟨ad169,e169,hx169_0⟩:=Kd.bu HR0.out x6_1 p169 q169
       cases e169
       replace p169:=eq_true p169
       replace q169:=eq_true q169
       go_wp2
       go_ret
       exact ⟨by rfl,by repeat (first|exact Drawn0.refl _|apply Drawn0.step)⟩
      ·rw [if_neg c12] at H
       have c12b0:=decide_eq_false c12
       have c12b1 : decide ((rdOf ByteArray.empty l0 x6_1).size < 1) = false:=decide_eq_false (by omega)
       clear c12
       by_cases c13 : ((rdOf ByteArray.empty l0 x6_1).size : Int) > 4096
       ·rw [if_pos c13] at H
        have c13b0:=decide_eq_true c13
        clear c13
        obtain rfl:=Option.some.inj H
        have p164 : 0 ≤ (x6_1 : Int):=of_decide_eq_true (by with_reducible assumption)
        have q164 : x6_1 < (l1.length : Int):=of_decide_eq_true (by with_reducible assumption)
        obtain ⟨ad164,e164,hx164_0⟩:=Kd.dH HR1.out x6_1 p164 q164
        (try rw [← Nbq6.out] at hx164_0)
        cases e164
        replace p164:=eq_true p164
        replace q164:=eq_true q164
        have p169 : 0 ≤ (x6_1 : Int):=of_decide_eq_true (by with_reducible assumption)
        have q169 : x6_1 < (l0.length : Int):=of_decide_eq_true (by with_reducible assumption)
        obtain ⟨ad169,e169,hx169_0⟩:=Kd.bu HR0.out x6_1 p169 q169
        cases e169
        replace p169:=eq_true p169
        replace q169:=eq_true q169
        have p170 : 0 ≤ (x6_1 : Int):=of_decide_eq_true (by with_reducible assumption)
        have q170 : x6_1 < (l0.length : Int):=of_decide_eq_true (by with_reducible assumption)
        obtain ⟨ad170,e170,hx170_0⟩:=Kd.bu HR0.out x6_1 p170 q170
        obtain rfl : ad169 = ad170:=(by injection e170)
        replace p170:=eq_true p170
        replace q170:=eq_true q170
        go_wp2
        go_ret
        exact ⟨by rfl,by repeat (first|exact Drawn0.refl _|apply Drawn0.step)⟩
       ·rw [if_neg c13] at H
        have c13b0:=decide_eq_false c13
        clear c13
        have H':=M0 H
        clear H
        have p164 : 0 ≤ (x6_1 : Int):=of_decide_eq_true (by with_reducible assumption)
        have q164 : x6_1 < (l1.length : Int):=of_decide_eq_true (by with_reducible assumption)
        obtain ⟨ad164,e164,hx164_0⟩:=Kd.dH HR1.out x6_1 p164 q164
        (try rw [← Nbq6.out] at hx164_0)
        cases e164
        replace p164:=eq_true p164
        replace q164:=eq_true q164
        have p169 : 0 ≤ (x6_1 : Int):=of_decide_eq_true (by with_reducible assumption)
        have q169 : x6_1 < (l0.length : Int):=of_decide_eq_true (by with_reducible assumption)
        obtain ⟨ad169,e169,hx169_0⟩:=Kd.bu HR0.out x6_1 p169 q169
        cases e169
        replace p169:=eq_true p169
        replace q169:=eq_true q169
        have p170 : 0 ≤ (x6_1 : Int):=of_decide_eq_true (by with_reducible assumption)
        have q170 : x6_1 < (l0.length : Int):=of_decide_eq_true (by with_reducible assumption)
        obtain ⟨ad170,e170,hx170_0⟩:=Kd.bu HR0.out x6_1 p170 q170
        obtain rfl : ad169 = ad170:=(by injection e170)
        replace p170:=eq_true p170
        replace q170:=eq_true q170
        have p171 : 0 ≤ (x6_1 : Int):=of_decide_eq_true (by with_reducible assumption)
        have q171 : x6_1 < (l0.length : Int):=of_decide_eq_true (by with_reducible assumption)
        obtain ⟨ad171,e171,hx171_0⟩:=Kd.bu HR0.out x6_1 p171 q171
        obtain rfl : ad169 = ad171:=(by injection e171)
        replace p171:=eq_true p171
        replace q171:=eq_true q171
        go_wp2
        go_roundg k1
        case measure=>have:=HK1.out;omega
        case rel=>exact ⟨(((rdOf ByteArray.empty l0 x6_1).size : Int)),(wrap64 (x6_1 + 1)),(by rfl),(by rfl),H',⟨by have:=HK1.out;omega⟩,by repeat (first|exact Drawn0.refl _|apply Drawn0.step)⟩
    ·replace c7:=Bool.eq_false_iff.mpr c7
     subst c7
     have H1 : (bd.l0 k1 l0 l1 x5_1 (wrap64 (x6_1 + 1))) = some r:=by rw [if_neg (show ¬ (false = true) by decide)] at H;exact H
     clear H
     have H:=H1
     clear H1
     have H':=M0 H
     clear H
     have p164 : 0 ≤ (x6_1 : Int):=of_decide_eq_true (by with_reducible assumption)
     have q164 : x6_1 < (l1.length : Int):=of_decide_eq_true (by with_reducible assumption)
     obtain ⟨ad164,e164,hx164_0⟩:=Kd.dH HR1.out x6_1 p164 q164
     (try rw [← Nbq6.out] at hx164_0)
     cases e164
     replace p164:=eq_true p164
     replace q164:=eq_true q164
     go_wp2
     go_roundg k1
     case measure=>have:=HK1.out;omega
     case rel=>exact ⟨(x5_1),(wrap64 (x6_1 + 1)),(by rfl),(by rfl),H',⟨by have:=HK1.out;omega⟩,by repeat (first|exact Drawn0.refl _|apply Drawn0.step)⟩
   ·rw [if_neg c3] at H
    have c3b0:=decide_eq_false c3
    clear c3
    obtain rfl:=Option.some.inj H
    go_wp2
    go_ret
    exact ⟨by rfl,by repeat (first|exact Drawn0.refl _|apply Drawn0.step)⟩

/-! ### b8: function 97 -/
def b8.f (a0_0 : Int) (a0_1 : Int) (a0_2 : Int) : Option (Int):=(aY.f a0_0 a0_1 a0_2).bind fun t173=>(if t173 = 0 then (some (wrap64 ((wrap64 (a0_0 + a0_1)) + a0_2))) else (some 0))
set_option maxHeartbeats 8000000 in
set_option maxRecDepth 100000 in
theorem b8.calls (a0_0 : Int) (a0_1 : Int) (a0_2 : Int) (r : Int) (w : World) (h : b8.f a0_0 a0_1 a0_2 = some r) :
  Calls Try.prog 97 #[.agg #[.int .i64 a0_0,.int .i64 a0_1,.int .i64 a0_2]] w fun e w'=>e = .returned (.int .i64 r) ∧ Below w.heap.size w w':=by
 have HB:=M0 (Below.refl w.heap.size w)
 have H : ((aY.f a0_0 a0_1 a0_2).bind fun t173=>(if t173 = 0 then (some (wrap64 ((wrap64 (a0_0 + a0_1)) + a0_2))) else (some 0))) = some r:=h
 clear h
 replace H:=Option.bind_eq_some_iff.mp H
 obtain ⟨t173,A20,H⟩:=H
 replace H : (if t173 = 0 then (some (wrap64 ((wrap64 (a0_0 + a0_1)) + a0_2))) else (some 0)) = some r:=H
 have A2:=M0 A20
 clear A20
 by_cases c3 : t173 = 0
 ·rw [if_pos c3] at H
  have c3b1 : (t173 != 0) = false:=bne_eq_false_iff_eq.mpr c3
  clear c3
  obtain rfl:=Option.some.inj H
  go_enter Try.func97,Try.ntmps97
  go_wp2_with (first|((with_reducible refine ak (N:=1) rfl ?_);refine aw rfl (N:=1) rfl (cs:=#[.int .i64 a0_0,.int .i64 a0_1,.int .i64 a0_2]) (t:=43) (by go_simp) ?_;intro gb172 hg w4 hbox hb;have BK172:=M0 (hbox);replace HB:=M0 (aa HB.out hb);clear hb hbox hg;have hcz5_0:=bcv (v:=.int .i64 a0_0) BK172.out 0 rfl;have hcz5_1:=bcv (v:=.int .i64 a0_1) BK172.out 1 rfl;have hcz5_2:=bcv (v:=.int .i64 a0_2) BK172.out 2 rfl)|((with_reducible refine ah (f:=89) rfl ?_);refine aH (some 4) rfl rfl Try.func89 (by kernel_rfl) rfl #[.agg #[.int .i64 a0_0,.int .i64 a0_1,.int .i64 a0_2]] rfl (by (try simp only [List.map_toArray,List.map_cons,List.map_nil]);rfl) ?_;(with_reducible refine (aY.calls a0_0 a0_1 a0_2 t173 _ A2.out).mono ?_);rintro e w6 ⟨rfl,hb⟩;refine ⟨_,rfl,?_⟩;replace BK172:=M0 (ab BK172.out hb);replace HB:=M0 (aa HB.out hb);clear hb;have hcz7_0:=bcv (v:=.int .i64 a0_0) BK172.out 0 rfl;have hcz7_1:=bcv (v:=.int .i64 a0_1) BK172.out 1 rfl;have hcz7_2:=bcv (v:=.int .i64 a0_2) BK172.out 2 rfl))
  go_ret
  exact ⟨by rfl,HB.out⟩
 ·rw [if_neg c3] at H
  have c3b1 : (t173 != 0) = true:=bne_iff_ne.mpr c3
  obtain rfl:=Option.some.inj H
  go_enter Try.func97,Try.ntmps97
  go_wp2_with (first|((with_reducible refine ak (N:=1) rfl ?_);refine aw rfl (N:=1) rfl (cs:=#[.int .i64 a0_0,.int .i64 a0_1,.int .i64 a0_2]) (t:=43) (by go_simp) ?_;intro gb172 hg w8 hbox hb;have BK172:=M0 (hbox);replace HB:=M0 (aa HB.out hb);clear hb hbox hg;have hcz9_0:=bcv (v:=.int .i64 a0_0) BK172.out 0 rfl;have hcz9_1:=bcv (v:=.int .i64 a0_1) BK172.out 1 rfl;have hcz9_2:=bcv (v:=.int .i64 a0_2) BK172.out 2 rfl)|((with_reducible refine ah (f:=89) rfl ?_);refine aH (some 4) rfl rfl Try.func89 (by kernel_rfl) rfl #[.agg #[.int .i64 a0_0,.int .i64 a0_1,.int .i64 a0_2]] rfl (by (try simp only [List.map_toArray,List.map_cons,List.map_nil]);rfl) ?_;(with_reducible refine (aY.calls a0_0 a0_1 a0_2 t173 _ A2.out).mono ?_);rintro e w10 ⟨rfl,hb⟩;refine ⟨_,rfl,?_⟩;replace BK172:=M0 (ab BK172.out hb);replace HB:=M0 (aa HB.out hb);clear hb))
  go_ret
  exact ⟨by rfl,HB.out⟩

/-! ### bE: function 79 -/
def bE.f (a0 : Int) (a1 : Int) : Option (Bool):=if a0 ≥ 0 then (some (decide (a0 < a1))) else (some false)
set_option maxHeartbeats 8000000 in
set_option maxRecDepth 100000 in
theorem bE.calls (a0 : Int) (a1 : Int) (r : Bool) (w : World) (h : bE.f a0 a1 = some r) :
  Calls Try.prog 79 #[.int .i64 a0,.int .i64 a1] w fun e w'=>e = .returned (.bool r) ∧ Drawn0 w w':=by
 have H : (if a0 ≥ 0 then (some (decide (a0 < a1))) else (some false)) = some r:=h
 clear h
 by_cases c3 : a0 ≥ 0
 ·rw [if_pos c3] at H
  have c3b0:=decide_eq_true c3
  clear c3
  obtain rfl:=Option.some.inj H
  go_enter Try.func79,Try.ntmps79
  go_wp2
  go_ret
  exact ⟨by rfl,by repeat (exact Drawn0.refl _)⟩
 ·rw [if_neg c3] at H
  have c3b0:=decide_eq_false c3
  clear c3
  obtain rfl:=Option.some.inj H
  go_enter Try.func79,Try.ntmps79
  go_wp2
  go_ret
  exact ⟨by rfl,by repeat (exact Drawn0.refl _)⟩

/-! ### bh: function 132 -/
def bh.l0 : Nat → Int → Int → Int → Int → Int → Option (Int)
 | 0,_,_,_,_,_=>none
 | k + 1,x0,x1,x2,x3,x9=>if x1 > 0 then (if (Int.tmod x1 2) = 1 then (if (wrap64 (x0 * 2)) ≥ x3 then (bh.l0 k (Go.bits .xor .i64 (wrap64 (x0 * 2)) x2) (wrap64 (Int.tdiv x1 2)) x2 x3 (Go.bits .xor .i64 x9 x0)) else (bh.l0 k (wrap64 (x0 * 2)) (wrap64 (Int.tdiv x1 2)) x2 x3 (Go.bits .xor .i64 x9 x0))) else (if (wrap64 (x0 * 2)) ≥ x3 then (bh.l0 k (Go.bits .xor .i64 (wrap64 (x0 * 2)) x2) (wrap64 (Int.tdiv x1 2)) x2 x3 x9) else (bh.l0 k (wrap64 (x0 * 2)) (wrap64 (Int.tdiv x1 2)) x2 x3 x9))) else (some x9)
def bh.f (k : Nat) (a0 : Int) (a1 : Int) (a2 : Int) (a3 : Int) : Option (Int):=bh.l0 k a0 a1 a2 a3 0
set_option maxHeartbeats 8000000 in
set_option maxRecDepth 100000 in
theorem bh.calls (k : Nat) (a0 : Int) (a1 : Int) (a2 : Int) (a3 : Int) (r : Int) (w : World) (h : bh.f k a0 a1 a2 a3 = some r) :
  Calls Try.prog 132 #[.int .i64 a0,.int .i64 a1,.int .i64 a2,.int .i64 a3] w fun e w'=>e = .returned (.int .i64 r) ∧ Drawn0 w w':=by
 have H : (bh.l0 k a0 a1 a2 a3 0) = some r:=h
 clear h
 have H':=M0 H
 clear H
 go_enter Try.func132,Try.ntmps132
 go_wp2
 go_loopg [0,1,9] k (fun kq v0 v1 v9 w'=>∃ (x0_1 : Int) (x1_1 : Int) (x9_1 : Int),v0 = .int .i64 x0_1 ∧ v1 = .int .i64 x1_1 ∧ v9 = .int .i64 x9_1 ∧ Aside0 (bh.l0 kq x0_1 x1_1 a2 a3 x9_1 = some r) ∧ Aside0 (kq ≤ k) ∧ Drawn0 w w')
 case atStart=>exact ⟨(a0),(a1),(0),(by rfl),(by rfl),(by rfl),H',⟨Nat.le_refl _⟩,by repeat (exact Drawn0.refl _)⟩
 case round=>
  clear H'
  obtain ⟨x0_1,x1_1,x9_1,rfl,rfl,rfl,HA,HK1,⟨m1,rfl⟩⟩:=hrel
  cases gk with
  | zero=>exact absurd HA.out (by simp [bh.l0])
  | succ k1=>
   have H:=HA.out
   clear HA
   simp only [bh.l0] at H
   by_cases c5 : x1_1 > 0
   ·rw [if_pos c5] at H
    have c5b0:=decide_eq_true c5
    clear c5
    by_cases c6 : (Int.tmod x1_1 2) = 1
    ·rw [if_pos c6] at H
     have c6b0 : ((Int.tmod x1_1 2) == 1) = true:=beq_iff_eq.mpr c6
     have c6b1 : ((Int.tmod x1_1 2) != 1) = false:=bne_eq_false_iff_eq.mpr c6
     clear c6
     by_cases c7 : (wrap64 (x0_1 * 2)) ≥ a3
     ·rw [if_pos c7] at H
      have c7b0:=decide_eq_true c7
      clear c7
      have H':=M0 H
      clear H
      go_wp2
      go_roundg k1
      case measure=>have:=HK1.out;omega
      case rel=>exact ⟨(Go.bits .xor .i64 (wrap64 (x0_1 * 2)) a2),(wrap64 (Int.tdiv x1_1 2)),(Go.bits .xor .i64 x9_1 x0_1),(by rfl),(by rfl),(by rfl),H',⟨by have:=HK1.out;omega⟩,by repeat (first|exact Drawn0.refl _|apply Drawn0.step)⟩
     ·rw [if_neg c7] at H
      have c7b0:=decide_eq_false c7
      clear c7
      have H':=M0 H
      clear H
      go_wp2
      go_roundg k1
      case measure=>have:=HK1.out;omega
      case rel=>exact ⟨(wrap64 (x0_1 * 2)),(wrap64 (Int.tdiv x1_1 2)),(Go.bits .xor .i64 x9_1 x0_1),(by rfl),(by rfl),(by rfl),H',⟨by have:=HK1.out;omega⟩,by repeat (first|exact Drawn0.refl _|apply Drawn0.step)⟩
    ·rw [if_neg c6] at H
     have c6b0 : ((Int.tmod x1_1 2) == 1) = false:=beq_eq_false_iff_ne.mpr c6
     have c6b1 : ((Int.tmod x1_1 2) != 1) = true:=bne_iff_ne.mpr c6
     by_cases c8 : (wrap64 (x0_1 * 2)) ≥ a3
     ·rw [if_pos c8] at H
      have c8b0:=decide_eq_true c8
      clear c8
      have H':=M0 H
      clear H
      go_wp2
      go_roundg k1
      case measure=>have:=HK1.out;omega
      case rel=>exact ⟨(Go.bits .xor .i64 (wrap64 (x0_1 * 2)) a2),(wrap64 (Int.tdiv x1_1 2)),(x9_1),(by rfl),(by rfl),(by rfl),H',⟨by have:=HK1.out;omega⟩,by repeat (first|exact Drawn0.refl _|apply Drawn0.step)⟩
     ·rw [if_neg c8] at H
      have c8b0:=decide_eq_false c8
      clear c8
      have H':=M0 H
      clear H
      go_wp2
      go_roundg k1
      case measure=>have:=HK1.out;omega
      case rel=>exact ⟨(wrap64 (x0_1 * 2)),(wrap64 (Int.tdiv x1_1 2)),(x9_1),(by rfl),(by rfl),(by rfl),H',⟨by have:=HK1.out;omega⟩,by repeat (first|exact Drawn0.refl _|apply Drawn0.step)⟩
   ·rw [if_neg c5] at H
    have c5b0:=decide_eq_false c5
    clear c5
    obtain rfl:=Option.some.inj H
    go_wp2
    go_ret
    exact ⟨by rfl,by repeat (first|exact Drawn0.refl _|apply Drawn0.step)⟩

/-! ### cf: function 124 -/
def cf.f (k : Nat) (a0 : Int) (a1 : Int) : Option (Int):=(bE.f a0 256).bind fun t174=>(if t174 = true then ((bE.f a1 256).bind fun t175=>(if t175 = true then ((bh.f k a0 a1 285 256).bind fun t176=>(some t176)) else (some (-1)))) else (some (-1)))
set_option maxHeartbeats 8000000 in
set_option maxRecDepth 100000 in
theorem cf.calls (k : Nat) (a0 : Int) (a1 : Int) (r : Int) (w : World) (h : cf.f k a0 a1 = some r) :
  Calls Try.prog 124 #[.int .i64 a0,.int .i64 a1] w fun e w'=>e = .returned (.int .i64 r) ∧ Drawn0 w w':=by
 have H : ((bE.f a0 256).bind fun t174=>(if t174 = true then ((bE.f a1 256).bind fun t175=>(if t175 = true then ((bh.f k a0 a1 285 256).bind fun t176=>(some t176)) else (some (-1)))) else (some (-1)))) = some r:=h
 clear h
 replace H:=Option.bind_eq_some_iff.mp H
 obtain ⟨t174,A30,H⟩:=H
 replace H : (if t174 = true then ((bE.f a1 256).bind fun t175=>(if t175 = true then ((bh.f k a0 a1 285 256).bind fun t176=>(some t176)) else (some (-1)))) else (some (-1))) = some r:=H
 have A3:=M0 A30
 clear A30
 by_cases c4 : t174 = true
 ·subst c4
  have H1 : ((bE.f a1 256).bind fun t175=>(if t175 = true then ((bh.f k a0 a1 285 256).bind fun t176=>(some t176)) else (some (-1)))) = some r:=by rw [if_pos rfl] at H;exact H
  clear H
  have H:=H1
  clear H1
  replace H:=Option.bind_eq_some_iff.mp H
  obtain ⟨t175,A50,H⟩:=H
  replace H : (if t175 = true then ((bh.f k a0 a1 285 256).bind fun t176=>(some t176)) else (some (-1))) = some r:=H
  have A5:=M0 A50
  clear A50
  by_cases c6 : t175 = true
  ·subst c6
   have H1 : ((bh.f k a0 a1 285 256).bind fun t176=>(some t176)) = some r:=by rw [if_pos rfl] at H;exact H
   clear H
   have H:=H1
   clear H1
   replace H:=Option.bind_eq_some_iff.mp H
   obtain ⟨t176,A70,H⟩:=H
   replace H : (some t176) = some r:=H
   have A7:=M0 A70
   clear A70
   obtain rfl:=Option.some.inj H
   go_enter Try.func124,Try.ntmps124
   go_wp2_with (first|((with_reducible refine ah (f:=79) rfl ?_);refine aH (some 6) rfl rfl Try.func79 (by kernel_rfl) rfl #[.int .i64 a0,.int .i64 256] rfl (by (try simp only [List.map_toArray,List.map_cons,List.map_nil]);rfl) ?_;(with_reducible refine (bE.calls a0 256 true _ A3.out).mono ?_);rintro e w' ⟨rfl,⟨nd,rfl⟩⟩;refine ⟨_,rfl,?_⟩)|(go_at_call 79;(with_reducible refine (bE.calls a1 256 true _ A5.out).mono ?_);rintro e w' ⟨rfl,⟨nd,rfl⟩⟩)|((with_reducible refine ah (f:=132) rfl ?_);refine aH (some 15) rfl rfl Try.func132 (by kernel_rfl) rfl #[.int .i64 a0,.int .i64 a1,.int .i64 285,.int .i64 256] rfl (by (try simp only [List.map_toArray,List.map_cons,List.map_nil]);rfl) ?_;(with_reducible refine (bh.calls k a0 a1 285 256 t176 _ A7.out).mono ?_);rintro e w' ⟨rfl,⟨nd,rfl⟩⟩;refine ⟨_,rfl,?_⟩))
   go_ret
   exact ⟨by rfl,by repeat (first|exact Drawn0.refl _|apply Drawn0.step)⟩
  ·replace c6:=Bool.eq_false_iff.mpr c6
   subst c6
   have H1 : (some (-1)) = some r:=by rw [if_neg (show ¬ (false = true) by decide)] at H;exact H
   clear H
   have H:=H1
   clear H1
   obtain rfl:=Option.some.inj H
   go_enter Try.func124,Try.ntmps124
   go_wp2_with (first|((with_reducible refine ah (f:=79) rfl ?_);refine aH (some 6) rfl rfl Try.func79 (by kernel_rfl) rfl #[.int .i64 a0,.int .i64 256] rfl (by (try simp only [List.map_toArray,List.map_cons,List.map_nil]);rfl) ?_;(with_reducible refine (bE.calls a0 256 true _ A3.out).mono ?_);rintro e w' ⟨rfl,⟨nd,rfl⟩⟩;refine ⟨_,rfl,?_⟩)|(go_at_call 79;(with_reducible refine (bE.calls a1 256 false _ A5.out).mono ?_);rintro e w' ⟨rfl,⟨nd,rfl⟩⟩))
   go_ret
   exact ⟨by rfl,by repeat (first|exact Drawn0.refl _|apply Drawn0.step)⟩
 ·replace c4:=Bool.eq_false_iff.mpr c4
  subst c4
  have H1 : (some (-1)) = some r:=by rw [if_neg (show ¬ (false = true) by decide)] at H;exact H
  clear H
  have H:=H1
  clear H1
  obtain rfl:=Option.some.inj H
  go_enter Try.func124,Try.ntmps124
  go_wp2_with (((with_reducible refine ah (f:=79) rfl ?_);refine aH (some 6) rfl rfl Try.func79 (by kernel_rfl) rfl #[.int .i64 a0,.int .i64 256] rfl (by (try simp only [List.map_toArray,List.map_cons,List.map_nil]);rfl) ?_;(with_reducible refine (bE.calls a0 256 false _ A3.out).mono ?_);rintro e w' ⟨rfl,⟨nd,rfl⟩⟩;refine ⟨_,rfl,?_⟩))
  go_ret
  exact ⟨by rfl,by repeat (first|exact Drawn0.refl _|apply Drawn0.step)⟩

end Go.Proofs.Ytffhbpepppodeaa.PFnExactJoinObject
