import Derived.Test.YtffhbpepppodeaaPFnDecodedx0
namespace Go.Proofs.Ytffhbpepppodeaa.PFnDecoded
private theorem nn {α : Type} {c : Prop} [Decidable c] {a : Option α} {r : α} (h : (if c then a else none) = some r) : c ∧ a = some r:=by
 split at h
 ·exact ⟨‹c›,h⟩
 ·cases h
open Go.RowKit Go.Proofs.YtffhbpepppodeaaW.PrintWords Go.Proofs.YtffhbpepppodeaaW.PrintLast Go.Proofs.YtffhbpepppodeaaW.PrintMore
attribute [local go_sem] cJ cL dn dp cw cy cM cN   -- for this text's walks alone
set_option linter.unusedVariables false
set_option linter.unusedSimpArgs false

/-! ### bd: function 89 -/
def bd.f (a0_0 : Int) (a0_1 : Int) (a0_2 : Int) : Option (Int):=if a0_0 < 1 then (some 1) else (if a0_0 > 32 then (some 1) else (if a0_1 < 0 then (some 1) else (if a0_1 > 16 then (some 1) else (if a0_2 < 0 then (some 1) else (if a0_2 > a0_0 then (some 1) else (if (wrap64 ((wrap64 (a0_0 + a0_1)) + a0_2)) > 64 then (some 1) else (some 0)))))))
set_option maxHeartbeats 8000000 in
set_option maxRecDepth 100000 in
theorem bd.calls (a0_0 : Int) (a0_1 : Int) (a0_2 : Int) (r : Int) (w : World) (h : bd.f a0_0 a0_1 a0_2 = some r) :
  Calls Try.prog 89 #[.agg #[.int .i64 a0_0,.int .i64 a0_1,.int .i64 a0_2]] w fun e w'=>e = .returned (.int .i64 r) ∧ Below w.heap.size w w':=by
 have HB:=M0 (Below.refl w.heap.size w)
 have H : (if a0_0 < 1 then (some 1) else (if a0_0 > 32 then (some 1) else (if a0_1 < 0 then (some 1) else (if a0_1 > 16 then (some 1) else (if a0_2 < 0 then (some 1) else (if a0_2 > a0_0 then (some 1) else (if (wrap64 ((wrap64 (a0_0 + a0_1)) + a0_2)) > 64 then (some 1) else (some 0)))))))) = some r:=h
 clear h
 by_cases c2 : a0_0 < 1
 ·rw [if_pos c2] at H
  have c2b0:=decide_eq_true c2
  clear c2
  obtain rfl:=Option.some.inj H
  go_enter Try.func89,Try.ntmps89
  go_wp2_with (((with_reducible refine aw (N:=1) rfl ?_);refine az rfl (N:=1) rfl (cs:=#[.int .i64 a0_0,.int .i64 a0_1,.int .i64 a0_2]) (t:=43) (by go_simp) ?_;intro gb127 hg w3 hbox hb;have BK127:=M0 (hbox);replace HB:=M0 (ab HB.out hb);clear hb hbox hg;have hcz4_0:=bcv (v:=.int .i64 a0_0) BK127.out 0 rfl))
  go_ret
  exact ⟨by rfl,HB.out⟩
 ·rw [if_neg c2] at H
  have c2b0:=decide_eq_false c2
  clear c2
  by_cases c5 : a0_0 > 32
  ·rw [if_pos c5] at H
   have c5b0:=decide_eq_true c5
   clear c5
   obtain rfl:=Option.some.inj H
   go_enter Try.func89,Try.ntmps89
   go_wp2_with (((with_reducible refine aw (N:=1) rfl ?_);refine az rfl (N:=1) rfl (cs:=#[.int .i64 a0_0,.int .i64 a0_1,.int .i64 a0_2]) (t:=43) (by go_simp) ?_;intro gb127 hg w6 hbox hb;have BK127:=M0 (hbox);replace HB:=M0 (ab HB.out hb);clear hb hbox hg;have hcz7_0:=bcv (v:=.int .i64 a0_0) BK127.out 0 rfl))
   go_ret
   exact ⟨by rfl,HB.out⟩
  ·rw [if_neg c5] at H
   have c5b0:=decide_eq_false c5
   clear c5
   by_cases c8 : a0_1 < 0
   ·rw [if_pos c8] at H
    have c8b0:=decide_eq_true c8
    clear c8
    obtain rfl:=Option.some.inj H
    go_enter Try.func89,Try.ntmps89
    go_wp2_with (((with_reducible refine aw (N:=1) rfl ?_);refine az rfl (N:=1) rfl (cs:=#[.int .i64 a0_0,.int .i64 a0_1,.int .i64 a0_2]) (t:=43) (by go_simp) ?_;intro gb127 hg w9 hbox hb;have BK127:=M0 (hbox);replace HB:=M0 (ab HB.out hb);clear hb hbox hg;have hcz10_0:=bcv (v:=.int .i64 a0_0) BK127.out 0 rfl;have hcz10_1:=bcv (v:=.int .i64 a0_1) BK127.out 1 rfl))
    go_ret
    exact ⟨by rfl,HB.out⟩
   ·rw [if_neg c8] at H
    have c8b0:=decide_eq_false c8
    clear c8
    by_cases c11 : a0_1 > 16
    ·rw [if_pos c11] at H
     have c11b0:=decide_eq_true c11
     clear c11
     obtain rfl:=Option.some.inj H
     go_enter Try.func89,Try.ntmps89
     go_wp2_with (((with_reducible refine aw (N:=1) rfl ?_);refine az rfl (N:=1) rfl (cs:=#[.int .i64 a0_0,.int .i64 a0_1,.int .i64 a0_2]) (t:=43) (by go_simp) ?_;intro gb127 hg w12 hbox hb;have BK127:=M0 (hbox);replace HB:=M0 (ab HB.out hb);clear hb hbox hg;have hcz13_0:=bcv (v:=.int .i64 a0_0) BK127.out 0 rfl;have hcz13_1:=bcv (v:=.int .i64 a0_1) BK127.out 1 rfl))
     go_ret
     exact ⟨by rfl,HB.out⟩
    ·rw [if_neg c11] at H
     have c11b0:=decide_eq_false c11
     clear c11
     by_cases c14 : a0_2 < 0
     ·rw [if_pos c14] at H
      have c14b0:=decide_eq_true c14
      clear c14
      obtain rfl:=Option.some.inj H
      go_enter Try.func89,Try.ntmps89
      go_wp2_with (((with_reducible refine aw (N:=1) rfl ?_);refine az rfl (N:=1) rfl (cs:=#[.int .i64 a0_0,.int .i64 a0_1,.int .i64 a0_2]) (t:=43) (by go_simp) ?_;intro gb127 hg w15 hbox hb;have BK127:=M0 (hbox);replace HB:=M0 (ab HB.out hb);clear hb hbox hg;have hcz16_0:=bcv (v:=.int .i64 a0_0) BK127.out 0 rfl;have hcz16_1:=bcv (v:=.int .i64 a0_1) BK127.out 1 rfl;have hcz16_2:=bcv (v:=.int .i64 a0_2) BK127.out 2 rfl))
      go_ret
      exact ⟨by rfl,HB.out⟩
     ·rw [if_neg c14] at H
      have c14b0:=decide_eq_false c14
      clear c14
      by_cases c17 : a0_2 > a0_0
      ·rw [if_pos c17] at H
       have c17b0:=decide_eq_true c17
       clear c17
       obtain rfl:=Option.some.inj H
       go_enter Try.func89,Try.ntmps89
       go_wp2_with (((with_reducible refine aw (N:=1) rfl ?_);refine az rfl (N:=1) rfl (cs:=#[.int .i64 a0_0,.int .i64 a0_1,.int .i64 a0_2]) (t:=43) (by go_simp) ?_;intro gb127 hg w18 hbox hb;have BK127:=M0 (hbox);replace HB:=M0 (ab HB.out hb);clear hb hbox hg;have hcz19_0:=bcv (v:=.int .i64 a0_0) BK127.out 0 rfl;have hcz19_1:=bcv (v:=.int .i64 a0_1) BK127.out 1 rfl;have hcz19_2:=bcv (v:=.int .i64 a0_2) BK127.out 2 rfl))
       go_ret
       exact ⟨by rfl,HB.out⟩
      ·rw [if_neg c17] at H
       have c17b0:=decide_eq_false c17
       clear c17
       by_cases c20 : (wrap64 ((wrap64 (a0_0 + a0_1)) + a0_2)) > 64
       ·rw [if_pos c20] at H
        have c20b0:=decide_eq_true c20
        clear c20
        obtain rfl:=Option.some.inj H
        go_enter Try.func89,Try.ntmps89
        go_wp2_with (((with_reducible refine aw (N:=1) rfl ?_);refine az rfl (N:=1) rfl (cs:=#[.int .i64 a0_0,.int .i64 a0_1,.int .i64 a0_2]) (t:=43) (by go_simp) ?_;intro gb127 hg w21 hbox hb;have BK127:=M0 (hbox);replace HB:=M0 (ab HB.out hb);clear hb hbox hg;have hcz22_0:=bcv (v:=.int .i64 a0_0) BK127.out 0 rfl;have hcz22_1:=bcv (v:=.int .i64 a0_1) BK127.out 1 rfl;have hcz22_2:=bcv (v:=.int .i64 a0_2) BK127.out 2 rfl))
        go_ret
        exact ⟨by rfl,HB.out⟩
       ·rw [if_neg c20] at H
        have c20b0:=decide_eq_false c20
        clear c20
        obtain rfl:=Option.some.inj H
        go_enter Try.func89,Try.ntmps89
        go_wp2_with (((with_reducible refine aw (N:=1) rfl ?_);refine az rfl (N:=1) rfl (cs:=#[.int .i64 a0_0,.int .i64 a0_1,.int .i64 a0_2]) (t:=43) (by go_simp) ?_;intro gb127 hg w23 hbox hb;have BK127:=M0 (hbox);replace HB:=M0 (ab HB.out hb);clear hb hbox hg;have hcz24_0:=bcv (v:=.int .i64 a0_0) BK127.out 0 rfl;have hcz24_1:=bcv (v:=.int .i64 a0_1) BK127.out 1 rfl;have hcz24_2:=bcv (v:=.int .i64 a0_2) BK127.out 2 rfl))
        go_ret
        exact ⟨by rfl,HB.out⟩

/-! ### bc: function 90 -/
def bc.l0 : Nat → List ByteArray → List Bool → Int → Int → Option (Int)
 | 0,_,_,_,_=>none
 | k + 1,x0,x1,x5,x6=>if x6 < (x0.length : Int) then (if 0 ≤ x6 then (if x6 < (x1.length : Int) then (if rdOf false x1 x6 = true then (if x5 ≥ 0 then (if ((rdOf ByteArray.empty x0 x6).size : Int) = x5 then (if ((rdOf ByteArray.empty x0 x6).size : Int) < 1 then (some (-1)) else (if ((rdOf ByteArray.empty x0 x6).size : Int) > 4096 then (some (-1)) else (bc.l0 k x0 x1 ((rdOf ByteArray.empty x0 x6).size : Int) (wrap64 (x6 + 1))))) else (some (-1))) else (if ((rdOf ByteArray.empty x0 x6).size : Int) < 1 then (some (-1)) else (if ((rdOf ByteArray.empty x0 x6).size : Int) > 4096 then (some (-1)) else (bc.l0 k x0 x1 ((rdOf ByteArray.empty x0 x6).size : Int) (wrap64 (x6 + 1)))))) else (bc.l0 k x0 x1 x5 (wrap64 (x6 + 1)))) else (none)) else (none)) else (some x5)
def bc.f (k : Nat) (l0 : List ByteArray) (l1 : List Bool) : Option (Int):=bc.l0 k l0 l1 (-1) 0
set_option maxHeartbeats 8000000 in
set_option maxRecDepth 100000 in
theorem bc.calls (k : Nat) (A0 : Option Addr) (c0 : Nat) (l0 : List ByteArray) (A1 : Option Addr) (c1 : Nat) (l1 : List Bool) (r : Int) (w : World) (hr0 : Kd.C Kd.string w A0 l0.length l0) (hc0 : l0.length ≤ c0) (hr1 : Kd.C Kd.bool w A1 l1.length l1) (hc1 : l1.length ≤ c1) (h : bc.f k l0 l1 = some r) :
  Calls Try.prog 90 #[.slice A0 l0.length c0,.slice A1 l1.length c1] w fun e w'=>e = .returned (.int .i64 r) ∧ Drawn0 w w':=by
 have HR0:=M0 hr0
 have HC0:=M0 hc0
 clear hr0 hc0
 have HR1:=M0 hr1
 have HC1:=M0 hc1
 clear hr1 hc1
 have H : (bc.l0 k l0 l1 (-1) 0) = some r:=h
 clear h
 have H':=M0 H
 clear H
 go_enter Try.func90,Try.ntmps90
 go_wp2
 go_loopg [5,6] k (fun kq v5 v6 w'=>∃ (x5_1 : Int) (x6_1 : Int),v5 = .int .i64 x5_1 ∧ v6 = .int .i64 x6_1 ∧ Aside0 (bc.l0 kq l0 l1 x5_1 x6_1 = some r) ∧ Aside0 (kq ≤ k) ∧ Drawn0 w w')
 case atStart=>exact ⟨((-1)),(0),(by rfl),(by rfl),H',⟨Nat.le_refl _⟩,by repeat (exact Drawn0.refl _)⟩
 case round=>
  clear H'
  obtain ⟨x5_1,x6_1,rfl,rfl,HA,HK1,⟨m1,rfl⟩⟩:=hrel
  cases gk with
  | zero=>exact absurd HA.out (by simp [bc.l0])
  | succ k1=>
   have H:=HA.out
   clear HA
   simp only [bc.l0] at H
   by_cases c3 : x6_1 < (l0.length : Int)
   ·rw [if_pos c3] at H
    have c3b0:=decide_eq_true c3
    clear c3
    obtain ⟨c4,H⟩:=nn H
    have c4b0:=decide_eq_true c4
    clear c4
    obtain ⟨c5,H⟩:=nn H
    have c5b0:=decide_eq_true c5
    clear c5
    obtain ⟨bq6,hbq6⟩ : ∃ b_ : Bool,b_ = (rdOf false l1 x6_1):=⟨_,rfl⟩
    replace H : (if bq6 = true then (if x5_1 ≥ 0 then (if ((rdOf ByteArray.empty l0 x6_1).size : Int) = x5_1 then (if ((rdOf ByteArray.empty l0 x6_1).size : Int) < 1 then (some (-1)) else (if ((rdOf ByteArray.empty l0 x6_1).size : Int) > 4096 then (some (-1)) else (bc.l0 k1 l0 l1 ((rdOf ByteArray.empty l0 x6_1).size : Int) (wrap64 (x6_1 + 1))))) else (some (-1))) else (if ((rdOf ByteArray.empty l0 x6_1).size : Int) < 1 then (some (-1)) else (if ((rdOf ByteArray.empty l0 x6_1).size : Int) > 4096 then (some (-1)) else (bc.l0 k1 l0 l1 ((rdOf ByteArray.empty l0 x6_1).size : Int) (wrap64 (x6_1 + 1)))))) else (bc.l0 k1 l0 l1 x5_1 (wrap64 (x6_1 + 1)))) = some r:=by rw [← hbq6] at H;exact H
    have Nbq6:=M0 hbq6
    clear hbq6
    by_cases c7 : bq6 = true
    ·subst c7
     have H1 : (if x5_1 ≥ 0 then (if ((rdOf ByteArray.empty l0 x6_1).size : Int) = x5_1 then (if ((rdOf ByteArray.empty l0 x6_1).size : Int) < 1 then (some (-1)) else (if ((rdOf ByteArray.empty l0 x6_1).size : Int) > 4096 then (some (-1)) else (bc.l0 k1 l0 l1 ((rdOf ByteArray.empty l0 x6_1).size : Int) (wrap64 (x6_1 + 1))))) else (some (-1))) else (if ((rdOf ByteArray.empty l0 x6_1).size : Int) < 1 then (some (-1)) else (if ((rdOf ByteArray.empty l0 x6_1).size : Int) > 4096 then (some (-1)) else (bc.l0 k1 l0 l1 ((rdOf ByteArray.empty l0 x6_1).size : Int) (wrap64 (x6_1 + 1)))))) = some r:=by rw [if_pos rfl] at H;exact H
     clear H
     have H:=H1
     clear H1
     by_cases c8 : x5_1 ≥ 0
     ·rw [if_pos c8] at H
      have c8b0:=decide_eq_true c8
      clear c8
      by_cases c9 : ((rdOf ByteArray.empty l0 x6_1).size : Int) = x5_1
      ·rw [if_pos c9] at H
       have c9b0 : (((rdOf ByteArray.empty l0 x6_1).size : Int) == x5_1) = true:=beq_iff_eq.mpr c9
       have c9b1 : (((rdOf ByteArray.empty l0 x6_1).size : Int) != x5_1) = false:=bne_eq_false_iff_eq.mpr c9
       clear c9
       by_cases c10 : ((rdOf ByteArray.empty l0 x6_1).size : Int) < 1
       ·rw [if_pos c10] at H
        have c10b0:=decide_eq_true c10
        clear c10
        obtain rfl:=Option.some.inj H
        have p128 : 0 ≤ (x6_1 : Int):=of_decide_eq_true (by with_reducible assumption)
        have q128 : x6_1 < (l1.length : Int):=of_decide_eq_true (by with_reducible assumption)
        obtain ⟨ad128,e128,hx128_0⟩:=Kd.dK HR1.out x6_1 p128 q128
        (try rw [← Nbq6.out] at hx128_0)
        cases e128
        replace p128:=eq_true p128
        replace q128:=eq_true q128
        have p129 : 0 ≤ (x6_1 : Int):=of_decide_eq_true (by with_reducible assumption)
        have q129 : x6_1 < (l0.length : Int):=of_decide_eq_true (by with_reducible assumption)
        obtain ⟨ad129,e129,hx129_0⟩:=Kd.br HR0.out x6_1 p129 q129
        cases e129
        replace p129:=eq_true p129
        replace q129:=eq_true q129
        have p130 : 0 ≤ (x6_1 : Int):=of_decide_eq_true (by with_reducible assumption)
        have q130 : x6_1 < (l0.length : Int):=of_decide_eq_true (by with_reducible assumption)
        obtain ⟨ad130,e130,hx130_0⟩:=Kd.br HR0.out x6_1 p130 q130
        obtain rfl : ad129 = ad130:=(by injection e130)
        replace p130:=eq_true p130
        replace q130:=eq_true q130
        go_wp2
        go_ret
        exact ⟨by rfl,by repeat (first|exact Drawn0.refl _|apply Drawn0.step)⟩
       ·rw [if_neg c10] at H
        have c10b0:=decide_eq_false c10
        have c10b1 : decide ((rdOf ByteArray.empty l0 x6_1).size < 1) = false:=decide_eq_false (by omega)
        clear c10
        by_cases c11 : ((rdOf ByteArray.empty l0 x6_1).size : Int) > 4096
        ·rw [if_pos c11] at H
         have c11b0:=decide_eq_true c11
         clear c11
         obtain rfl:=Option.some.inj H
         have p128 : 0 ≤ (x6_1 : Int):=of_decide_eq_true (by with_reducible assumption)
         have q128 : x6_1 < (l1.length : Int):=of_decide_eq_true (by with_reducible assumption)
         obtain ⟨ad128,e128,hx128_0⟩:=Kd.dK HR1.out x6_1 p128 q128
         (try rw [← Nbq6.out] at hx128_0)
         cases e128
         replace p128:=eq_true p128
         replace q128:=eq_true q128
         have p129 : 0 ≤ (x6_1 : Int):=of_decide_eq_true (by with_reducible assumption)
         have q129 : x6_1 < (l0.length : Int):=of_decide_eq_true (by with_reducible assumption)
         obtain ⟨ad129,e129,hx129_0⟩:=Kd.br HR0.out x6_1 p129 q129
         cases e129
         replace p129:=eq_true p129
         replace q129:=eq_true q129
         have p130 : 0 ≤ (x6_1 : Int):=of_decide_eq_true (by with_reducible assumption)
         have q130 : x6_1 < (l0.length : Int):=of_decide_eq_true (by with_reducible assumption)
         obtain ⟨ad130,e130,hx130_0⟩:=Kd.br HR0.out x6_1 p130 q130
         obtain rfl : ad129 = ad130:=(by injection e130)
         replace p130:=eq_true p130
         replace q130:=eq_true q130
         have p131 : 0 ≤ (x6_1 : Int):=of_decide_eq_true (by with_reducible assumption)
         have q131 : x6_1 < (l0.length : Int):=of_decide_eq_true (by with_reducible assumption)
         obtain ⟨ad131,e131,hx131_0⟩:=Kd.br HR0.out x6_1 p131 q131
         obtain rfl : ad129 = ad131:=(by injection e131)
         replace p131:=eq_true p131
         replace q131:=eq_true q131
         go_wp2
         go_ret
         exact ⟨by rfl,by repeat (first|exact Drawn0.refl _|apply Drawn0.step)⟩
        ·rw [if_neg c11] at H
         have c11b0:=decide_eq_false c11
         clear c11
         have H':=M0 H
         clear H
         have p128 : 0 ≤ (x6_1 : Int):=of_decide_eq_true (by with_reducible assumption)
         have q128 : x6_1 < (l1.length : Int):=of_decide_eq_true (by with_reducible assumption)
         obtain ⟨ad128,e128,hx128_0⟩:=Kd.dK HR1.out x6_1 p128 q128
         (try rw [← Nbq6.out] at hx128_0)
         cases e128
         replace p128:=eq_true p128
         replace q128:=eq_true q128
         have p129 : 0 ≤ (x6_1 : Int):=of_decide_eq_true (by with_reducible assumption)
         have q129 : x6_1 < (l0.length : Int):=of_decide_eq_true (by with_reducible assumption)
         obtain ⟨ad129,e129,hx129_0⟩:=Kd.br HR0.out x6_1 p129 q129
         cases e129
         replace p129:=eq_true p129
         replace q129:=eq_true q129
         have p130 : 0 ≤ (x6_1 : Int):=of_decide_eq_true (by with_reducible assumption)
         have q130 : x6_1 < (l0.length : Int):=of_decide_eq_true (by with_reducible assumption)
         obtain ⟨ad130,e130,hx130_0⟩:=Kd.br HR0.out x6_1 p130 q130
         obtain rfl : ad129 = ad130:=(by injection e130)
         replace p130:=eq_true p130
         replace q130:=eq_true q130
         have p131 : 0 ≤ (x6_1 : Int):=of_decide_eq_true (by with_reducible assumption)
         have q131 : x6_1 < (l0.length : Int):=of_decide_eq_true (by with_reducible assumption)
         obtain ⟨ad131,e131,hx131_0⟩:=Kd.br HR0.out x6_1 p131 q131
         obtain rfl : ad129 = ad131:=(by injection e131)
         replace p131:=eq_true p131
         replace q131:=eq_true q131
         have p132 : 0 ≤ (x6_1 : Int):=of_decide_eq_true (by with_reducible assumption)
         have q132 : x6_1 < (l0.length : Int):=of_decide_eq_true (by with_reducible assumption)
         obtain ⟨ad132,e132,hx132_0⟩:=Kd.br HR0.out x6_1 p132 q132
         obtain rfl : ad129 = ad132:=(by injection e132)
         replace p132:=eq_true p132
         replace q132:=eq_true q132
         go_wp2
         go_roundg k1
         case measure=>have:=HK1.out;omega
         case rel=>exact ⟨(((rdOf ByteArray.empty l0 x6_1).size : Int)),(wrap64 (x6_1 + 1)),(by rfl),(by rfl),H',⟨by have:=HK1.out;omega⟩,by repeat (first|exact Drawn0.refl _|apply Drawn0.step)⟩
      ·rw [if_neg c9] at H
       have c9b1 : (((rdOf ByteArray.empty l0 x6_1).size : Int) != x5_1) = true:=bne_iff_ne.mpr c9
       obtain rfl:=Option.some.inj H
       have p128 : 0 ≤ (x6_1 : Int):=of_decide_eq_true (by with_reducible assumption)
       have q128 : x6_1 < (l1.length : Int):=of_decide_eq_true (by with_reducible assumption)
       obtain ⟨ad128,e128,hx128_0⟩:=Kd.dK HR1.out x6_1 p128 q128
       (try rw [← Nbq6.out] at hx128_0)
       cases e128
       replace p128:=eq_true p128
       replace q128:=eq_true q128
       have p129 : 0 ≤ (x6_1 : Int):=of_decide_eq_true (by with_reducible assumption)
       have q129 : x6_1 < (l0.length : Int):=of_decide_eq_true (by with_reducible assumption)
       obtain ⟨ad129,e129,hx129_0⟩:=Kd.br HR0.out x6_1 p129 q129
       cases e129
       replace p129:=eq_true p129
       replace q129:=eq_true q129
       go_wp2
       go_ret
       exact ⟨by rfl,by repeat (first|exact Drawn0.refl _|apply Drawn0.step)⟩
     ·rw [if_neg c8] at H
      have c8b0:=decide_eq_false c8
      clear c8
      by_cases c12 : ((rdOf ByteArray.empty l0 x6_1).size : Int) < 1
      ·rw [if_pos c12] at H
       have c12b0:=decide_eq_true c12
       clear c12
       obtain rfl:=Option.some.inj H
       have p128 : 0 ≤ (x6_1 : Int):=of_decide_eq_true (by with_reducible assumption)
       have q128 : x6_1 < (l1.length : Int):=of_decide_eq_true (by with_reducible assumption)
       obtain ⟨ad128,e128,hx128_0⟩:=Kd.dK HR1.out x6_1 p128 q128
       (try rw [← Nbq6.out] at hx128_0)
       cases e128
       replace p128:=eq_true p128
       replace q128:=eq_true q128
       have p133 : 0 ≤ (x6_1 : Int):=of_decide_eq_true (by with_reducible assumption)
       have q133 : x6_1 < (l0.length : Int):=of_decide_eq_true (by with_reducible assumption)
       obtain ⟨ad133,e133,hx133_0⟩:=Kd.br HR0.out x6_1 p133 q133
       cases e133
       replace p133:=eq_true p133
       replace q133:=eq_true q133
       go_wp2
       go_ret
       exact ⟨by rfl,by repeat (first|exact Drawn0.refl _|apply Drawn0.step)⟩
      ·rw [if_neg c12] at H
       have c12b0:=decide_eq_false c12
       have c12b1 : decide ((rdOf ByteArray.empty l0 x6_1).size < 1) = false:=decide_eq_false (by omega)
       clear c12
       by_cases c13 : ((rdOf ByteArray.empty l0 x6_1).size : Int) > 4096
       ·rw [if_pos c13] at H
        have c13b0:=decide_eq_true c13
        clear c13
        obtain rfl:=Option.some.inj H
        have p128 : 0 ≤ (x6_1 : Int):=of_decide_eq_true (by with_reducible assumption)
        have q128 : x6_1 < (l1.length : Int):=of_decide_eq_true (by with_reducible assumption)
        obtain ⟨ad128,e128,hx128_0⟩:=Kd.dK HR1.out x6_1 p128 q128
        (try rw [← Nbq6.out] at hx128_0)
        cases e128
        replace p128:=eq_true p128
        replace q128:=eq_true q128
        have p133 : 0 ≤ (x6_1 : Int):=of_decide_eq_true (by with_reducible assumption)
        have q133 : x6_1 < (l0.length : Int):=of_decide_eq_true (by with_reducible assumption)
        obtain ⟨ad133,e133,hx133_0⟩:=Kd.br HR0.out x6_1 p133 q133
        cases e133
        replace p133:=eq_true p133
        replace q133:=eq_true q133
        have p134 : 0 ≤ (x6_1 : Int):=of_decide_eq_true (by with_reducible assumption)
        have q134 : x6_1 < (l0.length : Int):=of_decide_eq_true (by with_reducible assumption)
        obtain ⟨ad134,e134,hx134_0⟩:=Kd.br HR0.out x6_1 p134 q134
        obtain rfl : ad133 = ad134:=(by injection e134)
        replace p134:=eq_true p134
        replace q134:=eq_true q134
        go_wp2
        go_ret
        exact ⟨by rfl,by repeat (first|exact Drawn0.refl _|apply Drawn0.step)⟩
       ·rw [if_neg c13] at H
        have c13b0:=decide_eq_false c13
        clear c13
        have H':=M0 H
        clear H
        have p128 : 0 ≤ (x6_1 : Int):=of_decide_eq_true (by with_reducible assumption)
        have q128 : x6_1 < (l1.length : Int):=of_decide_eq_true (by with_reducible assumption)
        obtain ⟨ad128,e128,hx128_0⟩:=Kd.dK HR1.out x6_1 p128 q128
        (try rw [← Nbq6.out] at hx128_0)
        cases e128
        replace p128:=eq_true p128
        replace q128:=eq_true q128
        have p133 : 0 ≤ (x6_1 : Int):=of_decide_eq_true (by with_reducible assumption)
        have q133 : x6_1 < (l0.length : Int):=of_decide_eq_true (by with_reducible assumption)
        obtain ⟨ad133,e133,hx133_0⟩:=Kd.br HR0.out x6_1 p133 q133
        cases e133
        replace p133:=eq_true p133
        replace q133:=eq_true q133
        have p134 : 0 ≤ (x6_1 : Int):=of_decide_eq_true (by with_reducible assumption)
        have q134 : x6_1 < (l0.length : Int):=of_decide_eq_true (by with_reducible assumption)
        obtain ⟨ad134,e134,hx134_0⟩:=Kd.br HR0.out x6_1 p134 q134
        obtain rfl : ad133 = ad134:=(by injection e134)
        replace p134:=eq_true p134
        replace q134:=eq_true q134
        have p135 : 0 ≤ (x6_1 : Int):=of_decide_eq_true (by with_reducible assumption)
        have q135 : x6_1 < (l0.length : Int):=of_decide_eq_true (by with_reducible assumption)
        obtain ⟨ad135,e135,hx135_0⟩:=Kd.br HR0.out x6_1 p135 q135
        obtain rfl : ad133 = ad135:=(by injection e135)
        replace p135:=eq_true p135
        replace q135:=eq_true q135
        go_wp2
        go_roundg k1
        case measure=>have:=HK1.out;omega
        case rel=>exact ⟨(((rdOf ByteArray.empty l0 x6_1).size : Int)),(wrap64 (x6_1 + 1)),(by rfl),(by rfl),H',⟨by have:=HK1.out;omega⟩,by repeat (first|exact Drawn0.refl _|apply Drawn0.step)⟩
    ·replace c7:=Bool.eq_false_iff.mpr c7
     subst c7
     have H1 : (bc.l0 k1 l0 l1 x5_1 (wrap64 (x6_1 + 1))) = some r:=by rw [if_neg (show ¬ (false = true) by decide)] at H;exact H
     clear H
     have H:=H1
     clear H1
     have H':=M0 H
     clear H
     have p128 : 0 ≤ (x6_1 : Int):=of_decide_eq_true (by with_reducible assumption)
     have q128 : x6_1 < (l1.length : Int):=of_decide_eq_true (by with_reducible assumption)
     obtain ⟨ad128,e128,hx128_0⟩:=Kd.dK HR1.out x6_1 p128 q128
     (try rw [← Nbq6.out] at hx128_0)
     cases e128
     replace p128:=eq_true p128
     replace q128:=eq_true q128
     go_wp2
     go_roundg k1
     case measure=>have:=HK1.out;omega
     case rel=>exact ⟨(x5_1),(wrap64 (x6_1 + 1)),(by rfl),(by rfl),H',⟨by have:=HK1.out;omega⟩,by repeat (first|exact Drawn0.refl _|apply Drawn0.step)⟩
   ·rw [if_neg c3] at H
    have c3b0:=decide_eq_false c3
    clear c3
    obtain rfl:=Option.some.inj H
    go_wp2
    go_ret
    exact ⟨by rfl,by repeat (first|exact Drawn0.refl _|apply Drawn0.step)⟩

/-! ### cn: function 97 -/
def cn.f (a0_0 : Int) (a0_1 : Int) (a0_2 : Int) : Option (Int):=(bd.f a0_0 a0_1 a0_2).bind fun t137=>(if t137 = 0 then (some (wrap64 ((wrap64 (a0_0 + a0_1)) + a0_2))) else (some 0))
set_option maxHeartbeats 8000000 in
set_option maxRecDepth 100000 in
theorem cn.calls (a0_0 : Int) (a0_1 : Int) (a0_2 : Int) (r : Int) (w : World) (h : cn.f a0_0 a0_1 a0_2 = some r) :
  Calls Try.prog 97 #[.agg #[.int .i64 a0_0,.int .i64 a0_1,.int .i64 a0_2]] w fun e w'=>e = .returned (.int .i64 r) ∧ Below w.heap.size w w':=by
 have HB:=M0 (Below.refl w.heap.size w)
 have H : ((bd.f a0_0 a0_1 a0_2).bind fun t137=>(if t137 = 0 then (some (wrap64 ((wrap64 (a0_0 + a0_1)) + a0_2))) else (some 0))) = some r:=h
 clear h
 replace H:=Option.bind_eq_some_iff.mp H
 obtain ⟨t137,A20,H⟩:=H
 replace H : (if t137 = 0 then (some (wrap64 ((wrap64 (a0_0 + a0_1)) + a0_2))) else (some 0)) = some r:=H
 have A2:=M0 A20
 clear A20
 by_cases c3 : t137 = 0
 ·rw [if_pos c3] at H
  have c3b1 : (t137 != 0) = false:=bne_eq_false_iff_eq.mpr c3
  clear c3
  obtain rfl:=Option.some.inj H
  go_enter Try.func97,Try.ntmps97
  go_wp2_with (first|((with_reducible refine aw (N:=1) rfl ?_);refine az rfl (N:=1) rfl (cs:=#[.int .i64 a0_0,.int .i64 a0_1,.int .i64 a0_2]) (t:=43) (by go_simp) ?_;intro gb136 hg w4 hbox hb;have BK136:=M0 (hbox);replace HB:=M0 (ab HB.out hb);clear hb hbox hg;have hcz5_0:=bcv (v:=.int .i64 a0_0) BK136.out 0 rfl;have hcz5_1:=bcv (v:=.int .i64 a0_1) BK136.out 1 rfl;have hcz5_2:=bcv (v:=.int .i64 a0_2) BK136.out 2 rfl)|((with_reducible refine ah (f:=89) rfl ?_);refine aG (some 4) rfl rfl Try.func89 (by kernel_rfl) rfl #[.agg #[.int .i64 a0_0,.int .i64 a0_1,.int .i64 a0_2]] rfl (by (try simp only [List.map_toArray,List.map_cons,List.map_nil]);rfl) ?_;(with_reducible refine (bd.calls a0_0 a0_1 a0_2 t137 _ A2.out).mono ?_);rintro e w6 ⟨rfl,hb⟩;refine ⟨_,rfl,?_⟩;replace BK136:=M0 (ag BK136.out hb);replace HB:=M0 (ab HB.out hb);clear hb;have hcz7_0:=bcv (v:=.int .i64 a0_0) BK136.out 0 rfl;have hcz7_1:=bcv (v:=.int .i64 a0_1) BK136.out 1 rfl;have hcz7_2:=bcv (v:=.int .i64 a0_2) BK136.out 2 rfl))
  go_ret
  exact ⟨by rfl,HB.out⟩
 ·rw [if_neg c3] at H
  have c3b1 : (t137 != 0) = true:=bne_iff_ne.mpr c3
  obtain rfl:=Option.some.inj H
  go_enter Try.func97,Try.ntmps97
  go_wp2_with (first|((with_reducible refine aw (N:=1) rfl ?_);refine az rfl (N:=1) rfl (cs:=#[.int .i64 a0_0,.int .i64 a0_1,.int .i64 a0_2]) (t:=43) (by go_simp) ?_;intro gb136 hg w8 hbox hb;have BK136:=M0 (hbox);replace HB:=M0 (ab HB.out hb);clear hb hbox hg;have hcz9_0:=bcv (v:=.int .i64 a0_0) BK136.out 0 rfl;have hcz9_1:=bcv (v:=.int .i64 a0_1) BK136.out 1 rfl;have hcz9_2:=bcv (v:=.int .i64 a0_2) BK136.out 2 rfl)|((with_reducible refine ah (f:=89) rfl ?_);refine aG (some 4) rfl rfl Try.func89 (by kernel_rfl) rfl #[.agg #[.int .i64 a0_0,.int .i64 a0_1,.int .i64 a0_2]] rfl (by (try simp only [List.map_toArray,List.map_cons,List.map_nil]);rfl) ?_;(with_reducible refine (bd.calls a0_0 a0_1 a0_2 t137 _ A2.out).mono ?_);rintro e w10 ⟨rfl,hb⟩;refine ⟨_,rfl,?_⟩;replace BK136:=M0 (ag BK136.out hb);replace HB:=M0 (ab HB.out hb);clear hb))
  go_ret
  exact ⟨by rfl,HB.out⟩

/-! ### bI: function 79 -/
def bI.f (a0 : Int) (a1 : Int) : Option (Bool):=if a0 ≥ 0 then (some (decide (a0 < a1))) else (some false)
set_option maxHeartbeats 8000000 in
set_option maxRecDepth 100000 in
theorem bI.calls (a0 : Int) (a1 : Int) (r : Bool) (w : World) (h : bI.f a0 a1 = some r) :
  Calls Try.prog 79 #[.int .i64 a0,.int .i64 a1] w fun e w'=>e = .returned (.bool r) ∧ Drawn0 w w':=by
 have H : (if a0 ≥ 0 then (some (decide (a0 < a1))) else (some false)) = some r:=h
 clear h
 by_cases c3 : a0 ≥ 0
 ·rw [if_pos c3] at H
  have c3b0:=decide_eq_true c3
  clear c3
  obtain rfl:=Option.some.inj H
  go_enter Try.func79,Try.ntmps79
  go_wp2
  go_ret
  exact ⟨by rfl,by repeat (exact Drawn0.refl _)⟩
 ·rw [if_neg c3] at H
  have c3b0:=decide_eq_false c3
  clear c3
  obtain rfl:=Option.some.inj H
  go_enter Try.func79,Try.ntmps79
  go_wp2
  go_ret
  exact ⟨by rfl,by repeat (exact Drawn0.refl _)⟩

/-! ### bl: function 132 -/
def bl.l0 : Nat → Int → Int → Int → Int → Int → Option (Int)
 | 0,_,_,_,_,_=>none
 | k + 1,x0,x1,x2,x3,x9=>if x1 > 0 then (if (Int.tmod x1 2) = 1 then (if (wrap64 (x0 * 2)) ≥ x3 then (bl.l0 k (Go.bits .xor .i64 (wrap64 (x0 * 2)) x2) (wrap64 (Int.tdiv x1 2)) x2 x3 (Go.bits .xor .i64 x9 x0)) else (bl.l0 k (wrap64 (x0 * 2)) (wrap64 (Int.tdiv x1 2)) x2 x3 (Go.bits .xor .i64 x9 x0))) else (if (wrap64 (x0 * 2)) ≥ x3 then (bl.l0 k (Go.bits .xor .i64 (wrap64 (x0 * 2)) x2) (wrap64 (Int.tdiv x1 2)) x2 x3 x9) else (bl.l0 k (wrap64 (x0 * 2)) (wrap64 (Int.tdiv x1 2)) x2 x3 x9))) else (some x9)
def bl.f (k : Nat) (a0 : Int) (a1 : Int) (a2 : Int) (a3 : Int) : Option (Int):=bl.l0 k a0 a1 a2 a3 0
set_option maxHeartbeats 8000000 in
set_option maxRecDepth 100000 in
theorem bl.calls (k : Nat) (a0 : Int) (a1 : Int) (a2 : Int) (a3 : Int) (r : Int) (w : World) (h : bl.f k a0 a1 a2 a3 = some r) :
  Calls Try.prog 132 #[.int .i64 a0,.int .i64 a1,.int .i64 a2,.int .i64 a3] w fun e w'=>e = .returned (.int .i64 r) ∧ Drawn0 w w':=by
 have H : (bl.l0 k a0 a1 a2 a3 0) = some r:=h
 clear h
 have H':=M0 H
 clear H
 go_enter Try.func132,Try.ntmps132
 go_wp2
 go_loopg [0,1,9] k (fun kq v0 v1 v9 w'=>∃ (x0_1 : Int) (x1_1 : Int) (x9_1 : Int),v0 = .int .i64 x0_1 ∧ v1 = .int .i64 x1_1 ∧ v9 = .int .i64 x9_1 ∧ Aside0 (bl.l0 kq x0_1 x1_1 a2 a3 x9_1 = some r) ∧ Aside0 (kq ≤ k) ∧ Drawn0 w w')
 case atStart=>exact ⟨(a0),(a1),(0),(by rfl),(by rfl),(by rfl),H',⟨Nat.le_refl _⟩,by repeat (exact Drawn0.refl _)⟩
 case round=>
  clear H'
  obtain ⟨x0_1,x1_1,x9_1,rfl,rfl,rfl,HA,HK1,⟨m1,rfl⟩⟩:=hrel
  cases gk with
  | zero=>exact absurd HA.out (by simp [bl.l0])
  | succ k1=>
   have H:=HA.out
   clear HA
   simp only [bl.l0] at H
   by_cases c5 : x1_1 > 0
   ·rw [if_pos c5] at H
    have c5b0:=decide_eq_true c5
    clear c5
    by_cases c6 : (Int.tmod x1_1 2) = 1
    ·rw [if_pos c6] at H
     have c6b0 : ((Int.tmod x1_1 2) == 1) = true:=beq_iff_eq.mpr c6
     have c6b1 : ((Int.tmod x1_1 2) != 1) = false:=bne_eq_false_iff_eq.mpr c6
     clear c6
     by_cases c7 : (wrap64 (x0_1 * 2)) ≥ a3
     ·rw [if_pos c7] at H
      have c7b0:=decide_eq_true c7
      clear c7
      have H':=M0 H
      clear H
      go_wp2
      go_roundg k1
      case measure=>have:=HK1.out;omega
      case rel=>exact ⟨(Go.bits .xor .i64 (wrap64 (x0_1 * 2)) a2),(wrap64 (Int.tdiv x1_1 2)),(Go.bits .xor .i64 x9_1 x0_1),(by rfl),(by rfl),(by rfl),H',⟨by have:=HK1.out;omega⟩,by repeat (first|exact Drawn0.refl _|apply Drawn0.step)⟩
     ·rw [if_neg c7] at H
      have c7b0:=decide_eq_false c7
      clear c7
      have H':=M0 H
      clear H
      go_wp2
      go_roundg k1
      case measure=>have:=HK1.out;omega
      case rel=>exact ⟨(wrap64 (x0_1 * 2)),(wrap64 (Int.tdiv x1_1 2)),(Go.bits .xor .i64 x9_1 x0_1),(by rfl),(by rfl),(by rfl),H',⟨by have:=HK1.out;omega⟩,by repeat (first|exact Drawn0.refl _|apply Drawn0.step)⟩
    ·rw [if_neg c6] at H
     have c6b0 : ((Int.tmod x1_1 2) == 1) = false:=beq_eq_false_iff_ne.mpr c6
     have c6b1 : ((Int.tmod x1_1 2) != 1) = true:=bne_iff_ne.mpr c6
     by_cases c8 : (wrap64 (x0_1 * 2)) ≥ a3
     ·rw [if_pos c8] at H
      have c8b0:=decide_eq_true c8
      clear c8
      have H':=M0 H
      clear H
      go_wp2
      go_roundg k1
      case measure=>have:=HK1.out;omega
      case rel=>exact ⟨(Go.bits .xor .i64 (wrap64 (x0_1 * 2)) a2),(wrap64 (Int.tdiv x1_1 2)),(x9_1),(by rfl),(by rfl),(by rfl),H',⟨by have:=HK1.out;omega⟩,by repeat (first|exact Drawn0.refl _|apply Drawn0.step)⟩
     ·rw [if_neg c8] at H
      have c8b0:=decide_eq_false c8
      clear c8
      have H':=M0 H
      clear H
      go_wp2
      go_roundg k1
      case measure=>have:=HK1.out;omega
      case rel=>exact ⟨(wrap64 (x0_1 * 2)),(wrap64 (Int.tdiv x1_1 2)),(x9_1),(by rfl),(by rfl),(by rfl),H',⟨by have:=HK1.out;omega⟩,by repeat (first|exact Drawn0.refl _|apply Drawn0.step)⟩
   ·rw [if_neg c5] at H
    have c5b0:=decide_eq_false c5
    clear c5
    obtain rfl:=Option.some.inj H
    go_wp2
    go_ret
    exact ⟨by rfl,by repeat (first|exact Drawn0.refl _|apply Drawn0.step)⟩

/-! ### cq: function 124 -/
def cq.f (k : Nat) (a0 : Int) (a1 : Int) : Option (Int):=(bI.f a0 256).bind fun t138=>(if t138 = true then ((bI.f a1 256).bind fun t139=>(if t139 = true then ((bl.f k a0 a1 285 256).bind fun t140=>(some t140)) else (some (-1)))) else (some (-1)))
set_option maxHeartbeats 8000000 in
set_option maxRecDepth 100000 in
theorem cq.calls (k : Nat) (a0 : Int) (a1 : Int) (r : Int) (w : World) (h : cq.f k a0 a1 = some r) :
  Calls Try.prog 124 #[.int .i64 a0,.int .i64 a1] w fun e w'=>e = .returned (.int .i64 r) ∧ Drawn0 w w':=by
 have H : ((bI.f a0 256).bind fun t138=>(if t138 = true then ((bI.f a1 256).bind fun t139=>(if t139 = true then ((bl.f k a0 a1 285 256).bind fun t140=>(some t140)) else (some (-1)))) else (some (-1)))) = some r:=h
 clear h
 replace H:=Option.bind_eq_some_iff.mp H
 obtain ⟨t138,A30,H⟩:=H
 replace H : (if t138 = true then ((bI.f a1 256).bind fun t139=>(if t139 = true then ((bl.f k a0 a1 285 256).bind fun t140=>(some t140)) else (some (-1)))) else (some (-1))) = some r:=H
 have A3:=M0 A30
 clear A30
 by_cases c4 : t138 = true
 ·subst c4
  have H1 : ((bI.f a1 256).bind fun t139=>(if t139 = true then ((bl.f k a0 a1 285 256).bind fun t140=>(some t140)) else (some (-1)))) = some r:=by rw [if_pos rfl] at H;exact H
  clear H
  have H:=H1
  clear H1
  replace H:=Option.bind_eq_some_iff.mp H
  obtain ⟨t139,A50,H⟩:=H
  replace H : (if t139 = true then ((bl.f k a0 a1 285 256).bind fun t140=>(some t140)) else (some (-1))) = some r:=H
  have A5:=M0 A50
  clear A50
  by_cases c6 : t139 = true
  ·subst c6
   have H1 : ((bl.f k a0 a1 285 256).bind fun t140=>(some t140)) = some r:=by rw [if_pos rfl] at H;exact H
   clear H
   have H:=H1
   clear H1
   replace H:=Option.bind_eq_some_iff.mp H
   obtain ⟨t140,A70,H⟩:=H
   replace H : (some t140) = some r:=H
   have A7:=M0 A70
   clear A70
   obtain rfl:=Option.some.inj H
   go_enter Try.func124,Try.ntmps124
   go_wp2_with (first|((with_reducible refine ah (f:=79) rfl ?_);refine aG (some 6) rfl rfl Try.func79 (by kernel_rfl) rfl #[.int .i64 a0,.int .i64 256] rfl (by (try simp only [List.map_toArray,List.map_cons,List.map_nil]);rfl) ?_;(with_reducible refine (bI.calls a0 256 true _ A3.out).mono ?_);rintro e w' ⟨rfl,⟨nd,rfl⟩⟩;refine ⟨_,rfl,?_⟩)|(go_at_call 79;(with_reducible refine (bI.calls a1 256 true _ A5.out).mono ?_);rintro e w' ⟨rfl,⟨nd,rfl⟩⟩)|((with_reducible refine ah (f:=132) rfl ?_);refine aG (some 15) rfl rfl Try.func132 (by kernel_rfl) rfl #[.int .i64 a0,.int .i64 a1,.int .i64 285,.int .i64 256] rfl (by (try simp only [List.map_toArray,List.map_cons,List.map_nil]);rfl) ?_;(with_reducible refine (bl.calls k a0 a1 285 256 t140 _ A7.out).mono ?_);rintro e w' ⟨rfl,⟨nd,rfl⟩⟩;refine ⟨_,rfl,?_⟩))
   go_ret
   exact ⟨by rfl,by repeat (first|exact Drawn0.refl _|apply Drawn0.step)⟩
  ·replace c6:=Bool.eq_false_iff.mpr c6
   subst c6
   have H1 : (some (-1)) = some r:=by rw [if_neg (show ¬ (false = true) by decide)] at H;exact H
   clear H
   have H:=H1
   clear H1
   obtain rfl:=Option.some.inj H
   go_enter Try.func124,Try.ntmps124
   go_wp2_with (first|((with_reducible refine ah (f:=79) rfl ?_);refine aG (some 6) rfl rfl Try.func79 (by kernel_rfl) rfl #[.int .i64 a0,.int .i64 256] rfl (by (try simp only [List.map_toArray,List.map_cons,List.map_nil]);rfl) ?_;(with_reducible refine (bI.calls a0 256 true _ A3.out).mono ?_);rintro e w' ⟨rfl,⟨nd,rfl⟩⟩;refine ⟨_,rfl,?_⟩)|(go_at_call 79;(with_reducible refine (bI.calls a1 256 false _ A5.out).mono ?_);rintro e w' ⟨rfl,⟨nd,rfl⟩⟩))
   go_ret
   exact ⟨by rfl,by repeat (first|exact Drawn0.refl _|apply Drawn0.step)⟩
 ·replace c4:=Bool.eq_false_iff.mpr c4
  subst c4
  have H1 : (some (-1)) = some r:=by rw [if_neg (show ¬ (false = true) by decide)] at H;exact H
  clear H
  have H:=H1
  clear H1
  obtain rfl:=Option.some.inj H
  go_enter Try.func124,Try.ntmps124
  go_wp2_with (((with_reducible refine ah (f:=79) rfl ?_);refine aG (some 6) rfl rfl Try.func79 (by kernel_rfl) rfl #[.int .i64 a0,.int .i64 256] rfl (by (try simp only [List.map_toArray,List.map_cons,List.map_nil]);rfl) ?_;(with_reducible refine (bI.calls a0 256 false _ A3.out).mono ?_);rintro e w' ⟨rfl,⟨nd,rfl⟩⟩;refine ⟨_,rfl,?_⟩))
  go_ret
  exact ⟨by rfl,by repeat (first|exact Drawn0.refl _|apply Drawn0.step)⟩

end Go.Proofs.Ytffhbpepppodeaa.PFnDecoded
