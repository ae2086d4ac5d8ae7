import Derived.Test.YtffhbpepppodeaaPFnDecodedx0
namespace Go.Proofs.Ytffhbpepppodeaa.PFnDecoded
private theorem nn {α : Type} {c : Prop} [Decidable c] {a : Option α} {r : α} (h : (if c then a else none) = some r) : c ∧ a = some r:=by
 split at h
 ·exact ⟨‹c›,h⟩
 ·cases h
open Go.RowKit Go.Proofs.YtffhbpepppodeaaW.PrintWords Go.Proofs.YtffhbpepppodeaaW.PrintLast Go.Proofs.YtffhbpepppodeaaW.PrintMore
attribute [local go_sem] cJ cL dn dp cw cy cM cN   -- for this text's walks alone
set_option linter.unusedVariables false
set_option linter.unusedSimpArgs false

/-! ### impl_bytes8: function 118 -/
/-! ### impl_field_uint8_double: function 119 -/








/-! ### aY: function 87 -/
def aY.f (a0_0 : Int) (a0_1 : Int) (a0_2 : Int) : Option (Int):=if a0_0 < 1 then (some 1) else (if a0_0 > 32 then (some 1) else (if a0_1 < 0 then (some 1) else (if a0_1 > 16 then (some 1) else (if a0_2 < 0 then (some 1) else (if a0_2 > a0_0 then (some 1) else (if (wrap64 ((wrap64 (a0_0 + a0_1)) + a0_2)) > 64 then (some 1) else (some 0)))))))
set_option maxHeartbeats 8000000 in
set_option maxRecDepth 100000 in
theorem aY.calls (a0_0 : Int) (a0_1 : Int) (a0_2 : Int) (r : Int) (w : World) (h : aY.f a0_0 a0_1 a0_2 = some r) :
  Calls Try.prog 87 #[.agg #[.int .i64 a0_0,.int .i64 a0_1,.int .i64 a0_2]] w fun e w'=>e = .returned (.int .i64 r) ∧ Below w.heap.size w w':=by
 have HB:=M0 (Below.refl w.heap.size w)
 have H : (if a0_0 < 1 then (some 1) else (if a0_0 > 32 then (some 1) else (if a0_1 < 0 then (some 1) else (if a0_1 > 16 then (some 1) else (if a0_2 < 0 then (some 1) else (if a0_2 > a0_0 then (some 1) else (if (wrap64 ((wrap64 (a0_0 + a0_1)) + a0_2)) > 64 then (some 1) else (some 0)))))))) = some r:=h
 clear h
 by_cases c2 : a0_0 < 1
 ·rw [if_pos c2] at H
  have c2b0:=decide_eq_true c2
  clear c2
  obtain rfl:=Option.some.inj H
  go_enter Try.func87,Try.ntmps87
  go_wp2_with (((with_reducible refine aw (N:=1) rfl ?_);refine az rfl (N:=1) rfl (cs:=#[.int .i64 a0_0,.int .i64 a0_1,.int .i64 a0_2]) (t:=43) (by go_simp) ?_;intro gb103 hg w3 hbox hb;have BK103:=M0 (hbox);replace HB:=M0 (ab HB.out hb);clear hb hbox hg;have hcz4_0:=bcv (v:=.int .i64 a0_0) BK103.out 0 rfl))
  go_ret
  exact ⟨by rfl,HB.out⟩
 ·rw [if_neg c2] at H
  have c2b0:=decide_eq_false c2
  clear c2
  by_cases c5 : a0_0 > 32
  ·rw [if_pos c5] at H
   have c5b0:=decide_eq_true c5
   clear c5
   obtain rfl:=Option.some.inj H
   go_enter Try.func87,Try.ntmps87
   go_wp2_with (((with_reducible refine aw (N:=1) rfl ?_);refine az rfl (N:=1) rfl (cs:=#[.int .i64 a0_0,.int .i64 a0_1,.int .i64 a0_2]) (t:=43) (by go_simp) ?_;intro gb103 hg w6 hbox hb;have BK103:=M0 (hbox);replace HB:=M0 (ab HB.out hb);clear hb hbox hg;have hcz7_0:=bcv (v:=.int .i64 a0_0) BK103.out 0 rfl))
   go_ret
   exact ⟨by rfl,HB.out⟩
  ·rw [if_neg c5] at H
   have c5b0:=decide_eq_false c5
   clear c5
   by_cases c8 : a0_1 < 0
   ·rw [if_pos c8] at H
    have c8b0:=decide_eq_true c8
    clear c8
    obtain rfl:=Option.some.inj H
    go_enter Try.func87,Try.ntmps87
    go_wp2_with (((with_reducible refine aw (N:=1) rfl ?_);refine az rfl (N:=1) rfl (cs:=#[.int .i64 a0_0,.int .i64 a0_1,.int .i64 a0_2]) (t:=43) (by go_simp) ?_;intro gb103 hg w9 hbox hb;have BK103:=M0 (hbox);replace HB:=M0 (ab HB.out hb);clear hb hbox hg;have hcz10_0:=bcv (v:=.int .i64 a0_0) BK103.out 0 rfl;have hcz10_1:=bcv (v:=.int .i64 a0_1) BK103.out 1 rfl))
    go_ret
    exact ⟨by rfl,HB.out⟩
   ·rw [if_neg c8] at H
    have c8b0:=decide_eq_false c8
    clear c8
    by_cases c11 : a0_1 > 16
    ·rw [if_pos c11] at H
     have c11b0:=decide_eq_true c11
     clear c11
     obtain rfl:=Option.some.inj H
     go_enter Try.func87,Try.ntmps87
     go_wp2_with (((with_reducible refine aw (N:=1) rfl ?_);refine az rfl (N:=1) rfl (cs:=#[.int .i64 a0_0,.int .i64 a0_1,.int .i64 a0_2]) (t:=43) (by go_simp) ?_;intro gb103 hg w12 hbox hb;have BK103:=M0 (hbox);replace HB:=M0 (ab HB.out hb);clear hb hbox hg;have hcz13_0:=bcv (v:=.int .i64 a0_0) BK103.out 0 rfl;have hcz13_1:=bcv (v:=.int .i64 a0_1) BK103.out 1 rfl))
     go_ret
     exact ⟨by rfl,HB.out⟩
    ·rw [if_neg c11] at H
     have c11b0:=decide_eq_false c11
     clear c11
     by_cases c14 : a0_2 < 0
     ·rw [if_pos c14] at H
      have c14b0:=decide_eq_true c14
      clear c14
      obtain rfl:=Option.some.inj H
      go_enter Try.func87,Try.ntmps87
      go_wp2_with (((with_reducible refine aw (N:=1) rfl ?_);refine az rfl (N:=1) rfl (cs:=#[.int .i64 a0_0,.int .i64 a0_1,.int .i64 a0_2]) (t:=43) (by go_simp) ?_;intro gb103 hg w15 hbox hb;have BK103:=M0 (hbox);replace HB:=M0 (ab HB.out hb);clear hb hbox hg;have hcz16_0:=bcv (v:=.int .i64 a0_0) BK103.out 0 rfl;have hcz16_1:=bcv (v:=.int .i64 a0_1) BK103.out 1 rfl;have hcz16_2:=bcv (v:=.int .i64 a0_2) BK103.out 2 rfl))
      go_ret
      exact ⟨by rfl,HB.out⟩
     ·rw [if_neg c14] at H
      have c14b0:=decide_eq_false c14
      clear c14
      by_cases c17 : a0_2 > a0_0
      ·rw [if_pos c17] at H
       have c17b0:=decide_eq_true c17
       clear c17
       obtain rfl:=Option.some.inj H
       go_enter Try.func87,Try.ntmps87
       go_wp2_with (((with_reducible refine aw (N:=1) rfl ?_);refine az rfl (N:=1) rfl (cs:=#[.int .i64 a0_0,.int .i64 a0_1,.int .i64 a0_2]) (t:=43) (by go_simp) ?_;intro gb103 hg w18 hbox hb;have BK103:=M0 (hbox);replace HB:=M0 (ab HB.out hb);clear hb hbox hg;have hcz19_0:=bcv (v:=.int .i64 a0_0) BK103.out 0 rfl;have hcz19_1:=bcv (v:=.int .i64 a0_1) BK103.out 1 rfl;have hcz19_2:=bcv (v:=.int .i64 a0_2) BK103.out 2 rfl))
       go_ret
       exact ⟨by rfl,HB.out⟩
      ·rw [if_neg c17] at H
       have c17b0:=decide_eq_false c17
       clear c17
       by_cases c20 : (wrap64 ((wrap64 (a0_0 + a0_1)) + a0_2)) > 64
       ·rw [if_pos c20] at H
        have c20b0:=decide_eq_true c20
        clear c20
        obtain rfl:=Option.some.inj H
        go_enter Try.func87,Try.ntmps87
        go_wp2_with (((with_reducible refine aw (N:=1) rfl ?_);refine az rfl (N:=1) rfl (cs:=#[.int .i64 a0_0,.int .i64 a0_1,.int .i64 a0_2]) (t:=43) (by go_simp) ?_;intro gb103 hg w21 hbox hb;have BK103:=M0 (hbox);replace HB:=M0 (ab HB.out hb);clear hb hbox hg;have hcz22_0:=bcv (v:=.int .i64 a0_0) BK103.out 0 rfl;have hcz22_1:=bcv (v:=.int .i64 a0_1) BK103.out 1 rfl;have hcz22_2:=bcv (v:=.int .i64 a0_2) BK103.out 2 rfl))
        go_ret
        exact ⟨by rfl,HB.out⟩
       ·rw [if_neg c20] at H
        have c20b0:=decide_eq_false c20
        clear c20
        obtain rfl:=Option.some.inj H
        go_enter Try.func87,Try.ntmps87
        go_wp2_with (((with_reducible refine aw (N:=1) rfl ?_);refine az rfl (N:=1) rfl (cs:=#[.int .i64 a0_0,.int .i64 a0_1,.int .i64 a0_2]) (t:=43) (by go_simp) ?_;intro gb103 hg w23 hbox hb;have BK103:=M0 (hbox);replace HB:=M0 (ab HB.out hb);clear hb hbox hg;have hcz24_0:=bcv (v:=.int .i64 a0_0) BK103.out 0 rfl;have hcz24_1:=bcv (v:=.int .i64 a0_1) BK103.out 1 rfl;have hcz24_2:=bcv (v:=.int .i64 a0_2) BK103.out 2 rfl))
        go_ret
        exact ⟨by rfl,HB.out⟩

/-! ### aZ: function 88 -/
def aZ.l0 : Nat → List ByteArray → List ByteArray → Int → Int → Option (Bool)
 | 0,_,_,_,_=>none
 | k + 1,x0,x5,x6,x7=>if x7 < x6 then (if 0 ≤ x7 then (if x7 < (x5.length : Int) then (if ((rdOf ByteArray.empty x5 x7).size : Int) < 1 then (some false) else (if ((rdOf ByteArray.empty x5 x7).size : Int) > 4096 then (some false) else (if 0 < (x0.length : Int) then (if ((rdOf ByteArray.empty x5 x7).size : Int) = ((rdOf ByteArray.empty x0 0).size : Int) then (aZ.l0 k x0 x5 x6 (wrap64 (x7 + 1))) else (some false)) else (none)))) else (none)) else (none)) else (some true)
def aZ.f (k : Nat) (l0 : List ByteArray) : Option (Bool):=aZ.l0 k l0 l0 (l0.length : Int) 0
set_option maxHeartbeats 8000000 in
set_option maxRecDepth 100000 in
theorem aZ.calls (k : Nat) (A0 : Option Addr) (c0 : Nat) (l0 : List ByteArray) (r : Bool) (w : World) (hr0 : Kd.C Kd.string w A0 l0.length l0) (hc0 : l0.length ≤ c0) (h : aZ.f k l0 = some r) :
  Calls Try.prog 88 #[.slice A0 l0.length c0] w fun e w'=>e = .returned (.bool r) ∧ Drawn0 w w':=by
 have HR0:=M0 hr0
 have HC0:=M0 hc0
 clear hr0 hc0
 have H : (aZ.l0 k l0 l0 (l0.length : Int) 0) = some r:=h
 clear h
 have H':=M0 H
 clear H
 go_enter Try.func88,Try.ntmps88
 go_wp2
 go_loopg [7] k (fun kq v7 w'=>∃ (x7_1 : Int),v7 = .int .i64 x7_1 ∧ Aside0 (aZ.l0 kq l0 l0 (l0.length : Int) x7_1 = some r) ∧ Aside0 (kq ≤ k) ∧ Drawn0 w w')
 case atStart=>exact ⟨(0),(by rfl),H',⟨Nat.le_refl _⟩,by repeat (exact Drawn0.refl _)⟩
 case round=>
  clear H'
  obtain ⟨x7_1,rfl,HA,HK1,⟨m1,rfl⟩⟩:=hrel
  cases gk with
  | zero=>exact absurd HA.out (by simp [aZ.l0])
  | succ k1=>
   have H:=HA.out
   clear HA
   simp only [aZ.l0] at H
   by_cases c2 : x7_1 < (l0.length : Int)
   ·rw [if_pos c2] at H
    clear c2
    obtain ⟨c3,H⟩:=nn H
    have c3b0:=decide_eq_true c3
    clear c3
    obtain ⟨c4,H⟩:=nn H
    have c4b0:=decide_eq_true c4
    clear c4
    by_cases c5 : ((rdOf ByteArray.empty l0 x7_1).size : Int) < 1
    ·rw [if_pos c5] at H
     have c5b0:=decide_eq_true c5
     clear c5
     obtain rfl:=Option.some.inj H
     have p104 : 0 ≤ (x7_1 : Int):=of_decide_eq_true (by with_reducible assumption)
     have q104 : x7_1 < (l0.length : Int):=of_decide_eq_true (by with_reducible assumption)
     obtain ⟨ad104,e104,hx104_0⟩:=Kd.br HR0.out x7_1 p104 q104
     cases e104
     replace p104:=eq_true p104
     replace q104:=eq_true q104
     go_wp2
     go_ret
     exact ⟨by rfl,by repeat (first|exact Drawn0.refl _|apply Drawn0.step)⟩
    ·rw [if_neg c5] at H
     have c5b0:=decide_eq_false c5
     have c5b1 : decide ((rdOf ByteArray.empty l0 x7_1).size < 1) = false:=decide_eq_false (by omega)
     clear c5
     by_cases c6 : ((rdOf ByteArray.empty l0 x7_1).size : Int) > 4096
     ·rw [if_pos c6] at H
      have c6b0:=decide_eq_true c6
      clear c6
      obtain rfl:=Option.some.inj H
      have p104 : 0 ≤ (x7_1 : Int):=of_decide_eq_true (by with_reducible assumption)
      have q104 : x7_1 < (l0.length : Int):=of_decide_eq_true (by with_reducible assumption)
      obtain ⟨ad104,e104,hx104_0⟩:=Kd.br HR0.out x7_1 p104 q104
      cases e104
      replace p104:=eq_true p104
      replace q104:=eq_true q104
      go_wp2
      go_ret
      exact ⟨by rfl,by repeat (first|exact Drawn0.refl _|apply Drawn0.step)⟩
     ·rw [if_neg c6] at H
      have c6b0:=decide_eq_false c6
      clear c6
      obtain ⟨c7,H⟩:=nn H
      have c7b0:=decide_eq_true c7
      have c7b1 : decide (0 < l0.length) = true:=decide_eq_true (by omega)
      clear c7
      by_cases c8 : ((rdOf ByteArray.empty l0 x7_1).size : Int) = ((rdOf ByteArray.empty l0 0).size : Int)
      ·rw [if_pos c8] at H
       have c8b1 : (((rdOf ByteArray.empty l0 x7_1).size : Int) != ((rdOf ByteArray.empty l0 0).size : Int)) = false:=bne_eq_false_iff_eq.mpr c8
       clear c8
       have H':=M0 H
       clear H
       have p104 : 0 ≤ (x7_1 : Int):=of_decide_eq_true (by with_reducible assumption)
       have q104 : x7_1 < (l0.length : Int):=of_decide_eq_true (by with_reducible assumption)
       obtain ⟨ad104,e104,hx104_0⟩:=Kd.br HR0.out x7_1 p104 q104
       cases e104
       replace p104:=eq_true p104
       replace q104:=eq_true q104
       have p105 : 0 ≤ (0 : Int):=(by omega)
       have q105 : 0 < (l0.length : Int):=of_decide_eq_true (by with_reducible assumption)
       obtain ⟨ad105,e105,hx105_0⟩:=Kd.br HR0.out 0 p105 q105
       obtain rfl : ad104 = ad105:=(by injection e105)
       have qi105 : (0 < l0.length) = True:=eq_true (by omega)
       (try rw [show ((0 : Int)).toNat = 0 from rfl] at hx105_0)
       (try rw [Addr.add_zero'] at hx105_0)
       replace p105:=eq_true p105
       replace q105:=eq_true q105
       go_wp2
       go_roundg k1
       case measure=>have:=HK1.out;omega
       case rel=>exact ⟨(wrap64 (x7_1 + 1)),(by rfl),H',⟨by have:=HK1.out;omega⟩,by repeat (first|exact Drawn0.refl _|apply Drawn0.step)⟩
      ·rw [if_neg c8] at H
       have c8b1 : (((rdOf ByteArray.empty l0 x7_1).size : Int) != ((rdOf ByteArray.empty l0 0).size : Int)) = true:=bne_iff_ne.mpr c8
       obtain rfl:=Option.some.inj H
       have p104 : 0 ≤ (x7_1 : Int):=of_decide_eq_true (by with_reducible assumption)
       have q104 : x7_1 < (l0.length : Int):=of_decide_eq_true (by with_reducible assumption)
       obtain ⟨ad104,e104,hx104_0⟩:=Kd.br HR0.out x7_1 p104 q104
       cases e104
       replace p104:=eq_true p104
       replace q104:=eq_true q104
       have p105 : 0 ≤ (0 : Int):=(by omega)
       have q105 : 0 < (l0.length : Int):=of_decide_eq_true (by with_reducible assumption)
       obtain ⟨ad105,e105,hx105_0⟩:=Kd.br HR0.out 0 p105 q105
       obtain rfl : ad104 = ad105:=(by injection e105)
       have qi105 : (0 < l0.length) = True:=eq_true (by omega)
       (try rw [show ((0 : Int)).toNat = 0 from rfl] at hx105_0)
       (try rw [Addr.add_zero'] at hx105_0)
       replace p105:=eq_true p105
       replace q105:=eq_true q105
       go_wp2
       go_ret
       exact ⟨by rfl,by repeat (first|exact Drawn0.refl _|apply Drawn0.step)⟩
   ·rw [if_neg c2] at H
    have c2b0:=decide_eq_false c2
    clear c2
    obtain rfl:=Option.some.inj H
    go_wp2
    go_ret
    exact ⟨by rfl,by repeat (first|exact Drawn0.refl _|apply Drawn0.step)⟩

end Go.Proofs.Ytffhbpepppodeaa.PFnDecoded
