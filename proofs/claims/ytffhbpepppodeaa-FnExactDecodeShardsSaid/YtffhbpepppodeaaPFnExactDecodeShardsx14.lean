import Derived.Test.YtffhbpepppodeaaPFnExactDecodeShardsx0
namespace Go.Proofs.Ytffhbpepppodeaa.PFnExactDecodeShards
private theorem nn {α : Type} {c : Prop} [Decidable c] {a : Option α} {r : α} (h : (if c then a else none) = some r) : c ∧ a = some r:=by
 split at h
 ·exact ⟨‹c›,h⟩
 ·cases h
open Go.RowKit Go.Proofs.YtffhbpepppodeaaW.PrintWords Go.Proofs.YtffhbpepppodeaaW.PrintLast Go.Proofs.YtffhbpepppodeaaW.PrintMore
attribute [local go_sem] max2_int min2_int max_two min_two max_three min_three max_four min_four   -- for this text's walks alone
set_option linter.unusedVariables false
set_option linter.unusedSimpArgs false

/-! ### laws_eqStringS: function 106 -/
def laws_eqStringS.l0 : Nat → List ByteArray → List ByteArray → Int → Option (Bool)
 | 0,_,_,_=>none
 | k + 1,x0,x1,x5=>if x5 < (x0.length : Int) then (if 0 ≤ x5 then (if x5 < (x1.length : Int) then (if (rdOf ByteArray.empty x0 x5).toList = (rdOf ByteArray.empty x1 x5).toList then (laws_eqStringS.l0 k x0 x1 (wrap64 (x5 + 1))) else (some false)) else (none)) else (none)) else (some true)
def laws_eqStringS.f (k : Nat) (l0 : List ByteArray) (l1 : List ByteArray) : Option (Bool):=if (l0.length : Int) = (l1.length : Int) then (laws_eqStringS.l0 k l0 l1 0) else (some false)
set_option maxHeartbeats 8000000 in
set_option maxRecDepth 100000 in
theorem laws_eqStringS.calls (k : Nat) (A0 : Option Addr) (c0 : Nat) (l0 : List ByteArray) (A1 : Option Addr) (c1 : Nat) (l1 : List ByteArray) (r : Bool) (w : World) (hr0 : Kd.C Kd.string w A0 l0.length l0) (hc0 : l0.length ≤ c0) (hr1 : Kd.C Kd.string w A1 l1.length l1) (hc1 : l1.length ≤ c1) (h : laws_eqStringS.f k l0 l1 = some r) :
  Calls Try.prog 106 #[.slice A0 l0.length c0,.slice A1 l1.length c1] w fun e w'=>e = .returned (.bool r) ∧ Drawn0 w w':=by
 have HR0:=Aside0.mk hr0
 have HC0:=Aside0.mk hc0
 clear hr0 hc0
 have HR1:=Aside0.mk hr1
 have HC1:=Aside0.mk hc1
 clear hr1 hc1
 have H : (if (l0.length : Int) = (l1.length : Int) then (laws_eqStringS.l0 k l0 l1 0) else (some false)) = some r:=h
 clear h
 by_cases c3 : (l0.length : Int) = (l1.length : Int)
 ·rw [if_pos c3] at H
  have c3b0 : ((l0.length : Int) == (l1.length : Int)) = true:=beq_iff_eq.mpr c3
  have c3b1 : ((l0.length : Int) != (l1.length : Int)) = false:=bne_eq_false_iff_eq.mpr c3
  have c3b2 : (l0.length == l1.length) = true:=by (simp at c3 ⊢;omega)
  clear c3
  have H':=Aside0.mk H
  clear H
  go_enter Try.func106,Try.ntmps106
  go_wp2
  repeat (go_quiet (fail);try go_wp2)
  go_loopg [5] k (fun kq v5 w'=>∃ (x5_1 : Int),v5 = .int .i64 x5_1 ∧ Aside0 (laws_eqStringS.l0 kq l0 l1 x5_1 = some r) ∧ Aside0 (kq ≤ k) ∧ Drawn0 w w')
  case atStart=>exact ⟨(0),(by rfl),H',⟨Nat.le_refl _⟩,by repeat (exact Drawn0.refl _)⟩
  case round=>
   clear H'
   (try clear c3b0);(try clear c3b1);(try clear c3b2)
   obtain ⟨x5_1,rfl,HA,HK1,⟨m1,rfl⟩⟩:=hrel
   cases gk with
   | zero=>exact absurd HA.out (by simp [laws_eqStringS.l0])
   | succ k1=>
    have H:=HA.out
    clear HA
    simp only [laws_eqStringS.l0] at H
    by_cases c4 : x5_1 < (l0.length : Int)
    ·rw [if_pos c4] at H
     have c4b0:=decide_eq_true c4
     clear c4
     obtain ⟨c5,H⟩:=nn H
     have c5b0:=decide_eq_true c5
     clear c5
     obtain ⟨c6,H⟩:=nn H
     have c6b0:=decide_eq_true c6
     clear c6
     by_cases c7 : (rdOf ByteArray.empty l0 x5_1).toList = (rdOf ByteArray.empty l1 x5_1).toList
     ·rw [if_pos c7] at H
      have c7b0 : ((rdOf ByteArray.empty l0 x5_1).toList == (rdOf ByteArray.empty l1 x5_1).toList) = true:=beq_iff_eq.mpr c7
      have c7b1 : ((rdOf ByteArray.empty l0 x5_1).toList != (rdOf ByteArray.empty l1 x5_1).toList) = false:=bne_eq_false_iff_eq.mpr c7
      clear c7
      have H':=Aside0.mk H
      clear H
      have p350 : 0 ≤ (x5_1 : Int):=of_decide_eq_true (by with_reducible assumption)
      have q350 : x5_1 < (l0.length : Int):=of_decide_eq_true (by with_reducible assumption)
      obtain ⟨ad350,e350,hx350_0⟩:=Kd.at_string HR0.out x5_1 p350 q350
      cases e350
      replace p350:=eq_true p350
      replace q350:=eq_true q350
      have p351 : 0 ≤ (x5_1 : Int):=of_decide_eq_true (by with_reducible assumption)
      have q351 : x5_1 < (l1.length : Int):=of_decide_eq_true (by with_reducible assumption)
      obtain ⟨ad351,e351,hx351_0⟩:=Kd.at_string HR1.out x5_1 p351 q351
      cases e351
      replace p351:=eq_true p351
      replace q351:=eq_true q351
      go_wp2
      repeat (go_quiet (fail);try go_wp2)
      go_roundg k1
      case measure=>have:=HK1.out;omega
      case rel=>exact ⟨(wrap64 (x5_1 + 1)),(by rfl),H',⟨by have:=HK1.out;omega⟩,by repeat (first|exact Drawn0.refl _|apply Drawn0.step)⟩
     ·rw [if_neg c7] at H
      have c7b0 : ((rdOf ByteArray.empty l0 x5_1).toList == (rdOf ByteArray.empty l1 x5_1).toList) = false:=beq_eq_false_iff_ne.mpr c7
      have c7b1 : ((rdOf ByteArray.empty l0 x5_1).toList != (rdOf ByteArray.empty l1 x5_1).toList) = true:=bne_iff_ne.mpr c7
      obtain rfl:=Option.some.inj H
      have p350 : 0 ≤ (x5_1 : Int):=of_decide_eq_true (by with_reducible assumption)
      have q350 : x5_1 < (l0.length : Int):=of_decide_eq_true (by with_reducible assumption)
      obtain ⟨ad350,e350,hx350_0⟩:=Kd.at_string HR0.out x5_1 p350 q350
      cases e350
      replace p350:=eq_true p350
      replace q350:=eq_true q350
      have p351 : 0 ≤ (x5_1 : Int):=of_decide_eq_true (by with_reducible assumption)
      have q351 : x5_1 < (l1.length : Int):=of_decide_eq_true (by with_reducible assumption)
      obtain ⟨ad351,e351,hx351_0⟩:=Kd.at_string HR1.out x5_1 p351 q351
      cases e351
      replace p351:=eq_true p351
      replace q351:=eq_true q351
      go_wp2
      repeat (go_quiet (fail);try go_wp2)
      go_ret
      exact ⟨by rfl,by repeat (first|exact Drawn0.refl _|apply Drawn0.step)⟩
    ·rw [if_neg c4] at H
     have c4b0:=decide_eq_false c4
     clear c4
     obtain rfl:=Option.some.inj H
     go_wp2
     repeat (go_quiet (fail);try go_wp2)
     go_ret
     exact ⟨by rfl,by repeat (first|exact Drawn0.refl _|apply Drawn0.step)⟩
 ·rw [if_neg c3] at H
  have c3b0 : ((l0.length : Int) == (l1.length : Int)) = false:=beq_eq_false_iff_ne.mpr c3
  have c3b1 : ((l0.length : Int) != (l1.length : Int)) = true:=bne_iff_ne.mpr c3
  have c3b2 : (l0.length == l1.length) = false:=by (simp at c3 ⊢;omega)
  obtain rfl:=Option.some.inj H
  go_enter Try.func106,Try.ntmps106
  go_wp2
  repeat (go_quiet (fail);try go_wp2)
  go_ret
  exact ⟨by rfl,by repeat (exact Drawn0.refl _)⟩

/-! ### laws_eqShardResult: function 47 -/
def laws_eqShardResult.f (k : Nat) (a0_0 : Int) (l0_1 : List ByteArray) (a1_0 : Int) (l1_1 : List ByteArray) : Option (Bool):=if a0_0 = a1_0 then ((laws_eqStringS.f k l0_1 l1_1).bind fun t354=>(if t354 = true then (some true) else (some false))) else (some false)
set_option maxHeartbeats 8000000 in
set_option maxRecDepth 100000 in
theorem laws_eqShardResult.calls (k : Nat) (a0_0 : Int) (A0_1 : Option Addr) (c0_1 : Nat) (l0_1 : List ByteArray) (a1_0 : Int) (A1_1 : Option Addr) (c1_1 : Nat) (l1_1 : List ByteArray) (r : Bool) (w : World) (hr0_1 : Kd.C Kd.string w A0_1 l0_1.length l0_1) (hc0_1 : l0_1.length ≤ c0_1) (hr1_1 : Kd.C Kd.string w A1_1 l1_1.length l1_1) (hc1_1 : l1_1.length ≤ c1_1) (h : laws_eqShardResult.f k a0_0 l0_1 a1_0 l1_1 = some r) :
  Calls Try.prog 47 #[.agg #[.int .i64 a0_0,.slice A0_1 l0_1.length c0_1],.agg #[.int .i64 a1_0,.slice A1_1 l1_1.length c1_1]] w fun e w'=>e = .returned (.bool r) ∧ Below w.heap.size w w':=by
 have hu68:=Try.underlying68
 have HR0_1:=Aside0.mk hr0_1
 have HC0_1:=Aside0.mk hc0_1
 clear hr0_1 hc0_1
 have HR1_1:=Aside0.mk hr1_1
 have HC1_1:=Aside0.mk hc1_1
 clear hr1_1 hc1_1
 have HB:=Aside0.mk (Below.refl w.heap.size w)
 have H : (if a0_0 = a1_0 then ((laws_eqStringS.f k l0_1 l1_1).bind fun t354=>(if t354 = true then (some true) else (some false))) else (some false)) = some r:=h
 clear h
 by_cases c3 : a0_0 = a1_0
 ·rw [if_pos c3] at H
  have c3b0 : (a0_0 == a1_0) = true:=beq_iff_eq.mpr c3
  have c3b1 : (a0_0 != a1_0) = false:=bne_eq_false_iff_eq.mpr c3
  clear c3
  replace H:=Option.bind_eq_some_iff.mp H
  obtain ⟨t354,A40,H⟩:=H
  replace H : (if t354 = true then (some true) else (some false)) = some r:=H
  have A4:=Aside0.mk A40
  clear A40
  by_cases c5 : t354 = true
  ·subst c5
   have H1 : (some true) = some r:=by rw [if_pos rfl] at H;exact H
   clear H
   have H:=H1
   clear H1
   obtain rfl:=Option.some.inj H
   go_enter Try.func47,Try.ntmps47
   go_wp2_with (first|((with_reducible refine gate_dst (N:=2) rfl ?_);refine box_event ?hg (N:=2) ?hd (cs:=#[.int .i64 a0_0,.slice A0_1 l0_1.length c0_1]) (t:=68) ?hr ?_;(case hd=>rfl);(case hg=>rfl);(case hr=>(go_simp;done));intro gb352 hg w6 hbox hb;have BK352:=Aside0.mk (hbox);have GW352:=Aside0.mk ((by rw [hg];exact (below_size HB.out) : w.heap.size ≤ gb352));have GE352:=Aside0.mk ((by rw [hg];exact (below_size HB.out) : w.heap.size ≤ gb352));replace HB:=Aside0.mk (below_step HB.out hb);clear hb hbox hg)|((with_reducible refine gate_dst (N:=3) rfl ?_);refine box_event ?hg (N:=3) ?hd (cs:=#[.int .i64 a1_0,.slice A1_1 l1_1.length c1_1]) (t:=68) ?hr ?_;(case hd=>rfl);(case hg=>rfl);(case hr=>(go_simp;done));intro gb353 hg w7 hbox hb;have BK353:=Aside0.mk (hbox);have GW353:=Aside0.mk ((by rw [hg];exact (below_size HB.out) : w.heap.size ≤ gb353));have GE353:=Aside0.mk ((by rw [hg];exact (below_size HB.out) : w.heap.size ≤ gb353));replace HB:=Aside0.mk (below_step HB.out hb);have NB352_353:=Aside0.mk ((by rw [hg];exact Nat.ne_of_lt (blk_lt BK352.out) : gb352 ≠ gb353));have NB353_352:=Aside0.mk ((by rw [hg];exact Nat.ne_of_gt (blk_lt BK352.out) : gb353 ≠ gb352));replace BK352:=Aside0.mk (blk_below BK352.out hb);clear hb hbox hg;have hnb8:=NB352_353.out;have hnc8:=NB353_352.out;have hcz9_0 : w7.cell? ⟨gb352,0,none⟩ = some (.int .i64 a0_0):=(blk_cell BK352.out 0).trans rfl;have hcz9_1 : w7.cell? ⟨gb352,1,none⟩ = some (.slice A0_1 l0_1.length c0_1):=(blk_cell BK352.out 1).trans rfl;have hfz9_0:=blk_frozen BK352.out 0;have hfz9_1:=blk_frozen BK352.out 1;have hcz10_0 : w7.cell? ⟨gb353,0,none⟩ = some (.int .i64 a1_0):=(blk_cell BK353.out 0).trans rfl;have hcz10_1 : w7.cell? ⟨gb353,1,none⟩ = some (.slice A1_1 l1_1.length c1_1):=(blk_cell BK353.out 1).trans rfl;have hfz10_0:=blk_frozen BK353.out 0;have hfz10_1:=blk_frozen BK353.out 1)|((with_reducible refine gate_callee (f:=106) rfl ?_);refine goesL_ (some 14) rfl rfl Try.func106 (by kernel_rfl) rfl #[.slice A0_1 l0_1.length c0_1,.slice A1_1 l1_1.length c1_1] rfl (by (try simp only [List.map_toArray,List.map_cons,List.map_nil]);rfl) ?_;(with_reducible refine (laws_eqStringS.calls k _ _ l0_1 _ _ l1_1 true _ ?side1 ?side2 ?side3 ?side4 A4.out).mono ?_);(case side1=>exact (Kd.C_below HR0_1.out HB.out));(case side2=>exact HC0_1.out);(case side3=>exact (Kd.C_below HR1_1.out HB.out));(case side4=>exact HC1_1.out);rintro e w' ⟨rfl,⟨nd,rfl⟩⟩;refine ⟨_,rfl,?_⟩))
   go_ret
   exact ⟨by rfl,by repeat ((with_reducible first|exact HB.out|apply pw_below_drewN))⟩
  ·replace c5:=Bool.eq_false_iff.mpr c5
   subst c5
   have H1 : (some false) = some r:=by rw [if_neg (show ¬ (false = true) by decide)] at H;exact H
   clear H
   have H:=H1
   clear H1
   obtain rfl:=Option.some.inj H
   go_enter Try.func47,Try.ntmps47
   go_wp2_with (first|((with_reducible refine gate_dst (N:=2) rfl ?_);refine box_event ?hg (N:=2) ?hd (cs:=#[.int .i64 a0_0,.slice A0_1 l0_1.length c0_1]) (t:=68) ?hr ?_;(case hd=>rfl);(case hg=>rfl);(case hr=>(go_simp;done));intro gb352 hg w11 hbox hb;have BK352:=Aside0.mk (hbox);have GW352:=Aside0.mk ((by rw [hg];exact (below_size HB.out) : w.heap.size ≤ gb352));have GE352:=Aside0.mk ((by rw [hg];exact (below_size HB.out) : w.heap.size ≤ gb352));replace HB:=Aside0.mk (below_step HB.out hb);clear hb hbox hg)|((with_reducible refine gate_dst (N:=3) rfl ?_);refine box_event ?hg (N:=3) ?hd (cs:=#[.int .i64 a1_0,.slice A1_1 l1_1.length c1_1]) (t:=68) ?hr ?_;(case hd=>rfl);(case hg=>rfl);(case hr=>(go_simp;done));intro gb353 hg w12 hbox hb;have BK353:=Aside0.mk (hbox);have GW353:=Aside0.mk ((by rw [hg];exact (below_size HB.out) : w.heap.size ≤ gb353));have GE353:=Aside0.mk ((by rw [hg];exact (below_size HB.out) : w.heap.size ≤ gb353));replace HB:=Aside0.mk (below_step HB.out hb);have NB352_353:=Aside0.mk ((by rw [hg];exact Nat.ne_of_lt (blk_lt BK352.out) : gb352 ≠ gb353));have NB353_352:=Aside0.mk ((by rw [hg];exact Nat.ne_of_gt (blk_lt BK352.out) : gb353 ≠ gb352));replace BK352:=Aside0.mk (blk_below BK352.out hb);clear hb hbox hg;have hnb13:=NB352_353.out;have hnc13:=NB353_352.out;have hcz14_0 : w12.cell? ⟨gb352,0,none⟩ = some (.int .i64 a0_0):=(blk_cell BK352.out 0).trans rfl;have hcz14_1 : w12.cell? ⟨gb352,1,none⟩ = some (.slice A0_1 l0_1.length c0_1):=(blk_cell BK352.out 1).trans rfl;have hfz14_0:=blk_frozen BK352.out 0;have hfz14_1:=blk_frozen BK352.out 1;have hcz15_0 : w12.cell? ⟨gb353,0,none⟩ = some (.int .i64 a1_0):=(blk_cell BK353.out 0).trans rfl;have hcz15_1 : w12.cell? ⟨gb353,1,none⟩ = some (.slice A1_1 l1_1.length c1_1):=(blk_cell BK353.out 1).trans rfl;have hfz15_0:=blk_frozen BK353.out 0;have hfz15_1:=blk_frozen BK353.out 1)|((with_reducible refine gate_callee (f:=106) rfl ?_);refine goesL_ (some 14) rfl rfl Try.func106 (by kernel_rfl) rfl #[.slice A0_1 l0_1.length c0_1,.slice A1_1 l1_1.length c1_1] rfl (by (try simp only [List.map_toArray,List.map_cons,List.map_nil]);rfl) ?_;(with_reducible refine (laws_eqStringS.calls k _ _ l0_1 _ _ l1_1 false _ ?side1 ?side2 ?side3 ?side4 A4.out).mono ?_);(case side1=>exact (Kd.C_below HR0_1.out HB.out));(case side2=>exact HC0_1.out);(case side3=>exact (Kd.C_below HR1_1.out HB.out));(case side4=>exact HC1_1.out);rintro e w' ⟨rfl,⟨nd,rfl⟩⟩;refine ⟨_,rfl,?_⟩))
   go_ret
   exact ⟨by rfl,by repeat ((with_reducible first|exact HB.out|apply pw_below_drewN))⟩
 ·rw [if_neg c3] at H
  have c3b0 : (a0_0 == a1_0) = false:=beq_eq_false_iff_ne.mpr c3
  have c3b1 : (a0_0 != a1_0) = true:=bne_iff_ne.mpr c3
  obtain rfl:=Option.some.inj H
  go_enter Try.func47,Try.ntmps47
  go_wp2_with (first|((with_reducible refine gate_dst (N:=2) rfl ?_);refine box_event ?hg (N:=2) ?hd (cs:=#[.int .i64 a0_0,.slice A0_1 l0_1.length c0_1]) (t:=68) ?hr ?_;(case hd=>rfl);(case hg=>rfl);(case hr=>(go_simp;done));intro gb352 hg w16 hbox hb;have BK352:=Aside0.mk (hbox);have GW352:=Aside0.mk ((by rw [hg];exact (below_size HB.out) : w.heap.size ≤ gb352));have GE352:=Aside0.mk ((by rw [hg];exact (below_size HB.out) : w.heap.size ≤ gb352));replace HB:=Aside0.mk (below_step HB.out hb);clear hb hbox hg)|((with_reducible refine gate_dst (N:=3) rfl ?_);refine box_event ?hg (N:=3) ?hd (cs:=#[.int .i64 a1_0,.slice A1_1 l1_1.length c1_1]) (t:=68) ?hr ?_;(case hd=>rfl);(case hg=>rfl);(case hr=>(go_simp;done));intro gb353 hg w17 hbox hb;have BK353:=Aside0.mk (hbox);have GW353:=Aside0.mk ((by rw [hg];exact (below_size HB.out) : w.heap.size ≤ gb353));have GE353:=Aside0.mk ((by rw [hg];exact (below_size HB.out) : w.heap.size ≤ gb353));replace HB:=Aside0.mk (below_step HB.out hb);have NB352_353:=Aside0.mk ((by rw [hg];exact Nat.ne_of_lt (blk_lt BK352.out) : gb352 ≠ gb353));have NB353_352:=Aside0.mk ((by rw [hg];exact Nat.ne_of_gt (blk_lt BK352.out) : gb353 ≠ gb352));replace BK352:=Aside0.mk (blk_below BK352.out hb);clear hb hbox hg;have hnb18:=NB352_353.out;have hnc18:=NB353_352.out;have hcz19_0 : w17.cell? ⟨gb352,0,none⟩ = some (.int .i64 a0_0):=(blk_cell BK352.out 0).trans rfl;have hcz19_1 : w17.cell? ⟨gb352,1,none⟩ = some (.slice A0_1 l0_1.length c0_1):=(blk_cell BK352.out 1).trans rfl;have hfz19_0:=blk_frozen BK352.out 0;have hfz19_1:=blk_frozen BK352.out 1;have hcz20_0 : w17.cell? ⟨gb353,0,none⟩ = some (.int .i64 a1_0):=(blk_cell BK353.out 0).trans rfl;have hcz20_1 : w17.cell? ⟨gb353,1,none⟩ = some (.slice A1_1 l1_1.length c1_1):=(blk_cell BK353.out 1).trans rfl;have hfz20_0:=blk_frozen BK353.out 0;have hfz20_1:=blk_frozen BK353.out 1))
  go_ret
  exact ⟨by rfl,HB.out⟩

/-! ### laws_eqShard: function 107 -/
def laws_eqShard.f (a0_0 : Bool) (a0_1 : ByteArray) (a1_0 : Bool) (a1_1 : ByteArray) : Option (Bool):=if (a0_0 != a1_0) = true then (some false) else (if a0_1.toList = a1_1.toList then (some true) else (some false))
set_option maxHeartbeats 8000000 in
set_option maxRecDepth 100000 in
theorem laws_eqShard.calls (a0_0 : Bool) (a0_1 : ByteArray) (a1_0 : Bool) (a1_1 : ByteArray) (r : Bool) (w : World) (h : laws_eqShard.f a0_0 a0_1 a1_0 a1_1 = some r) :
  Calls Try.prog 107 #[.agg #[.bool a0_0,.string a0_1],.agg #[.bool a1_0,.string a1_1]] w fun e w'=>e = .returned (.bool r) ∧ Below w.heap.size w w':=by
 have hu61:=Try.underlying61
 have HB:=Aside0.mk (Below.refl w.heap.size w)
 have H : (if (a0_0 != a1_0) = true then (some false) else (if a0_1.toList = a1_1.toList then (some true) else (some false))) = some r:=h
 clear h
 by_cases c3 : (a0_0 != a1_0) = true
 ·rw [if_pos c3] at H
  have c3b0 : (a0_0 != a1_0) = true:=c3
  (try (have c3b1 : decide (a0_0 = a1_0) = false:=by simpa using c3))
  (try (have c3b2 : (a0_0 == a1_0) = false:=by simpa using c3))
  (try (have c3b3 : ¬ (a0_0 = a1_0):=by simpa using c3))
  clear c3
  obtain rfl:=Option.some.inj H
  go_enter Try.func107,Try.ntmps107
  go_wp2_with (first|((with_reducible refine gate_dst (N:=2) rfl ?_);refine box_event ?hg (N:=2) ?hd (cs:=#[.bool a0_0,.string a0_1]) (t:=61) ?hr ?_;(case hd=>rfl);(case hg=>rfl);(case hr=>(go_simp;done));intro gb355 hg w4 hbox hb;have BK355:=Aside0.mk (hbox);have GW355:=Aside0.mk ((by rw [hg];exact (below_size HB.out) : w.heap.size ≤ gb355));have GE355:=Aside0.mk ((by rw [hg];exact (below_size HB.out) : w.heap.size ≤ gb355));replace HB:=Aside0.mk (below_step HB.out hb);clear hb hbox hg)|((with_reducible refine gate_dst (N:=3) rfl ?_);refine box_event ?hg (N:=3) ?hd (cs:=#[.bool a1_0,.string a1_1]) (t:=61) ?hr ?_;(case hd=>rfl);(case hg=>rfl);(case hr=>(go_simp;done));intro gb356 hg w5 hbox hb;have BK356:=Aside0.mk (hbox);have GW356:=Aside0.mk ((by rw [hg];exact (below_size HB.out) : w.heap.size ≤ gb356));have GE356:=Aside0.mk ((by rw [hg];exact (below_size HB.out) : w.heap.size ≤ gb356));replace HB:=Aside0.mk (below_step HB.out hb);have NB355_356:=Aside0.mk ((by rw [hg];exact Nat.ne_of_lt (blk_lt BK355.out) : gb355 ≠ gb356));have NB356_355:=Aside0.mk ((by rw [hg];exact Nat.ne_of_gt (blk_lt BK355.out) : gb356 ≠ gb355));replace BK355:=Aside0.mk (blk_below BK355.out hb);clear hb hbox hg;have hnb6:=NB355_356.out;have hnc6:=NB356_355.out;have hcz7_0 : w5.cell? ⟨gb355,0,none⟩ = some (.bool a0_0):=(blk_cell BK355.out 0).trans rfl;have hcz7_1 : w5.cell? ⟨gb355,1,none⟩ = some (.string a0_1):=(blk_cell BK355.out 1).trans rfl;have hfz7_0:=blk_frozen BK355.out 0;have hfz7_1:=blk_frozen BK355.out 1;have hcz8_0 : w5.cell? ⟨gb356,0,none⟩ = some (.bool a1_0):=(blk_cell BK356.out 0).trans rfl;have hcz8_1 : w5.cell? ⟨gb356,1,none⟩ = some (.string a1_1):=(blk_cell BK356.out 1).trans rfl;have hfz8_0:=blk_frozen BK356.out 0;have hfz8_1:=blk_frozen BK356.out 1))
  go_ret
  exact ⟨by rfl,HB.out⟩
 ·rw [if_neg c3] at H
  have c3b0 : (a0_0 != a1_0) = false:=by simpa using c3
  (try (have c3b1 : decide (a0_0 = a1_0) = true:=by simpa using c3))
  (try (have c3b2 : (a0_0 == a1_0) = true:=by simpa using c3))
  clear c3
  by_cases c9 : a0_1.toList = a1_1.toList
  ·rw [if_pos c9] at H
   have c9b0 : (a0_1.toList == a1_1.toList) = true:=beq_iff_eq.mpr c9
   have c9b1 : (a0_1.toList != a1_1.toList) = false:=bne_eq_false_iff_eq.mpr c9
   clear c9
   obtain rfl:=Option.some.inj H
   go_enter Try.func107,Try.ntmps107
   go_wp2_with (first|((with_reducible refine gate_dst (N:=2) rfl ?_);refine box_event ?hg (N:=2) ?hd (cs:=#[.bool a0_0,.string a0_1]) (t:=61) ?hr ?_;(case hd=>rfl);(case hg=>rfl);(case hr=>(go_simp;done));intro gb355 hg w10 hbox hb;have BK355:=Aside0.mk (hbox);have GW355:=Aside0.mk ((by rw [hg];exact (below_size HB.out) : w.heap.size ≤ gb355));have GE355:=Aside0.mk ((by rw [hg];exact (below_size HB.out) : w.heap.size ≤ gb355));replace HB:=Aside0.mk (below_step HB.out hb);clear hb hbox hg)|((with_reducible refine gate_dst (N:=3) rfl ?_);refine box_event ?hg (N:=3) ?hd (cs:=#[.bool a1_0,.string a1_1]) (t:=61) ?hr ?_;(case hd=>rfl);(case hg=>rfl);(case hr=>(go_simp;done));intro gb356 hg w11 hbox hb;have BK356:=Aside0.mk (hbox);have GW356:=Aside0.mk ((by rw [hg];exact (below_size HB.out) : w.heap.size ≤ gb356));have GE356:=Aside0.mk ((by rw [hg];exact (below_size HB.out) : w.heap.size ≤ gb356));replace HB:=Aside0.mk (below_step HB.out hb);have NB355_356:=Aside0.mk ((by rw [hg];exact Nat.ne_of_lt (blk_lt BK355.out) : gb355 ≠ gb356));have NB356_355:=Aside0.mk ((by rw [hg];exact Nat.ne_of_gt (blk_lt BK355.out) : gb356 ≠ gb355));replace BK355:=Aside0.mk (blk_below BK355.out hb);clear hb hbox hg;have hnb12:=NB355_356.out;have hnc12:=NB356_355.out;have hcz13_0 : w11.cell? ⟨gb355,0,none⟩ = some (.bool a0_0):=(blk_cell BK355.out 0).trans rfl;have hcz13_1 : w11.cell? ⟨gb355,1,none⟩ = some (.string a0_1):=(blk_cell BK355.out 1).trans rfl;have hfz13_0:=blk_frozen BK355.out 0;have hfz13_1:=blk_frozen BK355.out 1;have hcz14_0 : w11.cell? ⟨gb356,0,none⟩ = some (.bool a1_0):=(blk_cell BK356.out 0).trans rfl;have hcz14_1 : w11.cell? ⟨gb356,1,none⟩ = some (.string a1_1):=(blk_cell BK356.out 1).trans rfl;have hfz14_0:=blk_frozen BK356.out 0;have hfz14_1:=blk_frozen BK356.out 1))
   go_ret
   exact ⟨by rfl,HB.out⟩
  ·rw [if_neg c9] at H
   have c9b0 : (a0_1.toList == a1_1.toList) = false:=beq_eq_false_iff_ne.mpr c9
   have c9b1 : (a0_1.toList != a1_1.toList) = true:=bne_iff_ne.mpr c9
   obtain rfl:=Option.some.inj H
   go_enter Try.func107,Try.ntmps107
   go_wp2_with (first|((with_reducible refine gate_dst (N:=2) rfl ?_);refine box_event ?hg (N:=2) ?hd (cs:=#[.bool a0_0,.string a0_1]) (t:=61) ?hr ?_;(case hd=>rfl);(case hg=>rfl);(case hr=>(go_simp;done));intro gb355 hg w15 hbox hb;have BK355:=Aside0.mk (hbox);have GW355:=Aside0.mk ((by rw [hg];exact (below_size HB.out) : w.heap.size ≤ gb355));have GE355:=Aside0.mk ((by rw [hg];exact (below_size HB.out) : w.heap.size ≤ gb355));replace HB:=Aside0.mk (below_step HB.out hb);clear hb hbox hg)|((with_reducible refine gate_dst (N:=3) rfl ?_);refine box_event ?hg (N:=3) ?hd (cs:=#[.bool a1_0,.string a1_1]) (t:=61) ?hr ?_;(case hd=>rfl);(case hg=>rfl);(case hr=>(go_simp;done));intro gb356 hg w16 hbox hb;have BK356:=Aside0.mk (hbox);have GW356:=Aside0.mk ((by rw [hg];exact (below_size HB.out) : w.heap.size ≤ gb356));have GE356:=Aside0.mk ((by rw [hg];exact (below_size HB.out) : w.heap.size ≤ gb356));replace HB:=Aside0.mk (below_step HB.out hb);have NB355_356:=Aside0.mk ((by rw [hg];exact Nat.ne_of_lt (blk_lt BK355.out) : gb355 ≠ gb356));have NB356_355:=Aside0.mk ((by rw [hg];exact Nat.ne_of_gt (blk_lt BK355.out) : gb356 ≠ gb355));replace BK355:=Aside0.mk (blk_below BK355.out hb);clear hb hbox hg;have hnb17:=NB355_356.out;have hnc17:=NB356_355.out;have hcz18_0 : w16.cell? ⟨gb355,0,none⟩ = some (.bool a0_0):=(blk_cell BK355.out 0).trans rfl;have hcz18_1 : w16.cell? ⟨gb355,1,none⟩ = some (.string a0_1):=(blk_cell BK355.out 1).trans rfl;have hfz18_0:=blk_frozen BK355.out 0;have hfz18_1:=blk_frozen BK355.out 1;have hcz19_0 : w16.cell? ⟨gb356,0,none⟩ = some (.bool a1_0):=(blk_cell BK356.out 0).trans rfl;have hcz19_1 : w16.cell? ⟨gb356,1,none⟩ = some (.string a1_1):=(blk_cell BK356.out 1).trans rfl;have hfz19_0:=blk_frozen BK356.out 0;have hfz19_1:=blk_frozen BK356.out 1))
   go_ret
   exact ⟨by rfl,HB.out⟩

/-! ### laws_eqShardS: function 48 -/
def laws_eqShardS.l0 : Nat → List (S61) → List (S61) → Int → Option (Bool)
 | 0,_,_,_=>none
 | k + 1,x0,x1,x5=>if x5 < (x0.length : Int) then (if 0 ≤ x5 then (if x5 < (x1.length : Int) then ((laws_eqShard.f ((rd_T61 x0 x5).f0) ((rd_T61 x0 x5).f1) ((rd_T61 x1 x5).f0) ((rd_T61 x1 x5).f1)).bind fun t359=>(if t359 = true then (laws_eqShardS.l0 k x0 x1 (wrap64 (x5 + 1))) else (some false))) else (none)) else (none)) else (some true)
def laws_eqShardS.f (k : Nat) (l0 : List (S61)) (l1 : List (S61)) : Option (Bool):=if (l0.length : Int) = (l1.length : Int) then (laws_eqShardS.l0 k l0 l1 0) else (some false)
def laws_eqShardS.T6 : Bool × List (List Nat × List Nat):=(true,[([],[]),([],[]),([0,1],[0,1]),([2],[2]),([],[]),([],[]),([4,5],[4,5]),([6],[6]),([3,7],[3,7]),([8],[8])])
def laws_eqShardS.B6 : List Nat:=[0,0,3,7,0,0,48,112,255,511]
theorem laws_eqShardS.tab6 : rtab .any (opsOf Try.f48 6) = laws_eqShardS.T6:=by kernel_rfl
theorem laws_eqShardS.bits6 : waitsOk laws_eqShardS.T6.2 laws_eqShardS.B6 = true:=by kernel_rfl
set_option maxHeartbeats 8000000 in
set_option maxRecDepth 100000 in
theorem laws_eqShardS.calls (k : Nat) (A0 : Option Addr) (c0 : Nat) (l0 : List (S61)) (A1 : Option Addr) (c1 : Nat) (l1 : List (S61)) (r : Bool) (w : World) (hr0 : Kd.C k61 w A0 l0.length l0) (hc0 : l0.length ≤ c0) (hr1 : Kd.C k61 w A1 l1.length l1) (hc1 : l1.length ≤ c1) (h : laws_eqShardS.f k l0 l1 = some r) :
  Calls Try.prog 48 #[.slice A0 l0.length c0,.slice A1 l1.length c1] w fun e w'=>e = .returned (.bool r) ∧ Below w.heap.size w w':=by
 have hu61:=Try.underlying61
 have HR0:=Aside0.mk hr0
 have HC0:=Aside0.mk hc0
 clear hr0 hc0
 have HR1:=Aside0.mk hr1
 have HC1:=Aside0.mk hc1
 clear hr1 hc1
 have HB:=Aside0.mk (Below.refl w.heap.size w)
 have H : (if (l0.length : Int) = (l1.length : Int) then (laws_eqShardS.l0 k l0 l1 0) else (some false)) = some r:=h
 clear h
 by_cases c3 : (l0.length : Int) = (l1.length : Int)
 ·rw [if_pos c3] at H
  have c3b0 : ((l0.length : Int) == (l1.length : Int)) = true:=beq_iff_eq.mpr c3
  have c3b1 : ((l0.length : Int) != (l1.length : Int)) = false:=bne_eq_false_iff_eq.mpr c3
  have c3b2 : (l0.length == l1.length) = true:=by (simp at c3 ⊢;omega)
  clear c3
  have H':=Aside0.mk H
  clear H
  go_enter Try.func48,Try.ntmps48
  go_wp2
  go_loopg [5] k (fun kq v5 w'=>∃ (x5_1 : Int),v5 = .int .i64 x5_1 ∧ Aside0 (laws_eqShardS.l0 kq l0 l1 x5_1 = some r) ∧ Aside0 (kq ≤ k) ∧ Aside0 (Below w.heap.size w w'))
  case atStart=>exact ⟨(0),(by rfl),H',⟨Nat.le_refl _⟩,⟨HB.out⟩⟩
  case round=>
   clear H'
   (try clear c3b0);(try clear c3b1);(try clear c3b2)
   obtain ⟨x5_1,rfl,HA,HK1,HB⟩:=hrel
   cases gk with
   | zero=>exact absurd HA.out (by simp [laws_eqShardS.l0])
   | succ k1=>
    have H:=HA.out
    clear HA
    simp only [laws_eqShardS.l0] at H
    by_cases c4 : x5_1 < (l0.length : Int)
    ·rw [if_pos c4] at H
     have c4b0:=decide_eq_true c4
     clear c4
     obtain ⟨c5,H⟩:=nn H
     have c5b0:=decide_eq_true c5
     clear c5
     obtain ⟨c6,H⟩:=nn H
     have c6b0:=decide_eq_true c6
     clear c6
     replace H:=Option.bind_eq_some_iff.mp H
     obtain ⟨t359,A70,H⟩:=H
     replace H : (if t359 = true then (laws_eqShardS.l0 k1 l0 l1 (wrap64 (x5_1 + 1))) else (some false)) = some r:=H
     have A7:=Aside0.mk A70
     clear A70
     by_cases c8 : t359 = true
     ·subst c8
      have H1 : (laws_eqShardS.l0 k1 l0 l1 (wrap64 (x5_1 + 1))) = some r:=by rw [if_pos rfl] at H;exact H
      clear H
      have H:=H1
      clear H1
      have H':=Aside0.mk H
      clear H
      try go_wp2
      replace HB:=Aside0.mk (below_drew1 HB.out)
      have p357 : 0 ≤ (x5_1 : Int):=of_decide_eq_true (by with_reducible assumption)
      have q357 : x5_1 < (l0.length : Int):=of_decide_eq_true (by with_reducible assumption)
      obtain ⟨ad357,e357,hx357_0,hx357_1⟩:=at_T61 HR0.out x5_1 p357 q357
      have hw357_1:=hx357_1
      have hw357_0:=hx357_0
      cases e357
      replace hx357_0:=(HB.out.cell (World.block_lt_of_cell? w _ hx357_0)).trans hx357_0
      replace hx357_1:=(HB.out.cell (World.block_lt_of_cell? w _ hx357_1)).trans hx357_1
      replace p357:=eq_true p357
      replace q357:=eq_true q357
      have p358 : 0 ≤ (x5_1 : Int):=of_decide_eq_true (by with_reducible assumption)
      have q358 : x5_1 < (l1.length : Int):=of_decide_eq_true (by with_reducible assumption)
      obtain ⟨ad358,e358,hx358_0,hx358_1⟩:=at_T61 HR1.out x5_1 p358 q358
      have hw358_1:=hx358_1
      have hw358_0:=hx358_0
      cases e358
      replace hx358_0:=(HB.out.cell (World.block_lt_of_cell? w _ hx358_0)).trans hx358_0
      replace hx358_1:=(HB.out.cell (World.block_lt_of_cell? w _ hx358_1)).trans hx358_1
      replace p358:=eq_true p358
      replace q358:=eq_true q358
      refine start_ (n:=10) (S:=fun w'=>w'.cell? (ad357.add ((x5_1).toNat * 2)) = some (.bool ((rd_T61 l0 x5_1).f0)) ∧ w'.cell? ⟨(ad357.add ((x5_1).toNat * 2)).block,(ad357.add ((x5_1).toNat * 2)).off + 1,none⟩ = some (.string ((rd_T61 l0 x5_1).f1)) ∧ w'.cell? (ad358.add ((x5_1).toNat * 2)) = some (.bool ((rd_T61 l1 x5_1).f0)) ∧ w'.cell? ⟨(ad358.add ((x5_1).toNat * 2)).block,(ad358.add ((x5_1).toNat * 2)).off + 1,none⟩ = some (.string ((rd_T61 l1 x5_1).f1))) (ds:=[]) #[false,false,false,false,false,false,false,false,false,false] (by kernel_rfl) rfl rfl ⟨((HB.out.cell (World.block_lt_of_cell? w _ hw357_0)).trans hw357_0),((HB.out.cell (World.block_lt_of_cell? w _ hw357_1)).trans hw357_1),((HB.out.cell (World.block_lt_of_cell? w _ hw358_0)).trans hw358_0),((HB.out.cell (World.block_lt_of_cell? w _ hw358_1)).trans hw358_1)⟩ (fun hHeld=>?_);refine with_tabW laws_eqShardS.tab6 laws_eqShardS.bits6 (fun HT_ HW_=>?_)
      generalize wr.drew = w9 at HB hx357_0 hx357_1 hx358_0 hx358_1 hHeld ⊢
      refine pure_ (i:=0) (N:=some 17) #[true,false,false,false,false,false,false,false,false,false] rfl rfl (any_of HT_.out (by kernel_rfl)) (fun _ _ _ h=>h) (Or.inl ⟨by rfl,by intro w';go_simp;with_reducible rfl⟩) (by simp only [Act.put,List.setIfInBounds_toArray,List.set_cons_zero,List.set_cons_succ,i64_w,i32_w];rfl) ?_
      refine pure_ (i:=1) (N:=some 18) #[true,true,false,false,false,false,false,false,false,false] rfl rfl (any_of HT_.out (by kernel_rfl)) (fun _ _ _ h=>h) (Or.inl ⟨by rfl,by intro w';go_simp;with_reducible rfl⟩) (by simp only [Act.put,List.setIfInBounds_toArray,List.set_cons_zero,List.set_cons_succ,i64_w,i32_w];rfl) ?_
      refine pure_ (i:=2) (N:=some 19) #[true,true,true,false,false,false,false,false,false,false] rfl rfl (any_of HT_.out (by kernel_rfl)) (fun _ _ _ h=>h) (Or.inl ⟨by rfl,by intro w';go_simp;with_reducible rfl⟩) (by simp only [Act.put,List.setIfInBounds_toArray,List.set_cons_zero,List.set_cons_succ,i64_w,i32_w];rfl) ?_
      refine pure_ (i:=4) (N:=some 21) #[true,true,true,false,true,false,false,false,false,false] rfl rfl (any_of HT_.out (by kernel_rfl)) (fun _ _ _ h=>h) (Or.inl ⟨by rfl,by intro w';go_simp;with_reducible rfl⟩) (by simp only [Act.put,List.setIfInBounds_toArray,List.set_cons_zero,List.set_cons_succ,i64_w,i32_w];rfl) ?_
      refine pure_ (i:=5) (N:=some 22) #[true,true,true,false,true,true,false,false,false,false] rfl rfl (any_of HT_.out (by kernel_rfl)) (fun _ _ _ h=>h) (Or.inl ⟨by rfl,by intro w';go_simp;with_reducible rfl⟩) (by simp only [Act.put,List.setIfInBounds_toArray,List.set_cons_zero,List.set_cons_succ,i64_w,i32_w];rfl) ?_
      refine pure_ (i:=6) (N:=some 23) #[true,true,true,false,true,true,true,false,false,false] rfl rfl (any_of HT_.out (by kernel_rfl)) (fun _ _ _ h=>h) (Or.inl ⟨by rfl,by intro w';go_simp;with_reducible rfl⟩) (by simp only [Act.put,List.setIfInBounds_toArray,List.set_cons_zero,List.set_cons_succ,i64_w,i32_w];rfl) ?_
      refine take_ (i:=3) (N:=some 20) #[true,true,true,true,true,true,true,false,false,false] rfl rfl (take_ofW HT_.out HW_.out (by kernel_rfl)) (fun _ _ _ h=>h) (Or.inl ⟨by rfl,by rintro w' ⟨s0,s1,s2,s3⟩;go_simp;with_reducible rfl⟩) hHeld (by simp only [Act.put,List.setIfInBounds_toArray,List.set_cons_zero,List.set_cons_succ,i64_w,i32_w];rfl) ?_
      refine take_ (i:=7) (N:=some 24) #[true,true,true,true,true,true,true,true,false,false] rfl rfl (take_ofW HT_.out HW_.out (by kernel_rfl)) (fun _ _ _ h=>h) (Or.inl ⟨by rfl,by rintro w' ⟨s0,s1,s2,s3⟩;go_simp;with_reducible rfl⟩) hHeld (by simp only [Act.put,List.setIfInBounds_toArray,List.set_cons_zero,List.set_cons_succ,i64_w,i32_w];rfl) ?_
      refine one_ (i:=8) (N:=some 25) #[true,true,true,true,true,true,true,true,true,false] rfl rfl (one_of HT_.out (by kernel_rfl)) (by decide) (fun K hK=>?_)
      refine goes_ Try.func107 (by kernel_rfl) rfl #[.agg #[.bool ((rd_T61 l0 x5_1).f0),.string ((rd_T61 l0 x5_1).f1)],.agg #[.bool ((rd_T61 l1 x5_1).f0),.string ((rd_T61 l1 x5_1).f1)]] (by rfl) rfl rfl (by (try simp only [List.map_toArray,List.map_cons,List.map_nil]);rfl) ?_
      with_reducible refine (laws_eqShard.calls ((rd_T61 l0 x5_1).f0) ((rd_T61 l0 x5_1).f1) ((rd_T61 l1 x5_1).f0) ((rd_T61 l1 x5_1).f1) true _ A7.out).mono ?_
      rintro e w10 ⟨rfl,hb⟩
      refine ⟨_,rfl,?_⟩
      replace HB:=Aside0.mk (below_step HB.out hb)
      (try clear hb)
      refine hK.out _ _ ⟨((HB.out.cell (World.block_lt_of_cell? w _ hw357_0)).trans hw357_0),((HB.out.cell (World.block_lt_of_cell? w _ hw357_1)).trans hw357_1),((HB.out.cell (World.block_lt_of_cell? w _ hw358_0)).trans hw358_0),((HB.out.cell (World.block_lt_of_cell? w _ hw358_1)).trans hw358_1)⟩ (fun hHeld=>?_)
      clear hK K
      refine norm_ (a':=?_) ?_ ?_
      rotate_left
      ·show Act.put _ (some 25) _ = _
       simp only [Act.put,List.setIfInBounds_toArray,List.set_cons_zero,List.set_cons_succ,i64_w,i32_w]
       rfl
      refine pure_ (i:=9) (N:=some 26) #[true,true,true,true,true,true,true,true,true,true] rfl rfl (any_of HT_.out (by kernel_rfl)) (fun _ _ _ h=>h) (Or.inl ⟨by rfl,by intro w';go_simp;with_reducible rfl⟩) (by simp only [Act.put,List.setIfInBounds_toArray,List.set_cons_zero,List.set_cons_succ,i64_w,i32_w];rfl) ?_
      refine done_ (done_of HT_.out (by kernel_rfl)) ?_
      try go_wp2
      go_roundg k1
      case measure=>have:=HK1.out;omega
      case rel=>exact ⟨(wrap64 (x5_1 + 1)),(by rfl),H',⟨by have:=HK1.out;omega⟩,⟨HB.out⟩⟩
     ·replace c8:=Bool.eq_false_iff.mpr c8
      subst c8
      have H1 : (some false) = some r:=by rw [if_neg (show ¬ (false = true) by decide)] at H;exact H
      clear H
      have H:=H1
      clear H1
      obtain rfl:=Option.some.inj H
      try go_wp2
      replace HB:=Aside0.mk (below_drew1 HB.out)
      have p357 : 0 ≤ (x5_1 : Int):=of_decide_eq_true (by with_reducible assumption)
      have q357 : x5_1 < (l0.length : Int):=of_decide_eq_true (by with_reducible assumption)
      obtain ⟨ad357,e357,hx357_0,hx357_1⟩:=at_T61 HR0.out x5_1 p357 q357
      have hw357_1:=hx357_1
      have hw357_0:=hx357_0
      cases e357
      replace hx357_0:=(HB.out.cell (World.block_lt_of_cell? w _ hx357_0)).trans hx357_0
      replace hx357_1:=(HB.out.cell (World.block_lt_of_cell? w _ hx357_1)).trans hx357_1
      replace p357:=eq_true p357
      replace q357:=eq_true q357
      have p358 : 0 ≤ (x5_1 : Int):=of_decide_eq_true (by with_reducible assumption)
      have q358 : x5_1 < (l1.length : Int):=of_decide_eq_true (by with_reducible assumption)
      obtain ⟨ad358,e358,hx358_0,hx358_1⟩:=at_T61 HR1.out x5_1 p358 q358
      have hw358_1:=hx358_1
      have hw358_0:=hx358_0
      cases e358
      replace hx358_0:=(HB.out.cell (World.block_lt_of_cell? w _ hx358_0)).trans hx358_0
      replace hx358_1:=(HB.out.cell (World.block_lt_of_cell? w _ hx358_1)).trans hx358_1
      replace p358:=eq_true p358
      replace q358:=eq_true q358
      refine start_ (n:=10) (S:=fun w'=>w'.cell? (ad357.add ((x5_1).toNat * 2)) = some (.bool ((rd_T61 l0 x5_1).f0)) ∧ w'.cell? ⟨(ad357.add ((x5_1).toNat * 2)).block,(ad357.add ((x5_1).toNat * 2)).off + 1,none⟩ = some (.string ((rd_T61 l0 x5_1).f1)) ∧ w'.cell? (ad358.add ((x5_1).toNat * 2)) = some (.bool ((rd_T61 l1 x5_1).f0)) ∧ w'.cell? ⟨(ad358.add ((x5_1).toNat * 2)).block,(ad358.add ((x5_1).toNat * 2)).off + 1,none⟩ = some (.string ((rd_T61 l1 x5_1).f1))) (ds:=[]) #[false,false,false,false,false,false,false,false,false,false] (by kernel_rfl) rfl rfl ⟨((HB.out.cell (World.block_lt_of_cell? w _ hw357_0)).trans hw357_0),((HB.out.cell (World.block_lt_of_cell? w _ hw357_1)).trans hw357_1),((HB.out.cell (World.block_lt_of_cell? w _ hw358_0)).trans hw358_0),((HB.out.cell (World.block_lt_of_cell? w _ hw358_1)).trans hw358_1)⟩ (fun hHeld=>?_);refine with_tabW laws_eqShardS.tab6 laws_eqShardS.bits6 (fun HT_ HW_=>?_)
      generalize wr.drew = w11 at HB hx357_0 hx357_1 hx358_0 hx358_1 hHeld ⊢
      refine pure_ (i:=0) (N:=some 17) #[true,false,false,false,false,false,false,false,false,false] rfl rfl (any_of HT_.out (by kernel_rfl)) (fun _ _ _ h=>h) (Or.inl ⟨by rfl,by intro w';go_simp;with_reducible rfl⟩) (by simp only [Act.put,List.setIfInBounds_toArray,List.set_cons_zero,List.set_cons_succ,i64_w,i32_w];rfl) ?_
      refine pure_ (i:=1) (N:=some 18) #[true,true,false,false,false,false,false,false,false,false] rfl rfl (any_of HT_.out (by kernel_rfl)) (fun _ _ _ h=>h) (Or.inl ⟨by rfl,by intro w';go_simp;with_reducible rfl⟩) (by simp only [Act.put,List.setIfInBounds_toArray,List.set_cons_zero,List.set_cons_succ,i64_w,i32_w];rfl) ?_
      refine pure_ (i:=2) (N:=some 19) #[true,true,true,false,false,false,false,false,false,false] rfl rfl (any_of HT_.out (by kernel_rfl)) (fun _ _ _ h=>h) (Or.inl ⟨by rfl,by intro w';go_simp;with_reducible rfl⟩) (by simp only [Act.put,List.setIfInBounds_toArray,List.set_cons_zero,List.set_cons_succ,i64_w,i32_w];rfl) ?_
      refine pure_ (i:=4) (N:=some 21) #[true,true,true,false,true,false,false,false,false,false] rfl rfl (any_of HT_.out (by kernel_rfl)) (fun _ _ _ h=>h) (Or.inl ⟨by rfl,by intro w';go_simp;with_reducible rfl⟩) (by simp only [Act.put,List.setIfInBounds_toArray,List.set_cons_zero,List.set_cons_succ,i64_w,i32_w];rfl) ?_
      refine pure_ (i:=5) (N:=some 22) #[true,true,true,false,true,true,false,false,false,false] rfl rfl (any_of HT_.out (by kernel_rfl)) (fun _ _ _ h=>h) (Or.inl ⟨by rfl,by intro w';go_simp;with_reducible rfl⟩) (by simp only [Act.put,List.setIfInBounds_toArray,List.set_cons_zero,List.set_cons_succ,i64_w,i32_w];rfl) ?_
      refine pure_ (i:=6) (N:=some 23) #[true,true,true,false,true,true,true,false,false,false] rfl rfl (any_of HT_.out (by kernel_rfl)) (fun _ _ _ h=>h) (Or.inl ⟨by rfl,by intro w';go_simp;with_reducible rfl⟩) (by simp only [Act.put,List.setIfInBounds_toArray,List.set_cons_zero,List.set_cons_succ,i64_w,i32_w];rfl) ?_
      refine take_ (i:=3) (N:=some 20) #[true,true,true,true,true,true,true,false,false,false] rfl rfl (take_ofW HT_.out HW_.out (by kernel_rfl)) (fun _ _ _ h=>h) (Or.inl ⟨by rfl,by rintro w' ⟨s0,s1,s2,s3⟩;go_simp;with_reducible rfl⟩) hHeld (by simp only [Act.put,List.setIfInBounds_toArray,List.set_cons_zero,List.set_cons_succ,i64_w,i32_w];rfl) ?_
      refine take_ (i:=7) (N:=some 24) #[true,true,true,true,true,true,true,true,false,false] rfl rfl (take_ofW HT_.out HW_.out (by kernel_rfl)) (fun _ _ _ h=>h) (Or.inl ⟨by rfl,by rintro w' ⟨s0,s1,s2,s3⟩;go_simp;with_reducible rfl⟩) hHeld (by simp only [Act.put,List.setIfInBounds_toArray,List.set_cons_zero,List.set_cons_succ,i64_w,i32_w];rfl) ?_
      refine one_ (i:=8) (N:=some 25) #[true,true,true,true,true,true,true,true,true,false] rfl rfl (one_of HT_.out (by kernel_rfl)) (by decide) (fun K hK=>?_)
      refine goes_ Try.func107 (by kernel_rfl) rfl #[.agg #[.bool ((rd_T61 l0 x5_1).f0),.string ((rd_T61 l0 x5_1).f1)],.agg #[.bool ((rd_T61 l1 x5_1).f0),.string ((rd_T61 l1 x5_1).f1)]] (by rfl) rfl rfl (by (try simp only [List.map_toArray,List.map_cons,List.map_nil]);rfl) ?_
      with_reducible refine (laws_eqShard.calls ((rd_T61 l0 x5_1).f0) ((rd_T61 l0 x5_1).f1) ((rd_T61 l1 x5_1).f0) ((rd_T61 l1 x5_1).f1) false _ A7.out).mono ?_
      rintro e w12 ⟨rfl,hb⟩
      refine ⟨_,rfl,?_⟩
      replace HB:=Aside0.mk (below_step HB.out hb)
      (try clear hb)
      refine hK.out _ _ ⟨((HB.out.cell (World.block_lt_of_cell? w _ hw357_0)).trans hw357_0),((HB.out.cell (World.block_lt_of_cell? w _ hw357_1)).trans hw357_1),((HB.out.cell (World.block_lt_of_cell? w _ hw358_0)).trans hw358_0),((HB.out.cell (World.block_lt_of_cell? w _ hw358_1)).trans hw358_1)⟩ (fun hHeld=>?_)
      clear hK K
      refine norm_ (a':=?_) ?_ ?_
      rotate_left
      ·show Act.put _ (some 25) _ = _
       simp only [Act.put,List.setIfInBounds_toArray,List.set_cons_zero,List.set_cons_succ,i64_w,i32_w]
       rfl
      refine pure_ (i:=9) (N:=some 26) #[true,true,true,true,true,true,true,true,true,true] rfl rfl (any_of HT_.out (by kernel_rfl)) (fun _ _ _ h=>h) (Or.inl ⟨by rfl,by intro w';go_simp;with_reducible rfl⟩) (by simp only [Act.put,List.setIfInBounds_toArray,List.set_cons_zero,List.set_cons_succ,i64_w,i32_w];rfl) ?_
      refine done_ (done_of HT_.out (by kernel_rfl)) ?_
      try go_wp2
      go_ret
      exact ⟨by rfl,HB.out⟩
    ·rw [if_neg c4] at H
     have c4b0:=decide_eq_false c4
     clear c4
     obtain rfl:=Option.some.inj H
     go_wp2
     go_ret
     exact ⟨by rfl,HB.out⟩
 ·rw [if_neg c3] at H
  have c3b0 : ((l0.length : Int) == (l1.length : Int)) = false:=beq_eq_false_iff_ne.mpr c3
  have c3b1 : ((l0.length : Int) != (l1.length : Int)) = true:=bne_iff_ne.mpr c3
  have c3b2 : (l0.length == l1.length) = false:=by (simp at c3 ⊢;omega)
  obtain rfl:=Option.some.inj H
  go_enter Try.func48,Try.ntmps48
  go_wp2
  go_ret
  exact ⟨by rfl,HB.out⟩

/-! ### laws_markText: function 108 -/
def laws_markText.l0 : Nat → Int → ByteArray → Option (ByteArray)
 | 0,_,_=>none
 | k + 1,x0,x3=>if x0 > 0 then ((some (([(wrap64 (48 + (Int.tmod x0 10))) % 256] : List Int) : List Int)).bind fun y360=>(if (strOfNums y360).size + x3.size ≤ 9223372036854775807 then (laws_markText.l0 k (wrap64 (Int.tdiv x0 10)) ((strOfNums y360) ++ x3)) else (none))) else (if 1 + x3.size ≤ 9223372036854775807 then (some ((⟨#[109]⟩ : ByteArray) ++ x3)) else (none))
def laws_markText.f (k : Nat) (a0 : Int) : Option (ByteArray):=if a0 ≤ 0 then (some (⟨#[109,48]⟩ : ByteArray)) else (laws_markText.l0 k a0 (⟨#[]⟩ : ByteArray))
set_option maxHeartbeats 8000000 in
set_option maxRecDepth 100000 in
theorem laws_markText.calls (k : Nat) (a0 : Int) (r : ByteArray) (w : World) (h : laws_markText.f k a0 = some r) :
  Calls Try.prog 108 #[.int .i64 a0] w fun e w'=>e = .returned (.string r) ∧ Below w.heap.size w w':=by
 have HB:=Aside0.mk (Below.refl w.heap.size w)
 have H : (if a0 ≤ 0 then (some (⟨#[109,48]⟩ : ByteArray)) else (laws_markText.l0 k a0 (⟨#[]⟩ : ByteArray))) = some r:=h
 clear h
 by_cases c2 : a0 ≤ 0
 ·rw [if_pos c2] at H
  have c2b0:=decide_eq_true c2
  clear c2
  obtain rfl:=Option.some.inj H
  go_enter Try.func108,Try.ntmps108
  go_wp2
  go_ret
  exact ⟨by rfl,HB.out⟩
 ·rw [if_neg c2] at H
  have c2b0:=decide_eq_false c2
  clear c2
  have H':=Aside0.mk H
  clear H
  go_enter Try.func108,Try.ntmps108
  go_wp2
  go_loopg [0,3] k (fun kq v0 v3 w'=>∃ (x0_1 : Int) (x3_1 : ByteArray),v0 = .int .i64 x0_1 ∧ v3 = .string x3_1 ∧ Aside0 (laws_markText.l0 kq x0_1 x3_1 = some r) ∧ Aside0 (kq ≤ k) ∧ Aside0 (Below w.heap.size w w'))
  case atStart=>exact ⟨(a0),((⟨#[]⟩ : ByteArray)),(by rfl),(by rfl),H',⟨Nat.le_refl _⟩,⟨HB.out⟩⟩
  case round=>
   clear H'
   (try clear c2b0)
   obtain ⟨x0_1,x3_1,rfl,rfl,HA,HK1,HB⟩:=hrel
   cases gk with
   | zero=>exact absurd HA.out (by simp [laws_markText.l0])
   | succ k1=>
    have H:=HA.out
    clear HA
    simp only [laws_markText.l0] at H
    by_cases c3 : x0_1 > 0
    ·rw [if_pos c3] at H
     have c3b0:=decide_eq_true c3
     clear c3
     obtain ⟨y360,hy360⟩ : ∃ y_ : List Int,y_ = (([(wrap64 (48 + (Int.tmod x0_1 10))) % 256] : List Int)):=⟨_,rfl⟩
     replace H : (if (strOfNums y360).size + x3_1.size ≤ 9223372036854775807 then (laws_markText.l0 k1 (wrap64 (Int.tdiv x0_1 10)) ((strOfNums y360) ++ x3_1)) else (none)) = some r:=by (have H2_:=(Option.bind_some _ _).symm.trans H;rw [hy360];with_reducible exact H2_)
     have Ny360:=Aside0.mk hy360
     clear hy360
     obtain ⟨c4,H⟩:=nn H
     have c4b0:=eq_true c4
     have c4b1:=decide_eq_true c4
     try have c4b2 : (9223372036854775807 < (strOfNums y360).size + x3_1.size) = False:=eq_false (Nat.not_lt.2 c4)
     have H':=Aside0.mk H
     clear H
     go_wp2_with (((with_reducible refine gate_dst (N:=12) rfl ?_);refine Kd.R_lit (Kd.int .u8) _ 5 ?hg (N:=12) ?hd (xs:=([(wrap64 (48 + (Int.tmod x0_1 10))) % 256] : List Int)) (inner:=[.int .u8 ((wrap64 (48 + (Int.tmod x0_1 10))) % 256)]) (ok:=fun _=>True) (okp:=fun _=>True) ?hr ?hp (fun _ hk=>hk) trivial (Below.refl _ _) (Nat.le_refl _) (by simp) ?_;(case hd=>rfl);(case hg=>rfl);(case hr=>(go_simp;done));(case hp=>exact (Reps.one (show Kd.M (Kd.int .u8) _ _ _ ((wrap64 (48 + (Int.tmod x0_1 10))) % 256) [.int .u8 ((wrap64 (48 + (Int.tmod x0_1 10))) % 256)] from rfl) (Reps.none _ _)));intro v361 w5 ho6 hb hg_ hnew_;clear hg_ hnew_;(rw [← Ny360.out] at ho6);have HO362:=Aside0.mk (Kd.R_lower ho6 (below_size HB.out));replace HB:=Aside0.mk (below_step HB.out hb);clear hb ho6;have hcv7:=own_string (P:=Try.prog) Try.underlying37 Try.underlying5 Try.underlying9 (Kd.own_of_R HO362.out)))
     go_roundg k1
     case measure=>have:=HK1.out;omega
     case rel=>exact ⟨(wrap64 (Int.tdiv x0_1 10)),((strOfNums y360) ++ x3_1),(by rfl),(by rfl),H',⟨by have:=HK1.out;omega⟩,⟨HB.out⟩⟩
    ·rw [if_neg c3] at H
     have c3b0:=decide_eq_false c3
     clear c3
     obtain ⟨c8,H⟩:=nn H
     have c8b0:=eq_true c8
     have c8b1:=decide_eq_true c8
     try have c8b2 : (9223372036854775807 < 1 + x3_1.size) = False:=eq_false (Nat.not_lt.2 c8)
     obtain rfl:=Option.some.inj H
     go_wp2
     go_ret
     exact ⟨by rfl,HB.out⟩

/-! ### laws_markShardS: function 49 -/
def laws_markShardS.l0 : Nat → List (S61) → Int → Int → Option (Int × (List (S61)))
 | 0,_,_,_=>none
 | k + 1,x0,x1,x5=>if x5 < (x0.length : Int) then (if 0 ≤ x5 then ((some (x0.set (x5 : Int).toNat (⟨((Int.tmod x1 3) == 0),(rd_T61 x0 x5).f1⟩ : S61) : List (S61))).bind fun y363=>((laws_markText.f k (wrap64 (x1 + 1))).bind fun t364=>(laws_markShardS.l0 k (y363.set (x5 : Int).toNat (⟨(rd_T61 y363 x5).f0,t364⟩ : S61)) (wrap64 ((wrap64 (x1 + 1)) + 1)) (wrap64 (x5 + 1))))) else (none)) else (some (x1,x0))
def laws_markShardS.f (k : Nat) (l0 : List (S61)) (a1 : Int) : Option (Int × (List (S61))):=laws_markShardS.l0 k l0 a1 0
set_option maxHeartbeats 8000000 in
set_option maxRecDepth 100000 in
theorem laws_markShardS.calls (k : Nat) (P0_ : Nat → Prop) (u9000_ : Value) (l0 : List (S61)) (a1 : Int) (r1 : Int) (r2 : List (S61)) (w0 w : World) (hB : Below w0.heap.size w0 w) (ho0 : Kd.R k61 61 w w0.heap.size P0_ u9000_ l0) (h : laws_markShardS.f k l0 a1 = some (r1,r2)) :
  Calls Try.prog 49 #[u9000_,.int .i64 a1] w fun e w'=>e = .returned (.int .i64 r1) ∧ Kd.R k61 61 w' w0.heap.size (fun k_=>(P0_ k_ ∨ w.heap.size ≤ k_)) u9000_ r2 ∧ Below w0.heap.size w0 w' ∧ Kept w w' (fun k_=>P0_ k_):=by
 have HO0:=Aside0.mk (show Kd.R k61 61 w w0.heap.size (fun k_=>(P0_ k_ ∨ w.heap.size ≤ k_)) u9000_ l0 from Kd.R_mono ho0 (fun k_ hk=>(.inl hk)))
 have HK:=Aside0.mk (Kept.refl w (fun k_=>P0_ k_))
 have HW0:=Aside0.mk hB.size
 have HB:=Aside0.mk hB
 clear hB
 have H : (laws_markShardS.l0 k l0 a1 0) = some (r1,r2):=h
 clear h
 have H':=Aside0.mk H
 clear H
 go_enter Try.func49,Try.ntmps49
 go_wp2
 go_loopg [1,5] k (fun kq v1 v5 w'=>∃ (x0_1 : List (S61)) (x1_1 : Int) (x5_1 : Int),v1 = .int .i64 x1_1 ∧ v5 = .int .i64 x5_1 ∧ Aside0 (laws_markShardS.l0 kq x0_1 x1_1 x5_1 = some (r1,r2)) ∧ Aside0 (kq ≤ k) ∧ Aside0 (Kd.R k61 61 w' w0.heap.size (fun k_=>(P0_ k_ ∨ w.heap.size ≤ k_)) u9000_ x0_1) ∧ Aside0 (Kept w w' (fun k_=>P0_ k_)) ∧ Aside0 (Below w0.heap.size w0 w'))
 case atStart=>exact ⟨(l0),(a1),(0),(by rfl),(by rfl),H',⟨Nat.le_refl _⟩,⟨by exact HO0.out⟩,⟨HK.out⟩,⟨HB.out⟩⟩
 case round=>
  clear H'
  obtain ⟨x0_1,x1_1,x5_1,rfl,rfl,HA,HK1,HO_0,HK,HB⟩:=hrel
  cases gk with
  | zero=>exact absurd HA.out (by simp [laws_markShardS.l0])
  | succ k1=>
   have H:=HA.out
   clear HA
   simp only [laws_markShardS.l0] at H
   by_cases c3 : x5_1 < (x0_1.length : Int)
   ·rw [if_pos c3] at H
    have c3b0:=decide_eq_true c3
    clear c3
    obtain ⟨c4,H⟩:=nn H
    have c4b0:=decide_eq_true c4
    clear c4
    obtain ⟨y363,hy363⟩ : ∃ y_ : List (S61),y_ = (x0_1.set (x5_1 : Int).toNat (⟨((Int.tmod x1_1 3) == 0),(rd_T61 x0_1 x5_1).f1⟩ : S61)):=⟨_,rfl⟩
    replace H : ((laws_markText.f k1 (wrap64 (x1_1 + 1))).bind fun t364=>(laws_markShardS.l0 k1 (y363.set (x5_1 : Int).toNat (⟨(rd_T61 y363 x5_1).f0,t364⟩ : S61)) (wrap64 ((wrap64 (x1_1 + 1)) + 1)) (wrap64 (x5_1 + 1)))) = some (r1,r2):=by (have H2_:=(Option.bind_some _ _).symm.trans H;rw [hy363];with_reducible exact H2_)
    have Ny363:=Aside0.mk hy363
    clear hy363
    replace H:=Option.bind_eq_some_iff.mp H
    obtain ⟨t364,A60,H⟩:=H
    replace H : (laws_markShardS.l0 k1 (y363.set (x5_1 : Int).toNat (⟨(rd_T61 y363 x5_1).f0,t364⟩ : S61)) (wrap64 ((wrap64 (x1_1 + 1)) + 1)) (wrap64 (x5_1 + 1))) = some (r1,r2):=H
    have A6:=Aside0.mk A60
    clear A60
    obtain ⟨y365,hy365⟩ : ∃ y_ : List (S61),y_ = (y363.set (x5_1 : Int).toNat (⟨(rd_T61 y363 x5_1).f0,t364⟩ : S61)):=⟨_,rfl⟩
    rw [← hy365] at H
    have Ny365:=Aside0.mk hy365
    clear hy365
    have H':=Aside0.mk H
    clear H
    obtain ⟨Ao8,co8,eo8⟩:=Kd.R_slice HO_0.out
    subst eo8
    have p5 : 0 ≤ (x5_1 : Int):=of_decide_eq_true (by with_reducible assumption)
    have q5 : (x5_1 : Int) < ((x0_1.length : Int) : Int):=of_decide_eq_true (by with_reducible assumption)
    obtain ⟨go5,co5,eo5,gb5,gl5,cl5,HG5⟩:=Kd.R_form HO_0.out (by omega)
    (cases eo5)
    have GB5:=Aside0.mk gb5
    have GG5:=Aside0.mk HG5
    clear gb5 gl5 HG5
    have HMgo5:=Aside0.mk (show (P0_ go5 ∨ w.heap.size ≤ go5) from (HO_0.out.1 _ rfl))
    obtain ⟨ce5,hcl5,hM5,hcc5,hfr5⟩:=Kd.R_elem HO_0.out z61 (x5_1 : Int) p5 q5
    obtain rfl:=k61_openM hM5
    have hx5_0 : wr.cell? ⟨go5,(x5_1 : Int).toNat * 2,none⟩ = some (.bool ((rd_T61 x0_1 x5_1).f0)):=hcc5 0 _ rfl
    have hx5_1 : wr.cell? ⟨go5,(x5_1 : Int).toNat * 2 + 1,none⟩ = some (.string ((rd_T61 x0_1 x5_1).f1)):=hcc5 1 _ rfl
    have hf5_0 : wr.frozen? ⟨go5,(x5_1 : Int).toNat * 2,none⟩ = false:=hfr5 0
    have hf5_1 : wr.frozen? ⟨go5,(x5_1 : Int).toNat * 2 + 1,none⟩ = false:=hfr5 1
    clear hcl5 hcc5 hfr5 hM5
    replace p5:=eq_true p5
    replace q5:=eq_true q5
    have HX9:=Aside0.mk (show Kd.R k61 61 wr w0.heap.size (fun k_=>(P0_ k_ ∨ w.heap.size ≤ k_)) (.slice (some ⟨go5,0,none⟩) x0_1.length co8) x0_1 from HO_0.out)
    obtain ⟨ce9,hcl9,hM9,hcc9,hfr9⟩:=Kd.R_elem HX9.out z61 (x5_1 : Int) (of_decide_eq_true (by with_reducible assumption)) (by have h_ : (x5_1 : Int) < ((x0_1.length : Int) : Int):=of_decide_eq_true (by with_reducible assumption);exact h_)
    obtain rfl:=k61_openM hM9
    have HP9:=Kd.R_seg HX9.out (x5_1 : Int) (of_decide_eq_true (by with_reducible assumption)) (by have h_ : (x5_1 : Int) < ((x0_1.length : Int) : Int):=of_decide_eq_true (by with_reducible assumption);exact h_) (seg:=[.bool ((Int.tmod x1_1 3) == 0)]) (j:=0) hcl9 hcc9 (show 1 ≤ 2 from by decide) (x':=(⟨((Int.tmod x1_1 3) == 0),(rd_T61 x0_1 x5_1).f1⟩ : S61)) (k61_mkM _ _ _ (⟨((Int.tmod x1_1 3) == 0),(rd_T61 x0_1 x5_1).f1⟩ : S61) ) (fun _ hk=>hk)
    have hx9_0:=hcc9 0 _ rfl
    (try simp only [show (k61).sz = 2 from rfl,Nat.mul_one,Nat.add_zero] at hx9_0)
    have hf9_0:=hfr9 0
    (try simp only [show (k61).sz = 2 from rfl,Nat.mul_one,Nat.add_zero] at hf9_0)
    clear hcl9 hcc9 hfr9 hM9
    go_wp2_with (first|((with_reducible refine gate_store (t:=4) (p:=18) rfl ?_);refine store_event (t:=4) (p:=18) (v:=?vo_w10) (w1:=(wr.setCell ⟨go5,(x5_1 : Int).toNat * 2,none⟩ (.bool ((Int.tmod x1_1 3) == 0)))) ?hg ?ho ?hn ?hr ?_;(case ho=>rfl);(case hg=>rfl);(case hn=>rfl);(case hr=>(go_simp;done));intro w10 hw;have hg : wr.grownBy w10 (some go5):=(by rw [hw];exact HP9.2);have hp_ : Kd.R k61 61 w10 w0.heap.size (fun k_=>(P0_ k_ ∨ w.heap.size ≤ k_)) (.slice (some ⟨go5,0,none⟩) x0_1.length co8) y363:=(by rw [hw,Ny363.out];exact HP9.1);clear HP9;replace HB:=Aside0.mk ((by rw [hw];exact below_set (HB.out) GB5.out : Below w0.heap.size w0 w10));replace HK:=Aside0.mk (Kept.of_grown (S:=(fun k_=>P0_ k_)) hg HK.out (fun k_ e_=>(HO_0.out.1 k_ e_)));replace HO_0:=Aside0.mk (hp_);clear hg hw hp_)|((with_reducible refine gate_callee (f:=108) rfl ?_);refine goesL_ (some 24) rfl rfl Try.func108 (by kernel_rfl) rfl #[.int .i64 (wrap64 (x1_1 + 1))] rfl (by (try simp only [List.map_toArray,List.map_cons,List.map_nil]);rfl) ?_;(with_reducible refine (laws_markText.calls k1 (wrap64 (x1_1 + 1)) t364 _ A6.out).mono ?_);rintro e w11 ⟨rfl,hb⟩;refine ⟨_,rfl,?_⟩;replace HO_0:=Aside0.mk (Kd.R_below HO_0.out hb);replace HK:=Aside0.mk (Kept.below (S:=(fun k_=>P0_ k_)) HK.out hb);replace HB:=Aside0.mk (below_step HB.out hb);(try clear hb);have p7 : 0 ≤ (x5_1 : Int):=of_decide_eq_true (by with_reducible assumption);have q7 : (x5_1 : Int) < ((x0_1.length : Int) : Int):=of_decide_eq_true (by with_reducible assumption);obtain ⟨ce7,hcl7,hM7,hcc7,hfr7⟩:=Kd.R_elem HO_0.out z61 (x5_1 : Int) p7 q7;obtain rfl:=k61_openM hM7;have hx7_0 : w11.cell? ⟨go5,(x5_1 : Int).toNat * 2,none⟩ = some (.bool ((rd_T61 y363 x5_1).f0)):=hcc7 0 _ rfl;have hx7_1 : w11.cell? ⟨go5,(x5_1 : Int).toNat * 2 + 1,none⟩ = some (.string ((rd_T61 y363 x5_1).f1)):=hcc7 1 _ rfl;have hf7_0 : w11.frozen? ⟨go5,(x5_1 : Int).toNat * 2,none⟩ = false:=hfr7 0;have hf7_1 : w11.frozen? ⟨go5,(x5_1 : Int).toNat * 2 + 1,none⟩ = false:=hfr7 1;clear hcl7 hcc7 hfr7 hM7;replace p7:=eq_true p7;replace q7:=eq_true q7;have HX12:=Aside0.mk (show Kd.R k61 61 w11 w0.heap.size (fun k_=>(P0_ k_ ∨ w.heap.size ≤ k_)) (.slice (some ⟨go5,0,none⟩) x0_1.length co8) y363 from HO_0.out);obtain ⟨ce12,hcl12,hM12,hcc12,hfr12⟩:=Kd.R_elem HX12.out z61 (x5_1 : Int) (of_decide_eq_true (by with_reducible assumption)) (by have h_ : (x5_1 : Int) < ((x0_1.length : Int) : Int):=of_decide_eq_true (by with_reducible assumption);exact h_);obtain rfl:=k61_openM hM12;have HP12:=Kd.R_seg HX12.out (x5_1 : Int) (of_decide_eq_true (by with_reducible assumption)) (by have h_ : (x5_1 : Int) < ((x0_1.length : Int) : Int):=of_decide_eq_true (by with_reducible assumption);exact h_) (seg:=[.string t364]) (j:=1) hcl12 hcc12 (show 2 ≤ 2 from by decide) (x':=(⟨(rd_T61 y363 x5_1).f0,t364⟩ : S61)) (k61_mkM _ _ _ (⟨(rd_T61 y363 x5_1).f0,t364⟩ : S61) ) (fun _ hk=>hk);have hx12_1:=hcc12 1 _ rfl;(try simp only [show (k61).sz = 2 from rfl,Nat.mul_one,Nat.add_zero] at hx12_1);have hf12_1:=hfr12 1;(try simp only [show (k61).sz = 2 from rfl,Nat.mul_one,Nat.add_zero] at hf12_1);clear hcl12 hcc12 hfr12 hM12)|((with_reducible refine gate_store (t:=9) (p:=26) rfl ?_);refine store_event (t:=9) (p:=26) (v:=?vo_w13) (w1:=(w11.setCell ⟨go5,(x5_1 : Int).toNat * 2 + 1,none⟩ (.string t364))) ?hg ?ho ?hn ?hr ?_;(case ho=>rfl);(case hg=>rfl);(case hn=>rfl);(case hr=>(go_simp;done));intro w13 hw;have hg : w11.grownBy w13 (some go5):=(by rw [hw];exact HP12.2);have hp_ : Kd.R k61 61 w13 w0.heap.size (fun k_=>(P0_ k_ ∨ w.heap.size ≤ k_)) (.slice (some ⟨go5,0,none⟩) x0_1.length co8) y365:=(by rw [hw,Ny365.out];exact HP12.1);clear HP12;replace HB:=Aside0.mk ((by rw [hw];exact below_set (HB.out) GB5.out : Below w0.heap.size w0 w13));replace HK:=Aside0.mk (Kept.of_grown (S:=(fun k_=>P0_ k_)) hg HK.out (fun k_ e_=>(HO_0.out.1 k_ e_)));replace HO_0:=Aside0.mk (hp_);clear hg hw hp_))
    go_roundg k1
    case measure=>have:=HK1.out;omega
    case rel=>exact ⟨(y365),(wrap64 ((wrap64 (x1_1 + 1)) + 1)),(wrap64 (x5_1 + 1)),(by rfl),(by rfl),H',⟨by have:=HK1.out;omega⟩,⟨by exact HO_0.out⟩,⟨HK.out⟩,⟨HB.out⟩⟩
   ·rw [if_neg c3] at H
    have c3b0:=decide_eq_false c3
    clear c3
    simp only [Option.some.injEq,Prod.mk.injEq] at H
    obtain ⟨rfl,rfl⟩:=H
    obtain ⟨Ao14,co14,eo14⟩:=Kd.R_slice HO_0.out
    subst eo14
    go_wp2
    go_ret
    exact ⟨by rfl,by exact HO_0.out,HB.out,HK.out⟩

end Go.Proofs.Ytffhbpepppodeaa.PFnExactDecodeShards
