import Derived.Test.YtffhbpepppodeaaPFnExactDecodeShardsx0
namespace Go.Proofs.Ytffhbpepppodeaa.PFnExactDecodeShards
private theorem nn {α : Type} {c : Prop} [Decidable c] {a : Option α} {r : α} (h : (if c then a else none) = some r) : c ∧ a = some r:=by
 split at h
 ·exact ⟨‹c›,h⟩
 ·cases h
open Go.RowKit Go.Proofs.YtffhbpepppodeaaW.PrintWords Go.Proofs.YtffhbpepppodeaaW.PrintLast Go.Proofs.YtffhbpepppodeaaW.PrintMore
attribute [local go_sem] max2_int min2_int max_two min_two max_three min_three max_four min_four   -- for this text's walks alone
set_option linter.unusedVariables false
set_option linter.unusedSimpArgs false

/-! ### impl_bytes8: function 118 -/
/-! ### impl_field_uint8_double: function 119 -/








/-! ### impl_CodeFault: function 87 -/
def impl_CodeFault.f (a0_0 : Int) (a0_1 : Int) (a0_2 : Int) : Option (Int):=if a0_0 < 1 then (some 1) else (if a0_0 > 32 then (some 1) else (if a0_1 < 0 then (some 1) else (if a0_1 > 16 then (some 1) else (if a0_2 < 0 then (some 1) else (if a0_2 > a0_0 then (some 1) else (if (wrap64 ((wrap64 (a0_0 + a0_1)) + a0_2)) > 64 then (some 1) else (some 0)))))))
set_option maxHeartbeats 8000000 in
set_option maxRecDepth 100000 in
theorem impl_CodeFault.calls (a0_0 : Int) (a0_1 : Int) (a0_2 : Int) (r : Int) (w : World) (h : impl_CodeFault.f a0_0 a0_1 a0_2 = some r) :
  Calls Try.prog 87 #[.agg #[.int .i64 a0_0,.int .i64 a0_1,.int .i64 a0_2]] w fun e w'=>e = .returned (.int .i64 r) ∧ Below w.heap.size w w':=by
 have hu43:=Try.underlying43
 have HB:=Aside0.mk (Below.refl w.heap.size w)
 have H : (if a0_0 < 1 then (some 1) else (if a0_0 > 32 then (some 1) else (if a0_1 < 0 then (some 1) else (if a0_1 > 16 then (some 1) else (if a0_2 < 0 then (some 1) else (if a0_2 > a0_0 then (some 1) else (if (wrap64 ((wrap64 (a0_0 + a0_1)) + a0_2)) > 64 then (some 1) else (some 0)))))))) = some r:=h
 clear h
 by_cases c2 : a0_0 < 1
 ·rw [if_pos c2] at H
  have c2b0:=decide_eq_true c2
  clear c2
  obtain rfl:=Option.some.inj H
  go_enter Try.func87,Try.ntmps87
  go_wp2_with (((with_reducible refine gate_dst (N:=1) rfl ?_);refine box_event ?hg (N:=1) ?hd (cs:=#[.int .i64 a0_0,.int .i64 a0_1,.int .i64 a0_2]) (t:=43) ?hr ?_;(case hd=>rfl);(case hg=>rfl);(case hr=>(go_simp;done));intro gb103 hg w3 hbox hb;have BK103:=Aside0.mk (hbox);have GW103:=Aside0.mk ((by rw [hg];exact (below_size HB.out) : w.heap.size ≤ gb103));have GE103:=Aside0.mk ((by rw [hg];exact (below_size HB.out) : w.heap.size ≤ gb103));replace HB:=Aside0.mk (below_step HB.out hb);clear hb hbox hg;have hcz4_0 : w3.cell? ⟨gb103,0,none⟩ = some (.int .i64 a0_0):=(blk_cell BK103.out 0).trans rfl;have hcz4_1 : w3.cell? ⟨gb103,1,none⟩ = some (.int .i64 a0_1):=(blk_cell BK103.out 1).trans rfl;have hcz4_2 : w3.cell? ⟨gb103,2,none⟩ = some (.int .i64 a0_2):=(blk_cell BK103.out 2).trans rfl;have hfz4_0:=blk_frozen BK103.out 0;have hfz4_1:=blk_frozen BK103.out 1;have hfz4_2:=blk_frozen BK103.out 2))
  go_ret
  exact ⟨by rfl,HB.out⟩
 ·rw [if_neg c2] at H
  have c2b0:=decide_eq_false c2
  clear c2
  by_cases c5 : a0_0 > 32
  ·rw [if_pos c5] at H
   have c5b0:=decide_eq_true c5
   clear c5
   obtain rfl:=Option.some.inj H
   go_enter Try.func87,Try.ntmps87
   go_wp2_with (((with_reducible refine gate_dst (N:=1) rfl ?_);refine box_event ?hg (N:=1) ?hd (cs:=#[.int .i64 a0_0,.int .i64 a0_1,.int .i64 a0_2]) (t:=43) ?hr ?_;(case hd=>rfl);(case hg=>rfl);(case hr=>(go_simp;done));intro gb103 hg w6 hbox hb;have BK103:=Aside0.mk (hbox);have GW103:=Aside0.mk ((by rw [hg];exact (below_size HB.out) : w.heap.size ≤ gb103));have GE103:=Aside0.mk ((by rw [hg];exact (below_size HB.out) : w.heap.size ≤ gb103));replace HB:=Aside0.mk (below_step HB.out hb);clear hb hbox hg;have hcz7_0 : w6.cell? ⟨gb103,0,none⟩ = some (.int .i64 a0_0):=(blk_cell BK103.out 0).trans rfl;have hcz7_1 : w6.cell? ⟨gb103,1,none⟩ = some (.int .i64 a0_1):=(blk_cell BK103.out 1).trans rfl;have hcz7_2 : w6.cell? ⟨gb103,2,none⟩ = some (.int .i64 a0_2):=(blk_cell BK103.out 2).trans rfl;have hfz7_0:=blk_frozen BK103.out 0;have hfz7_1:=blk_frozen BK103.out 1;have hfz7_2:=blk_frozen BK103.out 2))
   go_ret
   exact ⟨by rfl,HB.out⟩
  ·rw [if_neg c5] at H
   have c5b0:=decide_eq_false c5
   clear c5
   by_cases c8 : a0_1 < 0
   ·rw [if_pos c8] at H
    have c8b0:=decide_eq_true c8
    clear c8
    obtain rfl:=Option.some.inj H
    go_enter Try.func87,Try.ntmps87
    go_wp2_with (((with_reducible refine gate_dst (N:=1) rfl ?_);refine box_event ?hg (N:=1) ?hd (cs:=#[.int .i64 a0_0,.int .i64 a0_1,.int .i64 a0_2]) (t:=43) ?hr ?_;(case hd=>rfl);(case hg=>rfl);(case hr=>(go_simp;done));intro gb103 hg w9 hbox hb;have BK103:=Aside0.mk (hbox);have GW103:=Aside0.mk ((by rw [hg];exact (below_size HB.out) : w.heap.size ≤ gb103));have GE103:=Aside0.mk ((by rw [hg];exact (below_size HB.out) : w.heap.size ≤ gb103));replace HB:=Aside0.mk (below_step HB.out hb);clear hb hbox hg;have hcz10_0 : w9.cell? ⟨gb103,0,none⟩ = some (.int .i64 a0_0):=(blk_cell BK103.out 0).trans rfl;have hcz10_1 : w9.cell? ⟨gb103,1,none⟩ = some (.int .i64 a0_1):=(blk_cell BK103.out 1).trans rfl;have hcz10_2 : w9.cell? ⟨gb103,2,none⟩ = some (.int .i64 a0_2):=(blk_cell BK103.out 2).trans rfl;have hfz10_0:=blk_frozen BK103.out 0;have hfz10_1:=blk_frozen BK103.out 1;have hfz10_2:=blk_frozen BK103.out 2))
    go_ret
    exact ⟨by rfl,HB.out⟩
   ·rw [if_neg c8] at H
    have c8b0:=decide_eq_false c8
    clear c8
    by_cases c11 : a0_1 > 16
    ·rw [if_pos c11] at H
     have c11b0:=decide_eq_true c11
     clear c11
     obtain rfl:=Option.some.inj H
     go_enter Try.func87,Try.ntmps87
     go_wp2_with (((with_reducible refine gate_dst (N:=1) rfl ?_);refine box_event ?hg (N:=1) ?hd (cs:=#[.int .i64 a0_0,.int .i64 a0_1,.int .i64 a0_2]) (t:=43) ?hr ?_;(case hd=>rfl);(case hg=>rfl);(case hr=>(go_simp;done));intro gb103 hg w12 hbox hb;have BK103:=Aside0.mk (hbox);have GW103:=Aside0.mk ((by rw [hg];exact (below_size HB.out) : w.heap.size ≤ gb103));have GE103:=Aside0.mk ((by rw [hg];exact (below_size HB.out) : w.heap.size ≤ gb103));replace HB:=Aside0.mk (below_step HB.out hb);clear hb hbox hg;have hcz13_0 : w12.cell? ⟨gb103,0,none⟩ = some (.int .i64 a0_0):=(blk_cell BK103.out 0).trans rfl;have hcz13_1 : w12.cell? ⟨gb103,1,none⟩ = some (.int .i64 a0_1):=(blk_cell BK103.out 1).trans rfl;have hcz13_2 : w12.cell? ⟨gb103,2,none⟩ = some (.int .i64 a0_2):=(blk_cell BK103.out 2).trans rfl;have hfz13_0:=blk_frozen BK103.out 0;have hfz13_1:=blk_frozen BK103.out 1;have hfz13_2:=blk_frozen BK103.out 2))
     go_ret
     exact ⟨by rfl,HB.out⟩
    ·rw [if_neg c11] at H
     have c11b0:=decide_eq_false c11
     clear c11
     by_cases c14 : a0_2 < 0
     ·rw [if_pos c14] at H
      have c14b0:=decide_eq_true c14
      clear c14
      obtain rfl:=Option.some.inj H
      go_enter Try.func87,Try.ntmps87
      go_wp2_with (((with_reducible refine gate_dst (N:=1) rfl ?_);refine box_event ?hg (N:=1) ?hd (cs:=#[.int .i64 a0_0,.int .i64 a0_1,.int .i64 a0_2]) (t:=43) ?hr ?_;(case hd=>rfl);(case hg=>rfl);(case hr=>(go_simp;done));intro gb103 hg w15 hbox hb;have BK103:=Aside0.mk (hbox);have GW103:=Aside0.mk ((by rw [hg];exact (below_size HB.out) : w.heap.size ≤ gb103));have GE103:=Aside0.mk ((by rw [hg];exact (below_size HB.out) : w.heap.size ≤ gb103));replace HB:=Aside0.mk (below_step HB.out hb);clear hb hbox hg;have hcz16_0 : w15.cell? ⟨gb103,0,none⟩ = some (.int .i64 a0_0):=(blk_cell BK103.out 0).trans rfl;have hcz16_1 : w15.cell? ⟨gb103,1,none⟩ = some (.int .i64 a0_1):=(blk_cell BK103.out 1).trans rfl;have hcz16_2 : w15.cell? ⟨gb103,2,none⟩ = some (.int .i64 a0_2):=(blk_cell BK103.out 2).trans rfl;have hfz16_0:=blk_frozen BK103.out 0;have hfz16_1:=blk_frozen BK103.out 1;have hfz16_2:=blk_frozen BK103.out 2))
      go_ret
      exact ⟨by rfl,HB.out⟩
     ·rw [if_neg c14] at H
      have c14b0:=decide_eq_false c14
      clear c14
      by_cases c17 : a0_2 > a0_0
      ·rw [if_pos c17] at H
       have c17b0:=decide_eq_true c17
       clear c17
       obtain rfl:=Option.some.inj H
       go_enter Try.func87,Try.ntmps87
       go_wp2_with (((with_reducible refine gate_dst (N:=1) rfl ?_);refine box_event ?hg (N:=1) ?hd (cs:=#[.int .i64 a0_0,.int .i64 a0_1,.int .i64 a0_2]) (t:=43) ?hr ?_;(case hd=>rfl);(case hg=>rfl);(case hr=>(go_simp;done));intro gb103 hg w18 hbox hb;have BK103:=Aside0.mk (hbox);have GW103:=Aside0.mk ((by rw [hg];exact (below_size HB.out) : w.heap.size ≤ gb103));have GE103:=Aside0.mk ((by rw [hg];exact (below_size HB.out) : w.heap.size ≤ gb103));replace HB:=Aside0.mk (below_step HB.out hb);clear hb hbox hg;have hcz19_0 : w18.cell? ⟨gb103,0,none⟩ = some (.int .i64 a0_0):=(blk_cell BK103.out 0).trans rfl;have hcz19_1 : w18.cell? ⟨gb103,1,none⟩ = some (.int .i64 a0_1):=(blk_cell BK103.out 1).trans rfl;have hcz19_2 : w18.cell? ⟨gb103,2,none⟩ = some (.int .i64 a0_2):=(blk_cell BK103.out 2).trans rfl;have hfz19_0:=blk_frozen BK103.out 0;have hfz19_1:=blk_frozen BK103.out 1;have hfz19_2:=blk_frozen BK103.out 2))
       go_ret
       exact ⟨by rfl,HB.out⟩
      ·rw [if_neg c17] at H
       have c17b0:=decide_eq_false c17
       clear c17
       by_cases c20 : (wrap64 ((wrap64 (a0_0 + a0_1)) + a0_2)) > 64
       ·rw [if_pos c20] at H
        have c20b0:=decide_eq_true c20
        clear c20
        obtain rfl:=Option.some.inj H
        go_enter Try.func87,Try.ntmps87
        go_wp2_with (((with_reducible refine gate_dst (N:=1) rfl ?_);refine box_event ?hg (N:=1) ?hd (cs:=#[.int .i64 a0_0,.int .i64 a0_1,.int .i64 a0_2]) (t:=43) ?hr ?_;(case hd=>rfl);(case hg=>rfl);(case hr=>(go_simp;done));intro gb103 hg w21 hbox hb;have BK103:=Aside0.mk (hbox);have GW103:=Aside0.mk ((by rw [hg];exact (below_size HB.out) : w.heap.size ≤ gb103));have GE103:=Aside0.mk ((by rw [hg];exact (below_size HB.out) : w.heap.size ≤ gb103));replace HB:=Aside0.mk (below_step HB.out hb);clear hb hbox hg;have hcz22_0 : w21.cell? ⟨gb103,0,none⟩ = some (.int .i64 a0_0):=(blk_cell BK103.out 0).trans rfl;have hcz22_1 : w21.cell? ⟨gb103,1,none⟩ = some (.int .i64 a0_1):=(blk_cell BK103.out 1).trans rfl;have hcz22_2 : w21.cell? ⟨gb103,2,none⟩ = some (.int .i64 a0_2):=(blk_cell BK103.out 2).trans rfl;have hfz22_0:=blk_frozen BK103.out 0;have hfz22_1:=blk_frozen BK103.out 1;have hfz22_2:=blk_frozen BK103.out 2))
        go_ret
        exact ⟨by rfl,HB.out⟩
       ·rw [if_neg c20] at H
        have c20b0:=decide_eq_false c20
        clear c20
        obtain rfl:=Option.some.inj H
        go_enter Try.func87,Try.ntmps87
        go_wp2_with (((with_reducible refine gate_dst (N:=1) rfl ?_);refine box_event ?hg (N:=1) ?hd (cs:=#[.int .i64 a0_0,.int .i64 a0_1,.int .i64 a0_2]) (t:=43) ?hr ?_;(case hd=>rfl);(case hg=>rfl);(case hr=>(go_simp;done));intro gb103 hg w23 hbox hb;have BK103:=Aside0.mk (hbox);have GW103:=Aside0.mk ((by rw [hg];exact (below_size HB.out) : w.heap.size ≤ gb103));have GE103:=Aside0.mk ((by rw [hg];exact (below_size HB.out) : w.heap.size ≤ gb103));replace HB:=Aside0.mk (below_step HB.out hb);clear hb hbox hg;have hcz24_0 : w23.cell? ⟨gb103,0,none⟩ = some (.int .i64 a0_0):=(blk_cell BK103.out 0).trans rfl;have hcz24_1 : w23.cell? ⟨gb103,1,none⟩ = some (.int .i64 a0_1):=(blk_cell BK103.out 1).trans rfl;have hcz24_2 : w23.cell? ⟨gb103,2,none⟩ = some (.int .i64 a0_2):=(blk_cell BK103.out 2).trans rfl;have hfz24_0:=blk_frozen BK103.out 0;have hfz24_1:=blk_frozen BK103.out 1;have hfz24_2:=blk_frozen BK103.out 2))
        go_ret
        exact ⟨by rfl,HB.out⟩

/-! ### impl_oneLength: function 88 -/
def impl_oneLength.l0 : Nat → List ByteArray → List ByteArray → Int → Int → Option (Bool)
 | 0,_,_,_,_=>none
 | k + 1,x0,x5,x6,x7=>if x7 < x6 then (if 0 ≤ x7 then (if x7 < (x5.length : Int) then (if ((rdOf ByteArray.empty x5 x7).size : Int) < 1 then (some false) else (if ((rdOf ByteArray.empty x5 x7).size : Int) > 4096 then (some false) else (if 0 < (x0.length : Int) then (if ((rdOf ByteArray.empty x5 x7).size : Int) = ((rdOf ByteArray.empty x0 0).size : Int) then (impl_oneLength.l0 k x0 x5 x6 (wrap64 (x7 + 1))) else (some false)) else (none)))) else (none)) else (none)) else (some true)
def impl_oneLength.f (k : Nat) (l0 : List ByteArray) : Option (Bool):=impl_oneLength.l0 k l0 l0 (l0.length : Int) 0
set_option maxHeartbeats 8000000 in
set_option maxRecDepth 100000 in
theorem impl_oneLength.calls (k : Nat) (A0 : Option Addr) (c0 : Nat) (l0 : List ByteArray) (r : Bool) (w : World) (hr0 : Kd.C Kd.string w A0 l0.length l0) (hc0 : l0.length ≤ c0) (h : impl_oneLength.f k l0 = some r) :
  Calls Try.prog 88 #[.slice A0 l0.length c0] w fun e w'=>e = .returned (.bool r) ∧ Drawn0 w w':=by
 have HR0:=Aside0.mk hr0
 have HC0:=Aside0.mk hc0
 clear hr0 hc0
 have H : (impl_oneLength.l0 k l0 l0 (l0.length : Int) 0) = some r:=h
 clear h
 have H':=Aside0.mk H
 clear H
 go_enter Try.func88,Try.ntmps88
 go_wp2
 go_loopg [7] k (fun kq v7 w'=>∃ (x7_1 : Int),v7 = .int .i64 x7_1 ∧ Aside0 (impl_oneLength.l0 kq l0 l0 (l0.length : Int) x7_1 = some r) ∧ Aside0 (kq ≤ k) ∧ Drawn0 w w')
 case atStart=>exact ⟨(0),(by rfl),H',⟨Nat.le_refl _⟩,by repeat (exact Drawn0.refl _)⟩
 case round=>
  clear H'
  obtain ⟨x7_1,rfl,HA,HK1,⟨m1,rfl⟩⟩:=hrel
  cases gk with
  | zero=>exact absurd HA.out (by simp [impl_oneLength.l0])
  | succ k1=>
   have H:=HA.out
   clear HA
   simp only [impl_oneLength.l0] at H
   by_cases c2 : x7_1 < (l0.length : Int)
   ·rw [if_pos c2] at H
    have c2b0:=decide_eq_true c2
    clear c2
    obtain ⟨c3,H⟩:=nn H
    have c3b0:=decide_eq_true c3
    clear c3
    obtain ⟨c4,H⟩:=nn H
    have c4b0:=decide_eq_true c4
    clear c4
    by_cases c5 : ((rdOf ByteArray.empty l0 x7_1).size : Int) < 1
    ·rw [if_pos c5] at H
     have c5b0:=decide_eq_true c5
     have c5b1 : decide ((rdOf ByteArray.empty l0 x7_1).size < 1) = true:=decide_eq_true (by omega)
     clear c5
     obtain rfl:=Option.some.inj H
     have p104 : 0 ≤ (x7_1 : Int):=of_decide_eq_true (by with_reducible assumption)
     have q104 : x7_1 < (l0.length : Int):=of_decide_eq_true (by with_reducible assumption)
     obtain ⟨ad104,e104,hx104_0⟩:=Kd.at_string HR0.out x7_1 p104 q104
     cases e104
     replace p104:=eq_true p104
     replace q104:=eq_true q104
     go_wp2
     go_ret
     exact ⟨by rfl,by repeat (first|exact Drawn0.refl _|apply Drawn0.step)⟩
    ·rw [if_neg c5] at H
     have c5b0:=decide_eq_false c5
     have c5b1 : decide ((rdOf ByteArray.empty l0 x7_1).size < 1) = false:=decide_eq_false (by omega)
     clear c5
     by_cases c6 : ((rdOf ByteArray.empty l0 x7_1).size : Int) > 4096
     ·rw [if_pos c6] at H
      have c6b0:=decide_eq_true c6
      have c6b1 : decide (4096 < (rdOf ByteArray.empty l0 x7_1).size) = true:=decide_eq_true (by omega)
      clear c6
      obtain rfl:=Option.some.inj H
      have p104 : 0 ≤ (x7_1 : Int):=of_decide_eq_true (by with_reducible assumption)
      have q104 : x7_1 < (l0.length : Int):=of_decide_eq_true (by with_reducible assumption)
      obtain ⟨ad104,e104,hx104_0⟩:=Kd.at_string HR0.out x7_1 p104 q104
      cases e104
      replace p104:=eq_true p104
      replace q104:=eq_true q104
      go_wp2
      go_ret
      exact ⟨by rfl,by repeat (first|exact Drawn0.refl _|apply Drawn0.step)⟩
     ·rw [if_neg c6] at H
      have c6b0:=decide_eq_false c6
      have c6b1 : decide (4096 < (rdOf ByteArray.empty l0 x7_1).size) = false:=decide_eq_false (by omega)
      clear c6
      obtain ⟨c7,H⟩:=nn H
      have c7b0:=decide_eq_true c7
      have c7b1 : decide (0 < l0.length) = true:=decide_eq_true (by omega)
      clear c7
      by_cases c8 : ((rdOf ByteArray.empty l0 x7_1).size : Int) = ((rdOf ByteArray.empty l0 0).size : Int)
      ·rw [if_pos c8] at H
       have c8b0 : (((rdOf ByteArray.empty l0 x7_1).size : Int) == ((rdOf ByteArray.empty l0 0).size : Int)) = true:=beq_iff_eq.mpr c8
       have c8b1 : (((rdOf ByteArray.empty l0 x7_1).size : Int) != ((rdOf ByteArray.empty l0 0).size : Int)) = false:=bne_eq_false_iff_eq.mpr c8
       have c8b2 : ((rdOf ByteArray.empty l0 x7_1).size == (rdOf ByteArray.empty l0 0).size) = true:=by (simp at c8 ⊢;omega)
       clear c8
       have H':=Aside0.mk H
       clear H
       have p104 : 0 ≤ (x7_1 : Int):=of_decide_eq_true (by with_reducible assumption)
       have q104 : x7_1 < (l0.length : Int):=of_decide_eq_true (by with_reducible assumption)
       obtain ⟨ad104,e104,hx104_0⟩:=Kd.at_string HR0.out x7_1 p104 q104
       cases e104
       replace p104:=eq_true p104
       replace q104:=eq_true q104
       have p105 : 0 ≤ (0 : Int):=(by omega)
       have q105 : 0 < (l0.length : Int):=of_decide_eq_true (by with_reducible assumption)
       obtain ⟨ad105,e105,hx105_0⟩:=Kd.at_string HR0.out 0 p105 q105
       obtain rfl : ad104 = ad105:=(by injection e105)
       have qi105 : (0 < l0.length) = True:=eq_true (by omega)
       (try rw [show ((0 : Int)).toNat = 0 from rfl] at hx105_0)
       (try rw [Addr.add_zero'] at hx105_0)
       replace p105:=eq_true p105
       replace q105:=eq_true q105
       go_wp2
       go_roundg k1
       case measure=>have:=HK1.out;omega
       case rel=>exact ⟨(wrap64 (x7_1 + 1)),(by rfl),H',⟨by have:=HK1.out;omega⟩,by repeat (first|exact Drawn0.refl _|apply Drawn0.step)⟩
      ·rw [if_neg c8] at H
       have c8b0 : (((rdOf ByteArray.empty l0 x7_1).size : Int) == ((rdOf ByteArray.empty l0 0).size : Int)) = false:=beq_eq_false_iff_ne.mpr c8
       have c8b1 : (((rdOf ByteArray.empty l0 x7_1).size : Int) != ((rdOf ByteArray.empty l0 0).size : Int)) = true:=bne_iff_ne.mpr c8
       have c8b2 : ((rdOf ByteArray.empty l0 x7_1).size == (rdOf ByteArray.empty l0 0).size) = false:=by (simp at c8 ⊢;omega)
       obtain rfl:=Option.some.inj H
       have p104 : 0 ≤ (x7_1 : Int):=of_decide_eq_true (by with_reducible assumption)
       have q104 : x7_1 < (l0.length : Int):=of_decide_eq_true (by with_reducible assumption)
       obtain ⟨ad104,e104,hx104_0⟩:=Kd.at_string HR0.out x7_1 p104 q104
       cases e104
       replace p104:=eq_true p104
       replace q104:=eq_true q104
       have p105 : 0 ≤ (0 : Int):=(by omega)
       have q105 : 0 < (l0.length : Int):=of_decide_eq_true (by with_reducible assumption)
       obtain ⟨ad105,e105,hx105_0⟩:=Kd.at_string HR0.out 0 p105 q105
       obtain rfl : ad104 = ad105:=(by injection e105)
       have qi105 : (0 < l0.length) = True:=eq_true (by omega)
       (try rw [show ((0 : Int)).toNat = 0 from rfl] at hx105_0)
       (try rw [Addr.add_zero'] at hx105_0)
       replace p105:=eq_true p105
       replace q105:=eq_true q105
       go_wp2
       go_ret
       exact ⟨by rfl,by repeat (first|exact Drawn0.refl _|apply Drawn0.step)⟩
   ·rw [if_neg c2] at H
    have c2b0:=decide_eq_false c2
    clear c2
    obtain rfl:=Option.some.inj H
    go_wp2
    go_ret
    exact ⟨by rfl,by repeat (first|exact Drawn0.refl _|apply Drawn0.step)⟩

/-! ### impl_CodeSize: function 92 -/
def impl_CodeSize.f (a0_0 : Int) (a0_1 : Int) (a0_2 : Int) : Option (Int):=(impl_CodeFault.f a0_0 a0_1 a0_2).bind fun t107=>(if t107 = 0 then (some (wrap64 ((wrap64 (a0_0 + a0_1)) + a0_2))) else (some 0))
set_option maxHeartbeats 8000000 in
set_option maxRecDepth 100000 in
theorem impl_CodeSize.calls (a0_0 : Int) (a0_1 : Int) (a0_2 : Int) (r : Int) (w : World) (h : impl_CodeSize.f a0_0 a0_1 a0_2 = some r) :
  Calls Try.prog 92 #[.agg #[.int .i64 a0_0,.int .i64 a0_1,.int .i64 a0_2]] w fun e w'=>e = .returned (.int .i64 r) ∧ Below w.heap.size w w':=by
 have hu43:=Try.underlying43
 have HB:=Aside0.mk (Below.refl w.heap.size w)
 have H : ((impl_CodeFault.f a0_0 a0_1 a0_2).bind fun t107=>(if t107 = 0 then (some (wrap64 ((wrap64 (a0_0 + a0_1)) + a0_2))) else (some 0))) = some r:=h
 clear h
 replace H:=Option.bind_eq_some_iff.mp H
 obtain ⟨t107,A20,H⟩:=H
 replace H : (if t107 = 0 then (some (wrap64 ((wrap64 (a0_0 + a0_1)) + a0_2))) else (some 0)) = some r:=H
 have A2:=Aside0.mk A20
 clear A20
 by_cases c3 : t107 = 0
 ·rw [if_pos c3] at H
  have c3b0 : (t107 == 0) = true:=beq_iff_eq.mpr c3
  have c3b1 : (t107 != 0) = false:=bne_eq_false_iff_eq.mpr c3
  clear c3
  obtain rfl:=Option.some.inj H
  go_enter Try.func92,Try.ntmps92
  go_wp2_with (first|((with_reducible refine gate_dst (N:=1) rfl ?_);refine box_event ?hg (N:=1) ?hd (cs:=#[.int .i64 a0_0,.int .i64 a0_1,.int .i64 a0_2]) (t:=43) ?hr ?_;(case hd=>rfl);(case hg=>rfl);(case hr=>(go_simp;done));intro gb106 hg w4 hbox hb;have BK106:=Aside0.mk (hbox);have GW106:=Aside0.mk ((by rw [hg];exact (below_size HB.out) : w.heap.size ≤ gb106));have GE106:=Aside0.mk ((by rw [hg];exact (below_size HB.out) : w.heap.size ≤ gb106));replace HB:=Aside0.mk (below_step HB.out hb);clear hb hbox hg;have hcz5_0 : w4.cell? ⟨gb106,0,none⟩ = some (.int .i64 a0_0):=(blk_cell BK106.out 0).trans rfl;have hcz5_1 : w4.cell? ⟨gb106,1,none⟩ = some (.int .i64 a0_1):=(blk_cell BK106.out 1).trans rfl;have hcz5_2 : w4.cell? ⟨gb106,2,none⟩ = some (.int .i64 a0_2):=(blk_cell BK106.out 2).trans rfl;have hfz5_0:=blk_frozen BK106.out 0;have hfz5_1:=blk_frozen BK106.out 1;have hfz5_2:=blk_frozen BK106.out 2)|((with_reducible refine gate_callee (f:=87) rfl ?_);refine goesL_ (some 4) rfl rfl Try.func87 (by kernel_rfl) rfl #[.agg #[.int .i64 a0_0,.int .i64 a0_1,.int .i64 a0_2]] rfl (by (try simp only [List.map_toArray,List.map_cons,List.map_nil]);rfl) ?_;(with_reducible refine (impl_CodeFault.calls a0_0 a0_1 a0_2 t107 _ A2.out).mono ?_);rintro e w6 ⟨rfl,hb⟩;refine ⟨_,rfl,?_⟩;replace BK106:=Aside0.mk (blk_below BK106.out hb);replace HB:=Aside0.mk (below_step HB.out hb);(try clear hb);have hcz7_0 : w6.cell? ⟨gb106,0,none⟩ = some (.int .i64 a0_0):=(blk_cell BK106.out 0).trans rfl;have hcz7_1 : w6.cell? ⟨gb106,1,none⟩ = some (.int .i64 a0_1):=(blk_cell BK106.out 1).trans rfl;have hcz7_2 : w6.cell? ⟨gb106,2,none⟩ = some (.int .i64 a0_2):=(blk_cell BK106.out 2).trans rfl;have hfz7_0:=blk_frozen BK106.out 0;have hfz7_1:=blk_frozen BK106.out 1;have hfz7_2:=blk_frozen BK106.out 2))
  go_ret
  exact ⟨by rfl,HB.out⟩
 ·rw [if_neg c3] at H
  have c3b0 : (t107 == 0) = false:=beq_eq_false_iff_ne.mpr c3
  have c3b1 : (t107 != 0) = true:=bne_iff_ne.mpr c3
  obtain rfl:=Option.some.inj H
  go_enter Try.func92,Try.ntmps92
  go_wp2_with (first|((with_reducible refine gate_dst (N:=1) rfl ?_);refine box_event ?hg (N:=1) ?hd (cs:=#[.int .i64 a0_0,.int .i64 a0_1,.int .i64 a0_2]) (t:=43) ?hr ?_;(case hd=>rfl);(case hg=>rfl);(case hr=>(go_simp;done));intro gb106 hg w8 hbox hb;have BK106:=Aside0.mk (hbox);have GW106:=Aside0.mk ((by rw [hg];exact (below_size HB.out) : w.heap.size ≤ gb106));have GE106:=Aside0.mk ((by rw [hg];exact (below_size HB.out) : w.heap.size ≤ gb106));replace HB:=Aside0.mk (below_step HB.out hb);clear hb hbox hg;have hcz9_0 : w8.cell? ⟨gb106,0,none⟩ = some (.int .i64 a0_0):=(blk_cell BK106.out 0).trans rfl;have hcz9_1 : w8.cell? ⟨gb106,1,none⟩ = some (.int .i64 a0_1):=(blk_cell BK106.out 1).trans rfl;have hcz9_2 : w8.cell? ⟨gb106,2,none⟩ = some (.int .i64 a0_2):=(blk_cell BK106.out 2).trans rfl;have hfz9_0:=blk_frozen BK106.out 0;have hfz9_1:=blk_frozen BK106.out 1;have hfz9_2:=blk_frozen BK106.out 2)|((with_reducible refine gate_callee (f:=87) rfl ?_);refine goesL_ (some 4) rfl rfl Try.func87 (by kernel_rfl) rfl #[.agg #[.int .i64 a0_0,.int .i64 a0_1,.int .i64 a0_2]] rfl (by (try simp only [List.map_toArray,List.map_cons,List.map_nil]);rfl) ?_;(with_reducible refine (impl_CodeFault.calls a0_0 a0_1 a0_2 t107 _ A2.out).mono ?_);rintro e w10 ⟨rfl,hb⟩;refine ⟨_,rfl,?_⟩;replace BK106:=Aside0.mk (blk_below BK106.out hb);replace HB:=Aside0.mk (below_step HB.out hb);(try clear hb)))
  go_ret
  exact ⟨by rfl,HB.out⟩

/-! ### impl_heldOf: function 93 -/
def impl_heldOf.l0 : Nat → List Bool → List ByteArray → List ByteArray → List (S61) → Int → Int → Option (List Bool × List ByteArray × List ByteArray)
 | 0,_,_,_,_,_,_=>none
 | k + 1,x5,x6,x7,x17,x18,x19=>if x19 < x18 then (if 0 ≤ x19 then (if x19 < (x17.length : Int) then (if x19 < (x5.length : Int) then ((some (x5.set (x19 : Int).toNat ((rd_T61 x17 x19).f0) : List Bool)).bind fun y119=>(if (rd_T61 x17 x19).f0 = true then (if x19 < (x6.length : Int) then (if x7.length < 8796093022208 then (impl_heldOf.l0 k y119 (x6.set (x19 : Int).toNat ((rd_T61 x17 x19).f1)) (x7 ++ [(rd_T61 x17 x19).f1]) x17 x18 (wrap64 (x19 + 1))) else (none)) else (none)) else (impl_heldOf.l0 k y119 x6 x7 x17 x18 (wrap64 (x19 + 1))))) else (none)) else (none)) else (none)) else (some (x5,x6,x7))
def impl_heldOf.f (k : Nat) (l0 : List (S61)) : Option (List Bool × List ByteArray × List ByteArray):=if 0 ≤ (l0.length : Int) then (if ((l0.length : Int) : Int).toNat ≤ 281474976710656 then (if ((l0.length : Int) : Int).toNat ≤ 17592186044416 then (impl_heldOf.l0 k (List.replicate ((l0.length : Int) : Int).toNat false) (List.replicate ((l0.length : Int) : Int).toNat (⟨#[]⟩ : ByteArray)) (([] : List ByteArray)) l0 (l0.length : Int) 0) else (none)) else (none)) else (none)
set_option maxHeartbeats 8000000 in
set_option maxRecDepth 100000 in
theorem impl_heldOf.calls (k : Nat) (A0 : Option Addr) (c0 : Nat) (l0 : List (S61)) (r1 : List Bool) (r2 : List ByteArray) (r3 : List ByteArray) (w : World) (hr0 : Kd.C k61 w A0 l0.length l0) (hc0 : l0.length ≤ c0) (h : impl_heldOf.f k l0 = some (r1,r2,r3)) :
  Calls Try.prog 93 #[.slice A0 l0.length c0] w fun e w'=>∃ v0_ v1_ v2_ : Value,e = .returned (.tuple #[v0_,v1_,v2_]) ∧ Kd.R Kd.bool 4 w' w.heap.size (fun _=>True) v0_ r1 ∧ Kd.R Kd.string 9 w' w.heap.size (fun k_=>some k_ ≠ (v2_ : Value).ownBlock) v1_ r2 ∧ Kd.R Kd.string 9 w' w.heap.size (fun k_=>some k_ ≠ (v1_ : Value).ownBlock) v2_ r3 ∧ Below w.heap.size w w':=by
 have hu61:=Try.underlying61
 have HR0:=Aside0.mk hr0
 have HC0:=Aside0.mk hc0
 clear hr0 hc0
 have HB:=Aside0.mk (Below.refl w.heap.size w)
 have H : (if 0 ≤ (l0.length : Int) then (if ((l0.length : Int) : Int).toNat ≤ 281474976710656 then (if ((l0.length : Int) : Int).toNat ≤ 17592186044416 then (impl_heldOf.l0 k (List.replicate ((l0.length : Int) : Int).toNat false) (List.replicate ((l0.length : Int) : Int).toNat (⟨#[]⟩ : ByteArray)) (([] : List ByteArray)) l0 (l0.length : Int) 0) else (none)) else (none)) else (none)) = some (r1,r2,r3):=h
 clear h
 obtain ⟨c2,H⟩:=nn H
 have c2b0:=eq_true c2
 have c2b1:=decide_eq_true c2
 clear c2
 obtain ⟨c3,H⟩:=nn H
 have c3b0:=eq_true c3
 have c3b1:=decide_eq_true c3
 clear c3
 obtain ⟨y108,hy108⟩ : ∃ y_ : List Bool,y_ = (List.replicate ((l0.length : Int) : Int).toNat false):=⟨_,rfl⟩
 rw [← hy108] at H
 have Ny108:=Aside0.mk hy108
 clear hy108
 obtain ⟨c4,H⟩:=nn H
 have c4b0:=eq_true c4
 have c4b1:=decide_eq_true c4
 clear c4
 obtain ⟨y111,hy111⟩ : ∃ y_ : List ByteArray,y_ = (List.replicate ((l0.length : Int) : Int).toNat (⟨#[]⟩ : ByteArray)):=⟨_,rfl⟩
 rw [← hy111] at H
 have Ny111:=Aside0.mk hy111
 clear hy111
 obtain ⟨y114,hy114⟩ : ∃ y_ : List ByteArray,y_ = (([] : List ByteArray)):=⟨_,rfl⟩
 rw [← hy114] at H
 have Ny114:=Aside0.mk hy114
 clear hy114
 have H':=Aside0.mk H
 clear H
 go_enter Try.func93,Try.ntmps93
 go_wp2_with (first|((with_reducible refine gate_dst (N:=12) rfl ?_);refine Kd.R_make Kd.bool _ 4 rfl (N:=12) rfl 72 _ _ rfl (l0.length : Int) rfl rfl Try.underlying72 (.bool false) 1 info4 rfl (by decide) (by omega) false (ok:=fun _=>True) (okp:=fun _=>True) rfl (fun _ hk=>hk) trivial (of_decide_eq_true (by with_reducible assumption)) (Nat.le_trans (Nat.mul_le_mul_right _ (of_decide_eq_true (by with_reducible assumption) : (l0.length : Int).toNat ≤ 281474976710656)) (by omega)) (Below.refl _ _) (Nat.le_refl _) ?_;intro v109 w5 ho6 hb hg_ hnew_;clear hg_ hnew_;(rw [← Ny108.out] at ho6);have HO110:=Aside0.mk (Kd.R_lower ho6 (below_size HB.out));replace HB:=Aside0.mk (below_step HB.out hb);clear hb ho6)|((with_reducible refine gate_dst (N:=15) rfl ?_);refine Kd.R_make Kd.string _ 9 rfl (N:=15) rfl 56 _ _ rfl (l0.length : Int) rfl rfl Try.underlying56 (.string ⟨#[]⟩) 16 info9 rfl (by decide) (by omega) (⟨#[]⟩ : ByteArray) (ok:=fun _=>True) (okp:=fun _=>True) rfl (fun _ hk=>hk) trivial (of_decide_eq_true (by with_reducible assumption)) (Nat.le_trans (Nat.mul_le_mul_right _ (of_decide_eq_true (by with_reducible assumption) : (l0.length : Int).toNat ≤ 17592186044416)) (by omega)) (Below.refl _ _) (Nat.le_refl _) ?_;intro v112 w7 ho8 hb hg_ hnew_;clear hg_ hnew_;(rw [← Ny111.out] at ho8);replace HO110:=Aside0.mk (Kd.R_below HO110.out hb);have HO113:=Aside0.mk (Kd.R_lower ho8 (below_size HB.out));replace HB:=Aside0.mk (below_step HB.out hb);clear hb ho8)|((with_reducible refine gate_dst (N:=16) rfl ?_);refine Kd.R_lit Kd.string _ 9 ?hg (N:=16) ?hd (xs:=([] : List ByteArray)) (inner:=[]) (ok:=fun _=>True) (okp:=fun _=>True) ?hr ?hp (fun _ hk=>hk) trivial (Below.refl _ _) (Nat.le_refl _) (by simp) ?_;(case hd=>rfl);(case hg=>rfl);(case hr=>(go_simp;done));(case hp=>exact (Reps.none _ _));intro v115 w9 ho10 hb hg_ hnew_;clear hg_ hnew_;(rw [← Ny114.out] at ho10);replace HO110:=Aside0.mk (Kd.R_below HO110.out hb);have HO116:=Aside0.mk (Kd.R_lower (Kd.R_new' ho10 (Kd.R_lt HO113.out)) (below_size HB.out));replace HO113:=Aside0.mk (Kd.R_elder' HO113.out (Kd.R_base ho10) hb);replace HB:=Aside0.mk (below_step HB.out hb);clear hb ho10))
 go_loopg [7,19] k (fun kq v7 v19 w'=>∃ (x5_1 : List Bool) (x6_1 : List ByteArray) (x7_1 : List ByteArray) (x19_1 : Int),v19 = .int .i64 x19_1 ∧ Aside0 (impl_heldOf.l0 kq x5_1 x6_1 x7_1 l0 (l0.length : Int) x19_1 = some (r1,r2,r3)) ∧ Aside0 (kq ≤ k) ∧ Aside0 (Kd.R Kd.bool 4 w' w.heap.size (fun _=>True) v109 x5_1) ∧ Aside0 (Kd.R Kd.string 9 w' w.heap.size (fun k_=>some k_ ≠ (v7 : Value).ownBlock) v112 x6_1) ∧ Aside0 (Kd.R Kd.string 9 w' w.heap.size (fun k_=>some k_ ≠ (v112 : Value).ownBlock) v7 x7_1) ∧ Aside0 (Below w.heap.size w w'))
 case atStart=>exact ⟨(y108),(y111),(y114),(0),(by rfl),H',⟨Nat.le_refl _⟩,⟨by exact HO110.out⟩,⟨by exact Kd.R_mono HO113.out (fun _ hk=>hk.2)⟩,⟨by exact Kd.R_mono HO116.out (fun _ hk=>hk.2)⟩,⟨HB.out⟩⟩
 case round=>
  clear H'
  (try clear c2b0);(try clear c2b1);(try clear c3b0);(try clear c3b1);(try clear c4b0);(try clear c4b1)
  obtain ⟨x5_1,x6_1,x7_1,x19_1,rfl,HA,HK1,HO_5,HO_6,HO_7,HB⟩:=hrel
  cases gk with
  | zero=>exact absurd HA.out (by simp [impl_heldOf.l0])
  | succ k1=>
   have H:=HA.out
   clear HA
   simp only [impl_heldOf.l0] at H
   by_cases c11 : x19_1 < (l0.length : Int)
   ·rw [if_pos c11] at H
    have c11b0:=decide_eq_true c11
    clear c11
    obtain ⟨c12,H⟩:=nn H
    have c12b0:=decide_eq_true c12
    clear c12
    obtain ⟨c13,H⟩:=nn H
    have c13b0:=decide_eq_true c13
    clear c13
    obtain ⟨c14,H⟩:=nn H
    have c14b0:=decide_eq_true c14
    clear c14
    obtain ⟨y119,hy119⟩ : ∃ y_ : List Bool,y_ = (x5_1.set (x19_1 : Int).toNat ((rd_T61 l0 x19_1).f0)):=⟨_,rfl⟩
    replace H : (if (rd_T61 l0 x19_1).f0 = true then (if x19_1 < (x6_1.length : Int) then (if x7_1.length < 8796093022208 then (impl_heldOf.l0 k1 y119 (x6_1.set (x19_1 : Int).toNat ((rd_T61 l0 x19_1).f1)) (x7_1 ++ [(rd_T61 l0 x19_1).f1]) l0 (l0.length : Int) (wrap64 (x19_1 + 1))) else (none)) else (none)) else (impl_heldOf.l0 k1 y119 x6_1 x7_1 l0 (l0.length : Int) (wrap64 (x19_1 + 1)))) = some (r1,r2,r3):=by (have H2_:=(Option.bind_some _ _).symm.trans H;rw [hy119];with_reducible exact H2_)
    have Ny119:=Aside0.mk hy119
    clear hy119
    obtain ⟨bq16,hbq16⟩ : ∃ b_ : Bool,b_ = ((rd_T61 l0 x19_1).f0):=⟨_,rfl⟩
    replace H : (if bq16 = true then (if x19_1 < (x6_1.length : Int) then (if x7_1.length < 8796093022208 then (impl_heldOf.l0 k1 y119 (x6_1.set (x19_1 : Int).toNat ((rd_T61 l0 x19_1).f1)) (x7_1 ++ [(rd_T61 l0 x19_1).f1]) l0 (l0.length : Int) (wrap64 (x19_1 + 1))) else (none)) else (none)) else (impl_heldOf.l0 k1 y119 x6_1 x7_1 l0 (l0.length : Int) (wrap64 (x19_1 + 1)))) = some (r1,r2,r3):=by rw [← hbq16] at H;exact H
    have Nbq16:=Aside0.mk hbq16
    clear hbq16
    by_cases c17 : bq16 = true
    ·subst c17
     have H1 : (if x19_1 < (x6_1.length : Int) then (if x7_1.length < 8796093022208 then (impl_heldOf.l0 k1 y119 (x6_1.set (x19_1 : Int).toNat ((rd_T61 l0 x19_1).f1)) (x7_1 ++ [(rd_T61 l0 x19_1).f1]) l0 (l0.length : Int) (wrap64 (x19_1 + 1))) else (none)) else (none)) = some (r1,r2,r3):=by rw [if_pos rfl] at H;exact H
     clear H
     have H:=H1
     clear H1
     obtain ⟨c18,H⟩:=nn H
     have c18b0:=decide_eq_true c18
     clear c18
     obtain ⟨y120,hy120⟩ : ∃ y_ : List ByteArray,y_ = (x6_1.set (x19_1 : Int).toNat ((rd_T61 l0 x19_1).f1)):=⟨_,rfl⟩
     rw [← hy120] at H
     have Ny120:=Aside0.mk hy120
     clear hy120
     obtain ⟨c20,H⟩:=nn H
     have LMc20:=Aside0.mk c20
     clear c20
     obtain ⟨y121,hy121⟩ : ∃ y_ : List ByteArray,y_ = (x7_1 ++ [(rd_T61 l0 x19_1).f1]):=⟨_,rfl⟩
     rw [← hy121] at H
     have Ny121:=Aside0.mk hy121
     clear hy121
     have H':=Aside0.mk H
     clear H
     have p117 : 0 ≤ (x19_1 : Int):=of_decide_eq_true (by with_reducible assumption)
     have q117 : x19_1 < (l0.length : Int):=of_decide_eq_true (by with_reducible assumption)
     obtain ⟨ad117,e117,hx117_0,hx117_1⟩:=at_T61 HR0.out x19_1 p117 q117
     (try rw [← Nbq16.out] at hx117_0)
     cases e117
     replace hx117_0:=(HB.out.cell (World.block_lt_of_cell? w _ hx117_0)).trans hx117_0
     replace hx117_1:=(HB.out.cell (World.block_lt_of_cell? w _ hx117_1)).trans hx117_1
     replace p117:=eq_true p117
     replace q117:=eq_true q117
     go_wp2_with (first|((with_reducible refine gate_dst (N:=9) rfl ?_);refine box_event ?hg (N:=9) ?hd (cs:=#[.bool false,.string (⟨#[]⟩ : ByteArray)]) (t:=61) ?hr ?_;(case hd=>rfl);(case hg=>rfl);(case hr=>(go_simp;done));intro gb118 hg w21 hbox hb;replace HO_5:=Aside0.mk (Kd.R_below HO_5.out hb);replace HO_6:=Aside0.mk (Kd.R_below HO_6.out hb);replace HO_7:=Aside0.mk (Kd.R_below HO_7.out hb);have BK118:=Aside0.mk (hbox);have GW118:=Aside0.mk ((by rw [hg];exact (below_size HB.out) : w.heap.size ≤ gb118));have GE118:=Aside0.mk ((by rw [hg];exact (below_size HB.out) : w.heap.size ≤ gb118));replace HB:=Aside0.mk (below_step HB.out hb);clear hb hbox hg;have hcz22_0 : w21.cell? ⟨gb118,0,none⟩ = some (.bool false):=(blk_cell BK118.out 0).trans rfl;have hcz22_1 : w21.cell? ⟨gb118,1,none⟩ = some (.string (⟨#[]⟩ : ByteArray)):=(blk_cell BK118.out 1).trans rfl;have hfz22_0:=blk_frozen BK118.out 0;have hfz22_1:=blk_frozen BK118.out 1)|((with_reducible refine gate_store (t:=61) (p:=9) rfl ?_);refine store_event (t:=61) (p:=9) (v:=?vo_w23) (w1:=((w21.setCell ⟨gb118,0,none⟩ (.bool true)).setCell ⟨gb118,1,none⟩ (.string ((rd_T61 l0 x19_1).f1)))) ?hg ?ho ?hn ?hr ?_;(case ho=>rfl);(case hg=>rfl);(case hn=>rfl);(case hr=>(go_simp;done));intro w23 hw;have n0_ : Aside0 (Kd.R Kd.bool 4 w23 w.heap.size (fun _=>True) v109 x5_1):=⟨(by rw [hw];exact (by exact Kd.R_mono (Kd.R_far (p:=⟨gb118,1,none⟩) (Kd.R_far (p:=⟨gb118,0,none⟩) (Kd.R_types HO_5.out BK118.out (by decide)) (fun _ hk=>hk.2) (.bool true)) (fun _ hk=>hk.2) (.string ((rd_T61 l0 x19_1).f1))) (fun _ hk=>trivial)))⟩;have n1_ : Aside0 (Kd.R Kd.string 9 w23 w.heap.size (fun k_=>some k_ ≠ (u7 : Value).ownBlock) v112 x6_1):=⟨(by rw [hw];exact (by exact Kd.R_mono (Kd.R_far (p:=⟨gb118,1,none⟩) (Kd.R_far (p:=⟨gb118,0,none⟩) (Kd.R_types HO_6.out BK118.out (by decide)) (fun _ hk=>hk.2) (.bool true)) (fun _ hk=>hk.2) (.string ((rd_T61 l0 x19_1).f1))) (fun _ hk=>hk.1)))⟩;have n2_ : Aside0 (Kd.R Kd.string 9 w23 w.heap.size (fun k_=>some k_ ≠ (v112 : Value).ownBlock) u7 x7_1):=⟨(by rw [hw];exact (by exact Kd.R_mono (Kd.R_far (p:=⟨gb118,1,none⟩) (Kd.R_far (p:=⟨gb118,0,none⟩) (Kd.R_types HO_7.out BK118.out (by decide)) (fun _ hk=>hk.2) (.bool true)) (fun _ hk=>hk.2) (.string ((rd_T61 l0 x19_1).f1))) (fun _ hk=>hk.1)))⟩;have n3_ : Aside0 (w23.heap[gb118]? = some (.cells #[.bool true,.string ((rd_T61 l0 x19_1).f1)] 61 (0,0))):=⟨(by rw [hw];exact (by refine blk_put (cs:=#[.bool true,.string (⟨#[]⟩ : ByteArray)]) ?_ 1 _ rfl;refine blk_put (cs:=#[.bool false,.string (⟨#[]⟩ : ByteArray)]) ?_ 0 _ rfl;exact BK118.out))⟩;have n4_ : Aside0 (Below w.heap.size w w23):=⟨(by rw [hw];exact (by repeat ((with_reducible first|exact HB.out|refine below_set ?_ GE118.out))))⟩;clear hw HO_5 HO_6 HO_7 BK118 HB;have HO_5:=n0_;have HO_6:=n1_;have HO_7:=n2_;have BK118:=n3_;have HB:=n4_;clear n0_ n1_ n2_ n3_ n4_;have hcz24_0 : w23.cell? ⟨gb118,0,none⟩ = some (.bool true):=(blk_cell BK118.out 0).trans rfl;have hcz24_1 : w23.cell? ⟨gb118,1,none⟩ = some (.string ((rd_T61 l0 x19_1).f1)):=(blk_cell BK118.out 1).trans rfl;have hfz24_0:=blk_frozen BK118.out 0;have hfz24_1:=blk_frozen BK118.out 1;have p15 : 0 ≤ (x19_1 : Int):=of_decide_eq_true (by with_reducible assumption);have q15 : (x19_1 : Int) < ((x5_1.length : Int) : Int):=of_decide_eq_true (by with_reducible assumption);obtain ⟨go15,co15,eo15,gb15,gl15,cl15,HG15⟩:=Kd.R_form HO_5.out (by omega);(cases eo15);have GB15:=Aside0.mk gb15;have GG15:=Aside0.mk HG15;clear gb15 gl15 HG15;obtain ⟨hx15_0,hf15_0⟩:=Kd.R_celln false HO_5.out (x19_1 : Int) p15 q15;replace p15:=eq_true p15;replace q15:=eq_true q15;obtain ⟨hy25_,hz25_⟩:=Kd.R_celln false HO_5.out (x19_1 : Int) (of_decide_eq_true (by with_reducible assumption)) (of_decide_eq_true (by with_reducible assumption));have HP25:=Kd.R_putg HO_5.out (x19_1 : Int) true)|((with_reducible refine gate_store (t:=4) (p:=28) rfl ?_);refine store_event (t:=4) (p:=28) (v:=?vo_w26) (w1:=(w23.setCell ⟨go15,(x19_1 : Int).toNat,none⟩ (.bool true))) ?hg ?ho ?hn ?hr ?_;(case ho=>rfl);(case hg=>rfl);(case hn=>rfl);(case hr=>(go_simp;done));intro w26 hw;have hg : w23.grownBy w26 (some go15):=(by rw [hw];exact HP25.2);have hp_ : Kd.R Kd.bool 4 w26 w.heap.size (fun _=>True) (.slice (some ⟨go15,0,none⟩) x5_1.length co15) y119:=(by rw [hw,Ny119.out];(try rw [← Nbq16.out]);exact HP25.1);clear HP25;replace HO_6:=Aside0.mk (Kd.R_over' (v:=(.slice (some ⟨go15,0,none⟩) x5_1.length co15)) HO_6.out (Kd.R_typed HO_5.out) (by decide) hg);replace HO_7:=Aside0.mk (Kd.R_over' (v:=(.slice (some ⟨go15,0,none⟩) x5_1.length co15)) HO_7.out (Kd.R_typed HO_5.out) (by decide) hg);replace BK118:=Aside0.mk (blk_grown (g:=gb118) (o:=.cells #[.bool true,.string ((rd_T61 l0 x19_1).f1)] 61 (0,0)) BK118.out hg (Kd.R_ne HO_5.out BK118.out (by decide)));replace HO_5:=Aside0.mk (hp_);replace HB:=Aside0.mk ((by rw [hw];exact below_set (HB.out) GB15.out : Below w.heap.size w w26));clear hg hw hp_;have hcz27_0 : w26.cell? ⟨gb118,0,none⟩ = some (.bool true):=(blk_cell BK118.out 0).trans rfl;have hcz27_1 : w26.cell? ⟨gb118,1,none⟩ = some (.string ((rd_T61 l0 x19_1).f1)):=(blk_cell BK118.out 1).trans rfl;have hfz27_0:=blk_frozen BK118.out 0;have hfz27_1:=blk_frozen BK118.out 1;have p19 : 0 ≤ (x19_1 : Int):=of_decide_eq_true (by with_reducible assumption);have q19 : (x19_1 : Int) < ((x6_1.length : Int) : Int):=of_decide_eq_true (by with_reducible assumption);obtain ⟨go19,co19,eo19,gb19,gl19,cl19,HG19⟩:=Kd.R_form HO_6.out (by omega);(cases eo19);have GB19:=Aside0.mk gb19;have GG19:=Aside0.mk HG19;clear gb19 gl19 HG19;obtain ⟨hx19_0,hf19_0⟩:=Kd.R_celln (⟨#[]⟩ : ByteArray) HO_6.out (x19_1 : Int) p19 q19;replace p19:=eq_true p19;replace q19:=eq_true q19;obtain ⟨hy28_,hz28_⟩:=Kd.R_celln (⟨#[]⟩ : ByteArray) HO_6.out (x19_1 : Int) (of_decide_eq_true (by with_reducible assumption)) (of_decide_eq_true (by with_reducible assumption));have HP28:=Kd.R_putg HO_6.out (x19_1 : Int) ((rd_T61 l0 x19_1).f1))|((with_reducible refine gate_store (t:=9) (p:=35) rfl ?_);refine store_event (t:=9) (p:=35) (v:=?vo_w29) (w1:=(w26.setCell ⟨go19,(x19_1 : Int).toNat,none⟩ (.string ((rd_T61 l0 x19_1).f1)))) ?hg ?ho ?hn ?hr ?_;(case ho=>rfl);(case hg=>rfl);(case hn=>rfl);(case hr=>(go_simp;done));intro w29 hw;have hg : w26.grownBy w29 (some go19):=(by rw [hw];exact HP28.2);have hp_ : Kd.R Kd.string 9 w29 w.heap.size (fun k_=>some k_ ≠ (u7 : Value).ownBlock) (.slice (some ⟨go19,0,none⟩) x6_1.length co19) y120:=(by rw [hw,Ny120.out];exact HP28.1);clear HP28;replace HO_5:=Aside0.mk (Kd.R_over' (v:=(.slice (some ⟨go19,0,none⟩) x6_1.length co19)) HO_5.out (Kd.R_typed HO_6.out) (by decide) hg);replace HO_7:=Aside0.mk (Kd.R_after (v:=(.slice (some ⟨go19,0,none⟩) x6_1.length co19)) (v1:=(.slice (some ⟨go19,0,none⟩) x6_1.length co19)) (ok:=(fun _=>True)) (by exact Kd.R_mono HO_7.out (fun _ hk=>⟨trivial,hk⟩)) hg (.inl rfl));replace BK118:=Aside0.mk (blk_grown (g:=gb118) (o:=.cells #[.bool true,.string ((rd_T61 l0 x19_1).f1)] 61 (0,0)) BK118.out hg (Kd.R_ne HO_6.out BK118.out (by decide)));replace HO_6:=Aside0.mk (hp_);replace HB:=Aside0.mk ((by rw [hw];exact below_set (HB.out) GB19.out : Below w.heap.size w w29));clear hg hw hp_;have hcz30_0 : w29.cell? ⟨gb118,0,none⟩ = some (.bool true):=(blk_cell BK118.out 0).trans rfl;have hcz30_1 : w29.cell? ⟨gb118,1,none⟩ = some (.string ((rd_T61 l0 x19_1).f1)):=(blk_cell BK118.out 1).trans rfl;have hfz30_0:=blk_frozen BK118.out 0;have hfz30_1:=blk_frozen BK118.out 1)|((with_reducible refine gate_builtin (b:=.append) (xs:=#[.tmp 36,.tmp 39]) rfl ?_);at_builtin;refine Kd.R_append Kd.string (w0:=w) w.heap.size rfl (.tmp 36) (.tmp 39) 56 9 (.string ⟨#[]⟩) 16 rfl Try.underlying56 info9 rfl (by decide) (by omega) u7 x7_1 ((rd_T61 l0 x19_1).f1) [.string ((rd_T61 l0 x19_1).f1)] (fun k_=>some k_ ≠ (.slice (some ⟨go19,0,none⟩) x6_1.length co19 : Value).ownBlock) (fun _=>False) rfl rfl ?aP (fun _ hk=>hk.elim) ?aF ?aO ?aB ?aS ?aL ?_;(case aP=>exact rfl);(case aB=>exact HB.out);(case aF=>exact (fun k_ hk=>Kd.fresh' (Kd.R_lt HO_6.out) k_ hk));(case aO=>exact (by exact Kd.R_mono HO_7.out (fun _ hk=>hk.2)));(case aS=>exact (below_size HB.out));(case aL=>have:=LMc20.out;omega);intro v122 w31 ho hb hg hat;rw [← Ny121.out] at ho;have n0_:=Aside0.mk (Kd.R_over' HO_5.out (Kd.R_typed HO_7.out) (by decide) hg);have n1_:=Aside0.mk (Kd.R_after (ok:=(fun _=>True)) (by exact Kd.R_mono HO_6.out (fun _ hk=>⟨trivial,hk⟩)) hg hat);have n2_:=Aside0.mk (blk_grown (g:=gb118) (o:=.cells #[.bool true,.string ((rd_T61 l0 x19_1).f1)] 61 (0,0)) BK118.out hg (Kd.R_ne HO_7.out BK118.out (by decide)));have n3_:=Aside0.mk (hb);have n4_:=Aside0.mk (ho);clear HO_5 HO_6 BK118 HB HO_7;have HO_5:=n0_;have HO_6:=n1_;have BK118:=n2_;have HB:=n3_;have HO123:=n4_;clear n0_ n1_ n2_ n3_ n4_ ho hb hg hat))
     go_roundg k1
     case measure=>have:=HK1.out;omega
     case rel=>exact ⟨(y119),(y120),(y121),(wrap64 (x19_1 + 1)),(by rfl),H',⟨by have:=HK1.out;omega⟩,⟨by exact HO_5.out⟩,⟨by exact Kd.R_mono HO_6.out (fun _ hk=>hk.2)⟩,⟨by exact HO123.out⟩,⟨HB.out⟩⟩
    ·replace c17:=Bool.eq_false_iff.mpr c17
     subst c17
     have H1 : (impl_heldOf.l0 k1 y119 x6_1 x7_1 l0 (l0.length : Int) (wrap64 (x19_1 + 1))) = some (r1,r2,r3):=by rw [if_neg (show ¬ (false = true) by decide)] at H;exact H
     clear H
     have H:=H1
     clear H1
     have H':=Aside0.mk H
     clear H
     have p117 : 0 ≤ (x19_1 : Int):=of_decide_eq_true (by with_reducible assumption)
     have q117 : x19_1 < (l0.length : Int):=of_decide_eq_true (by with_reducible assumption)
     obtain ⟨ad117,e117,hx117_0,hx117_1⟩:=at_T61 HR0.out x19_1 p117 q117
     (try rw [← Nbq16.out] at hx117_0)
     cases e117
     replace hx117_0:=(HB.out.cell (World.block_lt_of_cell? w _ hx117_0)).trans hx117_0
     replace hx117_1:=(HB.out.cell (World.block_lt_of_cell? w _ hx117_1)).trans hx117_1
     replace p117:=eq_true p117
     replace q117:=eq_true q117
     go_wp2_with (first|((with_reducible refine gate_dst (N:=9) rfl ?_);refine box_event ?hg (N:=9) ?hd (cs:=#[.bool false,.string (⟨#[]⟩ : ByteArray)]) (t:=61) ?hr ?_;(case hd=>rfl);(case hg=>rfl);(case hr=>(go_simp;done));intro gb118 hg w32 hbox hb;replace HO_5:=Aside0.mk (Kd.R_below HO_5.out hb);replace HO_6:=Aside0.mk (Kd.R_below HO_6.out hb);replace HO_7:=Aside0.mk (Kd.R_below HO_7.out hb);have BK118:=Aside0.mk (hbox);have GW118:=Aside0.mk ((by rw [hg];exact (below_size HB.out) : w.heap.size ≤ gb118));have GE118:=Aside0.mk ((by rw [hg];exact (below_size HB.out) : w.heap.size ≤ gb118));replace HB:=Aside0.mk (below_step HB.out hb);clear hb hbox hg;have hcz33_0 : w32.cell? ⟨gb118,0,none⟩ = some (.bool false):=(blk_cell BK118.out 0).trans rfl;have hcz33_1 : w32.cell? ⟨gb118,1,none⟩ = some (.string (⟨#[]⟩ : ByteArray)):=(blk_cell BK118.out 1).trans rfl;have hfz33_0:=blk_frozen BK118.out 0;have hfz33_1:=blk_frozen BK118.out 1)|((with_reducible refine gate_store (t:=61) (p:=9) rfl ?_);refine store_event (t:=61) (p:=9) (v:=?vo_w34) (w1:=((w32.setCell ⟨gb118,0,none⟩ (.bool false)).setCell ⟨gb118,1,none⟩ (.string ((rd_T61 l0 x19_1).f1)))) ?hg ?ho ?hn ?hr ?_;(case ho=>rfl);(case hg=>rfl);(case hn=>rfl);(case hr=>(go_simp;done));intro w34 hw;have n0_ : Aside0 (Kd.R Kd.bool 4 w34 w.heap.size (fun _=>True) v109 x5_1):=⟨(by rw [hw];exact (by exact Kd.R_mono (Kd.R_far (p:=⟨gb118,1,none⟩) (Kd.R_far (p:=⟨gb118,0,none⟩) (Kd.R_types HO_5.out BK118.out (by decide)) (fun _ hk=>hk.2) (.bool false)) (fun _ hk=>hk.2) (.string ((rd_T61 l0 x19_1).f1))) (fun _ hk=>trivial)))⟩;have n1_ : Aside0 (Kd.R Kd.string 9 w34 w.heap.size (fun k_=>some k_ ≠ (u7 : Value).ownBlock) v112 x6_1):=⟨(by rw [hw];exact (by exact Kd.R_mono (Kd.R_far (p:=⟨gb118,1,none⟩) (Kd.R_far (p:=⟨gb118,0,none⟩) (Kd.R_types HO_6.out BK118.out (by decide)) (fun _ hk=>hk.2) (.bool false)) (fun _ hk=>hk.2) (.string ((rd_T61 l0 x19_1).f1))) (fun _ hk=>hk.1)))⟩;have n2_ : Aside0 (Kd.R Kd.string 9 w34 w.heap.size (fun k_=>some k_ ≠ (v112 : Value).ownBlock) u7 x7_1):=⟨(by rw [hw];exact (by exact Kd.R_mono (Kd.R_far (p:=⟨gb118,1,none⟩) (Kd.R_far (p:=⟨gb118,0,none⟩) (Kd.R_types HO_7.out BK118.out (by decide)) (fun _ hk=>hk.2) (.bool false)) (fun _ hk=>hk.2) (.string ((rd_T61 l0 x19_1).f1))) (fun _ hk=>hk.1)))⟩;have n3_ : Aside0 (w34.heap[gb118]? = some (.cells #[.bool false,.string ((rd_T61 l0 x19_1).f1)] 61 (0,0))):=⟨(by rw [hw];exact (by refine blk_put (cs:=#[.bool false,.string (⟨#[]⟩ : ByteArray)]) ?_ 1 _ rfl;refine blk_put (cs:=#[.bool false,.string (⟨#[]⟩ : ByteArray)]) ?_ 0 _ rfl;exact BK118.out))⟩;have n4_ : Aside0 (Below w.heap.size w w34):=⟨(by rw [hw];exact (by repeat ((with_reducible first|exact HB.out|refine below_set ?_ GE118.out))))⟩;clear hw HO_5 HO_6 HO_7 BK118 HB;have HO_5:=n0_;have HO_6:=n1_;have HO_7:=n2_;have BK118:=n3_;have HB:=n4_;clear n0_ n1_ n2_ n3_ n4_;have hcz35_0 : w34.cell? ⟨gb118,0,none⟩ = some (.bool false):=(blk_cell BK118.out 0).trans rfl;have hcz35_1 : w34.cell? ⟨gb118,1,none⟩ = some (.string ((rd_T61 l0 x19_1).f1)):=(blk_cell BK118.out 1).trans rfl;have hfz35_0:=blk_frozen BK118.out 0;have hfz35_1:=blk_frozen BK118.out 1;have p15 : 0 ≤ (x19_1 : Int):=of_decide_eq_true (by with_reducible assumption);have q15 : (x19_1 : Int) < ((x5_1.length : Int) : Int):=of_decide_eq_true (by with_reducible assumption);obtain ⟨go15,co15,eo15,gb15,gl15,cl15,HG15⟩:=Kd.R_form HO_5.out (by omega);(cases eo15);have GB15:=Aside0.mk gb15;have GG15:=Aside0.mk HG15;clear gb15 gl15 HG15;obtain ⟨hx15_0,hf15_0⟩:=Kd.R_celln false HO_5.out (x19_1 : Int) p15 q15;replace p15:=eq_true p15;replace q15:=eq_true q15;obtain ⟨hy36_,hz36_⟩:=Kd.R_celln false HO_5.out (x19_1 : Int) (of_decide_eq_true (by with_reducible assumption)) (of_decide_eq_true (by with_reducible assumption));have HP36:=Kd.R_putg HO_5.out (x19_1 : Int) false)|((with_reducible refine gate_store (t:=4) (p:=28) rfl ?_);refine store_event (t:=4) (p:=28) (v:=?vo_w37) (w1:=(w34.setCell ⟨go15,(x19_1 : Int).toNat,none⟩ (.bool false))) ?hg ?ho ?hn ?hr ?_;(case ho=>rfl);(case hg=>rfl);(case hn=>rfl);(case hr=>(go_simp;done));intro w37 hw;have hg : w34.grownBy w37 (some go15):=(by rw [hw];exact HP36.2);have hp_ : Kd.R Kd.bool 4 w37 w.heap.size (fun _=>True) (.slice (some ⟨go15,0,none⟩) x5_1.length co15) y119:=(by rw [hw,Ny119.out];(try rw [← Nbq16.out]);exact HP36.1);clear HP36;replace HO_6:=Aside0.mk (Kd.R_over' (v:=(.slice (some ⟨go15,0,none⟩) x5_1.length co15)) HO_6.out (Kd.R_typed HO_5.out) (by decide) hg);replace HO_7:=Aside0.mk (Kd.R_over' (v:=(.slice (some ⟨go15,0,none⟩) x5_1.length co15)) HO_7.out (Kd.R_typed HO_5.out) (by decide) hg);replace BK118:=Aside0.mk (blk_grown (g:=gb118) (o:=.cells #[.bool false,.string ((rd_T61 l0 x19_1).f1)] 61 (0,0)) BK118.out hg (Kd.R_ne HO_5.out BK118.out (by decide)));replace HO_5:=Aside0.mk (hp_);replace HB:=Aside0.mk ((by rw [hw];exact below_set (HB.out) GB15.out : Below w.heap.size w w37));clear hg hw hp_;have hcz38_0 : w37.cell? ⟨gb118,0,none⟩ = some (.bool false):=(blk_cell BK118.out 0).trans rfl;have hcz38_1 : w37.cell? ⟨gb118,1,none⟩ = some (.string ((rd_T61 l0 x19_1).f1)):=(blk_cell BK118.out 1).trans rfl;have hfz38_0:=blk_frozen BK118.out 0;have hfz38_1:=blk_frozen BK118.out 1))
     go_roundg k1
     case measure=>have:=HK1.out;omega
     case rel=>exact ⟨(y119),(x6_1),(x7_1),(wrap64 (x19_1 + 1)),(by rfl),H',⟨by have:=HK1.out;omega⟩,⟨by exact HO_5.out⟩,⟨by exact HO_6.out⟩,⟨by exact HO_7.out⟩,⟨HB.out⟩⟩
   ·rw [if_neg c11] at H
    have c11b0:=decide_eq_false c11
    clear c11
    simp only [Option.some.injEq,Prod.mk.injEq] at H
    obtain ⟨rfl,rfl,rfl⟩:=H
    go_wp2
    go_ret3
    exact ⟨_,_,_,by rfl,by exact HO_5.out,by exact HO_6.out,by exact HO_7.out,HB.out⟩

/-! ### impl_leadOf: function 129 -/






end Go.Proofs.Ytffhbpepppodeaa.PFnExactDecodeShards
