import Derived.Test.YtffhbpepppodeaaPFnExactDecodeShardsx0
namespace Go.Proofs.Ytffhbpepppodeaa.PFnExactDecodeShards
private theorem nn {α : Type} {c : Prop} [Decidable c] {a : Option α} {r : α} (h : (if c then a else none) = some r) : c ∧ a = some r:=by
 split at h
 ·exact ⟨‹c›,h⟩
 ·cases h
open Go.RowKit Go.Proofs.YtffhbpepppodeaaW.PrintWords Go.Proofs.YtffhbpepppodeaaW.PrintLast Go.Proofs.YtffhbpepppodeaaW.PrintMore
attribute [local go_sem] max2_int min2_int max_two min_two max_three min_three max_four min_four   -- for this text's walks alone
set_option linter.unusedVariables false
set_option linter.unusedSimpArgs false

/-! ### laws_szShard: function 102 -/
def laws_szShard.f (a0_0 : Bool) (a0_1 : ByteArray) (a1 : Int) : Option (Int):=if (wrap64 (a1 - (a0_1.size : Int))) < 0 then (some (-1)) else (some (wrap64 (a1 - (a0_1.size : Int))))
set_option maxHeartbeats 8000000 in
set_option maxRecDepth 100000 in
theorem laws_szShard.calls (a0_0 : Bool) (a0_1 : ByteArray) (a1 : Int) (r : Int) (w : World) (h : laws_szShard.f a0_0 a0_1 a1 = some r) :
  Calls Try.prog 102 #[.agg #[.bool a0_0,.string a0_1],.int .i64 a1] w fun e w'=>e = .returned (.int .i64 r) ∧ Below w.heap.size w w':=by
 have hu145:=Try.underlying145
 have HB:=Aside0.mk (Below.refl w.heap.size w)
 have H : (if (wrap64 (a1 - (a0_1.size : Int))) < 0 then (some (-1)) else (some (wrap64 (a1 - (a0_1.size : Int))))) = some r:=h
 clear h
 by_cases c3 : (wrap64 (a1 - (a0_1.size : Int))) < 0
 ·rw [if_pos c3] at H
  have c3b0:=decide_eq_true c3
  clear c3
  obtain rfl:=Option.some.inj H
  go_enter Try.func102,Try.ntmps102
  go_wp2_with (((with_reducible refine gate_dst (N:=2) rfl ?_);refine box_event ?hg (N:=2) ?hd (cs:=#[.bool a0_0,.string a0_1]) (t:=145) ?hr ?_;(case hd=>rfl);(case hg=>rfl);(case hr=>(go_simp;done));intro gb125 hg w4 hbox hb;have BK125:=Aside0.mk (hbox);have GW125:=Aside0.mk ((by rw [hg];exact (below_size HB.out) : w.heap.size ≤ gb125));have GE125:=Aside0.mk ((by rw [hg];exact (below_size HB.out) : w.heap.size ≤ gb125));replace HB:=Aside0.mk (below_step HB.out hb);clear hb hbox hg;have hcz5_0 : w4.cell? ⟨gb125,0,none⟩ = some (.bool a0_0):=(blk_cell BK125.out 0).trans rfl;have hcz5_1 : w4.cell? ⟨gb125,1,none⟩ = some (.string a0_1):=(blk_cell BK125.out 1).trans rfl;have hfz5_0:=blk_frozen BK125.out 0;have hfz5_1:=blk_frozen BK125.out 1))
  go_ret
  exact ⟨by rfl,HB.out⟩
 ·rw [if_neg c3] at H
  have c3b0:=decide_eq_false c3
  clear c3
  obtain rfl:=Option.some.inj H
  go_enter Try.func102,Try.ntmps102
  go_wp2_with (((with_reducible refine gate_dst (N:=2) rfl ?_);refine box_event ?hg (N:=2) ?hd (cs:=#[.bool a0_0,.string a0_1]) (t:=145) ?hr ?_;(case hd=>rfl);(case hg=>rfl);(case hr=>(go_simp;done));intro gb125 hg w6 hbox hb;have BK125:=Aside0.mk (hbox);have GW125:=Aside0.mk ((by rw [hg];exact (below_size HB.out) : w.heap.size ≤ gb125));have GE125:=Aside0.mk ((by rw [hg];exact (below_size HB.out) : w.heap.size ≤ gb125));replace HB:=Aside0.mk (below_step HB.out hb);clear hb hbox hg;have hcz7_0 : w6.cell? ⟨gb125,0,none⟩ = some (.bool a0_0):=(blk_cell BK125.out 0).trans rfl;have hcz7_1 : w6.cell? ⟨gb125,1,none⟩ = some (.string a0_1):=(blk_cell BK125.out 1).trans rfl;have hfz7_0:=blk_frozen BK125.out 0;have hfz7_1:=blk_frozen BK125.out 1))
  go_ret
  exact ⟨by rfl,HB.out⟩

/-! ### laws_szShardS: function 43 -/
def laws_szShardS.l0 : Nat → List (S145) → Int → Int → Option (Int)
 | 0,_,_,_=>none
 | k + 1,x0,x1,x5=>if x5 < (x0.length : Int) then (if 0 ≤ x5 then ((laws_szShard.f ((rd_T145 x0 x5).f0) ((rd_T145 x0 x5).f1) x1).bind fun t127=>(if t127 < 0 then (some (-1)) else (laws_szShardS.l0 k x0 t127 (wrap64 (x5 + 1))))) else (none)) else (some x1)
def laws_szShardS.f (k : Nat) (l0 : List (S145)) (a1 : Int) : Option (Int):=if (wrap64 (a1 - (l0.length : Int))) < 0 then (some (-1)) else (laws_szShardS.l0 k l0 (wrap64 (a1 - (l0.length : Int))) 0)
set_option maxHeartbeats 8000000 in
set_option maxRecDepth 100000 in
theorem laws_szShardS.calls (k : Nat) (A0 : Option Addr) (c0 : Nat) (l0 : List (S145)) (a1 : Int) (r : Int) (w : World) (hr0 : Kd.C k145 w A0 l0.length l0) (hc0 : l0.length ≤ c0) (h : laws_szShardS.f k l0 a1 = some r) :
  Calls Try.prog 43 #[.slice A0 l0.length c0,.int .i64 a1] w fun e w'=>e = .returned (.int .i64 r) ∧ Below w.heap.size w w':=by
 have hu145:=Try.underlying145
 have HR0:=Aside0.mk hr0
 have HC0:=Aside0.mk hc0
 clear hr0 hc0
 have HB:=Aside0.mk (Below.refl w.heap.size w)
 have H : (if (wrap64 (a1 - (l0.length : Int))) < 0 then (some (-1)) else (laws_szShardS.l0 k l0 (wrap64 (a1 - (l0.length : Int))) 0)) = some r:=h
 clear h
 by_cases c3 : (wrap64 (a1 - (l0.length : Int))) < 0
 ·rw [if_pos c3] at H
  have c3b0:=decide_eq_true c3
  clear c3
  obtain rfl:=Option.some.inj H
  go_enter Try.func43,Try.ntmps43
  go_wp2
  go_ret
  exact ⟨by rfl,HB.out⟩
 ·rw [if_neg c3] at H
  have c3b0:=decide_eq_false c3
  clear c3
  have H':=Aside0.mk H
  clear H
  go_enter Try.func43,Try.ntmps43
  go_wp2
  go_loopg [1,5] k (fun kq v1 v5 w'=>∃ (x1_1 : Int) (x5_1 : Int),v1 = .int .i64 x1_1 ∧ v5 = .int .i64 x5_1 ∧ Aside0 (laws_szShardS.l0 kq l0 x1_1 x5_1 = some r) ∧ Aside0 (kq ≤ k) ∧ Aside0 (Below w.heap.size w w'))
  case atStart=>exact ⟨(wrap64 (a1 - (l0.length : Int))),(0),(by rfl),(by rfl),H',⟨Nat.le_refl _⟩,⟨HB.out⟩⟩
  case round=>
   clear H'
   (try clear c3b0)
   obtain ⟨x1_1,x5_1,rfl,rfl,HA,HK1,HB⟩:=hrel
   cases gk with
   | zero=>exact absurd HA.out (by simp [laws_szShardS.l0])
   | succ k1=>
    have H:=HA.out
    clear HA
    simp only [laws_szShardS.l0] at H
    by_cases c4 : x5_1 < (l0.length : Int)
    ·rw [if_pos c4] at H
     have c4b0:=decide_eq_true c4
     clear c4
     obtain ⟨c5,H⟩:=nn H
     have c5b0:=decide_eq_true c5
     clear c5
     replace H:=Option.bind_eq_some_iff.mp H
     obtain ⟨t127,A60,H⟩:=H
     replace H : (if t127 < 0 then (some (-1)) else (laws_szShardS.l0 k1 l0 t127 (wrap64 (x5_1 + 1)))) = some r:=H
     have A6:=Aside0.mk A60
     clear A60
     by_cases c7 : t127 < 0
     ·rw [if_pos c7] at H
      have c7b0:=decide_eq_true c7
      clear c7
      obtain rfl:=Option.some.inj H
      have p126 : 0 ≤ (x5_1 : Int):=of_decide_eq_true (by with_reducible assumption)
      have q126 : x5_1 < (l0.length : Int):=of_decide_eq_true (by with_reducible assumption)
      obtain ⟨ad126,e126,hx126_0,hx126_1⟩:=at_T145 HR0.out x5_1 p126 q126
      cases e126
      replace hx126_0:=(HB.out.cell (World.block_lt_of_cell? w _ hx126_0)).trans hx126_0
      replace hx126_1:=(HB.out.cell (World.block_lt_of_cell? w _ hx126_1)).trans hx126_1
      replace p126:=eq_true p126
      replace q126:=eq_true q126
      go_wp2_with (((with_reducible refine gate_callee (f:=102) rfl ?_);refine goesL_ (some 23) rfl rfl Try.func102 (by kernel_rfl) rfl #[.agg #[.bool ((rd_T145 l0 x5_1).f0),.string ((rd_T145 l0 x5_1).f1)],.int .i64 x1_1] rfl (by (try simp only [List.map_toArray,List.map_cons,List.map_nil]);rfl) ?_;(with_reducible refine (laws_szShard.calls ((rd_T145 l0 x5_1).f0) ((rd_T145 l0 x5_1).f1) x1_1 t127 _ A6.out).mono ?_);rintro e w8 ⟨rfl,hb⟩;refine ⟨_,rfl,?_⟩;replace HB:=Aside0.mk (below_step HB.out hb);(try clear hb)))
      go_ret
      exact ⟨by rfl,HB.out⟩
     ·rw [if_neg c7] at H
      have c7b0:=decide_eq_false c7
      clear c7
      have H':=Aside0.mk H
      clear H
      have p126 : 0 ≤ (x5_1 : Int):=of_decide_eq_true (by with_reducible assumption)
      have q126 : x5_1 < (l0.length : Int):=of_decide_eq_true (by with_reducible assumption)
      obtain ⟨ad126,e126,hx126_0,hx126_1⟩:=at_T145 HR0.out x5_1 p126 q126
      cases e126
      replace hx126_0:=(HB.out.cell (World.block_lt_of_cell? w _ hx126_0)).trans hx126_0
      replace hx126_1:=(HB.out.cell (World.block_lt_of_cell? w _ hx126_1)).trans hx126_1
      replace p126:=eq_true p126
      replace q126:=eq_true q126
      go_wp2_with (((with_reducible refine gate_callee (f:=102) rfl ?_);refine goesL_ (some 23) rfl rfl Try.func102 (by kernel_rfl) rfl #[.agg #[.bool ((rd_T145 l0 x5_1).f0),.string ((rd_T145 l0 x5_1).f1)],.int .i64 x1_1] rfl (by (try simp only [List.map_toArray,List.map_cons,List.map_nil]);rfl) ?_;(with_reducible refine (laws_szShard.calls ((rd_T145 l0 x5_1).f0) ((rd_T145 l0 x5_1).f1) x1_1 t127 _ A6.out).mono ?_);rintro e w9 ⟨rfl,hb⟩;refine ⟨_,rfl,?_⟩;replace HB:=Aside0.mk (below_step HB.out hb);(try clear hb)))
      go_roundg k1
      case measure=>have:=HK1.out;omega
      case rel=>exact ⟨(t127),(wrap64 (x5_1 + 1)),(by rfl),(by rfl),H',⟨by have:=HK1.out;omega⟩,⟨HB.out⟩⟩
    ·rw [if_neg c4] at H
     have c4b0:=decide_eq_false c4
     clear c4
     obtain rfl:=Option.some.inj H
     go_wp2
     go_ret
     exact ⟨by rfl,HB.out⟩

/-! ### spec_CodeFault: function 89 -/
def spec_CodeFault.f (a0_0 : Int) (a0_1 : Int) (a0_2 : Int) : Option (Int):=if a0_0 < 1 then (some 1) else (if a0_0 > 32 then (some 1) else (if a0_1 < 0 then (some 1) else (if a0_1 > 16 then (some 1) else (if a0_2 < 0 then (some 1) else (if a0_2 > a0_0 then (some 1) else (if (wrap64 ((wrap64 (a0_0 + a0_1)) + a0_2)) > 64 then (some 1) else (some 0)))))))
set_option maxHeartbeats 8000000 in
set_option maxRecDepth 100000 in
theorem spec_CodeFault.calls (a0_0 : Int) (a0_1 : Int) (a0_2 : Int) (r : Int) (w : World) (h : spec_CodeFault.f a0_0 a0_1 a0_2 = some r) :
  Calls Try.prog 89 #[.agg #[.int .i64 a0_0,.int .i64 a0_1,.int .i64 a0_2]] w fun e w'=>e = .returned (.int .i64 r) ∧ Below w.heap.size w w':=by
 have hu43:=Try.underlying43
 have HB:=Aside0.mk (Below.refl w.heap.size w)
 have H : (if a0_0 < 1 then (some 1) else (if a0_0 > 32 then (some 1) else (if a0_1 < 0 then (some 1) else (if a0_1 > 16 then (some 1) else (if a0_2 < 0 then (some 1) else (if a0_2 > a0_0 then (some 1) else (if (wrap64 ((wrap64 (a0_0 + a0_1)) + a0_2)) > 64 then (some 1) else (some 0)))))))) = some r:=h
 clear h
 by_cases c2 : a0_0 < 1
 ·rw [if_pos c2] at H
  have c2b0:=decide_eq_true c2
  clear c2
  obtain rfl:=Option.some.inj H
  go_enter Try.func89,Try.ntmps89
  go_wp2_with (((with_reducible refine gate_dst (N:=1) rfl ?_);refine box_event ?hg (N:=1) ?hd (cs:=#[.int .i64 a0_0,.int .i64 a0_1,.int .i64 a0_2]) (t:=43) ?hr ?_;(case hd=>rfl);(case hg=>rfl);(case hr=>(go_simp;done));intro gb128 hg w3 hbox hb;have BK128:=Aside0.mk (hbox);have GW128:=Aside0.mk ((by rw [hg];exact (below_size HB.out) : w.heap.size ≤ gb128));have GE128:=Aside0.mk ((by rw [hg];exact (below_size HB.out) : w.heap.size ≤ gb128));replace HB:=Aside0.mk (below_step HB.out hb);clear hb hbox hg;have hcz4_0 : w3.cell? ⟨gb128,0,none⟩ = some (.int .i64 a0_0):=(blk_cell BK128.out 0).trans rfl;have hcz4_1 : w3.cell? ⟨gb128,1,none⟩ = some (.int .i64 a0_1):=(blk_cell BK128.out 1).trans rfl;have hcz4_2 : w3.cell? ⟨gb128,2,none⟩ = some (.int .i64 a0_2):=(blk_cell BK128.out 2).trans rfl;have hfz4_0:=blk_frozen BK128.out 0;have hfz4_1:=blk_frozen BK128.out 1;have hfz4_2:=blk_frozen BK128.out 2))
  go_ret
  exact ⟨by rfl,HB.out⟩
 ·rw [if_neg c2] at H
  have c2b0:=decide_eq_false c2
  clear c2
  by_cases c5 : a0_0 > 32
  ·rw [if_pos c5] at H
   have c5b0:=decide_eq_true c5
   clear c5
   obtain rfl:=Option.some.inj H
   go_enter Try.func89,Try.ntmps89
   go_wp2_with (((with_reducible refine gate_dst (N:=1) rfl ?_);refine box_event ?hg (N:=1) ?hd (cs:=#[.int .i64 a0_0,.int .i64 a0_1,.int .i64 a0_2]) (t:=43) ?hr ?_;(case hd=>rfl);(case hg=>rfl);(case hr=>(go_simp;done));intro gb128 hg w6 hbox hb;have BK128:=Aside0.mk (hbox);have GW128:=Aside0.mk ((by rw [hg];exact (below_size HB.out) : w.heap.size ≤ gb128));have GE128:=Aside0.mk ((by rw [hg];exact (below_size HB.out) : w.heap.size ≤ gb128));replace HB:=Aside0.mk (below_step HB.out hb);clear hb hbox hg;have hcz7_0 : w6.cell? ⟨gb128,0,none⟩ = some (.int .i64 a0_0):=(blk_cell BK128.out 0).trans rfl;have hcz7_1 : w6.cell? ⟨gb128,1,none⟩ = some (.int .i64 a0_1):=(blk_cell BK128.out 1).trans rfl;have hcz7_2 : w6.cell? ⟨gb128,2,none⟩ = some (.int .i64 a0_2):=(blk_cell BK128.out 2).trans rfl;have hfz7_0:=blk_frozen BK128.out 0;have hfz7_1:=blk_frozen BK128.out 1;have hfz7_2:=blk_frozen BK128.out 2))
   go_ret
   exact ⟨by rfl,HB.out⟩
  ·rw [if_neg c5] at H
   have c5b0:=decide_eq_false c5
   clear c5
   by_cases c8 : a0_1 < 0
   ·rw [if_pos c8] at H
    have c8b0:=decide_eq_true c8
    clear c8
    obtain rfl:=Option.some.inj H
    go_enter Try.func89,Try.ntmps89
    go_wp2_with (((with_reducible refine gate_dst (N:=1) rfl ?_);refine box_event ?hg (N:=1) ?hd (cs:=#[.int .i64 a0_0,.int .i64 a0_1,.int .i64 a0_2]) (t:=43) ?hr ?_;(case hd=>rfl);(case hg=>rfl);(case hr=>(go_simp;done));intro gb128 hg w9 hbox hb;have BK128:=Aside0.mk (hbox);have GW128:=Aside0.mk ((by rw [hg];exact (below_size HB.out) : w.heap.size ≤ gb128));have GE128:=Aside0.mk ((by rw [hg];exact (below_size HB.out) : w.heap.size ≤ gb128));replace HB:=Aside0.mk (below_step HB.out hb);clear hb hbox hg;have hcz10_0 : w9.cell? ⟨gb128,0,none⟩ = some (.int .i64 a0_0):=(blk_cell BK128.out 0).trans rfl;have hcz10_1 : w9.cell? ⟨gb128,1,none⟩ = some (.int .i64 a0_1):=(blk_cell BK128.out 1).trans rfl;have hcz10_2 : w9.cell? ⟨gb128,2,none⟩ = some (.int .i64 a0_2):=(blk_cell BK128.out 2).trans rfl;have hfz10_0:=blk_frozen BK128.out 0;have hfz10_1:=blk_frozen BK128.out 1;have hfz10_2:=blk_frozen BK128.out 2))
    go_ret
    exact ⟨by rfl,HB.out⟩
   ·rw [if_neg c8] at H
    have c8b0:=decide_eq_false c8
    clear c8
    by_cases c11 : a0_1 > 16
    ·rw [if_pos c11] at H
     have c11b0:=decide_eq_true c11
     clear c11
     obtain rfl:=Option.some.inj H
     go_enter Try.func89,Try.ntmps89
     go_wp2_with (((with_reducible refine gate_dst (N:=1) rfl ?_);refine box_event ?hg (N:=1) ?hd (cs:=#[.int .i64 a0_0,.int .i64 a0_1,.int .i64 a0_2]) (t:=43) ?hr ?_;(case hd=>rfl);(case hg=>rfl);(case hr=>(go_simp;done));intro gb128 hg w12 hbox hb;have BK128:=Aside0.mk (hbox);have GW128:=Aside0.mk ((by rw [hg];exact (below_size HB.out) : w.heap.size ≤ gb128));have GE128:=Aside0.mk ((by rw [hg];exact (below_size HB.out) : w.heap.size ≤ gb128));replace HB:=Aside0.mk (below_step HB.out hb);clear hb hbox hg;have hcz13_0 : w12.cell? ⟨gb128,0,none⟩ = some (.int .i64 a0_0):=(blk_cell BK128.out 0).trans rfl;have hcz13_1 : w12.cell? ⟨gb128,1,none⟩ = some (.int .i64 a0_1):=(blk_cell BK128.out 1).trans rfl;have hcz13_2 : w12.cell? ⟨gb128,2,none⟩ = some (.int .i64 a0_2):=(blk_cell BK128.out 2).trans rfl;have hfz13_0:=blk_frozen BK128.out 0;have hfz13_1:=blk_frozen BK128.out 1;have hfz13_2:=blk_frozen BK128.out 2))
     go_ret
     exact ⟨by rfl,HB.out⟩
    ·rw [if_neg c11] at H
     have c11b0:=decide_eq_false c11
     clear c11
     by_cases c14 : a0_2 < 0
     ·rw [if_pos c14] at H
      have c14b0:=decide_eq_true c14
      clear c14
      obtain rfl:=Option.some.inj H
      go_enter Try.func89,Try.ntmps89
      go_wp2_with (((with_reducible refine gate_dst (N:=1) rfl ?_);refine box_event ?hg (N:=1) ?hd (cs:=#[.int .i64 a0_0,.int .i64 a0_1,.int .i64 a0_2]) (t:=43) ?hr ?_;(case hd=>rfl);(case hg=>rfl);(case hr=>(go_simp;done));intro gb128 hg w15 hbox hb;have BK128:=Aside0.mk (hbox);have GW128:=Aside0.mk ((by rw [hg];exact (below_size HB.out) : w.heap.size ≤ gb128));have GE128:=Aside0.mk ((by rw [hg];exact (below_size HB.out) : w.heap.size ≤ gb128));replace HB:=Aside0.mk (below_step HB.out hb);clear hb hbox hg;have hcz16_0 : w15.cell? ⟨gb128,0,none⟩ = some (.int .i64 a0_0):=(blk_cell BK128.out 0).trans rfl;have hcz16_1 : w15.cell? ⟨gb128,1,none⟩ = some (.int .i64 a0_1):=(blk_cell BK128.out 1).trans rfl;have hcz16_2 : w15.cell? ⟨gb128,2,none⟩ = some (.int .i64 a0_2):=(blk_cell BK128.out 2).trans rfl;have hfz16_0:=blk_frozen BK128.out 0;have hfz16_1:=blk_frozen BK128.out 1;have hfz16_2:=blk_frozen BK128.out 2))
      go_ret
      exact ⟨by rfl,HB.out⟩
     ·rw [if_neg c14] at H
      have c14b0:=decide_eq_false c14
      clear c14
      by_cases c17 : a0_2 > a0_0
      ·rw [if_pos c17] at H
       have c17b0:=decide_eq_true c17
       clear c17
       obtain rfl:=Option.some.inj H
       go_enter Try.func89,Try.ntmps89
       go_wp2_with (((with_reducible refine gate_dst (N:=1) rfl ?_);refine box_event ?hg (N:=1) ?hd (cs:=#[.int .i64 a0_0,.int .i64 a0_1,.int .i64 a0_2]) (t:=43) ?hr ?_;(case hd=>rfl);(case hg=>rfl);(case hr=>(go_simp;done));intro gb128 hg w18 hbox hb;have BK128:=Aside0.mk (hbox);have GW128:=Aside0.mk ((by rw [hg];exact (below_size HB.out) : w.heap.size ≤ gb128));have GE128:=Aside0.mk ((by rw [hg];exact (below_size HB.out) : w.heap.size ≤ gb128));replace HB:=Aside0.mk (below_step HB.out hb);clear hb hbox hg;have hcz19_0 : w18.cell? ⟨gb128,0,none⟩ = some (.int .i64 a0_0):=(blk_cell BK128.out 0).trans rfl;have hcz19_1 : w18.cell? ⟨gb128,1,none⟩ = some (.int .i64 a0_1):=(blk_cell BK128.out 1).trans rfl;have hcz19_2 : w18.cell? ⟨gb128,2,none⟩ = some (.int .i64 a0_2):=(blk_cell BK128.out 2).trans rfl;have hfz19_0:=blk_frozen BK128.out 0;have hfz19_1:=blk_frozen BK128.out 1;have hfz19_2:=blk_frozen BK128.out 2))
       go_ret
       exact ⟨by rfl,HB.out⟩
      ·rw [if_neg c17] at H
       have c17b0:=decide_eq_false c17
       clear c17
       by_cases c20 : (wrap64 ((wrap64 (a0_0 + a0_1)) + a0_2)) > 64
       ·rw [if_pos c20] at H
        have c20b0:=decide_eq_true c20
        clear c20
        obtain rfl:=Option.some.inj H
        go_enter Try.func89,Try.ntmps89
        go_wp2_with (((with_reducible refine gate_dst (N:=1) rfl ?_);refine box_event ?hg (N:=1) ?hd (cs:=#[.int .i64 a0_0,.int .i64 a0_1,.int .i64 a0_2]) (t:=43) ?hr ?_;(case hd=>rfl);(case hg=>rfl);(case hr=>(go_simp;done));intro gb128 hg w21 hbox hb;have BK128:=Aside0.mk (hbox);have GW128:=Aside0.mk ((by rw [hg];exact (below_size HB.out) : w.heap.size ≤ gb128));have GE128:=Aside0.mk ((by rw [hg];exact (below_size HB.out) : w.heap.size ≤ gb128));replace HB:=Aside0.mk (below_step HB.out hb);clear hb hbox hg;have hcz22_0 : w21.cell? ⟨gb128,0,none⟩ = some (.int .i64 a0_0):=(blk_cell BK128.out 0).trans rfl;have hcz22_1 : w21.cell? ⟨gb128,1,none⟩ = some (.int .i64 a0_1):=(blk_cell BK128.out 1).trans rfl;have hcz22_2 : w21.cell? ⟨gb128,2,none⟩ = some (.int .i64 a0_2):=(blk_cell BK128.out 2).trans rfl;have hfz22_0:=blk_frozen BK128.out 0;have hfz22_1:=blk_frozen BK128.out 1;have hfz22_2:=blk_frozen BK128.out 2))
        go_ret
        exact ⟨by rfl,HB.out⟩
       ·rw [if_neg c20] at H
        have c20b0:=decide_eq_false c20
        clear c20
        obtain rfl:=Option.some.inj H
        go_enter Try.func89,Try.ntmps89
        go_wp2_with (((with_reducible refine gate_dst (N:=1) rfl ?_);refine box_event ?hg (N:=1) ?hd (cs:=#[.int .i64 a0_0,.int .i64 a0_1,.int .i64 a0_2]) (t:=43) ?hr ?_;(case hd=>rfl);(case hg=>rfl);(case hr=>(go_simp;done));intro gb128 hg w23 hbox hb;have BK128:=Aside0.mk (hbox);have GW128:=Aside0.mk ((by rw [hg];exact (below_size HB.out) : w.heap.size ≤ gb128));have GE128:=Aside0.mk ((by rw [hg];exact (below_size HB.out) : w.heap.size ≤ gb128));replace HB:=Aside0.mk (below_step HB.out hb);clear hb hbox hg;have hcz24_0 : w23.cell? ⟨gb128,0,none⟩ = some (.int .i64 a0_0):=(blk_cell BK128.out 0).trans rfl;have hcz24_1 : w23.cell? ⟨gb128,1,none⟩ = some (.int .i64 a0_1):=(blk_cell BK128.out 1).trans rfl;have hcz24_2 : w23.cell? ⟨gb128,2,none⟩ = some (.int .i64 a0_2):=(blk_cell BK128.out 2).trans rfl;have hfz24_0:=blk_frozen BK128.out 0;have hfz24_1:=blk_frozen BK128.out 1;have hfz24_2:=blk_frozen BK128.out 2))
        go_ret
        exact ⟨by rfl,HB.out⟩

/-! ### spec_l04Len: function 90 -/
def spec_l04Len.l0 : Nat → List ByteArray → List Bool → Int → Int → Option (Int)
 | 0,_,_,_,_=>none
 | k + 1,x0,x1,x5,x6=>if x6 < (x0.length : Int) then (if 0 ≤ x6 then (if x6 < (x1.length : Int) then (if rdOf false x1 x6 = true then (if x5 ≥ 0 then (if ((rdOf ByteArray.empty x0 x6).size : Int) = x5 then (if ((rdOf ByteArray.empty x0 x6).size : Int) < 1 then (some (-1)) else (if ((rdOf ByteArray.empty x0 x6).size : Int) > 4096 then (some (-1)) else (spec_l04Len.l0 k x0 x1 ((rdOf ByteArray.empty x0 x6).size : Int) (wrap64 (x6 + 1))))) else (some (-1))) else (if ((rdOf ByteArray.empty x0 x6).size : Int) < 1 then (some (-1)) else (if ((rdOf ByteArray.empty x0 x6).size : Int) > 4096 then (some (-1)) else (spec_l04Len.l0 k x0 x1 ((rdOf ByteArray.empty x0 x6).size : Int) (wrap64 (x6 + 1)))))) else (spec_l04Len.l0 k x0 x1 x5 (wrap64 (x6 + 1)))) else (none)) else (none)) else (some x5)
def spec_l04Len.f (k : Nat) (l0 : List ByteArray) (l1 : List Bool) : Option (Int):=spec_l04Len.l0 k l0 l1 (-1) 0
set_option maxHeartbeats 8000000 in
set_option maxRecDepth 100000 in
theorem spec_l04Len.calls (k : Nat) (A0 : Option Addr) (c0 : Nat) (l0 : List ByteArray) (A1 : Option Addr) (c1 : Nat) (l1 : List Bool) (r : Int) (w : World) (hr0 : Kd.C Kd.string w A0 l0.length l0) (hc0 : l0.length ≤ c0) (hr1 : Kd.C Kd.bool w A1 l1.length l1) (hc1 : l1.length ≤ c1) (h : spec_l04Len.f k l0 l1 = some r) :
  Calls Try.prog 90 #[.slice A0 l0.length c0,.slice A1 l1.length c1] w fun e w'=>e = .returned (.int .i64 r) ∧ Drawn0 w w':=by
 have HR0:=Aside0.mk hr0
 have HC0:=Aside0.mk hc0
 clear hr0 hc0
 have HR1:=Aside0.mk hr1
 have HC1:=Aside0.mk hc1
 clear hr1 hc1
 have H : (spec_l04Len.l0 k l0 l1 (-1) 0) = some r:=h
 clear h
 have H':=Aside0.mk H
 clear H
 go_enter Try.func90,Try.ntmps90
 go_wp2
 go_loopg [5,6] k (fun kq v5 v6 w'=>∃ (x5_1 : Int) (x6_1 : Int),v5 = .int .i64 x5_1 ∧ v6 = .int .i64 x6_1 ∧ Aside0 (spec_l04Len.l0 kq l0 l1 x5_1 x6_1 = some r) ∧ Aside0 (kq ≤ k) ∧ Drawn0 w w')
 case atStart=>exact ⟨((-1)),(0),(by rfl),(by rfl),H',⟨Nat.le_refl _⟩,by repeat (exact Drawn0.refl _)⟩
 case round=>
  clear H'
  obtain ⟨x5_1,x6_1,rfl,rfl,HA,HK1,⟨m1,rfl⟩⟩:=hrel
  cases gk with
  | zero=>exact absurd HA.out (by simp [spec_l04Len.l0])
  | succ k1=>
   have H:=HA.out
   clear HA
   simp only [spec_l04Len.l0] at H
   by_cases c3 : x6_1 < (l0.length : Int)
   ·rw [if_pos c3] at H
    have c3b0:=decide_eq_true c3
    clear c3
    obtain ⟨c4,H⟩:=nn H
    have c4b0:=decide_eq_true c4
    clear c4
    obtain ⟨c5,H⟩:=nn H
    have c5b0:=decide_eq_true c5
    clear c5
    obtain ⟨bq6,hbq6⟩ : ∃ b_ : Bool,b_ = (rdOf false l1 x6_1):=⟨_,rfl⟩
    replace H : (if bq6 = true then (if x5_1 ≥ 0 then (if ((rdOf ByteArray.empty l0 x6_1).size : Int) = x5_1 then (if ((rdOf ByteArray.empty l0 x6_1).size : Int) < 1 then (some (-1)) else (if ((rdOf ByteArray.empty l0 x6_1).size : Int) > 4096 then (some (-1)) else (spec_l04Len.l0 k1 l0 l1 ((rdOf ByteArray.empty l0 x6_1).size : Int) (wrap64 (x6_1 + 1))))) else (some (-1))) else (if ((rdOf ByteArray.empty l0 x6_1).size : Int) < 1 then (some (-1)) else (if ((rdOf ByteArray.empty l0 x6_1).size : Int) > 4096 then (some (-1)) else (spec_l04Len.l0 k1 l0 l1 ((rdOf ByteArray.empty l0 x6_1).size : Int) (wrap64 (x6_1 + 1)))))) else (spec_l04Len.l0 k1 l0 l1 x5_1 (wrap64 (x6_1 + 1)))) = some r:=by rw [← hbq6] at H;exact H
    have Nbq6:=Aside0.mk hbq6
    clear hbq6
    by_cases c7 : bq6 = true
    ·subst c7
     have H1 : (if x5_1 ≥ 0 then (if ((rdOf ByteArray.empty l0 x6_1).size : Int) = x5_1 then (if ((rdOf ByteArray.empty l0 x6_1).size : Int) < 1 then (some (-1)) else (if ((rdOf ByteArray.empty l0 x6_1).size : Int) > 4096 then (some (-1)) else (spec_l04Len.l0 k1 l0 l1 ((rdOf ByteArray.empty l0 x6_1).size : Int) (wrap64 (x6_1 + 1))))) else (some (-1))) else (if ((rdOf ByteArray.empty l0 x6_1).size : Int) < 1 then (some (-1)) else (if ((rdOf ByteArray.empty l0 x6_1).size : Int) > 4096 then (some (-1)) else (spec_l04Len.l0 k1 l0 l1 ((rdOf ByteArray.empty l0 x6_1).size : Int) (wrap64 (x6_1 + 1)))))) = some r:=by rw [if_pos rfl] at H;exact H
     clear H
     have H:=H1
     clear H1
     by_cases c8 : x5_1 ≥ 0
     ·rw [if_pos c8] at H
      have c8b0:=decide_eq_true c8
      clear c8
      by_cases c9 : ((rdOf ByteArray.empty l0 x6_1).size : Int) = x5_1
      ·rw [if_pos c9] at H
       have c9b0 : (((rdOf ByteArray.empty l0 x6_1).size : Int) == x5_1) = true:=beq_iff_eq.mpr c9
       have c9b1 : (((rdOf ByteArray.empty l0 x6_1).size : Int) != x5_1) = false:=bne_eq_false_iff_eq.mpr c9
       clear c9
       by_cases c10 : ((rdOf ByteArray.empty l0 x6_1).size : Int) < 1
       ·rw [if_pos c10] at H
        have c10b0:=decide_eq_true c10
        have c10b1 : decide ((rdOf ByteArray.empty l0 x6_1).size < 1) = true:=decide_eq_true (by omega)
        clear c10
        obtain rfl:=Option.some.inj H
        have p129 : 0 ≤ (x6_1 : Int):=of_decide_eq_true (by with_reducible assumption)
        have q129 : x6_1 < (l1.length : Int):=of_decide_eq_true (by with_reducible assumption)
        obtain ⟨ad129,e129,hx129_0⟩:=Kd.at_bool HR1.out x6_1 p129 q129
        (try rw [← Nbq6.out] at hx129_0)
        cases e129
        replace p129:=eq_true p129
        replace q129:=eq_true q129
        have p130 : 0 ≤ (x6_1 : Int):=of_decide_eq_true (by with_reducible assumption)
        have q130 : x6_1 < (l0.length : Int):=of_decide_eq_true (by with_reducible assumption)
        obtain ⟨ad130,e130,hx130_0⟩:=Kd.at_string HR0.out x6_1 p130 q130
        cases e130
        replace p130:=eq_true p130
        replace q130:=eq_true q130
        have p131 : 0 ≤ (x6_1 : Int):=of_decide_eq_true (by with_reducible assumption)
        have q131 : x6_1 < (l0.length : Int):=of_decide_eq_true (by with_reducible assumption)
        obtain ⟨ad131,e131,hx131_0⟩:=Kd.at_string HR0.out x6_1 p131 q131
        obtain rfl : ad130 = ad131:=(by injection e131)
        replace p131:=eq_true p131
        replace q131:=eq_true q131
        go_wp2
        go_ret
        exact ⟨by rfl,by repeat (first|exact Drawn0.refl _|apply Drawn0.step)⟩
       ·rw [if_neg c10] at H
        have c10b0:=decide_eq_false c10
        have c10b1 : decide ((rdOf ByteArray.empty l0 x6_1).size < 1) = false:=decide_eq_false (by omega)
        clear c10
        by_cases c11 : ((rdOf ByteArray.empty l0 x6_1).size : Int) > 4096
        ·rw [if_pos c11] at H
         have c11b0:=decide_eq_true c11
         have c11b1 : decide (4096 < (rdOf ByteArray.empty l0 x6_1).size) = true:=decide_eq_true (by omega)
         clear c11
         obtain rfl:=Option.some.inj H
         have p129 : 0 ≤ (x6_1 : Int):=of_decide_eq_true (by with_reducible assumption)
         have q129 : x6_1 < (l1.length : Int):=of_decide_eq_true (by with_reducible assumption)
         obtain ⟨ad129,e129,hx129_0⟩:=Kd.at_bool HR1.out x6_1 p129 q129
         (try rw [← Nbq6.out] at hx129_0)
         cases e129
         replace p129:=eq_true p129
         replace q129:=eq_true q129
         have p130 : 0 ≤ (x6_1 : Int):=of_decide_eq_true (by with_reducible assumption)
         have q130 : x6_1 < (l0.length : Int):=of_decide_eq_true (by with_reducible assumption)
         obtain ⟨ad130,e130,hx130_0⟩:=Kd.at_string HR0.out x6_1 p130 q130
         cases e130
         replace p130:=eq_true p130
         replace q130:=eq_true q130
         have p131 : 0 ≤ (x6_1 : Int):=of_decide_eq_true (by with_reducible assumption)
         have q131 : x6_1 < (l0.length : Int):=of_decide_eq_true (by with_reducible assumption)
         obtain ⟨ad131,e131,hx131_0⟩:=Kd.at_string HR0.out x6_1 p131 q131
         obtain rfl : ad130 = ad131:=(by injection e131)
         replace p131:=eq_true p131
         replace q131:=eq_true q131
         have p132 : 0 ≤ (x6_1 : Int):=of_decide_eq_true (by with_reducible assumption)
         have q132 : x6_1 < (l0.length : Int):=of_decide_eq_true (by with_reducible assumption)
         obtain ⟨ad132,e132,hx132_0⟩:=Kd.at_string HR0.out x6_1 p132 q132
         obtain rfl : ad130 = ad132:=(by injection e132)
         replace p132:=eq_true p132
         replace q132:=eq_true q132
         go_wp2
         go_ret
         exact ⟨by rfl,by repeat (first|exact Drawn0.refl _|apply Drawn0.step)⟩
        ·rw [if_neg c11] at H
         have c11b0:=decide_eq_false c11
         have c11b1 : decide (4096 < (rdOf ByteArray.empty l0 x6_1).size) = false:=decide_eq_false (by omega)
         clear c11
         have H':=Aside0.mk H
         clear H
         have p129 : 0 ≤ (x6_1 : Int):=of_decide_eq_true (by with_reducible assumption)
         have q129 : x6_1 < (l1.length : Int):=of_decide_eq_true (by with_reducible assumption)
         obtain ⟨ad129,e129,hx129_0⟩:=Kd.at_bool HR1.out x6_1 p129 q129
         (try rw [← Nbq6.out] at hx129_0)
         cases e129
         replace p129:=eq_true p129
         replace q129:=eq_true q129
         have p130 : 0 ≤ (x6_1 : Int):=of_decide_eq_true (by with_reducible assumption)
         have q130 : x6_1 < (l0.length : Int):=of_decide_eq_true (by with_reducible assumption)
         obtain ⟨ad130,e130,hx130_0⟩:=Kd.at_string HR0.out x6_1 p130 q130
         cases e130
         replace p130:=eq_true p130
         replace q130:=eq_true q130
         have p131 : 0 ≤ (x6_1 : Int):=of_decide_eq_true (by with_reducible assumption)
         have q131 : x6_1 < (l0.length : Int):=of_decide_eq_true (by with_reducible assumption)
         obtain ⟨ad131,e131,hx131_0⟩:=Kd.at_string HR0.out x6_1 p131 q131
         obtain rfl : ad130 = ad131:=(by injection e131)
         replace p131:=eq_true p131
         replace q131:=eq_true q131
         have p132 : 0 ≤ (x6_1 : Int):=of_decide_eq_true (by with_reducible assumption)
         have q132 : x6_1 < (l0.length : Int):=of_decide_eq_true (by with_reducible assumption)
         obtain ⟨ad132,e132,hx132_0⟩:=Kd.at_string HR0.out x6_1 p132 q132
         obtain rfl : ad130 = ad132:=(by injection e132)
         replace p132:=eq_true p132
         replace q132:=eq_true q132
         have p133 : 0 ≤ (x6_1 : Int):=of_decide_eq_true (by with_reducible assumption)
         have q133 : x6_1 < (l0.length : Int):=of_decide_eq_true (by with_reducible assumption)
         obtain ⟨ad133,e133,hx133_0⟩:=Kd.at_string HR0.out x6_1 p133 q133
         obtain rfl : ad130 = ad133:=(by injection e133)
         replace p133:=eq_true p133
         replace q133:=eq_true q133
         go_wp2
         go_roundg k1
         case measure=>have:=HK1.out;omega
         case rel=>exact ⟨(((rdOf ByteArray.empty l0 x6_1).size : Int)),(wrap64 (x6_1 + 1)),(by rfl),(by rfl),H',⟨by have:=HK1.out;omega⟩,by repeat (first|exact Drawn0.refl _|apply Drawn0.step)⟩
      ·rw [if_neg c9] at H
       have c9b0 : (((rdOf ByteArray.empty l0 x6_1).size : Int) == x5_1) = false:=beq_eq_false_iff_ne.mpr c9
       have c9b1 : (((rdOf ByteArray.empty l0 x6_1).size : Int) != x5_1) = true:=bne_iff_ne.mpr c9
       obtain rfl:=Option.some.inj H
       have p129 : 0 ≤ (x6_1 : Int):=of_decide_eq_true (by with_reducible assumption)
       have q129 : x6_1 < (l1.length : Int):=of_decide_eq_true (by with_reducible assumption)
       obtain ⟨ad129,e129,hx129_0⟩:=Kd.at_bool HR1.out x6_1 p129 q129
       (try rw [← Nbq6.out] at hx129_0)
       cases e129
       replace p129:=eq_true p129
       replace q129:=eq_true q129
       have p130 : 0 ≤ (x6_1 : Int):=of_decide_eq_true (by with_reducible assumption)
       have q130 : x6_1 < (l0.length : Int):=of_decide_eq_true (by with_reducible assumption)
       obtain ⟨ad130,e130,hx130_0⟩:=Kd.at_string HR0.out x6_1 p130 q130
       cases e130
       replace p130:=eq_true p130
       replace q130:=eq_true q130
       go_wp2
       go_ret
       exact ⟨by rfl,by repeat (first|exact Drawn0.refl _|apply Drawn0.step)⟩
     ·rw [if_neg c8] at H
      have c8b0:=decide_eq_false c8
      clear c8
      by_cases c12 : ((rdOf ByteArray.empty l0 x6_1).size : Int) < 1
      ·rw [if_pos c12] at H
       have c12b0:=decide_eq_true c12
       have c12b1 : decide ((rdOf ByteArray.empty l0 x6_1).size < 1) = true:=decide_eq_true (by omega)
       clear c12
       obtain rfl:=Option.some.inj H
       have p129 : 0 ≤ (x6_1 : Int):=of_decide_eq_true (by with_reducible assumption)
       have q129 : x6_1 < (l1.length : Int):=of_decide_eq_true (by with_reducible assumption)
       obtain ⟨ad129,e129,hx129_0⟩:=Kd.at_bool HR1.out x6_1 p129 q129
       (try rw [← Nbq6.out] at hx129_0)
       cases e129
       replace p129:=eq_true p129
       replace q129:=eq_true q129
       have p134 : 0 ≤ (x6_1 : Int):=of_decide_eq_true (by with_reducible assumption)
       have q134 : x6_1 < (l0.length : Int):=of_decide_eq_true (by with_reducible assumption)
       obtain ⟨ad134,e134,hx134_0⟩:=Kd.at_string HR0.out x6_1 p134 q134
       cases e134
       replace p134:=eq_true p134
       replace q134:=eq_true q134
       go_wp2
       go_ret
       exact ⟨by rfl,by repeat (first|exact Drawn0.refl _|apply Drawn0.step)⟩
      ·rw [if_neg c12] at H
       have c12b0:=decide_eq_false c12
       have c12b1 : decide ((rdOf ByteArray.empty l0 x6_1).size < 1) = false:=decide_eq_false (by omega)
       clear c12
       by_cases c13 : ((rdOf ByteArray.empty l0 x6_1).size : Int) > 4096
       ·rw [if_pos c13] at H
        have c13b0:=decide_eq_true c13
        have c13b1 : decide (4096 < (rdOf ByteArray.empty l0 x6_1).size) = true:=decide_eq_true (by omega)
        clear c13
        obtain rfl:=Option.some.inj H
        have p129 : 0 ≤ (x6_1 : Int):=of_decide_eq_true (by with_reducible assumption)
        have q129 : x6_1 < (l1.length : Int):=of_decide_eq_true (by with_reducible assumption)
        obtain ⟨ad129,e129,hx129_0⟩:=Kd.at_bool HR1.out x6_1 p129 q129
        (try rw [← Nbq6.out] at hx129_0)
        cases e129
        replace p129:=eq_true p129
        replace q129:=eq_true q129
        have p134 : 0 ≤ (x6_1 : Int):=of_decide_eq_true (by with_reducible assumption)
        have q134 : x6_1 < (l0.length : Int):=of_decide_eq_true (by with_reducible assumption)
        obtain ⟨ad134,e134,hx134_0⟩:=Kd.at_string HR0.out x6_1 p134 q134
        cases e134
        replace p134:=eq_true p134
        replace q134:=eq_true q134
        have p135 : 0 ≤ (x6_1 : Int):=of_decide_eq_true (by with_reducible assumption)
        have q135 : x6_1 < (l0.length : Int):=of_decide_eq_true (by with_reducible assumption)
        obtain ⟨ad135,e135,hx135_0⟩:=Kd.at_string HR0.out x6_1 p135 q135
        obtain rfl : ad134 = ad135:=(by injection e135)
        replace p135:=eq_true p135
        replace q135:=eq_true q135
        go_wp2
        go_ret
        exact ⟨by rfl,by repeat (first|exact Drawn0.refl _|apply Drawn0.step)⟩
       ·rw [if_neg c13] at H
        have c13b0:=decide_eq_false c13
        have c13b1 : decide (4096 < (rdOf ByteArray.empty l0 x6_1).size) = false:=decide_eq_false (by omega)
        clear c13
        have H':=Aside0.mk H
        clear H
        have p129 : 0 ≤ (x6_1 : Int):=of_decide_eq_true (by with_reducible assumption)
        have q129 : x6_1 < (l1.length : Int):=of_decide_eq_true (by with_reducible assumption)
        obtain ⟨ad129,e129,hx129_0⟩:=Kd.at_bool HR1.out x6_1 p129 q129
        (try rw [← Nbq6.out] at hx129_0)
        cases e129
        replace p129:=eq_true p129
        replace q129:=eq_true q129
        have p134 : 0 ≤ (x6_1 : Int):=of_decide_eq_true (by with_reducible assumption)
        have q134 : x6_1 < (l0.length : Int):=of_decide_eq_true (by with_reducible assumption)
        obtain ⟨ad134,e134,hx134_0⟩:=Kd.at_string HR0.out x6_1 p134 q134
        cases e134
        replace p134:=eq_true p134
        replace q134:=eq_true q134
        have p135 : 0 ≤ (x6_1 : Int):=of_decide_eq_true (by with_reducible assumption)
        have q135 : x6_1 < (l0.length : Int):=of_decide_eq_true (by with_reducible assumption)
        obtain ⟨ad135,e135,hx135_0⟩:=Kd.at_string HR0.out x6_1 p135 q135
        obtain rfl : ad134 = ad135:=(by injection e135)
        replace p135:=eq_true p135
        replace q135:=eq_true q135
        have p136 : 0 ≤ (x6_1 : Int):=of_decide_eq_true (by with_reducible assumption)
        have q136 : x6_1 < (l0.length : Int):=of_decide_eq_true (by with_reducible assumption)
        obtain ⟨ad136,e136,hx136_0⟩:=Kd.at_string HR0.out x6_1 p136 q136
        obtain rfl : ad134 = ad136:=(by injection e136)
        replace p136:=eq_true p136
        replace q136:=eq_true q136
        go_wp2
        go_roundg k1
        case measure=>have:=HK1.out;omega
        case rel=>exact ⟨(((rdOf ByteArray.empty l0 x6_1).size : Int)),(wrap64 (x6_1 + 1)),(by rfl),(by rfl),H',⟨by have:=HK1.out;omega⟩,by repeat (first|exact Drawn0.refl _|apply Drawn0.step)⟩
    ·replace c7:=Bool.eq_false_iff.mpr c7
     subst c7
     have H1 : (spec_l04Len.l0 k1 l0 l1 x5_1 (wrap64 (x6_1 + 1))) = some r:=by rw [if_neg (show ¬ (false = true) by decide)] at H;exact H
     clear H
     have H:=H1
     clear H1
     have H':=Aside0.mk H
     clear H
     have p129 : 0 ≤ (x6_1 : Int):=of_decide_eq_true (by with_reducible assumption)
     have q129 : x6_1 < (l1.length : Int):=of_decide_eq_true (by with_reducible assumption)
     obtain ⟨ad129,e129,hx129_0⟩:=Kd.at_bool HR1.out x6_1 p129 q129
     (try rw [← Nbq6.out] at hx129_0)
     cases e129
     replace p129:=eq_true p129
     replace q129:=eq_true q129
     go_wp2
     go_roundg k1
     case measure=>have:=HK1.out;omega
     case rel=>exact ⟨(x5_1),(wrap64 (x6_1 + 1)),(by rfl),(by rfl),H',⟨by have:=HK1.out;omega⟩,by repeat (first|exact Drawn0.refl _|apply Drawn0.step)⟩
   ·rw [if_neg c3] at H
    have c3b0:=decide_eq_false c3
    clear c3
    obtain rfl:=Option.some.inj H
    go_wp2
    go_ret
    exact ⟨by rfl,by repeat (first|exact Drawn0.refl _|apply Drawn0.step)⟩

/-! ### spec_CodeSize: function 97 -/
def spec_CodeSize.f (a0_0 : Int) (a0_1 : Int) (a0_2 : Int) : Option (Int):=(spec_CodeFault.f a0_0 a0_1 a0_2).bind fun t138=>(if t138 = 0 then (some (wrap64 ((wrap64 (a0_0 + a0_1)) + a0_2))) else (some 0))
set_option maxHeartbeats 8000000 in
set_option maxRecDepth 100000 in
theorem spec_CodeSize.calls (a0_0 : Int) (a0_1 : Int) (a0_2 : Int) (r : Int) (w : World) (h : spec_CodeSize.f a0_0 a0_1 a0_2 = some r) :
  Calls Try.prog 97 #[.agg #[.int .i64 a0_0,.int .i64 a0_1,.int .i64 a0_2]] w fun e w'=>e = .returned (.int .i64 r) ∧ Below w.heap.size w w':=by
 have hu43:=Try.underlying43
 have HB:=Aside0.mk (Below.refl w.heap.size w)
 have H : ((spec_CodeFault.f a0_0 a0_1 a0_2).bind fun t138=>(if t138 = 0 then (some (wrap64 ((wrap64 (a0_0 + a0_1)) + a0_2))) else (some 0))) = some r:=h
 clear h
 replace H:=Option.bind_eq_some_iff.mp H
 obtain ⟨t138,A20,H⟩:=H
 replace H : (if t138 = 0 then (some (wrap64 ((wrap64 (a0_0 + a0_1)) + a0_2))) else (some 0)) = some r:=H
 have A2:=Aside0.mk A20
 clear A20
 by_cases c3 : t138 = 0
 ·rw [if_pos c3] at H
  have c3b0 : (t138 == 0) = true:=beq_iff_eq.mpr c3
  have c3b1 : (t138 != 0) = false:=bne_eq_false_iff_eq.mpr c3
  clear c3
  obtain rfl:=Option.some.inj H
  go_enter Try.func97,Try.ntmps97
  go_wp2_with (first|((with_reducible refine gate_dst (N:=1) rfl ?_);refine box_event ?hg (N:=1) ?hd (cs:=#[.int .i64 a0_0,.int .i64 a0_1,.int .i64 a0_2]) (t:=43) ?hr ?_;(case hd=>rfl);(case hg=>rfl);(case hr=>(go_simp;done));intro gb137 hg w4 hbox hb;have BK137:=Aside0.mk (hbox);have GW137:=Aside0.mk ((by rw [hg];exact (below_size HB.out) : w.heap.size ≤ gb137));have GE137:=Aside0.mk ((by rw [hg];exact (below_size HB.out) : w.heap.size ≤ gb137));replace HB:=Aside0.mk (below_step HB.out hb);clear hb hbox hg;have hcz5_0 : w4.cell? ⟨gb137,0,none⟩ = some (.int .i64 a0_0):=(blk_cell BK137.out 0).trans rfl;have hcz5_1 : w4.cell? ⟨gb137,1,none⟩ = some (.int .i64 a0_1):=(blk_cell BK137.out 1).trans rfl;have hcz5_2 : w4.cell? ⟨gb137,2,none⟩ = some (.int .i64 a0_2):=(blk_cell BK137.out 2).trans rfl;have hfz5_0:=blk_frozen BK137.out 0;have hfz5_1:=blk_frozen BK137.out 1;have hfz5_2:=blk_frozen BK137.out 2)|((with_reducible refine gate_callee (f:=89) rfl ?_);refine goesL_ (some 4) rfl rfl Try.func89 (by kernel_rfl) rfl #[.agg #[.int .i64 a0_0,.int .i64 a0_1,.int .i64 a0_2]] rfl (by (try simp only [List.map_toArray,List.map_cons,List.map_nil]);rfl) ?_;(with_reducible refine (spec_CodeFault.calls a0_0 a0_1 a0_2 t138 _ A2.out).mono ?_);rintro e w6 ⟨rfl,hb⟩;refine ⟨_,rfl,?_⟩;replace BK137:=Aside0.mk (blk_below BK137.out hb);replace HB:=Aside0.mk (below_step HB.out hb);(try clear hb);have hcz7_0 : w6.cell? ⟨gb137,0,none⟩ = some (.int .i64 a0_0):=(blk_cell BK137.out 0).trans rfl;have hcz7_1 : w6.cell? ⟨gb137,1,none⟩ = some (.int .i64 a0_1):=(blk_cell BK137.out 1).trans rfl;have hcz7_2 : w6.cell? ⟨gb137,2,none⟩ = some (.int .i64 a0_2):=(blk_cell BK137.out 2).trans rfl;have hfz7_0:=blk_frozen BK137.out 0;have hfz7_1:=blk_frozen BK137.out 1;have hfz7_2:=blk_frozen BK137.out 2))
  go_ret
  exact ⟨by rfl,HB.out⟩
 ·rw [if_neg c3] at H
  have c3b0 : (t138 == 0) = false:=beq_eq_false_iff_ne.mpr c3
  have c3b1 : (t138 != 0) = true:=bne_iff_ne.mpr c3
  obtain rfl:=Option.some.inj H
  go_enter Try.func97,Try.ntmps97
  go_wp2_with (first|((with_reducible refine gate_dst (N:=1) rfl ?_);refine box_event ?hg (N:=1) ?hd (cs:=#[.int .i64 a0_0,.int .i64 a0_1,.int .i64 a0_2]) (t:=43) ?hr ?_;(case hd=>rfl);(case hg=>rfl);(case hr=>(go_simp;done));intro gb137 hg w8 hbox hb;have BK137:=Aside0.mk (hbox);have GW137:=Aside0.mk ((by rw [hg];exact (below_size HB.out) : w.heap.size ≤ gb137));have GE137:=Aside0.mk ((by rw [hg];exact (below_size HB.out) : w.heap.size ≤ gb137));replace HB:=Aside0.mk (below_step HB.out hb);clear hb hbox hg;have hcz9_0 : w8.cell? ⟨gb137,0,none⟩ = some (.int .i64 a0_0):=(blk_cell BK137.out 0).trans rfl;have hcz9_1 : w8.cell? ⟨gb137,1,none⟩ = some (.int .i64 a0_1):=(blk_cell BK137.out 1).trans rfl;have hcz9_2 : w8.cell? ⟨gb137,2,none⟩ = some (.int .i64 a0_2):=(blk_cell BK137.out 2).trans rfl;have hfz9_0:=blk_frozen BK137.out 0;have hfz9_1:=blk_frozen BK137.out 1;have hfz9_2:=blk_frozen BK137.out 2)|((with_reducible refine gate_callee (f:=89) rfl ?_);refine goesL_ (some 4) rfl rfl Try.func89 (by kernel_rfl) rfl #[.agg #[.int .i64 a0_0,.int .i64 a0_1,.int .i64 a0_2]] rfl (by (try simp only [List.map_toArray,List.map_cons,List.map_nil]);rfl) ?_;(with_reducible refine (spec_CodeFault.calls a0_0 a0_1 a0_2 t138 _ A2.out).mono ?_);rintro e w10 ⟨rfl,hb⟩;refine ⟨_,rfl,?_⟩;replace BK137:=Aside0.mk (blk_below BK137.out hb);replace HB:=Aside0.mk (below_step HB.out hb);(try clear hb)))
  go_ret
  exact ⟨by rfl,HB.out⟩

/-! ### spec_l02In: function 79 -/
def spec_l02In.f (a0 : Int) (a1 : Int) : Option (Bool):=if a0 ≥ 0 then (some (decide (a0 < a1))) else (some false)
set_option maxHeartbeats 8000000 in
set_option maxRecDepth 100000 in
theorem spec_l02In.calls (a0 : Int) (a1 : Int) (r : Bool) (w : World) (h : spec_l02In.f a0 a1 = some r) :
  Calls Try.prog 79 #[.int .i64 a0,.int .i64 a1] w fun e w'=>e = .returned (.bool r) ∧ Drawn0 w w':=by
 have H : (if a0 ≥ 0 then (some (decide (a0 < a1))) else (some false)) = some r:=h
 clear h
 by_cases c3 : a0 ≥ 0
 ·rw [if_pos c3] at H
  have c3b0:=decide_eq_true c3
  clear c3
  obtain rfl:=Option.some.inj H
  go_enter Try.func79,Try.ntmps79
  go_wp2
  go_ret
  exact ⟨by rfl,by repeat (exact Drawn0.refl _)⟩
 ·rw [if_neg c3] at H
  have c3b0:=decide_eq_false c3
  clear c3
  obtain rfl:=Option.some.inj H
  go_enter Try.func79,Try.ntmps79
  go_wp2
  go_ret
  exact ⟨by rfl,by repeat (exact Drawn0.refl _)⟩

/-! ### spec_l02Times: function 132 -/
def spec_l02Times.l0 : Nat → Int → Int → Int → Int → Int → Option (Int)
 | 0,_,_,_,_,_=>none
 | k + 1,x0,x1,x2,x3,x9=>if x1 > 0 then (if (Int.tmod x1 2) = 1 then (if (wrap64 (x0 * 2)) ≥ x3 then (spec_l02Times.l0 k (Go.bits .xor .i64 (wrap64 (x0 * 2)) x2) (wrap64 (Int.tdiv x1 2)) x2 x3 (Go.bits .xor .i64 x9 x0)) else (spec_l02Times.l0 k (wrap64 (x0 * 2)) (wrap64 (Int.tdiv x1 2)) x2 x3 (Go.bits .xor .i64 x9 x0))) else (if (wrap64 (x0 * 2)) ≥ x3 then (spec_l02Times.l0 k (Go.bits .xor .i64 (wrap64 (x0 * 2)) x2) (wrap64 (Int.tdiv x1 2)) x2 x3 x9) else (spec_l02Times.l0 k (wrap64 (x0 * 2)) (wrap64 (Int.tdiv x1 2)) x2 x3 x9))) else (some x9)
def spec_l02Times.f (k : Nat) (a0 : Int) (a1 : Int) (a2 : Int) (a3 : Int) : Option (Int):=spec_l02Times.l0 k a0 a1 a2 a3 0
set_option maxHeartbeats 8000000 in
set_option maxRecDepth 100000 in
theorem spec_l02Times.calls (k : Nat) (a0 : Int) (a1 : Int) (a2 : Int) (a3 : Int) (r : Int) (w : World) (h : spec_l02Times.f k a0 a1 a2 a3 = some r) :
  Calls Try.prog 132 #[.int .i64 a0,.int .i64 a1,.int .i64 a2,.int .i64 a3] w fun e w'=>e = .returned (.int .i64 r) ∧ Drawn0 w w':=by
 have H : (spec_l02Times.l0 k a0 a1 a2 a3 0) = some r:=h
 clear h
 have H':=Aside0.mk H
 clear H
 go_enter Try.func132,Try.ntmps132
 go_wp2
 go_loopg [0,1,9] k (fun kq v0 v1 v9 w'=>∃ (x0_1 : Int) (x1_1 : Int) (x9_1 : Int),v0 = .int .i64 x0_1 ∧ v1 = .int .i64 x1_1 ∧ v9 = .int .i64 x9_1 ∧ Aside0 (spec_l02Times.l0 kq x0_1 x1_1 a2 a3 x9_1 = some r) ∧ Aside0 (kq ≤ k) ∧ Drawn0 w w')
 case atStart=>exact ⟨(a0),(a1),(0),(by rfl),(by rfl),(by rfl),H',⟨Nat.le_refl _⟩,by repeat (exact Drawn0.refl _)⟩
 case round=>
  clear H'
  obtain ⟨x0_1,x1_1,x9_1,rfl,rfl,rfl,HA,HK1,⟨m1,rfl⟩⟩:=hrel
  cases gk with
  | zero=>exact absurd HA.out (by simp [spec_l02Times.l0])
  | succ k1=>
   have H:=HA.out
   clear HA
   simp only [spec_l02Times.l0] at H
   by_cases c5 : x1_1 > 0
   ·rw [if_pos c5] at H
    have c5b0:=decide_eq_true c5
    clear c5
    by_cases c6 : (Int.tmod x1_1 2) = 1
    ·rw [if_pos c6] at H
     have c6b0 : ((Int.tmod x1_1 2) == 1) = true:=beq_iff_eq.mpr c6
     have c6b1 : ((Int.tmod x1_1 2) != 1) = false:=bne_eq_false_iff_eq.mpr c6
     clear c6
     by_cases c7 : (wrap64 (x0_1 * 2)) ≥ a3
     ·rw [if_pos c7] at H
      have c7b0:=decide_eq_true c7
      clear c7
      have H':=Aside0.mk H
      clear H
      go_wp2
      go_roundg k1
      case measure=>have:=HK1.out;omega
      case rel=>exact ⟨(Go.bits .xor .i64 (wrap64 (x0_1 * 2)) a2),(wrap64 (Int.tdiv x1_1 2)),(Go.bits .xor .i64 x9_1 x0_1),(by rfl),(by rfl),(by rfl),H',⟨by have:=HK1.out;omega⟩,by repeat (first|exact Drawn0.refl _|apply Drawn0.step)⟩
     ·rw [if_neg c7] at H
      have c7b0:=decide_eq_false c7
      clear c7
      have H':=Aside0.mk H
      clear H
      go_wp2
      go_roundg k1
      case measure=>have:=HK1.out;omega
      case rel=>exact ⟨(wrap64 (x0_1 * 2)),(wrap64 (Int.tdiv x1_1 2)),(Go.bits .xor .i64 x9_1 x0_1),(by rfl),(by rfl),(by rfl),H',⟨by have:=HK1.out;omega⟩,by repeat (first|exact Drawn0.refl _|apply Drawn0.step)⟩
    ·rw [if_neg c6] at H
     have c6b0 : ((Int.tmod x1_1 2) == 1) = false:=beq_eq_false_iff_ne.mpr c6
     have c6b1 : ((Int.tmod x1_1 2) != 1) = true:=bne_iff_ne.mpr c6
     by_cases c8 : (wrap64 (x0_1 * 2)) ≥ a3
     ·rw [if_pos c8] at H
      have c8b0:=decide_eq_true c8
      clear c8
      have H':=Aside0.mk H
      clear H
      go_wp2
      go_roundg k1
      case measure=>have:=HK1.out;omega
      case rel=>exact ⟨(Go.bits .xor .i64 (wrap64 (x0_1 * 2)) a2),(wrap64 (Int.tdiv x1_1 2)),(x9_1),(by rfl),(by rfl),(by rfl),H',⟨by have:=HK1.out;omega⟩,by repeat (first|exact Drawn0.refl _|apply Drawn0.step)⟩
     ·rw [if_neg c8] at H
      have c8b0:=decide_eq_false c8
      clear c8
      have H':=Aside0.mk H
      clear H
      go_wp2
      go_roundg k1
      case measure=>have:=HK1.out;omega
      case rel=>exact ⟨(wrap64 (x0_1 * 2)),(wrap64 (Int.tdiv x1_1 2)),(x9_1),(by rfl),(by rfl),(by rfl),H',⟨by have:=HK1.out;omega⟩,by repeat (first|exact Drawn0.refl _|apply Drawn0.step)⟩
   ·rw [if_neg c5] at H
    have c5b0:=decide_eq_false c5
    clear c5
    obtain rfl:=Option.some.inj H
    go_wp2
    go_ret
    exact ⟨by rfl,by repeat (first|exact Drawn0.refl _|apply Drawn0.step)⟩

/-! ### spec_Mul8: function 124 -/
def spec_Mul8.f (k : Nat) (a0 : Int) (a1 : Int) : Option (Int):=(spec_l02In.f a0 256).bind fun t139=>(if t139 = true then ((spec_l02In.f a1 256).bind fun t140=>(if t140 = true then ((spec_l02Times.f k a0 a1 285 256).bind fun t141=>(some t141)) else (some (-1)))) else (some (-1)))
set_option maxHeartbeats 8000000 in
set_option maxRecDepth 100000 in
theorem spec_Mul8.calls (k : Nat) (a0 : Int) (a1 : Int) (r : Int) (w : World) (h : spec_Mul8.f k a0 a1 = some r) :
  Calls Try.prog 124 #[.int .i64 a0,.int .i64 a1] w fun e w'=>e = .returned (.int .i64 r) ∧ Drawn0 w w':=by
 have H : ((spec_l02In.f a0 256).bind fun t139=>(if t139 = true then ((spec_l02In.f a1 256).bind fun t140=>(if t140 = true then ((spec_l02Times.f k a0 a1 285 256).bind fun t141=>(some t141)) else (some (-1)))) else (some (-1)))) = some r:=h
 clear h
 replace H:=Option.bind_eq_some_iff.mp H
 obtain ⟨t139,A30,H⟩:=H
 replace H : (if t139 = true then ((spec_l02In.f a1 256).bind fun t140=>(if t140 = true then ((spec_l02Times.f k a0 a1 285 256).bind fun t141=>(some t141)) else (some (-1)))) else (some (-1))) = some r:=H
 have A3:=Aside0.mk A30
 clear A30
 by_cases c4 : t139 = true
 ·subst c4
  have H1 : ((spec_l02In.f a1 256).bind fun t140=>(if t140 = true then ((spec_l02Times.f k a0 a1 285 256).bind fun t141=>(some t141)) else (some (-1)))) = some r:=by rw [if_pos rfl] at H;exact H
  clear H
  have H:=H1
  clear H1
  replace H:=Option.bind_eq_some_iff.mp H
  obtain ⟨t140,A50,H⟩:=H
  replace H : (if t140 = true then ((spec_l02Times.f k a0 a1 285 256).bind fun t141=>(some t141)) else (some (-1))) = some r:=H
  have A5:=Aside0.mk A50
  clear A50
  by_cases c6 : t140 = true
  ·subst c6
   have H1 : ((spec_l02Times.f k a0 a1 285 256).bind fun t141=>(some t141)) = some r:=by rw [if_pos rfl] at H;exact H
   clear H
   have H:=H1
   clear H1
   replace H:=Option.bind_eq_some_iff.mp H
   obtain ⟨t141,A70,H⟩:=H
   replace H : (some t141) = some r:=H
   have A7:=Aside0.mk A70
   clear A70
   obtain rfl:=Option.some.inj H
   go_enter Try.func124,Try.ntmps124
   go_wp2_with (first|((with_reducible refine gate_callee (f:=79) rfl ?_);refine goesL_ (some 6) rfl rfl Try.func79 (by kernel_rfl) rfl #[.int .i64 a0,.int .i64 256] rfl (by (try simp only [List.map_toArray,List.map_cons,List.map_nil]);rfl) ?_;(with_reducible refine (spec_l02In.calls a0 256 true _ A3.out).mono ?_);rintro e w' ⟨rfl,⟨nd,rfl⟩⟩;refine ⟨_,rfl,?_⟩)|(go_at_call 79;(with_reducible refine (spec_l02In.calls a1 256 true _ A5.out).mono ?_);rintro e w' ⟨rfl,⟨nd,rfl⟩⟩)|((with_reducible refine gate_callee (f:=132) rfl ?_);refine goesL_ (some 15) rfl rfl Try.func132 (by kernel_rfl) rfl #[.int .i64 a0,.int .i64 a1,.int .i64 285,.int .i64 256] rfl (by (try simp only [List.map_toArray,List.map_cons,List.map_nil]);rfl) ?_;(with_reducible refine (spec_l02Times.calls k a0 a1 285 256 t141 _ A7.out).mono ?_);rintro e w' ⟨rfl,⟨nd,rfl⟩⟩;refine ⟨_,rfl,?_⟩))
   go_ret
   exact ⟨by rfl,by repeat (first|exact Drawn0.refl _|apply Drawn0.step)⟩
  ·replace c6:=Bool.eq_false_iff.mpr c6
   subst c6
   have H1 : (some (-1)) = some r:=by rw [if_neg (show ¬ (false = true) by decide)] at H;exact H
   clear H
   have H:=H1
   clear H1
   obtain rfl:=Option.some.inj H
   go_enter Try.func124,Try.ntmps124
   go_wp2_with (first|((with_reducible refine gate_callee (f:=79) rfl ?_);refine goesL_ (some 6) rfl rfl Try.func79 (by kernel_rfl) rfl #[.int .i64 a0,.int .i64 256] rfl (by (try simp only [List.map_toArray,List.map_cons,List.map_nil]);rfl) ?_;(with_reducible refine (spec_l02In.calls a0 256 true _ A3.out).mono ?_);rintro e w' ⟨rfl,⟨nd,rfl⟩⟩;refine ⟨_,rfl,?_⟩)|(go_at_call 79;(with_reducible refine (spec_l02In.calls a1 256 false _ A5.out).mono ?_);rintro e w' ⟨rfl,⟨nd,rfl⟩⟩))
   go_ret
   exact ⟨by rfl,by repeat (first|exact Drawn0.refl _|apply Drawn0.step)⟩
 ·replace c4:=Bool.eq_false_iff.mpr c4
  subst c4
  have H1 : (some (-1)) = some r:=by rw [if_neg (show ¬ (false = true) by decide)] at H;exact H
  clear H
  have H:=H1
  clear H1
  obtain rfl:=Option.some.inj H
  go_enter Try.func124,Try.ntmps124
  go_wp2_with (((with_reducible refine gate_callee (f:=79) rfl ?_);refine goesL_ (some 6) rfl rfl Try.func79 (by kernel_rfl) rfl #[.int .i64 a0,.int .i64 256] rfl (by (try simp only [List.map_toArray,List.map_cons,List.map_nil]);rfl) ?_;(with_reducible refine (spec_l02In.calls a0 256 false _ A3.out).mono ?_);rintro e w' ⟨rfl,⟨nd,rfl⟩⟩;refine ⟨_,rfl,?_⟩))
  go_ret
  exact ⟨by rfl,by repeat (first|exact Drawn0.refl _|apply Drawn0.step)⟩

end Go.Proofs.Ytffhbpepppodeaa.PFnExactDecodeShards
