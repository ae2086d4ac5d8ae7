import Derived.Test.YtffhbpepppodeaaPFnRepairedx0
namespace Go.Proofs.Ytffhbpepppodeaa.PFnRepaired
private theorem nn {α : Type} {c : Prop} [Decidable c] {a : Option α} {r : α} (h : (if c then a else none) = some r) : c ∧ a = some r:=by
 split at h
 ·exact ⟨‹c›,h⟩
 ·cases h
open Go.RowKit Go.Proofs.YtffhbpepppodeaaW.PrintWords Go.Proofs.YtffhbpepppodeaaW.PrintLast Go.Proofs.YtffhbpepppodeaaW.PrintMore
attribute [local go_sem] max2_int min2_int max_two min_two max_three min_three max_four min_four   -- for this text's walks alone
set_option linter.unusedVariables false
set_option linter.unusedSimpArgs false

/-! ### laws_lwAt: function 29 -/
def laws_lwAt.f (l0 : List Int) (a1 : Int) : Option (Int):=if a1 < (l0.length : Int) then (if 0 ≤ a1 then (some (wrap64 (rd l0 a1))) else (none)) else (some (Int.tmod (wrap64 ((wrap64 (a1 * 61)) + 29)) 256))
set_option maxHeartbeats 8000000 in
set_option maxRecDepth 100000 in
theorem laws_lwAt.calls (A0 : Option Addr) (c0 : Nat) (l0 : List Int) (a1 : Int) (r : Int) (w : World) (hr0 : Kd.C (Kd.int .u8) w A0 l0.length l0) (hc0 : l0.length ≤ c0) (h : laws_lwAt.f l0 a1 = some r) :
  Calls Try.prog 29 #[.slice A0 l0.length c0,.int .i64 a1] w fun e w'=>e = .returned (.int .i64 r) ∧ Drawn0 w w':=by
 have HR0:=M0 hr0
 have HC0:=M0 hc0
 clear hr0 hc0
 have H : (if a1 < (l0.length : Int) then (if 0 ≤ a1 then (some (wrap64 (rd l0 a1))) else (none)) else (some (Int.tmod (wrap64 ((wrap64 (a1 * 61)) + 29)) 256))) = some r:=h
 clear h
 by_cases c3 : a1 < (l0.length : Int)
 ·rw [if_pos c3] at H
  have c3b0:=decide_eq_true c3
  clear c3
  obtain ⟨c4,H⟩:=nn H
  have c4b0:=decide_eq_true c4
  clear c4
  obtain rfl:=Option.some.inj H
  have p101 : 0 ≤ (a1 : Int):=of_decide_eq_true (by with_reducible assumption)
  have q101 : a1 < (l0.length : Int):=of_decide_eq_true (by with_reducible assumption)
  obtain ⟨ad101,e101,hx101_0⟩:=Kd.at_int HR0.out a1 p101 q101
  cases e101
  replace p101:=eq_true p101
  replace q101:=eq_true q101
  go_enter Try.func29,Try.ntmps29
  go_wp2
  go_ret
  exact ⟨by rfl,by repeat (exact Drawn0.refl _)⟩
 ·rw [if_neg c3] at H
  have c3b0:=decide_eq_false c3
  clear c3
  obtain rfl:=Option.some.inj H
  go_enter Try.func29,Try.ntmps29
  go_wp2
  go_ret
  exact ⟨by rfl,by repeat (exact Drawn0.refl _)⟩

/-! ### laws_lwData: function 34 -/
mutual
def laws_lwData.l0 : Nat → List Int → Int → Int → List ByteArray → Int → Option (List ByteArray)
 | 0,_,_,_,_,_=>none
 | k + 1,x0,x1,x5,x6,x7=>if x7 < x1 then (laws_lwData.l1 k x0 x1 x5 x6 x7 (([] : List Int)) 0) else (some x6)
def laws_lwData.l1 : Nat → List Int → Int → Int → List ByteArray → Int → List Int → Int → Option (List ByteArray)
 | 0,_,_,_,_,_,_,_=>none
 | k + 1,x0,x1,x5,x6,x7,x8,x9=>if x9 < x5 then ((laws_lwAt.f x0 (wrap64 ((wrap64 (10 + (wrap64 (x7 * 8)))) + x9))).bind fun t109=>(if x8.length < 140737488355328 then (laws_lwData.l1 k x0 x1 x5 x6 x7 (x8 ++ [(t109) % 256]) (wrap64 (x9 + 1))) else (none))) else (if x6.length < 8796093022208 then (laws_lwData.l0 k x0 x1 x5 (x6 ++ [strOfNums x8]) (wrap64 (x7 + 1))) else (none))
end
def laws_lwData.f (k : Nat) (l0 : List Int) (a1 : Int) : Option (List ByteArray):=(laws_lwAt.f l0 9).bind fun t102=>(laws_lwData.l0 k l0 a1 (wrap64 (1 + (Int.tmod t102 8))) (([] : List ByteArray)) 0)
set_option maxHeartbeats 8000000 in
set_option maxRecDepth 100000 in
theorem laws_lwData.calls (k : Nat) (A0 : Option Addr) (c0 : Nat) (l0 : List Int) (a1 : Int) (r : List ByteArray) (w : World) (hr0 : Kd.C (Kd.int .u8) w A0 l0.length l0) (hc0 : l0.length ≤ c0) (h : laws_lwData.f k l0 a1 = some r) :
  Calls Try.prog 34 #[.slice A0 l0.length c0,.int .i64 a1] w fun e w'=>∃ v0_ : Value,e = .returned (v0_) ∧ Kd.R Kd.string 9 w' w.heap.size (fun _=>True) v0_ r ∧ Below w.heap.size w w':=by
 have HR0:=M0 hr0
 have HC0:=M0 hc0
 clear hr0 hc0
 have HB:=M0 (Below.refl w.heap.size w)
 have H : ((laws_lwAt.f l0 9).bind fun t102=>(laws_lwData.l0 k l0 a1 (wrap64 (1 + (Int.tmod t102 8))) (([] : List ByteArray)) 0)) = some r:=h
 clear h
 replace H:=Option.bind_eq_some_iff.mp H
 obtain ⟨t102,A30,H⟩:=H
 replace H : (laws_lwData.l0 k l0 a1 (wrap64 (1 + (Int.tmod t102 8))) (([] : List ByteArray)) 0) = some r:=H
 have A3:=M0 A30
 clear A30
 obtain ⟨y103,hy103⟩ : ∃ y_ : List ByteArray,y_ = (([] : List ByteArray)):=⟨_,rfl⟩
 rw [← hy103] at H
 have Ny103:=M0 hy103
 clear hy103
 have H':=M0 H
 clear H
 go_enter Try.func34,Try.ntmps34
 go_wp2_with (first|((with_reducible refine gate_callee (f:=29) rfl ?_);refine goesL_ (some 11) rfl rfl Try.func29 (by kernel_rfl) rfl #[.slice A0 l0.length c0,.int .i64 9] rfl (by (try simp only [List.map_toArray,List.map_cons,List.map_nil]);rfl) ?_;(with_reducible refine (laws_lwAt.calls _ _ l0 9 t102 _ HR0.out HC0.out A3.out).mono ?_);rintro e w' ⟨rfl,⟨nd,rfl⟩⟩;refine ⟨_,rfl,?_⟩)|((with_reducible refine gate_dst (N:=14) rfl ?_);refine Kd.R_lit Kd.string _ 9 ?hg (N:=14) ?hd (xs:=([] : List ByteArray)) (inner:=[]) (ok:=fun _=>True) (okp:=fun _=>True) ?hr ?hp (fun _ hk=>hk) trivial (Below.refl _ _) (Nat.le_refl _) (by simp) ?_;(case hd=>rfl);(case hg=>rfl);(case hr=>(go_simp;done));(case hp=>exact (Reps.none _ _));intro v104 w4 ho5 hb hg_ hnew_;clear hg_ hnew_;(rw [← Ny103.out] at ho5);have HO105:=M0 (Kd.R_lower ho5 (below_size (by repeat ((with_reducible first|exact HB.out|apply pw_below_drewN)))));replace HB:=M0 (below_step (by repeat ((with_reducible first|exact HB.out|apply pw_below_drewN))) hb);clear hb ho5))
 go_loopg [6,7] k (fun kq v6 v7 w'=>∃ (x6_1 : List ByteArray) (x7_1 : Int),v7 = .int .i64 x7_1 ∧ Aside0 (laws_lwData.l0 kq l0 a1 (wrap64 (1 + (Int.tmod t102 8))) x6_1 x7_1 = some r) ∧ Aside0 (kq ≤ k) ∧ Aside0 (Kd.R Kd.string 9 w' w.heap.size (fun _=>True) v6 x6_1) ∧ Aside0 (Below w.heap.size w w'))
 case atStart=>exact ⟨(y103),(0),(by rfl),H',⟨Nat.le_refl _⟩,⟨by exact HO105.out⟩,⟨HB.out⟩⟩
 case round=>
  clear H'
  obtain ⟨x6_1,x7_1,rfl,HA,HK1,HO_6,HB⟩:=hrel
  cases gk with
  | zero=>exact absurd HA.out (by simp [laws_lwData.l0])
  | succ k1=>
   have H:=HA.out
   clear HA
   simp only [laws_lwData.l0] at H
   by_cases c6 : x7_1 < a1
   ·rw [if_pos c6] at H
    have c6b0:=decide_eq_true c6
    clear c6
    obtain ⟨y106,hy106⟩ : ∃ y_ : List Int,y_ = (([] : List Int)):=⟨_,rfl⟩
    rw [← hy106] at H
    have Ny106:=M0 hy106
    clear hy106
    have H':=M0 H
    clear H
    go_wp2_with (((with_reducible refine gate_dst (N:=20) rfl ?_);refine Kd.R_lit (Kd.int .u8) _ 5 ?hg (N:=20) ?hd (xs:=([] : List Int)) (inner:=[]) (ok:=fun _=>True) (okp:=fun _=>True) ?hr ?hp (fun _ hk=>hk) trivial (Below.refl _ _) (Nat.le_refl _) (by simp) ?_;(case hd=>rfl);(case hg=>rfl);(case hr=>(go_simp;done));(case hp=>exact (Reps.none _ _));intro v107 w7 ho8 hb hg_ hnew_;clear hg_ hnew_;(rw [← Ny106.out] at ho8);replace HO_6:=M0 (Kd.R_below HO_6.out hb);have HO108:=M0 (Kd.R_lower ho8 (below_size HB.out));replace HB:=M0 (below_step HB.out hb);clear hb ho8))
    go_loopg [8,9] k1 (fun kq v8 v9 w'=>∃ (x8_2 : List Int) (x9_2 : Int),v9 = .int .i64 x9_2 ∧ Aside0 (laws_lwData.l1 kq l0 a1 (wrap64 (1 + (Int.tmod t102 8))) x6_1 x7_1 x8_2 x9_2 = some r) ∧ Aside0 (kq ≤ k1) ∧ Aside0 (Kd.R Kd.string 9 w' w.heap.size (fun _=>True) u6 x6_1) ∧ Aside0 (Kd.R (Kd.int .u8) 5 w' w.heap.size (fun _=>True) v8 x8_2) ∧ Aside0 (Below w.heap.size w w'))
    case atStart=>exact ⟨(y106),(0),(by rfl),H',⟨Nat.le_refl _⟩,⟨by exact HO_6.out⟩,⟨by exact HO108.out⟩,⟨HB.out⟩⟩
    case round=>
     clear H'
     (try clear c6b0)
     obtain ⟨x8_2,x9_2,rfl,HA,HK2,HO_6,HO_8,HB⟩:=hrel
     cases gk with
     | zero=>exact absurd HA.out (by simp [laws_lwData.l1])
     | succ k2=>
      have H:=HA.out
      clear HA
      simp only [laws_lwData.l1] at H
      by_cases c9 : x9_2 < (wrap64 (1 + (Int.tmod t102 8)))
      ·rw [if_pos c9] at H
       have c9b0:=decide_eq_true c9
       clear c9
       replace H:=Option.bind_eq_some_iff.mp H
       obtain ⟨t109,A100,H⟩:=H
       replace H : (if x8_2.length < 140737488355328 then (laws_lwData.l1 k2 l0 a1 (wrap64 (1 + (Int.tmod t102 8))) x6_1 x7_1 (x8_2 ++ [(t109) % 256]) (wrap64 (x9_2 + 1))) else (none)) = some r:=H
       have A10:=M0 A100
       clear A100
       obtain ⟨c11,H⟩:=nn H
       have LMc11:=M0 c11
       clear c11
       obtain ⟨y110,hy110⟩ : ∃ y_ : List Int,y_ = (x8_2 ++ [(t109) % 256]):=⟨_,rfl⟩
       rw [← hy110] at H
       have Ny110:=M0 hy110
       clear hy110
       have H':=M0 H
       clear H
       go_wp2_with (first|((with_reducible refine gate_callee (f:=29) rfl ?_);refine goesL_ (some 33) rfl rfl Try.func29 (by kernel_rfl) rfl #[.slice A0 l0.length c0,.int .i64 (wrap64 ((wrap64 (10 + (wrap64 (x7_1 * 8)))) + x9_2))] rfl (by (try simp only [List.map_toArray,List.map_cons,List.map_nil]);rfl) ?_;(with_reducible refine (laws_lwAt.calls _ _ l0 (wrap64 ((wrap64 (10 + (wrap64 (x7_1 * 8)))) + x9_2)) t109 _ (Kd.C_below HR0.out HB.out) HC0.out A10.out).mono ?_);rintro e w' ⟨rfl,⟨nd,rfl⟩⟩;refine ⟨_,rfl,?_⟩)|((with_reducible refine gate_builtin (b:=.append) (xs:=#[.tmp 26,.tmp 35]) rfl ?_);at_builtin;refine Kd.R_append (Kd.int .u8) (w0:=w) w.heap.size rfl (.tmp 26) (.tmp 35) 37 5 (.int .u8 0) 1 rfl Try.underlying37 info5 rfl (by decide) (by omega) u8 x8_2 ((t109) % 256) [.int .u8 ((t109) % 256)] (fun _=>True) (fun _=>False) rfl rfl ?aP (fun _ hk=>hk.elim) ?aF ?aO ?aB ?aS ?aL ?_;(case aP=>exact rfl);(case aB=>exact (by repeat ((with_reducible first|exact HB.out|apply pw_below_drewN))));(case aF=>exact (fun _ _=>trivial));(case aO=>exact (by (with_reducible repeat (apply Kd.R_drewN));exact HO_8.out));(case aS=>exact (below_size (by repeat ((with_reducible first|exact HB.out|apply pw_below_drewN)))));(case aL=>have:=LMc11.out;omega);intro v111 w12 ho hb hg hat;rw [← Ny110.out] at ho;have n0_:=M0 (Kd.R_over' (by (with_reducible repeat (apply Kd.R_drewN));exact HO_6.out) (Kd.R_typed (by (with_reducible repeat (apply Kd.R_drewN));exact HO_8.out)) (by decide) hg);have n1_:=M0 (hb);have n2_:=M0 (ho);clear HO_6 HB HO_8;have HO_6:=n0_;have HB:=n1_;have HO112:=n2_;clear n0_ n1_ n2_ ho hb hg hat))
       go_roundg k2
       case measure=>have:=HK1.out;have:=HK2.out;omega
       case rel=>exact ⟨(y110),(wrap64 (x9_2 + 1)),(by rfl),H',⟨by have:=HK1.out;have:=HK2.out;omega⟩,⟨by exact HO_6.out⟩,⟨by exact HO112.out⟩,⟨HB.out⟩⟩
      ·rw [if_neg c9] at H
       have c9b0:=decide_eq_false c9
       clear c9
       obtain ⟨c13,H⟩:=nn H
       have LMc13:=M0 c13
       clear c13
       obtain ⟨y113,hy113⟩ : ∃ y_ : List ByteArray,y_ = (x6_1 ++ [strOfNums x8_2]):=⟨_,rfl⟩
       rw [← hy113] at H
       have Ny113:=M0 hy113
       clear hy113
       have H':=M0 H
       clear H
       have hcv14:=own_string (P:=Try.prog) Try.underlying37 Try.underlying5 Try.underlying9 (Kd.own_of_R HO_8.out)
       go_wp2_with (((with_reducible refine gate_builtin (b:=.append) (xs:=#[.tmp 37,.tmp 40]) rfl ?_);at_builtin;refine Kd.R_append Kd.string (w0:=w) w.heap.size rfl (.tmp 37) (.tmp 40) 56 9 (.string ⟨#[]⟩) 16 rfl Try.underlying56 info9 rfl (by decide) (by omega) u6 x6_1 (strOfNums x8_2) [.string (strOfNums x8_2)] (fun _=>True) (fun _=>False) rfl rfl ?aP (fun _ hk=>hk.elim) ?aF ?aO ?aB ?aS ?aL ?_;(case aP=>exact rfl);(case aB=>exact HB.out);(case aF=>exact (fun _ _=>trivial));(case aO=>exact HO_6.out);(case aS=>exact (below_size HB.out));(case aL=>have:=LMc13.out;omega);intro v114 w15 ho hb hg hat;rw [← Ny113.out] at ho;have n0_:=M0 (Kd.R_over' HO_8.out (Kd.R_typed HO_6.out) (by decide) hg);have n1_:=M0 (hb);have n2_:=M0 (ho);clear HO_8 HB HO_6;have HO_8:=n0_;have HB:=n1_;have HO115:=n2_;clear n0_ n1_ n2_ ho hb hg hat))
       go_roundg k2
       case measure=>have:=HK1.out;have:=HK2.out;omega
       case rel=>exact ⟨(y113),(wrap64 (x7_1 + 1)),(by rfl),H',⟨by have:=HK1.out;have:=HK2.out;omega⟩,⟨by exact HO115.out⟩,⟨HB.out⟩⟩
   ·rw [if_neg c6] at H
    have c6b0:=decide_eq_false c6
    clear c6
    obtain rfl:=Option.some.inj H
    go_wp2
    go_ret
    exact ⟨_,by rfl,by exact HO_6.out,HB.out⟩

/-! ### impl_bytes8: function 118 -/
/-! ### impl_field_uint8_double: function 119 -/








/-! ### impl_CodeFault: function 87 -/
def impl_CodeFault.f (a0_0 : Int) (a0_1 : Int) (a0_2 : Int) : Option (Int):=if a0_0 < 1 then (some 1) else (if a0_0 > 32 then (some 1) else (if a0_1 < 0 then (some 1) else (if a0_1 > 16 then (some 1) else (if a0_2 < 0 then (some 1) else (if a0_2 > a0_0 then (some 1) else (if (wrap64 ((wrap64 (a0_0 + a0_1)) + a0_2)) > 64 then (some 1) else (some 0)))))))
set_option maxHeartbeats 8000000 in
set_option maxRecDepth 100000 in
theorem impl_CodeFault.calls (a0_0 : Int) (a0_1 : Int) (a0_2 : Int) (r : Int) (w : World) (h : impl_CodeFault.f a0_0 a0_1 a0_2 = some r) :
  Calls Try.prog 87 #[.agg #[.int .i64 a0_0,.int .i64 a0_1,.int .i64 a0_2]] w fun e w'=>e = .returned (.int .i64 r) ∧ Below w.heap.size w w':=by
 have HB:=M0 (Below.refl w.heap.size w)
 have H : (if a0_0 < 1 then (some 1) else (if a0_0 > 32 then (some 1) else (if a0_1 < 0 then (some 1) else (if a0_1 > 16 then (some 1) else (if a0_2 < 0 then (some 1) else (if a0_2 > a0_0 then (some 1) else (if (wrap64 ((wrap64 (a0_0 + a0_1)) + a0_2)) > 64 then (some 1) else (some 0)))))))) = some r:=h
 clear h
 by_cases c2 : a0_0 < 1
 ·rw [if_pos c2] at H
  have c2b0:=decide_eq_true c2
  clear c2
  obtain rfl:=Option.some.inj H
  go_enter Try.func87,Try.ntmps87
  go_wp2_with (((with_reducible refine gate_dst (N:=1) rfl ?_);refine box_event rfl (N:=1) rfl (cs:=#[.int .i64 a0_0,.int .i64 a0_1,.int .i64 a0_2]) (t:=43) (by go_simp) ?_;intro gb118 hg w3 hbox hb;have BK118:=M0 (hbox);replace HB:=M0 (below_step HB.out hb);clear hb hbox hg;have hcz4_0:=bcv (v:=.int .i64 a0_0) BK118.out 0 rfl))
  go_ret
  exact ⟨by rfl,HB.out⟩
 ·rw [if_neg c2] at H
  have c2b0:=decide_eq_false c2
  clear c2
  by_cases c5 : a0_0 > 32
  ·rw [if_pos c5] at H
   have c5b0:=decide_eq_true c5
   clear c5
   obtain rfl:=Option.some.inj H
   go_enter Try.func87,Try.ntmps87
   go_wp2_with (((with_reducible refine gate_dst (N:=1) rfl ?_);refine box_event rfl (N:=1) rfl (cs:=#[.int .i64 a0_0,.int .i64 a0_1,.int .i64 a0_2]) (t:=43) (by go_simp) ?_;intro gb118 hg w6 hbox hb;have BK118:=M0 (hbox);replace HB:=M0 (below_step HB.out hb);clear hb hbox hg;have hcz7_0:=bcv (v:=.int .i64 a0_0) BK118.out 0 rfl))
   go_ret
   exact ⟨by rfl,HB.out⟩
  ·rw [if_neg c5] at H
   have c5b0:=decide_eq_false c5
   clear c5
   by_cases c8 : a0_1 < 0
   ·rw [if_pos c8] at H
    have c8b0:=decide_eq_true c8
    clear c8
    obtain rfl:=Option.some.inj H
    go_enter Try.func87,Try.ntmps87
    go_wp2_with (((with_reducible refine gate_dst (N:=1) rfl ?_);refine box_event rfl (N:=1) rfl (cs:=#[.int .i64 a0_0,.int .i64 a0_1,.int .i64 a0_2]) (t:=43) (by go_simp) ?_;intro gb118 hg w9 hbox hb;have BK118:=M0 (hbox);replace HB:=M0 (below_step HB.out hb);clear hb hbox hg;have hcz10_0:=bcv (v:=.int .i64 a0_0) BK118.out 0 rfl;have hcz10_1:=bcv (v:=.int .i64 a0_1) BK118.out 1 rfl))
    go_ret
    exact ⟨by rfl,HB.out⟩
   ·rw [if_neg c8] at H
    have c8b0:=decide_eq_false c8
    clear c8
    by_cases c11 : a0_1 > 16
    ·rw [if_pos c11] at H
     have c11b0:=decide_eq_true c11
     clear c11
     obtain rfl:=Option.some.inj H
     go_enter Try.func87,Try.ntmps87
     go_wp2_with (((with_reducible refine gate_dst (N:=1) rfl ?_);refine box_event rfl (N:=1) rfl (cs:=#[.int .i64 a0_0,.int .i64 a0_1,.int .i64 a0_2]) (t:=43) (by go_simp) ?_;intro gb118 hg w12 hbox hb;have BK118:=M0 (hbox);replace HB:=M0 (below_step HB.out hb);clear hb hbox hg;have hcz13_0:=bcv (v:=.int .i64 a0_0) BK118.out 0 rfl;have hcz13_1:=bcv (v:=.int .i64 a0_1) BK118.out 1 rfl))
     go_ret
     exact ⟨by rfl,HB.out⟩
    ·rw [if_neg c11] at H
     have c11b0:=decide_eq_false c11
     clear c11
     by_cases c14 : a0_2 < 0
     ·rw [if_pos c14] at H
      have c14b0:=decide_eq_true c14
      clear c14
      obtain rfl:=Option.some.inj H
      go_enter Try.func87,Try.ntmps87
      go_wp2_with (((with_reducible refine gate_dst (N:=1) rfl ?_);refine box_event rfl (N:=1) rfl (cs:=#[.int .i64 a0_0,.int .i64 a0_1,.int .i64 a0_2]) (t:=43) (by go_simp) ?_;intro gb118 hg w15 hbox hb;have BK118:=M0 (hbox);replace HB:=M0 (below_step HB.out hb);clear hb hbox hg;have hcz16_0:=bcv (v:=.int .i64 a0_0) BK118.out 0 rfl;have hcz16_1:=bcv (v:=.int .i64 a0_1) BK118.out 1 rfl;have hcz16_2:=bcv (v:=.int .i64 a0_2) BK118.out 2 rfl))
      go_ret
      exact ⟨by rfl,HB.out⟩
     ·rw [if_neg c14] at H
      have c14b0:=decide_eq_false c14
      clear c14
      by_cases c17 : a0_2 > a0_0
      ·rw [if_pos c17] at H
       have c17b0:=decide_eq_true c17
       clear c17
       obtain rfl:=Option.some.inj H
       go_enter Try.func87,Try.ntmps87
       go_wp2_with (((with_reducible refine gate_dst (N:=1) rfl ?_);refine box_event rfl (N:=1) rfl (cs:=#[.int .i64 a0_0,.int .i64 a0_1,.int .i64 a0_2]) (t:=43) (by go_simp) ?_;intro gb118 hg w18 hbox hb;have BK118:=M0 (hbox);replace HB:=M0 (below_step HB.out hb);clear hb hbox hg;have hcz19_0:=bcv (v:=.int .i64 a0_0) BK118.out 0 rfl;have hcz19_1:=bcv (v:=.int .i64 a0_1) BK118.out 1 rfl;have hcz19_2:=bcv (v:=.int .i64 a0_2) BK118.out 2 rfl))
       go_ret
       exact ⟨by rfl,HB.out⟩
      ·rw [if_neg c17] at H
       have c17b0:=decide_eq_false c17
       clear c17
       by_cases c20 : (wrap64 ((wrap64 (a0_0 + a0_1)) + a0_2)) > 64
       ·rw [if_pos c20] at H
        have c20b0:=decide_eq_true c20
        clear c20
        obtain rfl:=Option.some.inj H
        go_enter Try.func87,Try.ntmps87
        go_wp2_with (((with_reducible refine gate_dst (N:=1) rfl ?_);refine box_event rfl (N:=1) rfl (cs:=#[.int .i64 a0_0,.int .i64 a0_1,.int .i64 a0_2]) (t:=43) (by go_simp) ?_;intro gb118 hg w21 hbox hb;have BK118:=M0 (hbox);replace HB:=M0 (below_step HB.out hb);clear hb hbox hg;have hcz22_0:=bcv (v:=.int .i64 a0_0) BK118.out 0 rfl;have hcz22_1:=bcv (v:=.int .i64 a0_1) BK118.out 1 rfl;have hcz22_2:=bcv (v:=.int .i64 a0_2) BK118.out 2 rfl))
        go_ret
        exact ⟨by rfl,HB.out⟩
       ·rw [if_neg c20] at H
        have c20b0:=decide_eq_false c20
        clear c20
        obtain rfl:=Option.some.inj H
        go_enter Try.func87,Try.ntmps87
        go_wp2_with (((with_reducible refine gate_dst (N:=1) rfl ?_);refine box_event rfl (N:=1) rfl (cs:=#[.int .i64 a0_0,.int .i64 a0_1,.int .i64 a0_2]) (t:=43) (by go_simp) ?_;intro gb118 hg w23 hbox hb;have BK118:=M0 (hbox);replace HB:=M0 (below_step HB.out hb);clear hb hbox hg;have hcz24_0:=bcv (v:=.int .i64 a0_0) BK118.out 0 rfl;have hcz24_1:=bcv (v:=.int .i64 a0_1) BK118.out 1 rfl;have hcz24_2:=bcv (v:=.int .i64 a0_2) BK118.out 2 rfl))
        go_ret
        exact ⟨by rfl,HB.out⟩

/-! ### impl_oneLength: function 88 -/
def impl_oneLength.l0 : Nat → List ByteArray → List ByteArray → Int → Int → Option (Bool)
 | 0,_,_,_,_=>none
 | k + 1,x0,x5,x6,x7=>if x7 < x6 then (if 0 ≤ x7 then (if x7 < (x5.length : Int) then (if ((rdOf ByteArray.empty x5 x7).size : Int) < 1 then (some false) else (if ((rdOf ByteArray.empty x5 x7).size : Int) > 4096 then (some false) else (if 0 < (x0.length : Int) then (if ((rdOf ByteArray.empty x5 x7).size : Int) = ((rdOf ByteArray.empty x0 0).size : Int) then (impl_oneLength.l0 k x0 x5 x6 (wrap64 (x7 + 1))) else (some false)) else (none)))) else (none)) else (none)) else (some true)
def impl_oneLength.f (k : Nat) (l0 : List ByteArray) : Option (Bool):=impl_oneLength.l0 k l0 l0 (l0.length : Int) 0
set_option maxHeartbeats 8000000 in
set_option maxRecDepth 100000 in
theorem impl_oneLength.calls (k : Nat) (A0 : Option Addr) (c0 : Nat) (l0 : List ByteArray) (r : Bool) (w : World) (hr0 : Kd.C Kd.string w A0 l0.length l0) (hc0 : l0.length ≤ c0) (h : impl_oneLength.f k l0 = some r) :
  Calls Try.prog 88 #[.slice A0 l0.length c0] w fun e w'=>e = .returned (.bool r) ∧ Drawn0 w w':=by
 have HR0:=M0 hr0
 have HC0:=M0 hc0
 clear hr0 hc0
 have H : (impl_oneLength.l0 k l0 l0 (l0.length : Int) 0) = some r:=h
 clear h
 have H':=M0 H
 clear H
 go_enter Try.func88,Try.ntmps88
 go_wp2
 go_loopg [7] k (fun kq v7 w'=>∃ (x7_1 : Int),v7 = .int .i64 x7_1 ∧ Aside0 (impl_oneLength.l0 kq l0 l0 (l0.length : Int) x7_1 = some r) ∧ Aside0 (kq ≤ k) ∧ Drawn0 w w')
 case atStart=>exact ⟨(0),(by rfl),H',⟨Nat.le_refl _⟩,by repeat (exact Drawn0.refl _)⟩
 case round=>
  clear H'
  obtain ⟨x7_1,rfl,HA,HK1,⟨m1,rfl⟩⟩:=hrel
  cases gk with
  | zero=>exact absurd HA.out (by simp [impl_oneLength.l0])
  | succ k1=>
   have H:=HA.out
   clear HA
   simp only [impl_oneLength.l0] at H
   by_cases c2 : x7_1 < (l0.length : Int)
   ·rw [if_pos c2] at H
    clear c2
    obtain ⟨c3,H⟩:=nn H
    have c3b0:=decide_eq_true c3
    clear c3
    obtain ⟨c4,H⟩:=nn H
    have c4b0:=decide_eq_true c4
    clear c4
    by_cases c5 : ((rdOf ByteArray.empty l0 x7_1).size : Int) < 1
    ·rw [if_pos c5] at H
     have c5b0:=decide_eq_true c5
     clear c5
     obtain rfl:=Option.some.inj H
     have p119 : 0 ≤ (x7_1 : Int):=of_decide_eq_true (by with_reducible assumption)
     have q119 : x7_1 < (l0.length : Int):=of_decide_eq_true (by with_reducible assumption)
     obtain ⟨ad119,e119,hx119_0⟩:=Kd.at_string HR0.out x7_1 p119 q119
     cases e119
     replace p119:=eq_true p119
     replace q119:=eq_true q119
     go_wp2
     go_ret
     exact ⟨by rfl,by repeat (first|exact Drawn0.refl _|apply Drawn0.step)⟩
    ·rw [if_neg c5] at H
     have c5b0:=decide_eq_false c5
     have c5b1 : decide ((rdOf ByteArray.empty l0 x7_1).size < 1) = false:=decide_eq_false (by omega)
     clear c5
     by_cases c6 : ((rdOf ByteArray.empty l0 x7_1).size : Int) > 4096
     ·rw [if_pos c6] at H
      have c6b0:=decide_eq_true c6
      clear c6
      obtain rfl:=Option.some.inj H
      have p119 : 0 ≤ (x7_1 : Int):=of_decide_eq_true (by with_reducible assumption)
      have q119 : x7_1 < (l0.length : Int):=of_decide_eq_true (by with_reducible assumption)
      obtain ⟨ad119,e119,hx119_0⟩:=Kd.at_string HR0.out x7_1 p119 q119
      cases e119
      replace p119:=eq_true p119
      replace q119:=eq_true q119
      go_wp2
      go_ret
      exact ⟨by rfl,by repeat (first|exact Drawn0.refl _|apply Drawn0.step)⟩
     ·rw [if_neg c6] at H
      have c6b0:=decide_eq_false c6
      clear c6
      obtain ⟨c7,H⟩:=nn H
      have c7b0:=decide_eq_true c7
      have c7b1 : decide (0 < l0.length) = true:=decide_eq_true (by omega)
      clear c7
      by_cases c8 : ((rdOf ByteArray.empty l0 x7_1).size : Int) = ((rdOf ByteArray.empty l0 0).size : Int)
      ·rw [if_pos c8] at H
       have c8b1 : (((rdOf ByteArray.empty l0 x7_1).size : Int) != ((rdOf ByteArray.empty l0 0).size : Int)) = false:=bne_eq_false_iff_eq.mpr c8
       clear c8
       have H':=M0 H
       clear H
       have p119 : 0 ≤ (x7_1 : Int):=of_decide_eq_true (by with_reducible assumption)
       have q119 : x7_1 < (l0.length : Int):=of_decide_eq_true (by with_reducible assumption)
       obtain ⟨ad119,e119,hx119_0⟩:=Kd.at_string HR0.out x7_1 p119 q119
       cases e119
       replace p119:=eq_true p119
       replace q119:=eq_true q119
       have p120 : 0 ≤ (0 : Int):=(by omega)
       have q120 : 0 < (l0.length : Int):=of_decide_eq_true (by with_reducible assumption)
       obtain ⟨ad120,e120,hx120_0⟩:=Kd.at_string HR0.out 0 p120 q120
       obtain rfl : ad119 = ad120:=(by injection e120)
       have qi120 : (0 < l0.length) = True:=eq_true (by omega)
       (try rw [show ((0 : Int)).toNat = 0 from rfl] at hx120_0)
       (try rw [Addr.add_zero'] at hx120_0)
       replace p120:=eq_true p120
       replace q120:=eq_true q120
       go_wp2
       go_roundg k1
       case measure=>have:=HK1.out;omega
       case rel=>exact ⟨(wrap64 (x7_1 + 1)),(by rfl),H',⟨by have:=HK1.out;omega⟩,by repeat (first|exact Drawn0.refl _|apply Drawn0.step)⟩
      ·rw [if_neg c8] at H
       have c8b1 : (((rdOf ByteArray.empty l0 x7_1).size : Int) != ((rdOf ByteArray.empty l0 0).size : Int)) = true:=bne_iff_ne.mpr c8
       obtain rfl:=Option.some.inj H
       have p119 : 0 ≤ (x7_1 : Int):=of_decide_eq_true (by with_reducible assumption)
       have q119 : x7_1 < (l0.length : Int):=of_decide_eq_true (by with_reducible assumption)
       obtain ⟨ad119,e119,hx119_0⟩:=Kd.at_string HR0.out x7_1 p119 q119
       cases e119
       replace p119:=eq_true p119
       replace q119:=eq_true q119
       have p120 : 0 ≤ (0 : Int):=(by omega)
       have q120 : 0 < (l0.length : Int):=of_decide_eq_true (by with_reducible assumption)
       obtain ⟨ad120,e120,hx120_0⟩:=Kd.at_string HR0.out 0 p120 q120
       obtain rfl : ad119 = ad120:=(by injection e120)
       have qi120 : (0 < l0.length) = True:=eq_true (by omega)
       (try rw [show ((0 : Int)).toNat = 0 from rfl] at hx120_0)
       (try rw [Addr.add_zero'] at hx120_0)
       replace p120:=eq_true p120
       replace q120:=eq_true q120
       go_wp2
       go_ret
       exact ⟨by rfl,by repeat (first|exact Drawn0.refl _|apply Drawn0.step)⟩
   ·rw [if_neg c2] at H
    have c2b0:=decide_eq_false c2
    clear c2
    obtain rfl:=Option.some.inj H
    go_wp2
    go_ret
    exact ⟨by rfl,by repeat (first|exact Drawn0.refl _|apply Drawn0.step)⟩

end Go.Proofs.Ytffhbpepppodeaa.PFnRepaired
