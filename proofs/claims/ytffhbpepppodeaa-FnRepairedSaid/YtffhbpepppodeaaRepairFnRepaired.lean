import Derived.Test.YtffhbpepppodeaaPlant4FnRepaired
namespace Go.Proofs.Ytffhbpepppodeaa.Repair
open Go.RowKit Go.Proofs.YtffhbpepppodeaaW.PrintWords Go.Proofs.YtffhbpepppodeaaW.PrintLast Go.Proofs.YtffhbpepppodeaaW.PrintMore Go.Proofs.Ytffhbpepppodeaa.Hs Go.Proofs.Ytffhbpepppodeaa.Gf Go.Proofs.Ytffhbpepppodeaa.Grid Go.Proofs.Ytffhbpepppodeaa.Reduce Go.Proofs.Ytffhbpepppodeaa.Plant Go.Proofs.Ytffhbpepppodeaa.Plant2 Go.Proofs.Ytffhbpepppodeaa.Plant4
set_option linter.unusedVariables false
set_option linter.unusedSimpArgs false
def groupI (K M G lost : Nat) : Nat:=if lost < K then lost % G else lost - (K + M)
def inG (G g lost d : Nat) : Bool:=decide (d % G = g) && !decide (d = lost)
def groupV (K M G lost : Nat) : List Nat:=if G = 0 ∨ K ≤ lost ∧ lost < K + M then [] else ((List.range K).filter (inG G (groupI K M G lost) lost)) ++ (if lost < K then [K + M + groupI K M G lost] else [])

set_option maxHeartbeats 8000000 in
set_option maxRecDepth 100000 in
theorem group_zero (gt gp K M G : Nat) (vg vl : Value) (w : World) (hP : PlantAt w gt gp K M G vg vl) (lost : Nat) (hl : lost < K + M + G) (hk2 : K ≤ 32) (hms : M ≤ 16) (hgk : G ≤ K) (hg : G = 0) : Calls Try.prog 130 #[.pointer (some ⟨gp,0,none⟩),.int .i64 lost] w fun e w'=>∃ v,e = .returned v ∧ Kd.R (Kd.int .i64) 3 w' w.heap.size (fun _=>True) v ((groupV K M G lost).map Int.ofNat) ∧ Below w.heap.size w w':=by
 have hu1:=Try.underlying175
 have hu2:=Try.underlying43
 obtain ⟨q0,q1,q2,q3,q4,q5⟩:=hP.cell
 have b1 : (K : Int) ≤ 32:=by omega
 have b2 : (M : Int) ≤ 16:=by omega
 have b3 : (G : Int) ≤ 32:=by omega
 have b4 : 0 ≤ (K : Int):=by omega
 have b5 : 0 ≤ (M : Int):=by omega
 have b6 : 0 ≤ (G : Int):=by omega
 have b7 : 0 ≤ (lost : Int):=by omega
 subst hg
 have e0 : groupV K M 0 lost = []:=if_pos (.inl rfl)
 rw [e0]
 clear e0 hP
 go_enter Try.func130,Try.ntmps130
 go_wp2_with fail
 go_quiet (fail)
 go_wp2
 go_ret
 exact ⟨_,rfl,Kd.R_nil _ _ _ _ _,Drawn0.below (Drawn0.mk ⟨_,rfl⟩)⟩

set_option maxHeartbeats 8000000 in
set_option maxRecDepth 100000 in
theorem group_mid (gt gp K M G : Nat) (vg vl : Value) (w : World) (hP : PlantAt w gt gp K M G vg vl) (lost : Nat) (hl : lost < K + M + G) (hk2 : K ≤ 32) (hms : M ≤ 16) (hgk : G ≤ K) (h1 : K ≤ lost) (h2 : lost < K + M) (h3 : 0 < G) : Calls Try.prog 130 #[.pointer (some ⟨gp,0,none⟩),.int .i64 lost] w fun e w'=>∃ v,e = .returned v ∧ Kd.R (Kd.int .i64) 3 w' w.heap.size (fun _=>True) v ((groupV K M G lost).map Int.ofNat) ∧ Below w.heap.size w w':=by
 have hu1:=Try.underlying175
 have hu2:=Try.underlying43
 obtain ⟨q0,q1,q2,q3,q4,q5⟩:=hP.cell
 have b1 : (K : Int) ≤ 32:=by omega
 have b2 : (M : Int) ≤ 16:=by omega
 have b3 : (G : Int) ≤ 32:=by omega
 have b4 : 0 ≤ (K : Int):=by omega
 have b5 : 0 ≤ (M : Int):=by omega
 have b6 : 0 ≤ (G : Int):=by omega
 have b7 : 0 ≤ (lost : Int):=by omega
 have e0 : groupV K M G lost = []:=if_pos (.inr ⟨h1,h2⟩)
 rw [e0]
 have d1 : ((G : Int) == 0) = false:=by rw [beq_eq_false_iff_ne];omega
 have d2 : ((G : Int) != 0) = true:=by rw [bne_iff_ne];omega
 have d3 : decide ((K : Int) ≤ (lost : Int)) = true:=decide_eq_true (by omega)
 have d4 : decide ((lost : Int) < (K : Int) + (M : Int)) = true:=decide_eq_true (by omega)
 have d5 : wrap64 ((K : Int) + (M : Int)) = (K : Int) + (M : Int):=by unfold wrap64;omega
 clear e0 hP
 go_enter Try.func130,Try.ntmps130
 go_wp2_with fail
 go_quiet (fail)
 go_wp2
 go_ret
 exact ⟨_,rfl,Kd.R_nil _ _ _ _ _,Drawn0.below (Drawn0.mk ⟨_,rfl⟩)⟩

theorem wa2 {a b : Nat} (h : a + b ≤ 1000) : wrap64 ((a : Int) + (b : Int)) = (a : Int) + (b : Int):=by unfold wrap64;omega
theorem wa3 {a b c : Nat} (h : a + b + c ≤ 1000) : wrap64 ((a : Int) + (b : Int) + (c : Int)) = (a : Int) + (b : Int) + (c : Int):=by unfold wrap64;omega
theorem wa1 {a : Nat} (h : a ≤ 1000) : wrap64 (a : Int) = (a : Int):=by unfold wrap64;omega
theorem tm_ {l G g : Nat} (h : g = l % G) : Int.tmod (l : Int) (G : Int) = (g : Int):=by rw [Int.tmod_eq_emod_of_nonneg (by omega),h];exact (Int.natCast_emod _ _).symm
def outD (K G g lost d : Nat) : List Nat:=(List.range (min d K)).filter (inG G g lost)
theorem out_start {K G g lost : Nat} (hg : g < G) : outD K G g lost g = []:=by
 unfold outD
 rw [List.filter_eq_nil_iff]
 intro a ha
 have h1:=List.mem_range.1 ha
 have h2 : a < g:=by omega
 unfold inG
 rw [Nat.mod_eq_of_lt (by omega)]
 simp
 omega
theorem out_end {K G g lost d : Nat} (h : K ≤ d) : outD K G g lost d = (List.range K).filter (inG G g lost):=by
 unfold outD
 rw [Nat.min_eq_right h]
theorem out_step {K G g lost d : Nat} (hG : 0 < G) (hd : d % G = g) (hK : d < K) : outD K G g lost (d + G) = outD K G g lost d ++ (if d = lost then [] else [d]):=by
 have key : ∀ q,q < G → (List.range (d + 1 + q)).filter (inG G g lost) = (List.range d).filter (inG G g lost) ++ (if d = lost then [] else [d]):=by
  intro q
  induction q with
  | zero=>
   intro _
   rw [Nat.add_zero,List.range_succ,List.filter_append]
   by_cases c : d = lost
   ·rw [if_pos c,List.filter_cons_of_neg (by unfold inG;simp [c]),List.filter_nil]
   ·rw [if_neg c,List.filter_cons_of_pos (by unfold inG;simp [c,hd]),List.filter_nil]
  | succ q ih=>
   intro hq
   have ih:=ih (by omega)
   rw [← Nat.add_assoc,List.range_succ,List.filter_append,ih,List.filter_cons_of_neg,List.filter_nil,List.append_nil]
   unfold inG
   have : (d + 1 + q) % G ≠ g:=by
    intro e
    have h1:=Nat.div_add_mod d G
    have h2:=Nat.div_add_mod (d + 1 + q) G
    rw [hd] at h1
    rw [e] at h2
    have h3 : G * ((d + 1 + q) / G) = G * (d / G) + (1 + q):=by omega
    have h4 : d / G ≤ (d + 1 + q) / G:=Nat.div_le_div_right (by omega)
    obtain ⟨t,ht⟩ : ∃ t,(d + 1 + q) / G = d / G + t:=⟨_,(Nat.add_sub_cancel' h4).symm⟩
    rw [ht,Nat.mul_add] at h3
    have h5 : G * t = 1 + q:=by omega
    rcases t with _|t
    ·omega
    ·rw [Nat.mul_succ] at h5;have:=Nat.zero_le (G * t);omega
   simp [this]
 unfold outD
 rw [Nat.min_eq_left (show d ≤ K by omega)]
 by_cases c : d + G ≤ K
 ·rw [Nat.min_eq_left c]
  have:=key (G - 1) (by omega)
  rw [show d + 1 + (G - 1) = d + G by omega] at this
  exact this
 ·rw [Nat.min_eq_right (by omega)]
  have:=key (K - (d + 1)) (by omega)
  rw [show d + 1 + (K - (d + 1)) = K by omega] at this
  exact this
theorem out_len (K G g lost d : Nat) : (outD K G g lost d).length ≤ K:=by
 unfold outD
 have:=List.length_filter_le (inG G g lost) (List.range (min d K))
 rw [List.length_range] at this
 omega
theorem ints_app (l : List Nat) (d : Nat) : nums .i64 ((l ++ [d]).map Int.ofNat) = nums .i64 (l.map Int.ofNat) ++ [.int .i64 (d : Int)]:=by simp [nums]

set_option maxHeartbeats 8000000 in
set_option maxRecDepth 100000 in
theorem group_data (gt gp K M G : Nat) (vg vl : Value) (w : World) (hP : PlantAt w gt gp K M G vg vl) (lost : Nat) (hl : lost < K + M + G) (hk2 : K ≤ 32) (hms : M ≤ 16) (hgk : G ≤ K) (h1 : lost < K) (h3 : 0 < G) : Calls Try.prog 130 #[.pointer (some ⟨gp,0,none⟩),.int .i64 lost] w fun e w'=>∃ v,e = .returned v ∧ Kd.R (Kd.int .i64) 3 w' w.heap.size (fun _=>True) v ((groupV K M G lost).map Int.ofNat) ∧ Below w.heap.size w w':=by
 have hu1:=Try.underlying175
 have hu2:=Try.underlying43
 obtain ⟨q0,q1,q2,q3,q4,q5⟩:=hP.cell
 have b1 : (K : Int) ≤ 32:=by omega
 have b2 : (M : Int) ≤ 16:=by omega
 have b3 : (G : Int) ≤ 32:=by omega
 have b4 : 0 ≤ (K : Int):=by omega
 have b5 : 0 ≤ (M : Int):=by omega
 have b6 : 0 ≤ (G : Int):=by omega
 have b7 : 0 ≤ (lost : Int):=by omega
 have hP0:=Aside0.mk hP
 have hG0:=Aside0.mk h3
 have d1 : ((G : Int) == 0) = false:=by rw [beq_eq_false_iff_ne];omega
 have d2 : ((G : Int) != 0) = true:=by rw [bne_iff_ne];omega
 obtain ⟨g,hg0⟩ : ∃ g,g = lost % G:=⟨_,rfl⟩
 have hgG : g < G:=by rw [hg0];exact Nat.mod_lt _ h3
 have hd8:=Aside0.mk (wa3 (a:=K) (b:=M) (c:=g) (by omega))
 have d3 : decide ((K : Int) ≤ (lost : Int)) = false:=decide_eq_false (by omega)
 have d4 : (lost : Int) < (K : Int):=by omega
 have hgv:=Aside0.mk (show groupV K M G lost = (List.range K).filter (inG G g lost) ++ [K + M + g] by unfold groupV groupI;rw [if_neg (by omega),if_pos h1,if_pos h1,← hg0])
 have d6:=tm_ hg0
 have d7:=wa1 (a:=g) (by omega)
 clear hg0
 have d5:=wa2 (a:=K) (b:=M) (by omega)
 clear hP
 go_enter Try.func130,Try.ntmps130
 go_wp2_with fail
 go_quiet (fail)
 have H:=Aside0.mk ((Hs.nil w).drewN nq)
 generalize w.drewN nq = w1 at H ⊢
 obtain ⟨q0,q1,q2,q3,q4,q5⟩:=(hP0.out.below H.out.below).cell
 go_wp2_with (first
  | ((with_reducible refine gate_dst (N:=49) rfl ?_);refine lit_ev rfl rfl (cs:=#[]) (t:=3) (n:=0) ?hr ?_;(case hr=>first|(go_simp;done)|(go_simp;rfl));intro g0 hg w0_ hbox hb;have hB0:=Aside0.mk (RowB.lit0 (e:=3) (size:=1) (g:=g0));have H_:=Aside0.mk (Hs.push H.out (Nat.le_of_eq hg.symm) hbox hb);clear hbox hb hg H;have H:=H_;clear H_))
 clear d5 d6 d7
 go_loopw [9,10] (fun v9 v10 wr=>∃ (d : Nat) (Bo : List Blk),d ≤ K + G ∧ v9 = v9 ∧ v10 = .int .i64 d ∧ Aside0 (d % G = g) ∧ Aside0 (RowB 3 1 v9 (outD K G g lost d).length (nums .i64 ((outD K G g lost d).map Int.ofNat)) Bo) ∧ Aside0 (Hs w wr (Bo ++ []))) (fun _ d _=>K + G - (intOf d).toNat)
 case atStart=>exact ⟨g,_,by omega,rfl,rfl,Aside0.mk (Nat.mod_eq_of_lt hgG),Aside0.mk (by rw [out_start hgG];exact hB0.out),H⟩
 case round=>
  clear H hB0
  obtain ⟨d,Bo,hd0,-,rfl,hm,hB,H⟩:=hrel
  obtain ⟨Av,cv,hv⟩:=hB.out.slice
  cases hv
  have hin:=Aside0.mk (out_len K G g lost d)
  have i0 : 0 ≤ (d : Int):=by omega
  by_cases hlt : d < K
  ·have i1 : (d : Int) < (K : Int):=by omega
   have hi3:=Aside0.mk (wa2 (a:=d) (b:=G) (by omega))
   have hst:=Aside0.mk (out_step (lost:=lost) hG0.out hm.out hlt)
   have hm2:=Aside0.mk (show (d + G) % G = g by rw [Nat.add_mod_right];exact hm.out)
   by_cases hk : d = lost
   ·have i2 : ((d : Int) != (lost : Int)) = false:=by rw [bne_eq_false_iff_eq];omega
    have i4 : ((d : Int) == (lost : Int)) = true:=by rw [beq_iff_eq];omega
    have i3:=hi3.out
    go_wp2_with fail
    clear i3
    go_roundw
    case rel=>exact ⟨d + G,Bo,by omega,trivial,by go_num,hm2,Aside0.mk (by rw [hst.out,if_pos hk,List.append_nil];exact hB.out),H⟩
    case measure=>simp [intOf];omega
   ·have i2 : ((d : Int) != (lost : Int)) = true:=by rw [bne_iff_ne];omega
    have i4 : ((d : Int) == (lost : Int)) = false:=by rw [beq_eq_false_iff_ne];omega
    have i3:=hi3.out
    go_wp2_with (first
     | ((with_reducible refine gate_dst (N:=63) rfl ?_);refine append_ev rfl (.tmp 60) (.tmp 62) 135 3 (.int .i64 0) 1 8 rfl Try.underlying135 (by kernel_rfl) rfl (by decide) (by decide) _ (outD K G g lost d).length (nums .i64 ((outD K G g lost d).map Int.ofNat)) [.int .i64 (d : Int)] rfl rfl rfl (fun u_ hu_=>by rw [List.mem_singleton.1 hu_];rfl) hB.out H.out (by have:=hin.out;omega) ?_;intro A1 z1 w2 B1 hB1 hH1;have hB2:=Aside0.mk hB1;have H_:=Aside0.mk hH1;clear hB1 hH1 H;have H:=H_;clear H_))
    clear i3
    go_roundw
    case rel=>exact ⟨d + G,B1,by omega,trivial,by go_num,hm2,Aside0.mk (by rw [hst.out,if_neg hk,List.length_append,List.length_singleton,ints_app];exact hB2.out),H⟩
    case measure=>simp [intOf];omega
  ·have i1 : decide ((d : Int) < (K : Int)) = false:=decide_eq_false (by omega)
   have hoe:=Aside0.mk (out_end (G:=G) (g:=g) (lost:=lost) (show K ≤ d by omega))
   have d8:=hd8.out
   go_wp2_with (first
    | ((with_reducible refine gate_dst (N:=72) rfl ?_);refine append_ev rfl (.tmp 67) (.tmp 71) 135 3 (.int .i64 0) 1 8 rfl Try.underlying135 (by kernel_rfl) rfl (by decide) (by decide) _ (outD K G g lost d).length (nums .i64 ((outD K G g lost d).map Int.ofNat)) [.int .i64 ((K : Int) + (M : Int) + (g : Int))] rfl rfl rfl (fun u_ hu_=>by rw [List.mem_singleton.1 hu_];rfl) hB.out H.out (by have:=hin.out;omega) ?_;intro A1 z1 w2 B1 hB1 hH1;have hB2:=Aside0.mk hB1;have H_:=Aside0.mk hH1;clear hB1 hH1 H;have H:=H_;clear H_))
   clear d8
   go_ret
   rw [hgv.out,← hoe.out]
   refine ⟨_,rfl,Kd.R_of_own ?_ (fun _ _=>trivial),H.out.below⟩
   have ho:=hB2.out.owns H.out
   rw [List.length_map,List.length_append,List.length_singleton,show encs (Value.int IntKind.i64) (List.map Int.ofNat (outD K G g lost d ++ [K + M + g])) = nums .i64 (List.map Int.ofNat (outD K G g lost d ++ [K + M + g])) from rfl,ints_app]
   rw [show ((K + M + g : Nat) : Int) = (K : Int) + (M : Int) + (g : Int) by omega]
   exact ho

set_option maxHeartbeats 8000000 in
set_option maxRecDepth 100000 in
theorem group_loc (gt gp K M G : Nat) (vg vl : Value) (w : World) (hP : PlantAt w gt gp K M G vg vl) (lost : Nat) (hl : lost < K + M + G) (hk2 : K ≤ 32) (hms : M ≤ 16) (hgk : G ≤ K) (h1 : K + M ≤ lost) (h3 : 0 < G) : Calls Try.prog 130 #[.pointer (some ⟨gp,0,none⟩),.int .i64 lost] w fun e w'=>∃ v,e = .returned v ∧ Kd.R (Kd.int .i64) 3 w' w.heap.size (fun _=>True) v ((groupV K M G lost).map Int.ofNat) ∧ Below w.heap.size w w':=by
 have hu1:=Try.underlying175
 have hu2:=Try.underlying43
 obtain ⟨q0,q1,q2,q3,q4,q5⟩:=hP.cell
 have b1 : (K : Int) ≤ 32:=by omega
 have b2 : (M : Int) ≤ 16:=by omega
 have b3 : (G : Int) ≤ 32:=by omega
 have b4 : 0 ≤ (K : Int):=by omega
 have b5 : 0 ≤ (M : Int):=by omega
 have b6 : 0 ≤ (G : Int):=by omega
 have b7 : 0 ≤ (lost : Int):=by omega
 have hP0:=Aside0.mk hP
 have hG0:=Aside0.mk h3
 have d1 : ((G : Int) == 0) = false:=by rw [beq_eq_false_iff_ne];omega
 have d2 : ((G : Int) != 0) = true:=by rw [bne_iff_ne];omega
 obtain ⟨g,hg0⟩ : ∃ g,g = lost - (K + M):=⟨_,rfl⟩
 have hgG : g < G:=by omega
 obtain ⟨g2,hg2⟩ : ∃ g2,g2 = lost % G:=⟨_,rfl⟩
 have hg2G : g2 < G:=by rw [hg2];exact Nat.mod_lt _ h3
 have d3 : (K : Int) ≤ (lost : Int):=by omega
 have d4 : decide ((lost : Int) < (K : Int)) = false:=decide_eq_false (by omega)
 have d7 : decide ((lost : Int) < (K : Int) + (M : Int)) = false:=decide_eq_false (by omega)
 have hgv:=Aside0.mk (show groupV K M G lost = (List.range K).filter (inG G g lost) by unfold groupV groupI;rw [if_neg (by omega),if_neg (by omega),if_neg (by omega),← hg0,List.append_nil])
 have d6:=tm_ hg2
 have d8 : (lost : Int) - ((K : Int) + (M : Int)) = (g : Int):=by omega
 have d9:=wa1 (a:=g2) (by omega)
 clear hg0 hg2
 have d5:=wa2 (a:=K) (b:=M) (by omega)
 clear hP
 go_enter Try.func130,Try.ntmps130
 go_wp2_with fail
 go_quiet (fail)
 have H:=Aside0.mk ((Hs.nil w).drewN nq)
 generalize w.drewN nq = w1 at H ⊢
 obtain ⟨q0,q1,q2,q3,q4,q5⟩:=(hP0.out.below H.out.below).cell
 go_wp2_with (first
  | ((with_reducible refine gate_dst (N:=49) rfl ?_);refine lit_ev rfl rfl (cs:=#[]) (t:=3) (n:=0) ?hr ?_;(case hr=>first|(go_simp;done)|(go_simp;rfl));intro g0 hg w0_ hbox hb;have hB0:=Aside0.mk (RowB.lit0 (e:=3) (size:=1) (g:=g0));have H_:=Aside0.mk (Hs.push H.out (Nat.le_of_eq hg.symm) hbox hb);clear hbox hb hg H;have H:=H_;clear H_))
 clear d5 d6 d7 d8 d9
 go_loopw [9,10] (fun v9 v10 wr=>∃ (d : Nat) (Bo : List Blk),d ≤ K + G ∧ v9 = v9 ∧ v10 = .int .i64 d ∧ Aside0 (d % G = g) ∧ Aside0 (RowB 3 1 v9 (outD K G g lost d).length (nums .i64 ((outD K G g lost d).map Int.ofNat)) Bo) ∧ Aside0 (Hs w wr (Bo ++ []))) (fun _ d _=>K + G - (intOf d).toNat)
 case atStart=>exact ⟨g,_,by omega,rfl,rfl,Aside0.mk (Nat.mod_eq_of_lt hgG),Aside0.mk (by rw [out_start hgG];exact hB0.out),H⟩
 case round=>
  clear H hB0
  obtain ⟨d,Bo,hd0,-,rfl,hm,hB,H⟩:=hrel
  obtain ⟨Av,cv,hv⟩:=hB.out.slice
  cases hv
  have hin:=Aside0.mk (out_len K G g lost d)
  have i0 : 0 ≤ (d : Int):=by omega
  by_cases hlt : d < K
  ·have i1 : (d : Int) < (K : Int):=by omega
   have hi3:=Aside0.mk (wa2 (a:=d) (b:=G) (by omega))
   have hst:=Aside0.mk (out_step (lost:=lost) hG0.out hm.out hlt)
   have hm2:=Aside0.mk (show (d + G) % G = g by rw [Nat.add_mod_right];exact hm.out)
   by_cases hk : d = lost
   ·omega
   ·have i2 : ((d : Int) != (lost : Int)) = true:=by rw [bne_iff_ne];omega
    have i4 : ((d : Int) == (lost : Int)) = false:=by rw [beq_eq_false_iff_ne];omega
    have i3:=hi3.out
    go_wp2_with (first
     | ((with_reducible refine gate_dst (N:=63) rfl ?_);refine append_ev rfl (.tmp 60) (.tmp 62) 135 3 (.int .i64 0) 1 8 rfl Try.underlying135 (by kernel_rfl) rfl (by decide) (by decide) _ (outD K G g lost d).length (nums .i64 ((outD K G g lost d).map Int.ofNat)) [.int .i64 (d : Int)] rfl rfl rfl (fun u_ hu_=>by rw [List.mem_singleton.1 hu_];rfl) hB.out H.out (by have:=hin.out;omega) ?_;intro A1 z1 w2 B1 hB1 hH1;have hB2:=Aside0.mk hB1;have H_:=Aside0.mk hH1;clear hB1 hH1 H;have H:=H_;clear H_))
    clear i3
    go_roundw
    case rel=>exact ⟨d + G,B1,by omega,trivial,by go_num,hm2,Aside0.mk (by rw [hst.out,if_neg hk,List.length_append,List.length_singleton,ints_app];exact hB2.out),H⟩
    case measure=>simp [intOf];omega
  ·have i1 : decide ((d : Int) < (K : Int)) = false:=decide_eq_false (by omega)
   have hoe:=Aside0.mk (out_end (G:=G) (g:=g) (lost:=lost) (show K ≤ d by omega))
   go_wp2_with fail
   go_ret
   rw [hgv.out,← hoe.out]
   refine ⟨_,rfl,Kd.R_of_own ?_ (fun _ _=>trivial),H.out.below⟩
   rw [List.length_map]
   exact hB.out.owns H.out

theorem group_calls (gt gp K M G : Nat) (vg vl : Value) (w : World) (hP : PlantAt w gt gp K M G vg vl) (lost : Nat) (hl : lost < K + M + G) (hk2 : K ≤ 32) (hms : M ≤ 16) (hgk : G ≤ K) : Calls Try.prog 130 #[.pointer (some ⟨gp,0,none⟩),.int .i64 lost] w fun e w'=>∃ v,e = .returned v ∧ Kd.R (Kd.int .i64) 3 w' w.heap.size (fun _=>True) v ((groupV K M G lost).map Int.ofNat) ∧ Below w.heap.size w w':=by
 by_cases h0 : G = 0
 ·exact group_zero gt gp K M G vg vl w hP lost hl hk2 hms hgk h0
 by_cases h1 : lost < K
 ·exact group_data gt gp K M G vg vl w hP lost hl hk2 hms hgk h1 (by omega)
 by_cases h2 : lost < K + M
 ·exact group_mid gt gp K M G vg vl w hP lost hl hk2 hms hgk (by omega) h2 (by omega)
 ·exact group_loc gt gp K M G vg vl w hP lost hl hk2 hms hgk (by omega) (by omega)
end Go.Proofs.Ytffhbpepppodeaa.Repair
