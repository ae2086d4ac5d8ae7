import Derived.Test.YtffhbpepppodeaaRepairFnRepaired
import Derived.Test.YtffhbpepppodeaaPlant5FnRepaired
namespace Go.Proofs.Ytffhbpepppodeaa.Repair2
open Go.RowKit Go.Proofs.YtffhbpepppodeaaW.PrintWords Go.Proofs.YtffhbpepppodeaaW.PrintLast Go.Proofs.YtffhbpepppodeaaW.PrintMore Go.Proofs.Ytffhbpepppodeaa.Hs Go.Proofs.Ytffhbpepppodeaa.Gf Go.Proofs.Ytffhbpepppodeaa.Grid Go.Proofs.Ytffhbpepppodeaa.Reduce Go.Proofs.Ytffhbpepppodeaa.Plant Go.Proofs.Ytffhbpepppodeaa.Plant2 Go.Proofs.Ytffhbpepppodeaa.Plant4 Go.Proofs.Ytffhbpepppodeaa.Plant5 Go.Proofs.Ytffhbpepppodeaa.Repair
set_option linter.unusedVariables false
set_option linter.unusedSimpArgs false
def allH (hv : List Bool) (g : List Nat) (i : Nat) : Bool:=decide (0 < g.length) && (g.take i).all fun t=>rdOf false hv (t : Int)
theorem allH_succ (hv : List Bool) (g : List Nat) {i : Nat} (h : i < g.length) : allH hv g (i + 1) = (allH hv g i && rdOf false hv ((g[i] : Nat) : Int)):=by
 unfold allH
 rw [List.take_succ_eq_append_getElem h,List.all_append,Bool.and_assoc]
 congr 2
 simp
def planV (K M G : Nat) (hv : List Bool) (lost : Nat) : List Nat × Bool × Bool:=
 if allH hv (groupV K M G lost) (groupV K M G lost).length = true then (groupV K M G lost,true,true)
 else ((basisK K M G (hv.set lost false) hv.length).1,false,decide ((basisK K M G (hv.set lost false) hv.length).1.length = K))
theorem group_lt {K M G lost t : Nat} (hl : lost < K + M + G) (h : t ∈ groupV K M G lost) : t < K + M + G:=by
 unfold groupV groupI at h
 split at h
 ·cases h
 ·rcases List.mem_append.1 h with m|m
  ·have:=List.mem_range.1 (List.mem_filter.1 m).1
   omega
  ·split at m
   ·rename_i h1 h2
    rw [List.mem_singleton.1 m]
    have : lost % G < G:=Nat.mod_lt _ (by omega)
    omega
   ·cases m
theorem group_len (K M G lost : Nat) : (groupV K M G lost).length ≤ K + 1:=by
 unfold groupV
 split
 ·exact Nat.zero_le _
 ·rw [List.length_append]
  have h1:=List.length_filter_le (inG G (groupI K M G lost) lost) (List.range K)
  rw [List.length_range] at h1
  split
  ·simp;omega
  ·simp;omega

theorem plan_put {w W : World} {g cap lost : Nat} {hv : List Bool} (h : Kd.R Kd.bool 4 W w.heap.size (fun _=>True) (.slice (some ⟨g,0,none⟩) hv.length cap) hv) (hB : Below w.heap.size w W) (hg : w.heap.size ≤ g) : Kd.R Kd.bool 4 (W.setCell ⟨g,lost,none⟩ (.bool false)) w.heap.size (fun _=>True) (.slice (some ⟨g,0,none⟩) hv.length cap) (hv.set lost false) ∧ Below w.heap.size w (W.setCell ⟨g,lost,none⟩ (.bool false)):=by
 obtain ⟨h1,h2⟩:=Kd.R_put (enc:=Value.bool) h (lost : Int) false
 rw [Int.toNat_natCast] at h1 h2
 exact ⟨h1,hB.trans ⟨h2.os,h2.tape,h2.output,h2.size,fun k hk=>h2.block k (Nat.lt_of_lt_of_le hk hB.size) (fun he=>by injection he with he;omega)⟩⟩

set_option maxHeartbeats 8000000 in
set_option maxRecDepth 100000 in
theorem plan_calls (gt gp K M G : Nat) (vg vl : Value) (w : World) (hP : PlantAt w gt gp K M G vg vl) (A1 : Option Addr) (c1 : Nat) (hv : List Bool) (hd : Kd.C Kd.bool w A1 hv.length hv) (hN2 : K + M + G = hv.length) (hN64 : hv.length ≤ 64) (lost : Nat) (hl : lost < hv.length) (hk1 : 1 ≤ K) (hk2 : K ≤ 32) (hms : M ≤ 16) (hgk : G ≤ K) : Calls Try.prog 96 #[.pointer (some ⟨gp,0,none⟩),.slice A1 hv.length c1,.int .i64 lost] w fun e w'=>∃ v1 : Value,e = .returned (.tuple #[v1,.bool (planV K M G hv lost).2.1,.bool (planV K M G hv lost).2.2]) ∧ Kd.R (Kd.int .i64) 3 w' w.heap.size (fun _=>True) v1 ((planV K M G hv lost).1.map Int.ofNat) ∧ Below w.heap.size w w':=by
 have hu1:=Try.underlying175
 have hu2:=Try.underlying43
 have hP0:=Aside0.mk hP
 have HD:=Aside0.mk hd
 have hlt0:=Aside0.mk (show lost < K + M + G by omega)
 obtain ⟨gl,hgl0⟩ : ∃ gl,gl = groupV K M G lost:=⟨_,rfl⟩
 have hgt:=Aside0.mk (show ∀ t,t ∈ gl → t < hv.length from fun t h=>by rw [hgl0] at h;have:=group_lt (K:=K) (M:=M) (G:=G) (lost:=lost) (t:=t) (by omega) h;omega)
 have hgl1 : gl.length ≤ 33:=by rw [hgl0];have:=group_len K M G lost;omega
 obtain ⟨pv,hpv0⟩ : ∃ pv,pv = planV K M G hv lost:=⟨_,rfl⟩
 have hpv:=Aside0.mk (show pv = if allH hv gl gl.length = true then (gl,true,true) else ((basisK K M G (hv.set lost false) hv.length).1,false,decide ((basisK K M G (hv.set lost false) hv.length).1.length = K)) by rw [hgl0,hpv0];rfl)
 have hgl:=Aside0.mk hgl0
 rw [← hpv0]
 clear hd hP hgl0 hpv0
 have l0 : 0 ≤ (lost : Int):=by omega
 have l1 : (lost : Int) < (hv.length : Int):=by omega
 go_enter Try.func96,Try.ntmps96
 go_wp2_with (first
  | ((with_reducible refine gate_callee (f:=130) rfl ?_);(try (refine gate_guard (by rfl) ?_;dsimp only));refine goesL_ (some 17) rfl rfl Try.func130 (by kernel_rfl) rfl #[.pointer (some ⟨gp,0,none⟩),.int .i64 lost] rfl (by (try simp only [List.map_toArray,List.map_cons,List.map_nil]);first|done|rfl) ?_;(with_reducible refine (group_calls gt gp K M G vg vl _ hP0.out lost hlt0.out hk2 hms hgk).mono ?_);rintro e wG ⟨vG,rfl,hR0,hb⟩;refine ⟨_,rfl,?_⟩;rw [← hgl.out] at hR0;obtain ⟨AG,cG,eG⟩:=Kd.R_slice hR0;rw [List.length_map] at eG;subst eG;have HG:=Aside0.mk hR0;have HB:=Aside0.mk hb;have HV:=Aside0.mk (Kd.C_below HD.out hb);clear hR0 hb))
 go_loopw [10,12,23] (fun v10 v12 v23 wr=>∃ i : Nat,i ≤ gl.length ∧ v12 = v12 ∧ v23 = .int .i64 i ∧ v10 = .bool (allH hv gl i) ∧ wr = wG) (fun _ _ i _=>gl.length - (intOf i).toNat)
 case atStart=>exact ⟨0,Nat.zero_le _,rfl,rfl,by simp [allH],rfl⟩
 case round=>
  obtain ⟨i,hi0,-,rfl,rfl,rfl⟩:=hrel
  have i0 : 0 ≤ (i : Int):=by omega
  by_cases hlt : i < gl.length
  ·have i1 : (i : Int) < (gl.length : Int):=by omega
   obtain ⟨t,ht0⟩ : ∃ t,t = gl[i]:=⟨_,rfl⟩
   have htN : t < hv.length:=by rw [ht0];exact hgt.out _ (List.getElem_mem hlt)
   have HS:=Aside0.mk (show allH hv gl (i + 1) = (allH hv gl i && rdOf false hv (t : Int)) by rw [ht0];exact allH_succ hv gl hlt)
   obtain ⟨a_,e_,hx0⟩:=Kd.at_int (Kd.R_reads' HG.out).2.2 (i : Int) (by omega) (by rw [List.length_map];omega)
   have hrd : rd (gl.map Int.ofNat) (i : Int) = (t : Int):=by
    unfold rd
    rw [Int.toNat_natCast,ht0,List.getD_eq_getElem?_getD,List.getElem?_map,List.getElem?_eq_getElem hlt];rfl
   rw [hrd,Int.toNat_natCast] at hx0
   cases e_
   have t0 : 0 ≤ (t : Int):=by omega
   have t1 : (t : Int) < (hv.length : Int):=by omega
   obtain ⟨ad,e_,hx1⟩:=Kd.at_bool HV.out (t : Int) (by omega) (by omega)
   rw [Int.toNat_natCast] at hx1
   cases e_
   clear hrd ht0
   cases ha : allH hv gl i with
   | false=>
    rw [ha,Bool.false_and] at HS
    go_wp2_with fail
    go_roundw
    case rel=>exact ⟨i + 1,by omega,trivial,by go_num,by rw [HS.out],trivial⟩
    case measure=>simp [intOf];omega
   | true=>
    rw [ha,Bool.true_and] at HS
    go_wp2_with fail
    go_roundw
    case rel=>exact ⟨i + 1,by omega,trivial,by go_num,by rw [HS.out],trivial⟩
    case measure=>simp [intOf];omega
  ·have i1 : decide ((i : Int) < (gl.length : Int)) = false:=decide_eq_false (by omega)
   obtain rfl : i = gl.length:=by omega
   cases ha : allH hv gl gl.length with
   | true=>
    go_wp2_with fail
    go_ret3
    rw [show pv = (gl,true,true) by rw [hpv.out,if_pos ha]]
    exact ⟨_,rfl,HG.out,HB.out⟩
   | false=>
    go_wp2_with (first
     | ((with_reducible refine gate_dst (N:=37) rfl ?_);refine lit_ev rfl rfl (cs:=#[]) (t:=4) (n:=0) ?hr ?_;(case hr=>first|(go_simp;done)|(go_simp;rfl));intro g0 hg w1 hbox hb;have HL:=Aside0.mk (Kd.R_of_own (enc:=Value.bool) (h1:=fun _=>rfl) (xs:=[]) (ok:=fun _=>True) ((RowB.lit0 (e:=4) (size:=1) (g:=g0)).owns (Hs.push ((Hs.nil w).call HB.out) (Nat.le_of_eq hg.symm) hbox hb)) (fun _ _=>trivial));have HB1:=Aside0.mk (HB.out.trans (hb.mono HB.out.size));have HV1:=Aside0.mk (Kd.C_below HV.out hb);clear hbox hb hg)
     | ((with_reducible refine gate_dst (N:=39) rfl ?_);refine Kd.R_append_rows (w0:=w) Kd.bool w.heap.size rfl (.tmp 37) (.tmp 38) 72 4 (.bool false) 1 rfl Try.underlying72 (by kernel_rfl) rfl (by decide) (by decide) _ [] hv A1 hv.length c1 (fun _=>True) (fun _=>False) rfl rfl HL.out HV1.out (fun _ _ h_=>h_) (fun _ h_=>h_.elim) (fun _ _=>trivial) HB1.out HB1.out.size (by simp only [List.length_nil];omega) ?_;intro v1 w2 hO hb2 x1_ x2_;clear x1_ x2_;rw [List.nil_append] at hO;obtain ⟨g1,cap1,e1,hg1,hg2,-⟩:=Kd.R_form hO (by omega);subst e1;have HO:=Aside0.mk hO;have HB2:=Aside0.mk hb2;obtain ⟨hc_,hf_⟩:=Kd.R_cell false hO (lost : Int) (by omega) (by omega);rw [Int.toNat_natCast] at hc_ hf_;clear hO hb2 HL HB1 HV1)
     | ((with_reducible refine gate_store (p:=42) rfl ?_);(try (refine gate_guard (by rfl) ?_;dsimp only));refine store_at (fun W=>World.setCell W ⟨g1,lost,none⟩ (.bool false)) ?hg rfl ?hd ?hr ?_;(case hg=>rfl);(case hd=>rfl);(case hr=>first|(go_simp;done)|(go_simp;rfl));intro w3 hw;have HQ:=Aside0.mk (show Kd.R Kd.bool 4 w3 w.heap.size (fun _=>True) (.slice (some ⟨g1,0,none⟩) hv.length cap1) (hv.set lost false) ∧ Below w.heap.size w w3 from by rw [hw];exact plan_put HO.out HB2.out hg1);clear hw hc_ hf_ HO HB2)
     | ((with_reducible refine gate_callee (f:=94) rfl ?_);(try (refine gate_guard (by rfl) ?_;dsimp only));refine goesL_ (some 45) rfl rfl Try.func94 (by kernel_rfl) rfl #[.pointer (some ⟨gp,0,none⟩),.slice (some ⟨g1,0,none⟩) hv.length cap1] rfl (by (try simp only [List.map_toArray,List.map_cons,List.map_nil]);first|done|rfl) ?_;(with_reducible refine (basis_calls gt gp K M G vg vl _ (hP0.out.below HQ.out.2) (some ⟨g1,0,none⟩) cap1 (hv.set lost false) (by have h_:=(Kd.R_reads' HQ.out.1).2.2;rw [List.length_set] at h_ ⊢;exact h_) hv.length (List.length_set ..) hN2 hN64 hk1 hk2 hms hgk).mono ?_);rintro e w4 ⟨v4,rfl,hR4,hb4⟩;refine ⟨_,rfl,?_⟩;have HB4:=Aside0.mk (HQ.out.2.trans (hb4.mono HQ.out.2.size));obtain ⟨A4,c4,e4⟩:=Kd.R_slice hR4;rw [List.length_map] at e4;subst e4;have HR4:=Aside0.mk (Kd.R_lower hR4 HQ.out.2.size);clear hR4 hb4;have hq1:=(hP0.out.below HB4.out).cell.2.1))
    go_quiet (fail)
    go_wp2
    go_ret3
    rw [show pv = ((basisK K M G (hv.set lost false) hv.length).1,false,decide ((basisK K M G (hv.set lost false) hv.length).1.length = K)) by rw [hpv.out,if_neg (by rw [ha];decide)]]
    have eK : ((((basisK K M G (hv.set lost false) hv.length).1.length : Nat) : Int) == (K : Int)) = decide ((basisK K M G (hv.set lost false) hv.length).1.length = K):=by rw [Bool.eq_iff_iff,beq_iff_eq,decide_eq_true_iff];omega
    refine ⟨.slice A4 (basisK K M G (hv.set lost false) hv.length).1.length c4,?_,Kd.R_drewN HR4.out nq,HB4.out.trans (Drawn0.below (Drawn0.step (Drawn0.refl _) nq) |>.mono HB4.out.size)⟩
    rw [← eK]
    rfl
end Go.Proofs.Ytffhbpepppodeaa.Repair2
