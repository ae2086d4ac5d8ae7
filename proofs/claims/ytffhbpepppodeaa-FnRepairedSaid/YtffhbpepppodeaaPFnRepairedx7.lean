import Derived.Test.YtffhbpepppodeaaPFnRepairedx0
import Derived.Test.YtffhbpepppodeaaPFnRepairedx1
import Derived.Test.YtffhbpepppodeaaPFnRepairedx6
import Derived.Test.YtffhbpepppodeaaPlant3FnRepaired
import Derived.Test.YtffhbpepppodeaaRepair2FnRepaired
namespace Go.Proofs.Ytffhbpepppodeaa.PFnRepaired
open Go.RowKit Go.Proofs.YtffhbpepppodeaaW.PrintWords Go.Proofs.YtffhbpepppodeaaW.PrintLast Go.Proofs.YtffhbpepppodeaaW.PrintMore
open Go.Proofs.Ytffhbpepppodeaa.Hs Go.Proofs.Ytffhbpepppodeaa.Gf Go.Proofs.Ytffhbpepppodeaa.Grid Go.Proofs.Ytffhbpepppodeaa.Reduce Go.Proofs.Ytffhbpepppodeaa.Plant Go.Proofs.Ytffhbpepppodeaa.Plant2 Go.Proofs.Ytffhbpepppodeaa.Plant3 Go.Proofs.Ytffhbpepppodeaa.Plant4 Go.Proofs.Ytffhbpepppodeaa.Plant5 Go.Proofs.Ytffhbpepppodeaa.Repair Go.Proofs.Ytffhbpepppodeaa.Repair2

theorem fault_okR {a0_0 a0_1 a0_2 : Int} (h : impl_CodeFault.f a0_0 a0_1 a0_2 = some 0) : 1 ≤ a0_0 ∧ a0_0 ≤ 32 ∧ 0 ≤ a0_1 ∧ a0_1 ≤ 16 ∧ 0 ≤ a0_2 ∧ a0_2 ≤ a0_0 ∧ a0_0 + a0_1 + a0_2 ≤ 64:=by
 unfold impl_CodeFault.f at h
 by_cases c1 : a0_0 < 1
 ·rw [if_pos c1] at h;cases h
 rw [if_neg c1] at h
 by_cases c2 : a0_0 > 32
 ·rw [if_pos c2] at h;cases h
 rw [if_neg c2] at h
 by_cases c3 : a0_1 < 0
 ·rw [if_pos c3] at h;cases h
 rw [if_neg c3] at h
 by_cases c4 : a0_1 > 16
 ·rw [if_pos c4] at h;cases h
 rw [if_neg c4] at h
 by_cases c5 : a0_2 < 0
 ·rw [if_pos c5] at h;cases h
 rw [if_neg c5] at h
 by_cases c6 : a0_2 > a0_0
 ·rw [if_pos c6] at h;cases h
 rw [if_neg c6] at h
 by_cases c7 : (wrap64 ((wrap64 (a0_0 + a0_1)) + a0_2)) > 64
 ·rw [if_pos c7] at h;cases h
 ·have e1 : wrap64 (a0_0 + a0_1) = a0_0 + a0_1:=by unfold wrap64;omega
  rw [e1] at c7
  have e2 : wrap64 (a0_0 + a0_1 + a0_2) = a0_0 + a0_1 + a0_2:=by unfold wrap64;omega
  rw [e2] at c7
  omega

theorem size_okR {K M G N : Nat} (h : impl_CodeFault.f K M G = some 0) (h2 : K + M + G = N) (h3 : N ≤ 64) : impl_CodeSize.f K M G = some (N : Int):=by
 unfold impl_CodeSize.f
 rw [h,Option.bind_some,if_pos rfl]
 congr 1
 have e1 : wrap64 ((K : Int) + (M : Int)) = (K : Int) + (M : Int):=by unfold wrap64;omega
 rw [e1]
 unfold wrap64;omega

set_option maxHeartbeats 8000000 in
set_option maxRecDepth 100000 in
theorem rplan_lost (K M G : Nat) (A1 : Option Addr) (c1 : Nat) (hv : List Bool) (lost : Nat) (w : World) (hd : Kd.C Kd.bool w A1 hv.length hv) (hf : impl_CodeFault.f K M G = some 0) (hN2 : K + M + G = hv.length) (hN64 : hv.length ≤ 64) (hl : lost < hv.length) (hk1 : 1 ≤ K) (hk2 : K ≤ 32) (hms : M ≤ 16) (hgk : G ≤ K) (T : List Nat) (near : Bool) (hp : planV K M G hv lost = (T,near,false)) : Calls Try.prog 39 #[.agg #[.int .i64 K,.int .i64 M,.int .i64 G],.slice A1 hv.length c1,.int .i64 lost] w fun e w'=>∃ v1_ : Value,e = .returned (.agg #[.int .i64 8,v1_]) ∧ Kd.R (Kd.int .i64) 2 w' w.heap.size (fun _=>True) v1_ [] ∧ Below w.heap.size w w':=by
 have hu1:=Try.underlying43
 have hu2:=Try.underlying74
 have hs:=Aside0.mk (size_okR hf hN2 hN64)
 have ht:=Aside0.mk hf
 have HD:=Aside0.mk hd
 have hpv:=Aside0.mk hp
 have H:=Aside0.mk (Hs.nil w)
 have l0 : decide ((lost : Int) < 0) = false:=decide_eq_false (by omega)
 have l1 : decide ((hv.length : Int) ≤ (lost : Int)) = false:=decide_eq_false (by omega)
 clear hd hf hp
 go_enter Try.func39,Try.ntmps39
 go_wp2_with (first
  | ((with_reducible refine gate_dst (N:=3) rfl ?_);(try (refine gate_guard (by rfl) ?_;dsimp only));refine box_event ?hg (N:=3) ?hd (cs:=#[.int .i64 K,.int .i64 M,.int .i64 G]) (t:=43) ?hr ?_;(case hd=>rfl);(case hg=>rfl);(case hr=>first|(go_simp;done)|(go_simp;rfl));intro gc hg w1 hbox hb;have H_:=Aside0.mk (Hs.push H.out (Nat.le_of_eq hg.symm) hbox hb);clear hbox hb hg H;have H:=H_;clear H_)
  | ((with_reducible refine gate_dst (N:=6) rfl ?_);(try (refine gate_guard (by rfl) ?_;dsimp only));refine box_event ?hg (N:=6) ?hd (cs:=#[.int .i64 0,.slice none 0 0]) (t:=74) ?hr ?_;(case hd=>rfl);(case hg=>rfl);(case hr=>first|(go_simp;done)|(go_simp;rfl));intro gs hg w2 hbox hb;have H_:=Aside0.mk (Hs.push H.out (Nat.le_of_eq hg.symm) hbox hb);clear hbox hb hg H;have H:=H_;clear H_)
  | ((with_reducible refine gate_dst (N:=13) rfl ?_);(try (refine gate_guard (by rfl) ?_;dsimp only));have hc0_:=H.out.cellv (v:=.int .i64 K) 1 rfl 0 rfl;have hc1_:=H.out.cellv (v:=.int .i64 M) 1 rfl 1 rfl;have hc2_:=H.out.cellv (v:=.int .i64 G) 1 rfl 2 rfl;refine load_at (.agg #[.int .i64 K,.int .i64 M,.int .i64 G]) ?hg ?hr ?_;(case hg=>rfl);(case hr=>first|(go_simp;done)|(go_simp;rfl));clear hc0_ hc1_ hc2_)
  | ((with_reducible refine gate_callee (f:=87) rfl ?_);(try (refine gate_guard (by rfl) ?_;dsimp only));refine goesL_ (some 14) rfl rfl Try.func87 (by kernel_rfl) rfl #[.agg #[.int .i64 K,.int .i64 M,.int .i64 G]] rfl (by (try simp only [List.map_toArray,List.map_cons,List.map_nil]);first|done|rfl) ?_;(with_reducible refine (impl_CodeFault.calls K M G 0 _ ht.out).mono ?_);rintro e w3 ⟨rfl,hb⟩;refine ⟨_,rfl,?_⟩;have H_:=Aside0.mk (show Hs w w3 [(gs,.cells #[.int .i64 0,.slice none 0 0] 74 (0,0)),(gc,.cells #[.int .i64 K,.int .i64 M,.int .i64 G] 43 (0,0))] from H.out.call hb);clear hb H;have H:=H_;clear H_)
  | ((with_reducible refine gate_dst (N:=19) rfl ?_);(try (refine gate_guard (by rfl) ?_;dsimp only));have hc0_:=H.out.cellv (v:=.int .i64 K) 1 rfl 0 rfl;have hc1_:=H.out.cellv (v:=.int .i64 M) 1 rfl 1 rfl;have hc2_:=H.out.cellv (v:=.int .i64 G) 1 rfl 2 rfl;refine load_at (.agg #[.int .i64 K,.int .i64 M,.int .i64 G]) ?hg ?hr ?_;(case hg=>rfl);(case hr=>first|(go_simp;done)|(go_simp;rfl));clear hc0_ hc1_ hc2_)
  | ((with_reducible refine gate_callee (f:=92) rfl ?_);(try (refine gate_guard (by rfl) ?_;dsimp only));refine goesL_ (some 20) rfl rfl Try.func92 (by kernel_rfl) rfl #[.agg #[.int .i64 K,.int .i64 M,.int .i64 G]] rfl (by (try simp only [List.map_toArray,List.map_cons,List.map_nil]);first|done|rfl) ?_;(with_reducible refine (impl_CodeSize.calls K M G hv.length _ hs.out).mono ?_);rintro e w4 ⟨rfl,hb⟩;refine ⟨_,rfl,?_⟩;have H_:=Aside0.mk (show Hs w w4 [(gs,.cells #[.int .i64 0,.slice none 0 0] 74 (0,0)),(gc,.cells #[.int .i64 K,.int .i64 M,.int .i64 G] 43 (0,0))] from H.out.call hb);clear hb H;have H:=H_;clear H_)
  | ((with_reducible refine gate_dst (N:=29) rfl ?_);(try (refine gate_guard (by rfl) ?_;dsimp only));have hc0_:=H.out.cellv (v:=.int .i64 K) 1 rfl 0 rfl;have hc1_:=H.out.cellv (v:=.int .i64 M) 1 rfl 1 rfl;have hc2_:=H.out.cellv (v:=.int .i64 G) 1 rfl 2 rfl;refine load_at (.agg #[.int .i64 K,.int .i64 M,.int .i64 G]) ?hg ?hr ?_;(case hg=>rfl);(case hr=>first|(go_simp;done)|(go_simp;rfl));clear hc0_ hc1_ hc2_)
  | ((with_reducible refine gate_callee (f:=92) rfl ?_);(try (refine gate_guard (by rfl) ?_;dsimp only));refine goesL_ (some 30) rfl rfl Try.func92 (by kernel_rfl) rfl #[.agg #[.int .i64 K,.int .i64 M,.int .i64 G]] rfl (by (try simp only [List.map_toArray,List.map_cons,List.map_nil]);first|done|rfl) ?_;(with_reducible refine (impl_CodeSize.calls K M G hv.length _ hs.out).mono ?_);rintro e w5 ⟨rfl,hb⟩;refine ⟨_,rfl,?_⟩;have H_:=Aside0.mk (show Hs w w5 [(gs,.cells #[.int .i64 0,.slice none 0 0] 74 (0,0)),(gc,.cells #[.int .i64 K,.int .i64 M,.int .i64 G] 43 (0,0))] from H.out.call hb);clear hb H;have H:=H_;clear H_)
  | ((with_reducible refine gate_dst (N:=35) rfl ?_);(try (refine gate_guard (by rfl) ?_;dsimp only));have hc0_:=H.out.cellv (v:=.int .i64 K) 1 rfl 0 rfl;have hc1_:=H.out.cellv (v:=.int .i64 M) 1 rfl 1 rfl;have hc2_:=H.out.cellv (v:=.int .i64 G) 1 rfl 2 rfl;refine load_at (.agg #[.int .i64 K,.int .i64 M,.int .i64 G]) ?hg ?hr ?_;(case hg=>rfl);(case hr=>first|(go_simp;done)|(go_simp;rfl));clear hc0_ hc1_ hc2_)
  | ((with_reducible refine gate_callee (f:=84) rfl ?_);(try (refine gate_guard (by rfl) ?_;dsimp only));refine goesL_ (some 36) rfl rfl Try.func84 (by kernel_rfl) rfl #[.agg #[.int .i64 K,.int .i64 M,.int .i64 G]] rfl (by (try simp only [List.map_toArray,List.map_cons,List.map_nil]);first|done|rfl) ?_;(with_reducible refine (newPlant_calls K M G _ hk1 hk2 hms hgk).mono ?_);rintro e wP ⟨gt,gp,vg,vl,rfl,hP,hb⟩;refine ⟨_,rfl,?_⟩;have hP0:=Aside0.mk hP;clear hP;have H_:=Aside0.mk (H.out.call hb);clear H;have H:=H_;clear H_ hb)
  | ((with_reducible refine gate_callee (f:=96) rfl ?_);(try (refine gate_guard (by rfl) ?_;dsimp only));refine goesL_ (some 39) rfl rfl Try.func96 (by kernel_rfl) rfl #[.pointer (some ⟨gp,0,none⟩),.slice A1 hv.length c1,.int .i64 lost] rfl (by (try simp only [List.map_toArray,List.map_cons,List.map_nil]);first|done|rfl) ?_;(with_reducible refine (plan_calls gt gp K M G vg vl _ hP0.out A1 c1 hv (Kd.C_below HD.out H.out.below) hN2 hN64 lost hl hk1 hk2 hms hgk).mono ?_);rintro e wQ ⟨v1,rfl,hR0,hb⟩;refine ⟨_,rfl,?_⟩;rw [hpv.out] at hR0 ⊢;obtain ⟨AT,cT,eT⟩:=Kd.R_slice hR0;dsimp only at hR0 eT ⊢;rw [List.length_map] at eT;subst eT;have HT:=Aside0.mk (Kd.R_reads' hR0).2.2;clear hR0;have H_:=Aside0.mk (H.out.call hb);clear H;have H:=H_;clear H_ hb)
  | ((with_reducible refine gate_store (p:=6) rfl ?_);(try (refine gate_guard (by rfl) ?_;dsimp only));have hc0_:=H.out.cellv (v:=.int .i64 0) 0 rfl 0 rfl;have hf0_:=H.out.frozen 0 rfl 0;have hc1_:=H.out.cellv (v:=.slice none 0 0) 0 rfl 1 rfl;have hf1_:=H.out.frozen 0 rfl 1;refine store_at (fun W=>(World.setCell (World.setCell W ⟨gs,0,none⟩ (.int .i64 8)) ⟨gs,1,none⟩ (.slice none 0 0))) ?hg rfl ?hd ?hr ?_;(case hg=>rfl);(case hd=>rfl);(case hr=>first|(go_simp;done)|(go_simp;rfl));intro w61 hw;have H_:=Aside0.mk (show Hs w w61 [(gs,.cells #[.int .i64 8,.slice none 0 0] 74 (0,0)),(gc,.cells #[.int .i64 K,.int .i64 M,.int .i64 G] 43 (0,0))] from by rw [hw];exact ((H.out.set 0 rfl 0 (.int .i64 8)).set 0 rfl 1 (.slice none 0 0)));clear hw hc0_ hf0_ hc1_ hf1_ H;have H:=H_;clear H_))
 exact bodyPost_ret (results_cell_row rfl _ _ gs 74 #[.int .i64 8,.slice none 0 0] (0,0) _ rfl (H.out.get 0 rfl) Try.underlying74 rfl (by kernel_rfl)) rfl ⟨_,rfl,Kd.R_nil _ _ _ _ _,H.out.below⟩

set_option maxHeartbeats 8000000 in
set_option maxRecDepth 100000 in
theorem rplan_good (K M G : Nat) (A1 : Option Addr) (c1 : Nat) (hv : List Bool) (lost : Nat) (w : World) (hd : Kd.C Kd.bool w A1 hv.length hv) (hf : impl_CodeFault.f K M G = some 0) (hN2 : K + M + G = hv.length) (hN64 : hv.length ≤ 64) (hl : lost < hv.length) (hk1 : 1 ≤ K) (hk2 : K ≤ 32) (hms : M ≤ 16) (hgk : G ≤ K) (T : List Nat) (near : Bool) (hT : T.length ≤ 64) (hp : planV K M G hv lost = (T,near,true)) : Calls Try.prog 39 #[.agg #[.int .i64 K,.int .i64 M,.int .i64 G],.slice A1 hv.length c1,.int .i64 lost] w fun e w'=>∃ v1_ : Value,e = .returned (.agg #[.int .i64 0,v1_]) ∧ Kd.R (Kd.int .i64) 2 w' w.heap.size (fun _=>True) v1_ (T.map Int.ofNat) ∧ Below w.heap.size w w':=by
 have hu1:=Try.underlying43
 have hu2:=Try.underlying74
 have hs:=Aside0.mk (size_okR hf hN2 hN64)
 have ht:=Aside0.mk hf
 have HD:=Aside0.mk hd
 have hpv:=Aside0.mk hp
 have H:=Aside0.mk (Hs.nil w)
 have l0 : decide ((lost : Int) < 0) = false:=decide_eq_false (by omega)
 have l1 : decide ((hv.length : Int) ≤ (lost : Int)) = false:=decide_eq_false (by omega)
 clear hd hf hp
 go_enter Try.func39,Try.ntmps39
 go_wp2_with (first
  | ((with_reducible refine gate_dst (N:=3) rfl ?_);(try (refine gate_guard (by rfl) ?_;dsimp only));refine box_event ?hg (N:=3) ?hd (cs:=#[.int .i64 K,.int .i64 M,.int .i64 G]) (t:=43) ?hr ?_;(case hd=>rfl);(case hg=>rfl);(case hr=>first|(go_simp;done)|(go_simp;rfl));intro gc hg w1 hbox hb;have H_:=Aside0.mk (Hs.push H.out (Nat.le_of_eq hg.symm) hbox hb);clear hbox hb hg H;have H:=H_;clear H_)
  | ((with_reducible refine gate_dst (N:=6) rfl ?_);(try (refine gate_guard (by rfl) ?_;dsimp only));refine box_event ?hg (N:=6) ?hd (cs:=#[.int .i64 0,.slice none 0 0]) (t:=74) ?hr ?_;(case hd=>rfl);(case hg=>rfl);(case hr=>first|(go_simp;done)|(go_simp;rfl));intro gs hg w2 hbox hb;have H_:=Aside0.mk (Hs.push H.out (Nat.le_of_eq hg.symm) hbox hb);clear hbox hb hg H;have H:=H_;clear H_)
  | ((with_reducible refine gate_dst (N:=13) rfl ?_);(try (refine gate_guard (by rfl) ?_;dsimp only));have hc0_:=H.out.cellv (v:=.int .i64 K) 1 rfl 0 rfl;have hc1_:=H.out.cellv (v:=.int .i64 M) 1 rfl 1 rfl;have hc2_:=H.out.cellv (v:=.int .i64 G) 1 rfl 2 rfl;refine load_at (.agg #[.int .i64 K,.int .i64 M,.int .i64 G]) ?hg ?hr ?_;(case hg=>rfl);(case hr=>first|(go_simp;done)|(go_simp;rfl));clear hc0_ hc1_ hc2_)
  | ((with_reducible refine gate_callee (f:=87) rfl ?_);(try (refine gate_guard (by rfl) ?_;dsimp only));refine goesL_ (some 14) rfl rfl Try.func87 (by kernel_rfl) rfl #[.agg #[.int .i64 K,.int .i64 M,.int .i64 G]] rfl (by (try simp only [List.map_toArray,List.map_cons,List.map_nil]);first|done|rfl) ?_;(with_reducible refine (impl_CodeFault.calls K M G 0 _ ht.out).mono ?_);rintro e w3 ⟨rfl,hb⟩;refine ⟨_,rfl,?_⟩;have H_:=Aside0.mk (show Hs w w3 [(gs,.cells #[.int .i64 0,.slice none 0 0] 74 (0,0)),(gc,.cells #[.int .i64 K,.int .i64 M,.int .i64 G] 43 (0,0))] from H.out.call hb);clear hb H;have H:=H_;clear H_)
  | ((with_reducible refine gate_dst (N:=19) rfl ?_);(try (refine gate_guard (by rfl) ?_;dsimp only));have hc0_:=H.out.cellv (v:=.int .i64 K) 1 rfl 0 rfl;have hc1_:=H.out.cellv (v:=.int .i64 M) 1 rfl 1 rfl;have hc2_:=H.out.cellv (v:=.int .i64 G) 1 rfl 2 rfl;refine load_at (.agg #[.int .i64 K,.int .i64 M,.int .i64 G]) ?hg ?hr ?_;(case hg=>rfl);(case hr=>first|(go_simp;done)|(go_simp;rfl));clear hc0_ hc1_ hc2_)
  | ((with_reducible refine gate_callee (f:=92) rfl ?_);(try (refine gate_guard (by rfl) ?_;dsimp only));refine goesL_ (some 20) rfl rfl Try.func92 (by kernel_rfl) rfl #[.agg #[.int .i64 K,.int .i64 M,.int .i64 G]] rfl (by (try simp only [List.map_toArray,List.map_cons,List.map_nil]);first|done|rfl) ?_;(with_reducible refine (impl_CodeSize.calls K M G hv.length _ hs.out).mono ?_);rintro e w4 ⟨rfl,hb⟩;refine ⟨_,rfl,?_⟩;have H_:=Aside0.mk (show Hs w w4 [(gs,.cells #[.int .i64 0,.slice none 0 0] 74 (0,0)),(gc,.cells #[.int .i64 K,.int .i64 M,.int .i64 G] 43 (0,0))] from H.out.call hb);clear hb H;have H:=H_;clear H_)
  | ((with_reducible refine gate_dst (N:=29) rfl ?_);(try (refine gate_guard (by rfl) ?_;dsimp only));have hc0_:=H.out.cellv (v:=.int .i64 K) 1 rfl 0 rfl;have hc1_:=H.out.cellv (v:=.int .i64 M) 1 rfl 1 rfl;have hc2_:=H.out.cellv (v:=.int .i64 G) 1 rfl 2 rfl;refine load_at (.agg #[.int .i64 K,.int .i64 M,.int .i64 G]) ?hg ?hr ?_;(case hg=>rfl);(case hr=>first|(go_simp;done)|(go_simp;rfl));clear hc0_ hc1_ hc2_)
  | ((with_reducible refine gate_callee (f:=92) rfl ?_);(try (refine gate_guard (by rfl) ?_;dsimp only));refine goesL_ (some 30) rfl rfl Try.func92 (by kernel_rfl) rfl #[.agg #[.int .i64 K,.int .i64 M,.int .i64 G]] rfl (by (try simp only [List.map_toArray,List.map_cons,List.map_nil]);first|done|rfl) ?_;(with_reducible refine (impl_CodeSize.calls K M G hv.length _ hs.out).mono ?_);rintro e w5 ⟨rfl,hb⟩;refine ⟨_,rfl,?_⟩;have H_:=Aside0.mk (show Hs w w5 [(gs,.cells #[.int .i64 0,.slice none 0 0] 74 (0,0)),(gc,.cells #[.int .i64 K,.int .i64 M,.int .i64 G] 43 (0,0))] from H.out.call hb);clear hb H;have H:=H_;clear H_)
  | ((with_reducible refine gate_dst (N:=35) rfl ?_);(try (refine gate_guard (by rfl) ?_;dsimp only));have hc0_:=H.out.cellv (v:=.int .i64 K) 1 rfl 0 rfl;have hc1_:=H.out.cellv (v:=.int .i64 M) 1 rfl 1 rfl;have hc2_:=H.out.cellv (v:=.int .i64 G) 1 rfl 2 rfl;refine load_at (.agg #[.int .i64 K,.int .i64 M,.int .i64 G]) ?hg ?hr ?_;(case hg=>rfl);(case hr=>first|(go_simp;done)|(go_simp;rfl));clear hc0_ hc1_ hc2_)
  | ((with_reducible refine gate_callee (f:=84) rfl ?_);(try (refine gate_guard (by rfl) ?_;dsimp only));refine goesL_ (some 36) rfl rfl Try.func84 (by kernel_rfl) rfl #[.agg #[.int .i64 K,.int .i64 M,.int .i64 G]] rfl (by (try simp only [List.map_toArray,List.map_cons,List.map_nil]);first|done|rfl) ?_;(with_reducible refine (newPlant_calls K M G _ hk1 hk2 hms hgk).mono ?_);rintro e wP ⟨gt,gp,vg,vl,rfl,hP,hb⟩;refine ⟨_,rfl,?_⟩;have hP0:=Aside0.mk hP;clear hP;have H_:=Aside0.mk (H.out.call hb);clear H;have H:=H_;clear H_ hb)
  | ((with_reducible refine gate_callee (f:=96) rfl ?_);(try (refine gate_guard (by rfl) ?_;dsimp only));refine goesL_ (some 39) rfl rfl Try.func96 (by kernel_rfl) rfl #[.pointer (some ⟨gp,0,none⟩),.slice A1 hv.length c1,.int .i64 lost] rfl (by (try simp only [List.map_toArray,List.map_cons,List.map_nil]);first|done|rfl) ?_;(with_reducible refine (plan_calls gt gp K M G vg vl _ hP0.out A1 c1 hv (Kd.C_below HD.out H.out.below) hN2 hN64 lost hl hk1 hk2 hms hgk).mono ?_);rintro e wQ ⟨v1,rfl,hR0,hb⟩;refine ⟨_,rfl,?_⟩;rw [hpv.out] at hR0 ⊢;obtain ⟨AT,cT,eT⟩:=Kd.R_slice hR0;dsimp only at hR0 eT ⊢;rw [List.length_map] at eT;subst eT;have HT:=Aside0.mk (Kd.R_reads' hR0).2.2;clear hR0;have H_:=Aside0.mk (H.out.call hb);clear H;have H:=H_;clear H_ hb;have HO:=Aside0.mk H.out;clear H;have hgs:=Aside0.mk (HO.out.lt 0 rfl);have hwQ:=Aside0.mk HO.out.size;have H:=Aside0.mk (Hs.nil wQ))
  | ((with_reducible refine gate_dst (N:=10) rfl ?_);(try (refine gate_guard (by rfl) ?_;dsimp only));refine box_event ?hg (N:=10) ?hd (cs:=#[.int .i64 0,.slice none 0 0]) (t:=74) ?hr ?_;(case hd=>rfl);(case hg=>rfl);(case hr=>first|(go_simp;done)|(go_simp;rfl));intro go hg w61 hbox hb;have H_:=Aside0.mk (Hs.push H.out (Nat.le_of_eq hg.symm) hbox hb);clear hbox hb hg H;have H:=H_;clear H_)
  | ((with_reducible refine gate_store (p:=10) rfl ?_);(try (refine gate_guard (by rfl) ?_;dsimp only));have hc0_:=H.out.cellv (v:=.int .i64 0) 0 rfl 0 rfl;have hf0_:=H.out.frozen 0 rfl 0;have hc1_:=H.out.cellv (v:=.slice none 0 0) 0 rfl 1 rfl;have hf1_:=H.out.frozen 0 rfl 1;refine store_at (fun W=>(World.setCell (World.setCell W ⟨go,0,none⟩ (.int .i64 0)) ⟨go,1,none⟩ (.slice none 0 0))) ?hg rfl ?hd ?hr ?_;(case hg=>rfl);(case hd=>rfl);(case hr=>first|(go_simp;done)|(go_simp;rfl));intro w62 hw;have H_:=Aside0.mk (show Hs wQ w62 [(go,.cells #[.int .i64 0,.slice none 0 0] 74 (0,0))] from by rw [hw];exact ((H.out.set 0 rfl 0 (.int .i64 0)).set 0 rfl 1 (.slice none 0 0)));clear hw hc0_ hf0_ hc1_ hf1_ H;have H:=H_;clear H_))
 go_loopw [12,49] (fun v12 v49 wr=>∃ (i : Nat) (Ao : Option Addr) (co : Nat) (Bo : List Blk),i ≤ T.length ∧ v12 = v12 ∧ v49 = .int .i64 i ∧ Aside0 (RowB 2 1 (.slice Ao i co) i (nums .i64 ((T.take i).map Int.ofNat)) Bo) ∧ Aside0 (Hs wQ wr ((go,.cells #[.int .i64 0,.slice Ao i co] 74 (0,0)) :: (Bo ++ [])))) (fun _ i _=>T.length - (intOf i).toNat)
 case atStart=>exact ⟨0,none,0,[],Nat.zero_le _,rfl,rfl,Aside0.mk (RowB.nil _ _),H⟩
 case round=>
  clear H
  obtain ⟨i,Ao,co,Bo,hi0,-,rfl,hB,H⟩:=hrel
  have i0 : 0 ≤ (i : Int):=by omega
  have hin:=Aside0.mk (show i ≤ 64 by omega)
  by_cases hlt : i < T.length
  ·have i1 : (i : Int) < (T.length : Int):=by omega
   obtain ⟨t,ht0⟩ : ∃ t,t = T[i]:=⟨_,rfl⟩
   have HS:=Aside0.mk (show nums .i64 ((T.take (i + 1)).map Int.ofNat) = nums .i64 ((T.take i).map Int.ofNat) ++ [.int .i64 (t : Int)] by rw [List.take_succ_eq_append_getElem hlt,ints_app,ht0])
   obtain ⟨a_,e_,hx0⟩:=Kd.at_int (Kd.C_below HT.out H.out.below) (i : Int) (by omega) (by rw [List.length_map];omega)
   have hrd : rd (T.map Int.ofNat) (i : Int) = (t : Int):=by
    unfold rd
    rw [Int.toNat_natCast,ht0,List.getD_eq_getElem?_getD,List.getElem?_map,List.getElem?_eq_getElem hlt];rfl
   rw [hrd,Int.toNat_natCast] at hx0
   cases e_
   clear hrd ht0
   go_wp2_with (first
    | ((with_reducible refine gate_dst (N:=54) rfl ?_);have hc_:=H.out.cellv (v:=.slice Ao i co) 0 rfl 1 rfl;refine load_at (.slice Ao i co) ?hg ?hr ?_;(case hg=>rfl);(case hr=>first|(go_simp;done)|(go_simp;rfl));clear hc_)
    | ((with_reducible refine gate_dst (N:=57) rfl ?_);refine append_ev rfl (.tmp 54) (.tmp 56) 22 2 (.int .i64 0) 1 8 rfl Try.underlying22 (by kernel_rfl) rfl (by decide) (by decide) _ i (nums .i64 ((T.take i).map Int.ofNat)) [.int .i64 (t : Int)] rfl rfl rfl (fun u_ hu_=>by rw [List.mem_singleton.1 hu_];rfl) hB.out (hs_cons H.out) (by have:=hin.out;omega) ?_;intro A1_ z1_ w2 B1 hB1 hH1;have hB2:=Aside0.mk hB1;have H_:=Aside0.mk (show Hs wQ w2 ((go,.cells #[.int .i64 0,.slice Ao i co] 74 (0,0)) :: (B1 ++ [])) from hH1.perm List.perm_middle);clear hB1 hH1 H;have H:=H_;clear H_)
    | ((with_reducible refine gate_store (p:=58) rfl ?_);have hc_:=H.out.cellv (v:=.slice Ao i co) 0 rfl 1 rfl;have hf_:=H.out.frozen 0 rfl 1;refine store_at (fun W=>World.setCell W ⟨go,1,none⟩ (.slice A1_ (i + 1) z1_)) ?hg rfl ?hd ?hr ?_;(case hg=>rfl);(case hd=>rfl);(case hr=>first|(go_simp;done)|(go_simp;rfl));intro w3 hw;have H_:=Aside0.mk (show Hs wQ w3 ((go,.cells #[.int .i64 0,.slice A1_ (i + 1) z1_] 74 (0,0)) :: (B1 ++ [])) from by rw [hw];exact H.out.set 0 rfl 1 (.slice A1_ (i + 1) z1_));clear hw hc_ hf_ H;have H:=H_;clear H_))
   go_roundw
   case rel=>exact ⟨i + 1,A1_,z1_,B1,by omega,trivial,by go_num,Aside0.mk (by rw [HS.out];exact hB2.out),H⟩
   case measure=>simp [intOf];omega
  ·have i1 : decide ((i : Int) < (T.length : Int)) = false:=decide_eq_false (by omega)
   obtain rfl : i = T.length:=by omega
   have HE:=Aside0.mk (HO.out.call H.out.below)
   have HR:=Aside0.mk (show Kd.R (Kd.int .i64) 2 wr wQ.heap.size (fun _=>True) (.slice Ao T.length co) (T.map Int.ofNat) from Kd.R_of_own (by have ho:=hB.out.owns (hs_cons H.out);rw [List.take_length] at ho;rw [List.length_map];exact ho) (fun _ _=>trivial))
   clear HO
   go_wp2_with (first
    | ((with_reducible refine gate_dst (N:=60) rfl ?_);have hc0_:=H.out.cellv (v:=.int .i64 0) 0 rfl 0 rfl;have hc1_:=H.out.cellv (v:=.slice Ao T.length co) 0 rfl 1 rfl;refine load_at (.agg #[.int .i64 0,.slice Ao T.length co]) ?hg ?hr ?_;(case hg=>rfl);(case hr=>first|(go_simp;done)|(go_simp;rfl));clear hc0_ hc1_)
    | ((with_reducible refine gate_store (p:=6) rfl ?_);have hc0_:=HE.out.cellv (v:=.int .i64 0) 0 rfl 0 rfl;have hf0_:=HE.out.frozen 0 rfl 0;have hc1_:=HE.out.cellv (v:=.slice none 0 0) 0 rfl 1 rfl;have hf1_:=HE.out.frozen 0 rfl 1;refine store_at (fun W=>World.setCell (World.setCell W ⟨gs,0,none⟩ (.int .i64 0)) ⟨gs,1,none⟩ (.slice Ao T.length co)) ?hg rfl ?hd ?hr ?_;(case hg=>rfl);(case hd=>rfl);(case hr=>first|(go_simp;done)|(go_simp;rfl));intro w9 hw;have HZ:=Aside0.mk (show Hs w w9 [(gs,.cells #[.int .i64 0,.slice Ao T.length co] 74 (0,0)),(gc,.cells #[.int .i64 K,.int .i64 M,.int .i64 G] 43 (0,0))] from by rw [hw];exact (HE.out.set 0 rfl 0 (.int .i64 0)).set 0 rfl 1 (.slice Ao T.length co));have HR9:=Aside0.mk (show Kd.R (Kd.int .i64) 2 w9 wQ.heap.size (fun _=>True) (.slice Ao T.length co) (T.map Int.ofNat) from by rw [hw];exact Kd.R_mono (Kd.R_far (p:=⟨gs,1,none⟩) (Kd.R_far (p:=⟨gs,0,none⟩) (Kd.R_bound HR.out) (fun k_ hk_ e_=>by have h1_:=hk_.2.1;have h2_ : k_ = gs:=e_;have h3_:=hgs.out;omega) _) (fun k_ hk_ e_=>by have h1_:=hk_.2.1;have h2_ : k_ = gs:=e_;have h3_:=hgs.out;omega) _) (fun _ _=>trivial));clear hw hc0_ hc1_ hf0_ hf1_))
   exact bodyPost_ret (results_cell_row rfl _ _ gs 74 #[.int .i64 0,.slice Ao T.length co] (0,0) _ rfl (HZ.out.get 0 rfl) Try.underlying74 rfl (by kernel_rfl)) rfl ⟨_,rfl,Kd.R_lower HR9.out hwQ.out,HZ.out.below⟩

def impl_RepairPlan.f (a0_0 a0_1 a0_2 : Int) (l1 : List Bool) (a2 : Int) : Option (Int × List Int):=if impl_CodeFault.f a0_0 a0_1 a0_2 = some 0 ∧ a0_0.toNat + a0_1.toNat + a0_2.toNat = l1.length ∧ 0 ≤ a2 ∧ a2 < (l1.length : Int) ∧ (planV a0_0.toNat a0_1.toNat a0_2.toNat l1 a2.toNat).1.length ≤ 64 then (if (planV a0_0.toNat a0_1.toNat a0_2.toNat l1 a2.toNat).2.2 = true then some (0,(planV a0_0.toNat a0_1.toNat a0_2.toNat l1 a2.toNat).1.map Int.ofNat) else some (8,[])) else none
theorem impl_RepairPlan.calls (a0_0 : Int) (a0_1 : Int) (a0_2 : Int) (A1 : Option Addr) (c1 : Nat) (l1 : List Bool) (a2 : Int) (r1 : Int) (r2 : List Int) (w : World) (hr1 : Kd.C Kd.bool w A1 l1.length l1) (hc1 : l1.length ≤ c1) (h : impl_RepairPlan.f a0_0 a0_1 a0_2 l1 a2 = some (r1,r2)) :
  Calls Try.prog 39 #[.agg #[.int .i64 a0_0,.int .i64 a0_1,.int .i64 a0_2],.slice A1 l1.length c1,.int .i64 a2] w fun e w'=>∃ v1_ : Value,e = .returned (.agg #[.int .i64 r1,v1_]) ∧ Kd.R (Kd.int .i64) 2 w' w.heap.size (fun _=>True) v1_ r2 ∧ Below w.heap.size w w':=by
 unfold impl_RepairPlan.f at h
 split at h
 ·rename_i hc
  obtain ⟨g1,g2,g3,g4,g5⟩:=hc
  obtain ⟨f1,f2,f3,f4,f5,f6,f7⟩:=fault_okR g1
  obtain ⟨K,rfl⟩:=Int.eq_ofNat_of_zero_le (show 0 ≤ a0_0 by omega)
  obtain ⟨M,rfl⟩:=Int.eq_ofNat_of_zero_le f3
  obtain ⟨G,rfl⟩:=Int.eq_ofNat_of_zero_le f5
  obtain ⟨lost,rfl⟩:=Int.eq_ofNat_of_zero_le g3
  simp only [Int.toNat_natCast] at h g2 g5
  obtain ⟨⟨T,near,ok⟩,hp⟩ : ∃ p,planV K M G l1 lost = p:=⟨_,rfl⟩
  rw [hp] at h g5
  dsimp only at h g5
  cases ok with
  | true=>
   simp only [if_true,Option.some.injEq,Prod.mk.injEq] at h
   obtain ⟨rfl,rfl⟩:=h
   exact rplan_good K M G A1 c1 l1 lost w hr1 g1 g2 (by omega) (by omega) (by omega) (by omega) (by omega) (by omega) T near g5 hp
  | false=>
   simp only [Bool.false_eq_true,if_false,Option.some.injEq,Prod.mk.injEq] at h
   obtain ⟨rfl,rfl⟩:=h
   exact rplan_lost K M G A1 c1 l1 lost w hr1 g1 g2 (by omega) (by omega) (by omega) (by omega) (by omega) (by omega) T near hp
 ·cases h

end Go.Proofs.Ytffhbpepppodeaa.PFnRepaired
