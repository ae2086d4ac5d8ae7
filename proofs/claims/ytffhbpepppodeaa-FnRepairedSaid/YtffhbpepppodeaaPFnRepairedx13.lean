import Derived.Test.YtffhbpepppodeaaPFnRepairedx0
import Derived.Test.YtffhbpepppodeaaPFnRepairedx1
import Derived.Test.YtffhbpepppodeaaPFnRepairedx6
import Derived.Test.YtffhbpepppodeaaPFnRepairedx12
import Derived.Test.YtffhbpepppodeaaPlant3FnRepaired
import Derived.Test.YtffhbpepppodeaaPlant5FnRepaired
import Derived.Test.YtffhbpepppodeaaPlant6FnRepaired
import Derived.Test.YtffhbpepppodeaaRepair2FnRepaired
namespace Go.Proofs.Ytffhbpepppodeaa.PFnRepaired
open Go.RowKit Go.Proofs.YtffhbpepppodeaaW.PrintWords Go.Proofs.YtffhbpepppodeaaW.PrintLast Go.Proofs.YtffhbpepppodeaaW.PrintMore
open Go.Proofs.Ytffhbpepppodeaa.Hs Go.Proofs.Ytffhbpepppodeaa.Gf Go.Proofs.Ytffhbpepppodeaa.Grid Go.Proofs.Ytffhbpepppodeaa.Reduce Go.Proofs.Ytffhbpepppodeaa.Plant Go.Proofs.Ytffhbpepppodeaa.Plant2 Go.Proofs.Ytffhbpepppodeaa.Plant3 Go.Proofs.Ytffhbpepppodeaa.Plant4 Go.Proofs.Ytffhbpepppodeaa.Plant5 Go.Proofs.Ytffhbpepppodeaa.Plant6 Go.Proofs.Ytffhbpepppodeaa.Repair Go.Proofs.Ytffhbpepppodeaa.Repair2

theorem fault_okS {a0_0 a0_1 a0_2 : Int} (h : impl_CodeFault.f a0_0 a0_1 a0_2 = some 0) : 1 ≤ a0_0 ∧ a0_0 ≤ 32 ∧ 0 ≤ a0_1 ∧ a0_1 ≤ 16 ∧ 0 ≤ a0_2 ∧ a0_2 ≤ a0_0 ∧ a0_0 + a0_1 + a0_2 ≤ 64:=by
 unfold impl_CodeFault.f at h
 by_cases c1 : a0_0 < 1
 ·rw [if_pos c1] at h;cases h
 rw [if_neg c1] at h
 by_cases c2 : a0_0 > 32
 ·rw [if_pos c2] at h;cases h
 rw [if_neg c2] at h
 by_cases c3 : a0_1 < 0
 ·rw [if_pos c3] at h;cases h
 rw [if_neg c3] at h
 by_cases c4 : a0_1 > 16
 ·rw [if_pos c4] at h;cases h
 rw [if_neg c4] at h
 by_cases c5 : a0_2 < 0
 ·rw [if_pos c5] at h;cases h
 rw [if_neg c5] at h
 by_cases c6 : a0_2 > a0_0
 ·rw [if_pos c6] at h;cases h
 rw [if_neg c6] at h
 by_cases c7 : (wrap64 ((wrap64 (a0_0 + a0_1)) + a0_2)) > 64
 ·rw [if_pos c7] at h;cases h
 ·have e1 : wrap64 (a0_0 + a0_1) = a0_0 + a0_1:=by unfold wrap64;omega
  rw [e1] at c7
  have e2 : wrap64 (a0_0 + a0_1 + a0_2) = a0_0 + a0_1 + a0_2:=by unfold wrap64;omega
  rw [e2] at c7
  omega

theorem size_okS {K M G N : Nat} (h : impl_CodeFault.f K M G = some 0) (h2 : K + M + G = N) (h3 : N ≤ 64) : impl_CodeSize.f K M G = some (N : Int):=by
 unfold impl_CodeSize.f
 rw [h,Option.bind_some,if_pos rfl]
 congr 1
 have e1 : wrap64 ((K : Int) + (M : Int)) = (K : Int) + (M : Int):=by unfold wrap64;omega
 rw [e1]
 unfold wrap64;omega

theorem taken_succ {T : List Nat} {tx : List ByteArray} {i : Nat} (h : i < T.length) : takenV (T.take (i + 1)) tx = takenV (T.take i) tx ++ [rdOf ByteArray.empty tx ((T[i] : Nat) : Int)]:=by
 unfold takenV
 rw [List.take_succ_eq_append_getElem h,List.map_append];rfl
theorem taken_at {T : List Nat} {tx : List ByteArray} {j : Nat} (h : j < T.length) : rdOf ByteArray.empty (takenV T tx) (j : Int) = rdOf ByteArray.empty tx ((T.getD j 0 : Nat) : Int):=by
 have e : rdOf ByteArray.empty (takenV T tx) (j : Int) = (takenV T tx).getD j ByteArray.empty:=rfl
 rw [e]
 unfold takenV
 simp [List.getD_eq_getElem?_getD,h]
theorem ones_rd {m j : Nat} (h : j < m) : rd (List.replicate m (1 : Int)) (j : Int) = 1:=by
 unfold rd
 rw [Int.toNat_natCast];simp [List.getD_eq_getElem?_getD,h]
theorem RowB.lit1 {e g : Nat} {v : Value} : RowB e 1 (.slice (some ⟨g,0,none⟩) 1 1) 1 [v] [(g,.cells #[v] e (0,0))]:=
 ⟨by simp,.inr ⟨g,1,#[v],rfl,rfl,Nat.le_refl _,by unfold maxLen;omega,by simp,by simp⟩⟩
def fitT (T : List Nat) (tx : List ByteArray) (n : Nat) : Prop:=(∀ r,r < T.length → T.getD r 0 < tx.length) ∧ (∀ r,r < T.length → (rdOf ByteArray.empty tx (T.getD r 0 : Nat)).size = n) ∧ n ≤ 4096
instance (T : List Nat) (tx : List ByteArray) (n : Nat) : Decidable (fitT T tx n):=by unfold fitT;infer_instance
def farV (K M G n lost : Nat) (T : List Nat) (tx : List ByteArray) : ByteArray:=strOfNums ((List.range n).map (mixN (rowV K M G lost) (dataV K M G n T tx) K))
def nearV (n : Nat) (T : List Nat) (tx : List ByteArray) : ByteArray:=strOfNums ((List.range n).map (mixN (List.replicate T.length 1) (takenV T tx) T.length))

set_option maxHeartbeats 8000000 in
set_option maxRecDepth 100000 in
theorem rshard_lost (k K M G : Nat) (A1 : Option Addr) (c1 : Nat) (l1 : List (S61)) (lost : Nat) (w : World) (hc0 : Kd.C k61 w A1 l1.length l1) (hcc0 : l1.length ≤ c1) (hv : List Bool) (tx hl : List ByteArray) (hh0 : impl_heldOf.f k l1 = some (hv,tx,hl)) (hb0 : impl_oneLength.f k hl = some true) (hf : impl_CodeFault.f K M G = some 0) (hN2 : K + M + G = hv.length) (hNl : l1.length = hv.length) (hNt : tx.length = hv.length) (hN64 : hv.length ≤ 64) (hl0 : lost < hv.length) (hk1 : 1 ≤ K) (hk2 : K ≤ 32) (hms : M ≤ 16) (hgk : G ≤ K) (T : List Nat) (near : Bool) (hp : planV K M G hv lost = (T,near,false)) : Calls Try.prog 41 #[.agg #[.int .i64 K,.int .i64 M,.int .i64 G],.slice A1 l1.length c1,.int .i64 lost] w fun e w'=>∃ v1_ : Value,e = .returned (.agg #[.int .i64 8,v1_]) ∧ Kd.R Kd.string 9 w' w.heap.size (fun _=>True) v1_ [] ∧ Below w.heap.size w w':=by
 have hu1:=Try.underlying43
 have hu2:=Try.underlying68
 have hs:=Aside0.mk (size_okS hf (hN2.trans hNl.symm) (by omega))
 have ht:=Aside0.mk hf
 have hc:=Aside0.mk hc0
 have hcc:=Aside0.mk hcc0
 have hh:=Aside0.mk hh0
 have hb:=Aside0.mk hb0
 have hpv:=Aside0.mk hp
 have H:=Aside0.mk (Hs.nil w)
 have l0 : decide ((lost : Int) < 0) = false:=decide_eq_false (by omega)
 have l1_ : decide ((l1.length : Int) ≤ (lost : Int)) = false:=decide_eq_false (by omega)
 have ht64 : tx.length ≤ 64:=by omega
 have h2_:=Aside0.mk hN2
 have h3_:=Aside0.mk hNl
 have h4_:=Aside0.mk hNt
 have l2_ : decide (l1.length ≤ lost) = false:=decide_eq_false (by omega)
 have l3_ : lost < l1.length:=by omega
 clear hc0 hcc0 hh0 hb0 hf hp hN2 hNl hNt
 go_enter Try.func41,Try.ntmps41
 go_wp2_with (first
  | ((with_reducible refine gate_dst (N:=3) rfl ?_);(try (refine gate_guard (by rfl) ?_;dsimp only));refine box_event ?hg (N:=3) ?hd (cs:=#[.int .i64 K,.int .i64 M,.int .i64 G]) (t:=43) ?hr ?_;(case hd=>rfl);(case hg=>rfl);(case hr=>first|(go_simp;done)|(go_simp;rfl));intro gc hg w1 hbox hb;have H_:=Aside0.mk (Hs.push H.out (Nat.le_of_eq hg.symm) hbox hb);clear hbox hb hg H;have H:=H_;clear H_)
  | ((with_reducible refine gate_dst (N:=6) rfl ?_);(try (refine gate_guard (by rfl) ?_;dsimp only));refine box_event ?hg (N:=6) ?hd (cs:=#[.int .i64 0,.slice none 0 0]) (t:=68) ?hr ?_;(case hd=>rfl);(case hg=>rfl);(case hr=>first|(go_simp;done)|(go_simp;rfl));intro gs hg w2 hbox hb;have H_:=Aside0.mk (Hs.push H.out (Nat.le_of_eq hg.symm) hbox hb);clear hbox hb hg H;have H:=H_;clear H_)
  | ((with_reducible refine gate_dst (N:=18) rfl ?_);(try (refine gate_guard (by rfl) ?_;dsimp only));have hc0_:=H.out.cellv (v:=.int .i64 K) 1 rfl 0 rfl;have hc1_:=H.out.cellv (v:=.int .i64 M) 1 rfl 1 rfl;have hc2_:=H.out.cellv (v:=.int .i64 G) 1 rfl 2 rfl;refine load_at (.agg #[.int .i64 K,.int .i64 M,.int .i64 G]) ?hg ?hr ?_;(case hg=>rfl);(case hr=>first|(go_simp;done)|(go_simp;rfl));clear hc0_ hc1_ hc2_)
  | ((with_reducible refine gate_callee (f:=87) rfl ?_);(try (refine gate_guard (by rfl) ?_;dsimp only));refine goesL_ (some 19) rfl rfl Try.func87 (by kernel_rfl) rfl #[.agg #[.int .i64 K,.int .i64 M,.int .i64 G]] rfl (by (try simp only [List.map_toArray,List.map_cons,List.map_nil]);first|done|rfl) ?_;(with_reducible refine (impl_CodeFault.calls K M G 0 _ ht.out).mono ?_);rintro e w3 ⟨rfl,hb⟩;refine ⟨_,rfl,?_⟩;have H_:=Aside0.mk (show Hs w w3 [(gs,.cells #[.int .i64 0,.slice none 0 0] 68 (0,0)),(gc,.cells #[.int .i64 K,.int .i64 M,.int .i64 G] 43 (0,0))] from H.out.call hb);clear hb H;have H:=H_;clear H_)
  | ((with_reducible refine gate_dst (N:=24) rfl ?_);(try (refine gate_guard (by rfl) ?_;dsimp only));have hc0_:=H.out.cellv (v:=.int .i64 K) 1 rfl 0 rfl;have hc1_:=H.out.cellv (v:=.int .i64 M) 1 rfl 1 rfl;have hc2_:=H.out.cellv (v:=.int .i64 G) 1 rfl 2 rfl;refine load_at (.agg #[.int .i64 K,.int .i64 M,.int .i64 G]) ?hg ?hr ?_;(case hg=>rfl);(case hr=>first|(go_simp;done)|(go_simp;rfl));clear hc0_ hc1_ hc2_)
  | ((with_reducible refine gate_callee (f:=92) rfl ?_);(try (refine gate_guard (by rfl) ?_;dsimp only));refine goesL_ (some 25) rfl rfl Try.func92 (by kernel_rfl) rfl #[.agg #[.int .i64 K,.int .i64 M,.int .i64 G]] rfl (by (try simp only [List.map_toArray,List.map_cons,List.map_nil]);first|done|rfl) ?_;(with_reducible refine (impl_CodeSize.calls K M G l1.length _ hs.out).mono ?_);rintro e w4 ⟨rfl,hb⟩;refine ⟨_,rfl,?_⟩;have H_:=Aside0.mk (show Hs w w4 [(gs,.cells #[.int .i64 0,.slice none 0 0] 68 (0,0)),(gc,.cells #[.int .i64 K,.int .i64 M,.int .i64 G] 43 (0,0))] from H.out.call hb);clear hb H;have H:=H_;clear H_)
  | ((with_reducible refine gate_dst (N:=33) rfl ?_);(try (refine gate_guard (by rfl) ?_;dsimp only));have hc0_:=H.out.cellv (v:=.int .i64 K) 1 rfl 0 rfl;have hc1_:=H.out.cellv (v:=.int .i64 M) 1 rfl 1 rfl;have hc2_:=H.out.cellv (v:=.int .i64 G) 1 rfl 2 rfl;refine load_at (.agg #[.int .i64 K,.int .i64 M,.int .i64 G]) ?hg ?hr ?_;(case hg=>rfl);(case hr=>first|(go_simp;done)|(go_simp;rfl));clear hc0_ hc1_ hc2_)
  | ((with_reducible refine gate_callee (f:=92) rfl ?_);(try (refine gate_guard (by rfl) ?_;dsimp only));refine goesL_ (some 34) rfl rfl Try.func92 (by kernel_rfl) rfl #[.agg #[.int .i64 K,.int .i64 M,.int .i64 G]] rfl (by (try simp only [List.map_toArray,List.map_cons,List.map_nil]);first|done|rfl) ?_;(with_reducible refine (impl_CodeSize.calls K M G l1.length _ hs.out).mono ?_);rintro e w5 ⟨rfl,hb⟩;refine ⟨_,rfl,?_⟩;have H_:=Aside0.mk (show Hs w w5 [(gs,.cells #[.int .i64 0,.slice none 0 0] 68 (0,0)),(gc,.cells #[.int .i64 K,.int .i64 M,.int .i64 G] 43 (0,0))] from H.out.call hb);clear hb H;have H:=H_;clear H_)
  | ((with_reducible refine gate_callee (f:=93) rfl ?_);(try (refine gate_guard (by rfl) ?_;dsimp only));refine goesL_ (some 40) rfl rfl Try.func93 (by kernel_rfl) rfl #[.slice A1 l1.length c1] rfl (by (try simp only [List.map_toArray,List.map_cons,List.map_nil]);first|done|rfl) ?_;(with_reducible refine (impl_heldOf.calls k A1 c1 l1 hv tx hl _ (Kd.C_below hc.out H.out.below) hcc.out hh.out).mono ?_);rintro e wH ⟨v0,v1,v2,rfl,hR0,hR1,hR2,hb_⟩;refine ⟨_,rfl,?_⟩;obtain ⟨Av,cv,rfl⟩:=Kd.R_slice hR0;obtain ⟨Ax,cx,rfl⟩:=Kd.R_slice hR1;obtain ⟨Ah,ch,rfl⟩:=Kd.R_slice hR2;have HV:=Aside0.mk (Kd.R_reads' hR0).2.2;have HX:=Aside0.mk (Kd.R_reads' hR1).2.2;have HL:=Aside0.mk (Kd.R_reads' hR2).2.2;have hcL:=Aside0.mk (Kd.R_reads' hR2).2.1;clear hR0 hR1 hR2;have H_:=Aside0.mk (H.out.call hb_);clear H;have H:=H_;clear H_ hb_)
  | ((with_reducible refine gate_callee (f:=88) rfl ?_);(try (refine gate_guard (by rfl) ?_;dsimp only));refine goesL_ (some 45) rfl rfl Try.func88 (by kernel_rfl) rfl #[.slice Ah hl.length ch] rfl (by (try simp only [List.map_toArray,List.map_cons,List.map_nil]);first|done|rfl) ?_;(with_reducible refine (impl_oneLength.calls k Ah ch hl true _ HL.out hcL.out hb.out).mono ?_);rintro e wO ⟨rfl,hd⟩;refine ⟨_,rfl,?_⟩;have HV_:=Aside0.mk (Kd.C_below HV.out hd.below);have HX_:=Aside0.mk (Kd.C_below HX.out hd.below);clear HV HX;have HV:=HV_;have HX:=HX_;clear HV_ HX_ HL;have H_:=Aside0.mk (H.out.draw hd);clear H;have H:=H_;clear H_ hd)
  | ((with_reducible refine gate_dst (N:=48) rfl ?_);(try (refine gate_guard (by rfl) ?_;dsimp only));have hc0_:=H.out.cellv (v:=.int .i64 K) 1 rfl 0 rfl;have hc1_:=H.out.cellv (v:=.int .i64 M) 1 rfl 1 rfl;have hc2_:=H.out.cellv (v:=.int .i64 G) 1 rfl 2 rfl;refine load_at (.agg #[.int .i64 K,.int .i64 M,.int .i64 G]) ?hg ?hr ?_;(case hg=>rfl);(case hr=>first|(go_simp;done)|(go_simp;rfl));clear hc0_ hc1_ hc2_)
  | ((with_reducible refine gate_callee (f:=84) rfl ?_);(try (refine gate_guard (by rfl) ?_;dsimp only));refine goesL_ (some 49) rfl rfl Try.func84 (by kernel_rfl) rfl #[.agg #[.int .i64 K,.int .i64 M,.int .i64 G]] rfl (by (try simp only [List.map_toArray,List.map_cons,List.map_nil]);first|done|rfl) ?_;(with_reducible refine (newPlant_calls K M G _ hk1 hk2 hms hgk).mono ?_);rintro e wP ⟨gt,gp,vg,vl,rfl,hP,hb_⟩;refine ⟨_,rfl,?_⟩;have hP0:=Aside0.mk hP;clear hP;have HV_:=Aside0.mk (Kd.C_below HV.out hb_);have HX_:=Aside0.mk (Kd.C_below HX.out hb_);clear HV HX;have HV:=HV_;have HX:=HX_;clear HV_ HX_;have H_:=Aside0.mk (H.out.call hb_);clear H;have H:=H_;clear H_ hb_)
  | ((with_reducible refine gate_callee (f:=96) rfl ?_);(try (refine gate_guard (by rfl) ?_;dsimp only));refine goesL_ (some 54) rfl rfl Try.func96 (by kernel_rfl) rfl #[.pointer (some ⟨gp,0,none⟩),.slice Av hv.length cv,.int .i64 lost] rfl (by (try simp only [List.map_toArray,List.map_cons,List.map_nil]);first|done|rfl) ?_;(with_reducible refine (plan_calls gt gp K M G vg vl _ hP0.out Av cv hv HV.out h2_.out hN64 lost hl0 hk1 hk2 hms hgk).mono ?_);rintro e wQ ⟨v1,rfl,hR0,hb_⟩;refine ⟨_,rfl,?_⟩;rw [hpv.out] at hR0 ⊢;obtain ⟨AT,cT,eT⟩:=Kd.R_slice hR0;dsimp only at hR0 eT ⊢;rw [List.length_map] at eT;subst eT;have HT:=Aside0.mk (Kd.R_reads' hR0).2.2;rw [List.length_map] at HT;clear hR0;have HV_:=Aside0.mk (Kd.C_below HV.out hb_);have HX_:=Aside0.mk (Kd.C_below HX.out hb_);clear HV HX;have HV:=HV_;have HX:=HX_;clear HV_ HX_;have H_:=Aside0.mk (H.out.call hb_);clear H;have H:=H_;clear H_;have hP1:=Aside0.mk (hP0.out.below hb_);clear hP0;have hP0:=hP1;clear hP1 hb_)
  | ((with_reducible refine gate_store (p:=6) rfl ?_);(try (refine gate_guard (by rfl) ?_;dsimp only));have hc0_:=H.out.cellv (v:=.int .i64 0) 0 rfl 0 rfl;have hf0_:=H.out.frozen 0 rfl 0;have hc1_:=H.out.cellv (v:=.slice none 0 0) 0 rfl 1 rfl;have hf1_:=H.out.frozen 0 rfl 1;refine store_at (fun W=>(World.setCell (World.setCell W ⟨gs,0,none⟩ (.int .i64 8)) ⟨gs,1,none⟩ (.slice none 0 0))) ?hg rfl ?hd ?hr ?_;(case hg=>rfl);(case hd=>rfl);(case hr=>first|(go_simp;done)|(go_simp;rfl));intro w61 hw;have H_:=Aside0.mk (show Hs w w61 [(gs,.cells #[.int .i64 8,.slice none 0 0] 68 (0,0)),(gc,.cells #[.int .i64 K,.int .i64 M,.int .i64 G] 43 (0,0))] from by rw [hw];exact ((H.out.set 0 rfl 0 (.int .i64 8)).set 0 rfl 1 (.slice none 0 0)));clear hw hc0_ hf0_ hc1_ hf1_ H;have H:=H_;clear H_))
 exact bodyPost_ret (results_cell_row rfl _ _ gs 68 #[.int .i64 8,.slice none 0 0] (0,0) _ rfl (H.out.get 0 rfl) Try.underlying68 rfl (by kernel_rfl)) rfl ⟨_,rfl,Kd.R_nil _ _ _ _ _,H.out.below⟩

set_option maxHeartbeats 8000000 in
set_option maxRecDepth 100000 in
theorem rshard_far (k K M G : Nat) (A1 : Option Addr) (c1 : Nat) (l1 : List (S61)) (lost : Nat) (w : World) (hc0 : Kd.C k61 w A1 l1.length l1) (hcc0 : l1.length ≤ c1) (hv : List Bool) (tx hl : List ByteArray) (hh0 : impl_heldOf.f k l1 = some (hv,tx,hl)) (hb0 : impl_oneLength.f k hl = some true) (hf : impl_CodeFault.f K M G = some 0) (hN2 : K + M + G = hv.length) (hNl : l1.length = hv.length) (hNt : tx.length = hv.length) (hN64 : hv.length ≤ 64) (hl0 : lost < hv.length) (hk1 : 1 ≤ K) (hk2 : K ≤ 32) (hms : M ≤ 16) (hgk : G ≤ K) (T : List Nat) (n : Nat) (hTl0 : T.length = K) (hfit : fitT T tx n) (hp : planV K M G hv lost = (T,false,true)) : Calls Try.prog 41 #[.agg #[.int .i64 K,.int .i64 M,.int .i64 G],.slice A1 l1.length c1,.int .i64 lost] w fun e w'=>∃ v1_ : Value,e = .returned (.agg #[.int .i64 0,v1_]) ∧ Kd.R Kd.string 9 w' w.heap.size (fun _=>True) v1_ [farV K M G n lost T tx] ∧ Below w.heap.size w w':=by
 have hTl:=Aside0.mk hTl0
 have hTN:=Aside0.mk (fun r (h : r < K)=>hfit.1 r (hTl0 ▸ h))
 have hns:=Aside0.mk (fun r (h : r < K)=>hfit.2.1 r (hTl0 ▸ h))
 have hn4:=Aside0.mk hfit.2.2
 have hdl:=Aside0.mk (show (dataV K M G n T tx).length = K by simp [dataV])
 have hds:=Aside0.mk (show ∀ j : Nat,j < (dataV K M G n T tx).length → (rdOf ByteArray.empty (dataV K M G n T tx) (j : Int)).size = n from fun j hj=>by
  have hj2 : j < K:=by simpa [dataV] using hj
  have e : rdOf ByteArray.empty (dataV K M G n T tx) (j : Int) = datumV K M G n T tx j:=by
   unfold rdOf dataV
   rw [Int.toNat_natCast,List.getD_eq_getElem?_getD,List.getElem?_map,List.getElem?_range hj2];rfl
  rw [e]
  unfold datumV
  rw [strOfNums_size];simp)
 have hu1:=Try.underlying43
 have hu2:=Try.underlying68
 have hs:=Aside0.mk (size_okS hf (hN2.trans hNl.symm) (by omega))
 have ht:=Aside0.mk hf
 have hc:=Aside0.mk hc0
 have hcc:=Aside0.mk hcc0
 have hh:=Aside0.mk hh0
 have hb:=Aside0.mk hb0
 have hpv:=Aside0.mk hp
 have H:=Aside0.mk (Hs.nil w)
 have l0 : decide ((lost : Int) < 0) = false:=decide_eq_false (by omega)
 have l1_ : decide ((l1.length : Int) ≤ (lost : Int)) = false:=decide_eq_false (by omega)
 have ht64 : tx.length ≤ 64:=by omega
 have h2_:=Aside0.mk hN2
 have h3_:=Aside0.mk hNl
 have h4_:=Aside0.mk hNt
 have l2_ : decide (l1.length ≤ lost) = false:=decide_eq_false (by omega)
 have l3_ : lost < l1.length:=by omega
 clear hc0 hcc0 hh0 hb0 hf hp hN2 hNl hNt hTl0 hfit
 go_enter Try.func41,Try.ntmps41
 go_wp2_with (first
  | ((with_reducible refine gate_dst (N:=3) rfl ?_);(try (refine gate_guard (by rfl) ?_;dsimp only));refine box_event ?hg (N:=3) ?hd (cs:=#[.int .i64 K,.int .i64 M,.int .i64 G]) (t:=43) ?hr ?_;(case hd=>rfl);(case hg=>rfl);(case hr=>first|(go_simp;done)|(go_simp;rfl));intro gc hg w1 hbox hb;have H_:=Aside0.mk (Hs.push H.out (Nat.le_of_eq hg.symm) hbox hb);clear hbox hb hg H;have H:=H_;clear H_)
  | ((with_reducible refine gate_dst (N:=6) rfl ?_);(try (refine gate_guard (by rfl) ?_;dsimp only));refine box_event ?hg (N:=6) ?hd (cs:=#[.int .i64 0,.slice none 0 0]) (t:=68) ?hr ?_;(case hd=>rfl);(case hg=>rfl);(case hr=>first|(go_simp;done)|(go_simp;rfl));intro gs hg w2 hbox hb;have H_:=Aside0.mk (Hs.push H.out (Nat.le_of_eq hg.symm) hbox hb);clear hbox hb hg H;have H:=H_;clear H_)
  | ((with_reducible refine gate_dst (N:=18) rfl ?_);(try (refine gate_guard (by rfl) ?_;dsimp only));have hc0_:=H.out.cellv (v:=.int .i64 K) 1 rfl 0 rfl;have hc1_:=H.out.cellv (v:=.int .i64 M) 1 rfl 1 rfl;have hc2_:=H.out.cellv (v:=.int .i64 G) 1 rfl 2 rfl;refine load_at (.agg #[.int .i64 K,.int .i64 M,.int .i64 G]) ?hg ?hr ?_;(case hg=>rfl);(case hr=>first|(go_simp;done)|(go_simp;rfl));clear hc0_ hc1_ hc2_)
  | ((with_reducible refine gate_callee (f:=87) rfl ?_);(try (refine gate_guard (by rfl) ?_;dsimp only));refine goesL_ (some 19) rfl rfl Try.func87 (by kernel_rfl) rfl #[.agg #[.int .i64 K,.int .i64 M,.int .i64 G]] rfl (by (try simp only [List.map_toArray,List.map_cons,List.map_nil]);first|done|rfl) ?_;(with_reducible refine (impl_CodeFault.calls K M G 0 _ ht.out).mono ?_);rintro e w3 ⟨rfl,hb⟩;refine ⟨_,rfl,?_⟩;have H_:=Aside0.mk (show Hs w w3 [(gs,.cells #[.int .i64 0,.slice none 0 0] 68 (0,0)),(gc,.cells #[.int .i64 K,.int .i64 M,.int .i64 G] 43 (0,0))] from H.out.call hb);clear hb H;have H:=H_;clear H_)
  | ((with_reducible refine gate_dst (N:=24) rfl ?_);(try (refine gate_guard (by rfl) ?_;dsimp only));have hc0_:=H.out.cellv (v:=.int .i64 K) 1 rfl 0 rfl;have hc1_:=H.out.cellv (v:=.int .i64 M) 1 rfl 1 rfl;have hc2_:=H.out.cellv (v:=.int .i64 G) 1 rfl 2 rfl;refine load_at (.agg #[.int .i64 K,.int .i64 M,.int .i64 G]) ?hg ?hr ?_;(case hg=>rfl);(case hr=>first|(go_simp;done)|(go_simp;rfl));clear hc0_ hc1_ hc2_)
  | ((with_reducible refine gate_callee (f:=92) rfl ?_);(try (refine gate_guard (by rfl) ?_;dsimp only));refine goesL_ (some 25) rfl rfl Try.func92 (by kernel_rfl) rfl #[.agg #[.int .i64 K,.int .i64 M,.int .i64 G]] rfl (by (try simp only [List.map_toArray,List.map_cons,List.map_nil]);first|done|rfl) ?_;(with_reducible refine (impl_CodeSize.calls K M G l1.length _ hs.out).mono ?_);rintro e w4 ⟨rfl,hb⟩;refine ⟨_,rfl,?_⟩;have H_:=Aside0.mk (show Hs w w4 [(gs,.cells #[.int .i64 0,.slice none 0 0] 68 (0,0)),(gc,.cells #[.int .i64 K,.int .i64 M,.int .i64 G] 43 (0,0))] from H.out.call hb);clear hb H;have H:=H_;clear H_)
  | ((with_reducible refine gate_dst (N:=33) rfl ?_);(try (refine gate_guard (by rfl) ?_;dsimp only));have hc0_:=H.out.cellv (v:=.int .i64 K) 1 rfl 0 rfl;have hc1_:=H.out.cellv (v:=.int .i64 M) 1 rfl 1 rfl;have hc2_:=H.out.cellv (v:=.int .i64 G) 1 rfl 2 rfl;refine load_at (.agg #[.int .i64 K,.int .i64 M,.int .i64 G]) ?hg ?hr ?_;(case hg=>rfl);(case hr=>first|(go_simp;done)|(go_simp;rfl));clear hc0_ hc1_ hc2_)
  | ((with_reducible refine gate_callee (f:=92) rfl ?_);(try (refine gate_guard (by rfl) ?_;dsimp only));refine goesL_ (some 34) rfl rfl Try.func92 (by kernel_rfl) rfl #[.agg #[.int .i64 K,.int .i64 M,.int .i64 G]] rfl (by (try simp only [List.map_toArray,List.map_cons,List.map_nil]);first|done|rfl) ?_;(with_reducible refine (impl_CodeSize.calls K M G l1.length _ hs.out).mono ?_);rintro e w5 ⟨rfl,hb⟩;refine ⟨_,rfl,?_⟩;have H_:=Aside0.mk (show Hs w w5 [(gs,.cells #[.int .i64 0,.slice none 0 0] 68 (0,0)),(gc,.cells #[.int .i64 K,.int .i64 M,.int .i64 G] 43 (0,0))] from H.out.call hb);clear hb H;have H:=H_;clear H_)
  | ((with_reducible refine gate_callee (f:=93) rfl ?_);(try (refine gate_guard (by rfl) ?_;dsimp only));refine goesL_ (some 40) rfl rfl Try.func93 (by kernel_rfl) rfl #[.slice A1 l1.length c1] rfl (by (try simp only [List.map_toArray,List.map_cons,List.map_nil]);first|done|rfl) ?_;(with_reducible refine (impl_heldOf.calls k A1 c1 l1 hv tx hl _ (Kd.C_below hc.out H.out.below) hcc.out hh.out).mono ?_);rintro e wH ⟨v0,v1,v2,rfl,hR0,hR1,hR2,hb_⟩;refine ⟨_,rfl,?_⟩;obtain ⟨Av,cv,rfl⟩:=Kd.R_slice hR0;obtain ⟨Ax,cx,rfl⟩:=Kd.R_slice hR1;obtain ⟨Ah,ch,rfl⟩:=Kd.R_slice hR2;have HV:=Aside0.mk (Kd.R_reads' hR0).2.2;have HX:=Aside0.mk (Kd.R_reads' hR1).2.2;have HL:=Aside0.mk (Kd.R_reads' hR2).2.2;have hcL:=Aside0.mk (Kd.R_reads' hR2).2.1;clear hR0 hR1 hR2;have H_:=Aside0.mk (H.out.call hb_);clear H;have H:=H_;clear H_ hb_)
  | ((with_reducible refine gate_callee (f:=88) rfl ?_);(try (refine gate_guard (by rfl) ?_;dsimp only));refine goesL_ (some 45) rfl rfl Try.func88 (by kernel_rfl) rfl #[.slice Ah hl.length ch] rfl (by (try simp only [List.map_toArray,List.map_cons,List.map_nil]);first|done|rfl) ?_;(with_reducible refine (impl_oneLength.calls k Ah ch hl true _ HL.out hcL.out hb.out).mono ?_);rintro e wO ⟨rfl,hd⟩;refine ⟨_,rfl,?_⟩;have HV_:=Aside0.mk (Kd.C_below HV.out hd.below);have HX_:=Aside0.mk (Kd.C_below HX.out hd.below);clear HV HX;have HV:=HV_;have HX:=HX_;clear HV_ HX_ HL;have H_:=Aside0.mk (H.out.draw hd);clear H;have H:=H_;clear H_ hd)
  | ((with_reducible refine gate_dst (N:=48) rfl ?_);(try (refine gate_guard (by rfl) ?_;dsimp only));have hc0_:=H.out.cellv (v:=.int .i64 K) 1 rfl 0 rfl;have hc1_:=H.out.cellv (v:=.int .i64 M) 1 rfl 1 rfl;have hc2_:=H.out.cellv (v:=.int .i64 G) 1 rfl 2 rfl;refine load_at (.agg #[.int .i64 K,.int .i64 M,.int .i64 G]) ?hg ?hr ?_;(case hg=>rfl);(case hr=>first|(go_simp;done)|(go_simp;rfl));clear hc0_ hc1_ hc2_)
  | ((with_reducible refine gate_callee (f:=84) rfl ?_);(try (refine gate_guard (by rfl) ?_;dsimp only));refine goesL_ (some 49) rfl rfl Try.func84 (by kernel_rfl) rfl #[.agg #[.int .i64 K,.int .i64 M,.int .i64 G]] rfl (by (try simp only [List.map_toArray,List.map_cons,List.map_nil]);first|done|rfl) ?_;(with_reducible refine (newPlant_calls K M G _ hk1 hk2 hms hgk).mono ?_);rintro e wP ⟨gt,gp,vg,vl,rfl,hP,hb_⟩;refine ⟨_,rfl,?_⟩;have hP0:=Aside0.mk hP;clear hP;have HV_:=Aside0.mk (Kd.C_below HV.out hb_);have HX_:=Aside0.mk (Kd.C_below HX.out hb_);clear HV HX;have HV:=HV_;have HX:=HX_;clear HV_ HX_;have H_:=Aside0.mk (H.out.call hb_);clear H;have H:=H_;clear H_ hb_)
  | ((with_reducible refine gate_callee (f:=96) rfl ?_);(try (refine gate_guard (by rfl) ?_;dsimp only));refine goesL_ (some 54) rfl rfl Try.func96 (by kernel_rfl) rfl #[.pointer (some ⟨gp,0,none⟩),.slice Av hv.length cv,.int .i64 lost] rfl (by (try simp only [List.map_toArray,List.map_cons,List.map_nil]);first|done|rfl) ?_;(with_reducible refine (plan_calls gt gp K M G vg vl _ hP0.out Av cv hv HV.out h2_.out hN64 lost hl0 hk1 hk2 hms hgk).mono ?_);rintro e wQ ⟨v1,rfl,hR0,hb_⟩;refine ⟨_,rfl,?_⟩;rw [hpv.out] at hR0 ⊢;obtain ⟨AT,cT,eT⟩:=Kd.R_slice hR0;dsimp only at hR0 eT ⊢;rw [List.length_map,hTl.out] at eT;subst eT;have HT:=Aside0.mk (Kd.R_reads' hR0).2.2;rw [List.length_map,hTl.out] at HT;clear hR0;have HV_:=Aside0.mk (Kd.C_below HV.out hb_);have HX_:=Aside0.mk (Kd.C_below HX.out hb_);clear HV HX;have HV:=HV_;have HX:=HX_;clear HV_ HX_;have H_:=Aside0.mk (H.out.call hb_);clear H;have H:=H_;clear H_;have hP1:=Aside0.mk (hP0.out.below hb_);clear hP0;have hP0:=hP1;clear hP1 hb_;have HO:=Aside0.mk H.out;clear H;have hgs:=Aside0.mk (HO.out.lt 0 rfl);have hwQ:=Aside0.mk HO.out.size;have H:=Aside0.mk (Hs.nil wQ))
  | ((with_reducible refine gate_callee (f:=101) rfl ?_);(try (refine gate_guard (by rfl) ?_;dsimp only));refine goesL_ (some 66) rfl rfl Try.func101 (by kernel_rfl) rfl #[.pointer (some ⟨gp,0,none⟩),.int .i64 lost] rfl (by (try simp only [List.map_toArray,List.map_cons,List.map_nil]);first|done|rfl) ?_;(with_reducible refine (row_calls gt gp K M G vg vl _ (hP0.out.below H.out.below) lost (by have:=h2_.out;omega) hk1 hk2 hms hgk).mono ?_);rintro e wR ⟨gr,rfl,hR⟩;refine ⟨_,rfl,?_⟩;have H_:=Aside0.mk (Hs.push H.out (hR.ge 0 rfl) (hR.get 0 rfl) hR.below);clear H hR;have H:=H_;clear H_)
  | ((with_reducible refine gate_callee (f:=95) rfl ?_);(try (refine gate_guard (by rfl) ?_;dsimp only));refine goesL_ (some 70) rfl rfl Try.func95 (by kernel_rfl) rfl #[.pointer (some ⟨gp,0,none⟩),.slice AT K cT,.slice Ax tx.length cx] rfl (by (try simp only [List.map_toArray,List.map_cons,List.map_nil]);first|done|rfl) ?_;(with_reducible refine (dataOf_calls gt gp K M G vg vl _ (hP0.out.below H.out.below) AT cT T (Kd.C_below HT.out H.out.below) hTl.out Ax cx tx tx.length (Kd.C_below HX.out H.out.below) rfl hTN.out (h2_.out.trans h4_.out.symm) ht64 hk1 hk2 hms hgk n hns.out hn4.out).mono ?_);rintro e wD ⟨vd,rfl,hRd,hb_⟩;refine ⟨_,rfl,?_⟩;obtain ⟨Ad,cd,ed⟩:=Kd.R_slice hRd;rw [hdl.out] at ed;subst ed;have HD:=Aside0.mk (Kd.R_reads' hRd).2.2;clear hRd;have H_:=Aside0.mk (H.out.call hb_);clear H;have H:=H_;clear H_ hb_)
  | ((with_reducible refine gate_callee (f:=100) rfl ?_);(try (refine gate_guard (by rfl) ?_;dsimp only));refine goesL_ (some 71) rfl rfl Try.func100 (by kernel_rfl) rfl #[.pointer (some ⟨gp,0,none⟩),.slice (some ⟨gr,0,none⟩) K K,.slice Ad K cd] rfl (by (try simp only [List.map_toArray,List.map_cons,List.map_nil]);first|done|rfl) ?_;(with_reducible refine (mix_at gt gp K M G vg vl _ (hP0.out.below H.out.below) (some ⟨gr,0,none⟩) K (rowV K M G lost) Ad cd (dataV K M G n T tx) n K K (rowV_len K M G lost) hdl.out (row_C H.out (by rw [rowV_len];unfold maxLen;omega)) HD.out (by rw [hdl.out];exact hk1) (by rw [hdl.out,rowV_len];exact Nat.le_refl _) (by rw [hdl.out];omega) hds.out hn4.out (fun j hj=>by rw [rowV_len] at hj;rw [rowV_rd _ _ _ _ _ hj];exact rowF_byte (by omega) hj)).mono ?_);rintro e wM ⟨rfl,hb_⟩;refine ⟨_,rfl,?_⟩;rw [rowV_len,show strOfNums _ = farV K M G n lost T tx from rfl];have H_:=Aside0.mk (H.out.call hb_);clear H;have H:=H_;clear H_ hb_)
  | ((with_reducible refine gate_dst (N:=72) rfl ?_);refine lit_ev rfl rfl (cs:=#[.string (farV K M G n lost T tx)]) (t:=9) (n:=1) ?hr ?_;(case hr=>first|(go_simp;done)|(go_simp;rfl));intro g7 hg w7 hbox hb;have H_:=Aside0.mk (Hs.push H.out (Nat.le_of_eq hg.symm) hbox hb);clear hbox hb hg H;have H:=H_;clear H_;have HE:=Aside0.mk (HO.out.call H.out.below);have HR:=Aside0.mk (show Kd.R Kd.string 9 w7 wQ.heap.size (fun _=>True) (.slice (some ⟨g7,0,none⟩) 1 1) [farV K M G n lost T tx] from Kd.R_of_own (RowB.owns (B:=[_]) RowB.lit1 H.out) (fun _ _=>trivial)))
  | ((with_reducible refine gate_store (p:=6) rfl ?_);have hc0_:=HE.out.cellv (v:=.int .i64 0) 0 rfl 0 rfl;have hf0_:=HE.out.frozen 0 rfl 0;have hc1_:=HE.out.cellv (v:=.slice none 0 0) 0 rfl 1 rfl;have hf1_:=HE.out.frozen 0 rfl 1;refine store_at (fun W=>World.setCell (World.setCell W ⟨gs,0,none⟩ (.int .i64 0)) ⟨gs,1,none⟩ (.slice (some ⟨g7,0,none⟩) 1 1)) ?hg rfl ?hd ?hr ?_;(case hg=>rfl);(case hd=>rfl);(case hr=>first|(go_simp;done)|(go_simp;rfl));intro w9 hw;have HZ:=Aside0.mk (show Hs w w9 [(gs,.cells #[.int .i64 0,.slice (some ⟨g7,0,none⟩) 1 1] 68 (0,0)),(gc,.cells #[.int .i64 K,.int .i64 M,.int .i64 G] 43 (0,0))] from by rw [hw];exact (HE.out.set 0 rfl 0 (.int .i64 0)).set 0 rfl 1 (.slice (some ⟨g7,0,none⟩) 1 1));have HR9:=Aside0.mk (show Kd.R Kd.string 9 w9 wQ.heap.size (fun _=>True) (.slice (some ⟨g7,0,none⟩) 1 1) [farV K M G n lost T tx] from by rw [hw];exact Kd.R_mono (Kd.R_far (p:=⟨gs,1,none⟩) (Kd.R_far (p:=⟨gs,0,none⟩) (Kd.R_bound HR.out) (fun k_ hk_ e_=>by have h1_:=hk_.2.1;have h2_ : k_ = gs:=e_;have h3_:=hgs.out;omega) _) (fun k_ hk_ e_=>by have h1_:=hk_.2.1;have h2_ : k_ = gs:=e_;have h3_:=hgs.out;omega) _) (fun _ _=>trivial));clear hw hc0_ hc1_ hf0_ hf1_))
 exact bodyPost_ret (results_cell_row rfl _ _ gs 68 #[.int .i64 0,.slice (some ⟨g7,0,none⟩) 1 1] (0,0) _ rfl (HZ.out.get 0 rfl) Try.underlying68 rfl (by kernel_rfl)) rfl ⟨_,rfl,Kd.R_lower HR9.out hwQ.out,HZ.out.below⟩

set_option maxHeartbeats 8000000 in
set_option maxRecDepth 100000 in
theorem rshard_near (k K M G : Nat) (A1 : Option Addr) (c1 : Nat) (l1 : List (S61)) (lost : Nat) (w : World) (hc0 : Kd.C k61 w A1 l1.length l1) (hcc0 : l1.length ≤ c1) (hv : List Bool) (tx hl : List ByteArray) (hh0 : impl_heldOf.f k l1 = some (hv,tx,hl)) (hb0 : impl_oneLength.f k hl = some true) (hf : impl_CodeFault.f K M G = some 0) (hN2 : K + M + G = hv.length) (hNl : l1.length = hv.length) (hNt : tx.length = hv.length) (hN64 : hv.length ≤ 64) (hl0 : lost < hv.length) (hk1 : 1 ≤ K) (hk2 : K ≤ 32) (hms : M ≤ 16) (hgk : G ≤ K) (T : List Nat) (n : Nat) (hT1 : 1 ≤ T.length) (hT64 : T.length ≤ 64) (hfit : fitT T tx n) (hp : planV K M G hv lost = (T,true,true)) : Calls Try.prog 41 #[.agg #[.int .i64 K,.int .i64 M,.int .i64 G],.slice A1 l1.length c1,.int .i64 lost] w fun e w'=>∃ v1_ : Value,e = .returned (.agg #[.int .i64 0,v1_]) ∧ Kd.R Kd.string 9 w' w.heap.size (fun _=>True) v1_ [nearV n T tx] ∧ Below w.heap.size w w':=by
 have hTN:=Aside0.mk hfit.1
 have hn4:=Aside0.mk hfit.2.2
 have htl:=Aside0.mk (show (takenV T tx).length = T.length by simp [takenV])
 have hts:=Aside0.mk (show ∀ j : Nat,j < (takenV T tx).length → (rdOf ByteArray.empty (takenV T tx) (j : Int)).size = n from fun j hj=>by
  have hj2 : j < T.length:=by simpa [takenV] using hj
  rw [taken_at hj2];exact hfit.2.1 j hj2)
 have hu1:=Try.underlying43
 have hu2:=Try.underlying68
 have hs:=Aside0.mk (size_okS hf (hN2.trans hNl.symm) (by omega))
 have ht:=Aside0.mk hf
 have hc:=Aside0.mk hc0
 have hcc:=Aside0.mk hcc0
 have hh:=Aside0.mk hh0
 have hb:=Aside0.mk hb0
 have hpv:=Aside0.mk hp
 have H:=Aside0.mk (Hs.nil w)
 have l0 : decide ((lost : Int) < 0) = false:=decide_eq_false (by omega)
 have l1_ : decide ((l1.length : Int) ≤ (lost : Int)) = false:=decide_eq_false (by omega)
 have ht64 : tx.length ≤ 64:=by omega
 have h2_:=Aside0.mk hN2
 have h3_:=Aside0.mk hNl
 have h4_:=Aside0.mk hNt
 have l2_ : decide (l1.length ≤ lost) = false:=decide_eq_false (by omega)
 have l3_ : lost < l1.length:=by omega
 clear hc0 hcc0 hh0 hb0 hf hp hN2 hNl hNt hfit
 go_enter Try.func41,Try.ntmps41
 go_wp2_with (first
  | ((with_reducible refine gate_dst (N:=3) rfl ?_);(try (refine gate_guard (by rfl) ?_;dsimp only));refine box_event ?hg (N:=3) ?hd (cs:=#[.int .i64 K,.int .i64 M,.int .i64 G]) (t:=43) ?hr ?_;(case hd=>rfl);(case hg=>rfl);(case hr=>first|(go_simp;done)|(go_simp;rfl));intro gc hg w1 hbox hb;have H_:=Aside0.mk (Hs.push H.out (Nat.le_of_eq hg.symm) hbox hb);clear hbox hb hg H;have H:=H_;clear H_)
  | ((with_reducible refine gate_dst (N:=6) rfl ?_);(try (refine gate_guard (by rfl) ?_;dsimp only));refine box_event ?hg (N:=6) ?hd (cs:=#[.int .i64 0,.slice none 0 0]) (t:=68) ?hr ?_;(case hd=>rfl);(case hg=>rfl);(case hr=>first|(go_simp;done)|(go_simp;rfl));intro gs hg w2 hbox hb;have H_:=Aside0.mk (Hs.push H.out (Nat.le_of_eq hg.symm) hbox hb);clear hbox hb hg H;have H:=H_;clear H_)
  | ((with_reducible refine gate_dst (N:=18) rfl ?_);(try (refine gate_guard (by rfl) ?_;dsimp only));have hc0_:=H.out.cellv (v:=.int .i64 K) 1 rfl 0 rfl;have hc1_:=H.out.cellv (v:=.int .i64 M) 1 rfl 1 rfl;have hc2_:=H.out.cellv (v:=.int .i64 G) 1 rfl 2 rfl;refine load_at (.agg #[.int .i64 K,.int .i64 M,.int .i64 G]) ?hg ?hr ?_;(case hg=>rfl);(case hr=>first|(go_simp;done)|(go_simp;rfl));clear hc0_ hc1_ hc2_)
  | ((with_reducible refine gate_callee (f:=87) rfl ?_);(try (refine gate_guard (by rfl) ?_;dsimp only));refine goesL_ (some 19) rfl rfl Try.func87 (by kernel_rfl) rfl #[.agg #[.int .i64 K,.int .i64 M,.int .i64 G]] rfl (by (try simp only [List.map_toArray,List.map_cons,List.map_nil]);first|done|rfl) ?_;(with_reducible refine (impl_CodeFault.calls K M G 0 _ ht.out).mono ?_);rintro e w3 ⟨rfl,hb⟩;refine ⟨_,rfl,?_⟩;have H_:=Aside0.mk (show Hs w w3 [(gs,.cells #[.int .i64 0,.slice none 0 0] 68 (0,0)),(gc,.cells #[.int .i64 K,.int .i64 M,.int .i64 G] 43 (0,0))] from H.out.call hb);clear hb H;have H:=H_;clear H_)
  | ((with_reducible refine gate_dst (N:=24) rfl ?_);(try (refine gate_guard (by rfl) ?_;dsimp only));have hc0_:=H.out.cellv (v:=.int .i64 K) 1 rfl 0 rfl;have hc1_:=H.out.cellv (v:=.int .i64 M) 1 rfl 1 rfl;have hc2_:=H.out.cellv (v:=.int .i64 G) 1 rfl 2 rfl;refine load_at (.agg #[.int .i64 K,.int .i64 M,.int .i64 G]) ?hg ?hr ?_;(case hg=>rfl);(case hr=>first|(go_simp;done)|(go_simp;rfl));clear hc0_ hc1_ hc2_)
  | ((with_reducible refine gate_callee (f:=92) rfl ?_);(try (refine gate_guard (by rfl) ?_;dsimp only));refine goesL_ (some 25) rfl rfl Try.func92 (by kernel_rfl) rfl #[.agg #[.int .i64 K,.int .i64 M,.int .i64 G]] rfl (by (try simp only [List.map_toArray,List.map_cons,List.map_nil]);first|done|rfl) ?_;(with_reducible refine (impl_CodeSize.calls K M G l1.length _ hs.out).mono ?_);rintro e w4 ⟨rfl,hb⟩;refine ⟨_,rfl,?_⟩;have H_:=Aside0.mk (show Hs w w4 [(gs,.cells #[.int .i64 0,.slice none 0 0] 68 (0,0)),(gc,.cells #[.int .i64 K,.int .i64 M,.int .i64 G] 43 (0,0))] from H.out.call hb);clear hb H;have H:=H_;clear H_)
  | ((with_reducible refine gate_dst (N:=33) rfl ?_);(try (refine gate_guard (by rfl) ?_;dsimp only));have hc0_:=H.out.cellv (v:=.int .i64 K) 1 rfl 0 rfl;have hc1_:=H.out.cellv (v:=.int .i64 M) 1 rfl 1 rfl;have hc2_:=H.out.cellv (v:=.int .i64 G) 1 rfl 2 rfl;refine load_at (.agg #[.int .i64 K,.int .i64 M,.int .i64 G]) ?hg ?hr ?_;(case hg=>rfl);(case hr=>first|(go_simp;done)|(go_simp;rfl));clear hc0_ hc1_ hc2_)
  | ((with_reducible refine gate_callee (f:=92) rfl ?_);(try (refine gate_guard (by rfl) ?_;dsimp only));refine goesL_ (some 34) rfl rfl Try.func92 (by kernel_rfl) rfl #[.agg #[.int .i64 K,.int .i64 M,.int .i64 G]] rfl (by (try simp only [List.map_toArray,List.map_cons,List.map_nil]);first|done|rfl) ?_;(with_reducible refine (impl_CodeSize.calls K M G l1.length _ hs.out).mono ?_);rintro e w5 ⟨rfl,hb⟩;refine ⟨_,rfl,?_⟩;have H_:=Aside0.mk (show Hs w w5 [(gs,.cells #[.int .i64 0,.slice none 0 0] 68 (0,0)),(gc,.cells #[.int .i64 K,.int .i64 M,.int .i64 G] 43 (0,0))] from H.out.call hb);clear hb H;have H:=H_;clear H_)
  | ((with_reducible refine gate_callee (f:=93) rfl ?_);(try (refine gate_guard (by rfl) ?_;dsimp only));refine goesL_ (some 40) rfl rfl Try.func93 (by kernel_rfl) rfl #[.slice A1 l1.length c1] rfl (by (try simp only [List.map_toArray,List.map_cons,List.map_nil]);first|done|rfl) ?_;(with_reducible refine (impl_heldOf.calls k A1 c1 l1 hv tx hl _ (Kd.C_below hc.out H.out.below) hcc.out hh.out).mono ?_);rintro e wH ⟨v0,v1,v2,rfl,hR0,hR1,hR2,hb_⟩;refine ⟨_,rfl,?_⟩;obtain ⟨Av,cv,rfl⟩:=Kd.R_slice hR0;obtain ⟨Ax,cx,rfl⟩:=Kd.R_slice hR1;obtain ⟨Ah,ch,rfl⟩:=Kd.R_slice hR2;have HV:=Aside0.mk (Kd.R_reads' hR0).2.2;have HX:=Aside0.mk (Kd.R_reads' hR1).2.2;have HL:=Aside0.mk (Kd.R_reads' hR2).2.2;have hcL:=Aside0.mk (Kd.R_reads' hR2).2.1;clear hR0 hR1 hR2;have H_:=Aside0.mk (H.out.call hb_);clear H;have H:=H_;clear H_ hb_)
  | ((with_reducible refine gate_callee (f:=88) rfl ?_);(try (refine gate_guard (by rfl) ?_;dsimp only));refine goesL_ (some 45) rfl rfl Try.func88 (by kernel_rfl) rfl #[.slice Ah hl.length ch] rfl (by (try simp only [List.map_toArray,List.map_cons,List.map_nil]);first|done|rfl) ?_;(with_reducible refine (impl_oneLength.calls k Ah ch hl true _ HL.out hcL.out hb.out).mono ?_);rintro e wO ⟨rfl,hd⟩;refine ⟨_,rfl,?_⟩;have HV_:=Aside0.mk (Kd.C_below HV.out hd.below);have HX_:=Aside0.mk (Kd.C_below HX.out hd.below);clear HV HX;have HV:=HV_;have HX:=HX_;clear HV_ HX_ HL;have H_:=Aside0.mk (H.out.draw hd);clear H;have H:=H_;clear H_ hd)
  | ((with_reducible refine gate_dst (N:=48) rfl ?_);(try (refine gate_guard (by rfl) ?_;dsimp only));have hc0_:=H.out.cellv (v:=.int .i64 K) 1 rfl 0 rfl;have hc1_:=H.out.cellv (v:=.int .i64 M) 1 rfl 1 rfl;have hc2_:=H.out.cellv (v:=.int .i64 G) 1 rfl 2 rfl;refine load_at (.agg #[.int .i64 K,.int .i64 M,.int .i64 G]) ?hg ?hr ?_;(case hg=>rfl);(case hr=>first|(go_simp;done)|(go_simp;rfl));clear hc0_ hc1_ hc2_)
  | ((with_reducible refine gate_callee (f:=84) rfl ?_);(try (refine gate_guard (by rfl) ?_;dsimp only));refine goesL_ (some 49) rfl rfl Try.func84 (by kernel_rfl) rfl #[.agg #[.int .i64 K,.int .i64 M,.int .i64 G]] rfl (by (try simp only [List.map_toArray,List.map_cons,List.map_nil]);first|done|rfl) ?_;(with_reducible refine (newPlant_calls K M G _ hk1 hk2 hms hgk).mono ?_);rintro e wP ⟨gt,gp,vg,vl,rfl,hP,hb_⟩;refine ⟨_,rfl,?_⟩;have hP0:=Aside0.mk hP;clear hP;have HV_:=Aside0.mk (Kd.C_below HV.out hb_);have HX_:=Aside0.mk (Kd.C_below HX.out hb_);clear HV HX;have HV:=HV_;have HX:=HX_;clear HV_ HX_;have H_:=Aside0.mk (H.out.call hb_);clear H;have H:=H_;clear H_ hb_)
  | ((with_reducible refine gate_callee (f:=96) rfl ?_);(try (refine gate_guard (by rfl) ?_;dsimp only));refine goesL_ (some 54) rfl rfl Try.func96 (by kernel_rfl) rfl #[.pointer (some ⟨gp,0,none⟩),.slice Av hv.length cv,.int .i64 lost] rfl (by (try simp only [List.map_toArray,List.map_cons,List.map_nil]);first|done|rfl) ?_;(with_reducible refine (plan_calls gt gp K M G vg vl _ hP0.out Av cv hv HV.out h2_.out hN64 lost hl0 hk1 hk2 hms hgk).mono ?_);rintro e wQ ⟨v1,rfl,hR0,hb_⟩;refine ⟨_,rfl,?_⟩;rw [hpv.out] at hR0 ⊢;obtain ⟨AT,cT,eT⟩:=Kd.R_slice hR0;dsimp only at hR0 eT ⊢;rw [List.length_map] at eT;subst eT;have HT:=Aside0.mk (Kd.R_reads' hR0).2.2;rw [List.length_map] at HT;clear hR0;have HV_:=Aside0.mk (Kd.C_below HV.out hb_);have HX_:=Aside0.mk (Kd.C_below HX.out hb_);clear HV HX;have HV:=HV_;have HX:=HX_;clear HV_ HX_;have H_:=Aside0.mk (H.out.call hb_);clear H;have H:=H_;clear H_;have hP1:=Aside0.mk (hP0.out.below hb_);clear hP0;have hP0:=hP1;clear hP1 hb_;have HO:=Aside0.mk H.out;clear H;have hgs:=Aside0.mk (HO.out.lt 0 rfl);have hwQ:=Aside0.mk HO.out.size;have H:=Aside0.mk (Hs.nil wQ))
  | ((with_reducible refine gate_dst (N:=74) rfl ?_);refine lit_ev rfl rfl (cs:=#[]) (t:=9) (n:=0) ?hr ?_;(case hr=>first|(go_simp;done)|(go_simp;rfl));intro gx hg wx_ hbox hb_;have hBx:=Aside0.mk (RowB.lit0 (e:=9) (size:=1) (g:=gx));have H_:=Aside0.mk (Hs.push H.out (Nat.le_of_eq hg.symm) hbox hb_);clear hbox hb_ hg H;have H:=H_;clear H_)
  | ((with_reducible refine gate_dst (N:=75) rfl ?_);refine lit_ev rfl rfl (cs:=#[]) (t:=5) (n:=0) ?hr ?_;(case hr=>first|(go_simp;done)|(go_simp;rfl));intro gy hg wy_ hbox hb_;have hBy:=Aside0.mk (RowB.lit0 (e:=5) (size:=1) (g:=gy));have H_:=Aside0.mk (Hs.push H.out (Nat.le_of_eq hg.symm) hbox hb_);clear hbox hb_ hg H;have H:=H_;clear H_))
 go_loopw [14,15,17,78] (fun v14 v15 v17 v78 wr=>∃ (i : Nat) (Ad : Option Addr) (cd : Nat) (Ay : Option Addr) (cy : Nat) (Bx By : List Blk),i ≤ T.length ∧ v14 = .slice Ad i cd ∧ v15 = .slice Ay i cy ∧ v17 = v17 ∧ v78 = .int .i64 i ∧ Aside0 (RowB 9 1 (.slice Ad i cd) i (encs Value.string (takenV (T.take i) tx)) Bx) ∧ Aside0 (RowB 5 1 (.slice Ay i cy) i (nums .u8 (List.replicate i 1)) By) ∧ Aside0 (Hs wQ wr (Bx ++ (By ++ [])))) (fun _ _ _ i _=>T.length - (intOf i).toNat)
 case atStart=>exact ⟨0,_,_,_,_,_,_,Nat.zero_le _,rfl,rfl,rfl,rfl,hBx,hBy,Aside0.mk H.out.swap⟩
 case round=>
  clear H hBx hBy
  obtain ⟨i,Ad,cd,Ay,cy,Bx,By,hi0,rfl,rfl,-,rfl,hX,hY,H⟩:=hrel
  have i0 : 0 ≤ (i : Int):=by omega
  have hin:=Aside0.mk (show i ≤ 64 by omega)
  by_cases hlt : i < T.length
  ·have i1 : (i : Int) < (T.length : Int):=by omega
   obtain ⟨t,ht0⟩ : ∃ t,t = T[i]:=⟨_,rfl⟩
   have HS:=Aside0.mk (show encs Value.string (takenV (T.take (i + 1)) tx) = encs Value.string (takenV (T.take i) tx) ++ [.string (rdOf ByteArray.empty tx (t : Int))] by rw [taken_succ hlt,ht0];simp [encs])
   have HS2:=Aside0.mk (show nums .u8 (List.replicate (i + 1) 1) = nums .u8 (List.replicate i 1) ++ [.int .u8 1] by simp [nums,List.replicate_succ'])
   obtain ⟨a_,e_,hx0⟩:=Kd.at_int (Kd.C_below HT.out H.out.below) (i : Int) (by omega) (by omega)
   have hrd : rd (T.map Int.ofNat) (i : Int) = (t : Int):=by
    unfold rd
    rw [Int.toNat_natCast,ht0,List.getD_eq_getElem?_getD,List.getElem?_map,List.getElem?_eq_getElem hlt];rfl
   rw [hrd,Int.toNat_natCast] at hx0
   cases e_
   have t0 : 0 ≤ (t : Int):=by omega
   have t1 : (t : Int) < (tx.length : Int):=by
    have:=hTN.out i hlt
    rw [List.getD_eq_getElem?_getD,List.getElem?_eq_getElem hlt] at this
    rw [ht0];exact Int.ofNat_lt.2 this
   obtain ⟨ad,e_,hx1⟩:=Kd.at_string (Kd.C_below HX.out H.out.below) (t : Int) (by omega) (by omega)
   rw [Int.toNat_natCast] at hx1
   cases e_
   clear hrd ht0
   go_wp2_with (first
    | ((with_reducible refine gate_dst (N:=88) rfl ?_);refine append_ev rfl (.tmp 82) (.tmp 87) 56 9 (.string ByteArray.empty) 1 16 rfl Try.underlying56 (by kernel_rfl) rfl (by decide) (by decide) _ i (encs Value.string (takenV (T.take i) tx)) [.string (rdOf ByteArray.empty tx (t : Int))] rfl rfl rfl (fun u_ hu_=>by rw [List.mem_singleton.1 hu_];rfl) hX.out H.out (by have:=hin.out;omega) ?_;intro Ax1 zx1 w2 Bx1 hB1 hH1;have hB2:=Aside0.mk hB1;have H_:=Aside0.mk hH1;have hX2:=hB2;clear hB2 hB1 hH1 H;have H:=H_;clear H_)
    | ((with_reducible refine gate_dst (N:=91) rfl ?_);refine append_ev rfl (.tmp 89) (.tmp 90) 37 5 (.int .u8 0) 1 1 rfl Try.underlying37 (by kernel_rfl) rfl (by decide) (by decide) _ i (nums .u8 (List.replicate i 1)) [.int .u8 1] rfl rfl rfl (fun u_ hu_=>by rw [List.mem_singleton.1 hu_];rfl) hY.out (hs_swap H.out) (by have:=hin.out;omega) ?_;intro Ay1 zy1 w3 By1 hB1 hH1;have hB2:=Aside0.mk hB1;have H_:=Aside0.mk (hs_swap hH1);have hY2:=hB2;clear hB2 hB1 hH1 H;have H:=H_;clear H_))
   go_roundw
   case rel=>exact ⟨i + 1,Ax1,zx1,Ay1,zy1,Bx1,By1,by omega,rfl,rfl,trivial,by go_num,Aside0.mk (by rw [HS.out];exact hX2.out),Aside0.mk (by rw [HS2.out];exact hY2.out),H⟩
   case measure=>simp [intOf];omega
  ·have i1 : decide ((i : Int) < (T.length : Int)) = false:=decide_eq_false (by omega)
   obtain rfl : i = T.length:=by omega
   rw [List.take_length] at hX
   have HX2:=Aside0.mk (show Kd.C Kd.string wr Ad (takenV T tx).length (takenV T tx) from (Kd.R_reads' (e:=9) (base:=wQ.heap.size) (ok:=fun _=>True) (n:=T.length) (c:=cd) (Kd.R_of_own (by rw [htl.out];exact hX.out.owns H.out) (fun _ _=>trivial))).2.2)
   have HY:=Aside0.mk (show Kd.C (Kd.int .u8) wr Ay (List.replicate T.length (1 : Int)).length (List.replicate T.length 1) from (Kd.R_reads' (e:=5) (base:=wQ.heap.size) (ok:=fun _=>True) (n:=T.length) (c:=cy) (Kd.R_of_own (by rw [List.length_replicate];exact hY.out.owns (hs_swap H.out)) (fun _ _=>trivial))).2.2)
   go_wp2_with (first
    | ((with_reducible refine gate_callee (f:=100) rfl ?_);(try (refine gate_guard (by rfl) ?_;dsimp only));refine goesL_ (some 96) rfl rfl Try.func100 (by kernel_rfl) rfl #[.pointer (some ⟨gp,0,none⟩),.slice Ay T.length cy,.slice Ad T.length cd] rfl (by (try simp only [List.map_toArray,List.map_cons,List.map_nil]);first|done|rfl) ?_;(with_reducible refine (mix_at gt gp K M G vg vl _ (hP0.out.below H.out.below) Ay cy (List.replicate T.length 1) Ad cd (takenV T tx) n T.length T.length (List.length_replicate ..) htl.out HY.out HX2.out (by rw [htl.out];exact hT1) (by rw [htl.out,List.length_replicate];exact Nat.le_refl _) (by rw [htl.out];exact hT64) hts.out hn4.out (fun j hj=>by rw [List.length_replicate] at hj;rw [ones_rd hj];decide)).mono ?_);rintro e wM ⟨rfl,hb_⟩;refine ⟨_,rfl,?_⟩;rw [List.length_replicate,show strOfNums _ = nearV n T tx from rfl];have H_:=Aside0.mk (H.out.call hb_);clear H;have H:=H_;clear H_ hb_)
    | ((with_reducible refine gate_dst (N:=97) rfl ?_);refine lit_ev rfl rfl (cs:=#[.string (nearV n T tx)]) (t:=9) (n:=1) ?hr ?_;(case hr=>first|(go_simp;done)|(go_simp;rfl));intro g7 hg w7 hbox hb;have H_:=Aside0.mk (Hs.push H.out (Nat.le_of_eq hg.symm) hbox hb);clear hbox hb hg H;have H:=H_;clear H_;have HE:=Aside0.mk (HO.out.call H.out.below);have HR:=Aside0.mk (show Kd.R Kd.string 9 w7 wQ.heap.size (fun _=>True) (.slice (some ⟨g7,0,none⟩) 1 1) [nearV n T tx] from Kd.R_of_own (RowB.owns (B:=[_]) RowB.lit1 H.out) (fun _ _=>trivial)))
    | ((with_reducible refine gate_store (p:=6) rfl ?_);have hc0_:=HE.out.cellv (v:=.int .i64 0) 0 rfl 0 rfl;have hf0_:=HE.out.frozen 0 rfl 0;have hc1_:=HE.out.cellv (v:=.slice none 0 0) 0 rfl 1 rfl;have hf1_:=HE.out.frozen 0 rfl 1;refine store_at (fun W=>World.setCell (World.setCell W ⟨gs,0,none⟩ (.int .i64 0)) ⟨gs,1,none⟩ (.slice (some ⟨g7,0,none⟩) 1 1)) ?hg rfl ?hd ?hr ?_;(case hg=>rfl);(case hd=>rfl);(case hr=>first|(go_simp;done)|(go_simp;rfl));intro w9 hw;have HZ:=Aside0.mk (show Hs w w9 [(gs,.cells #[.int .i64 0,.slice (some ⟨g7,0,none⟩) 1 1] 68 (0,0)),(gc,.cells #[.int .i64 K,.int .i64 M,.int .i64 G] 43 (0,0))] from by rw [hw];exact (HE.out.set 0 rfl 0 (.int .i64 0)).set 0 rfl 1 (.slice (some ⟨g7,0,none⟩) 1 1));have HR9:=Aside0.mk (show Kd.R Kd.string 9 w9 wQ.heap.size (fun _=>True) (.slice (some ⟨g7,0,none⟩) 1 1) [nearV n T tx] from by rw [hw];exact Kd.R_mono (Kd.R_far (p:=⟨gs,1,none⟩) (Kd.R_far (p:=⟨gs,0,none⟩) (Kd.R_bound HR.out) (fun k_ hk_ e_=>by have h1_:=hk_.2.1;have h2_ : k_ = gs:=e_;have h3_:=hgs.out;omega) _) (fun k_ hk_ e_=>by have h1_:=hk_.2.1;have h2_ : k_ = gs:=e_;have h3_:=hgs.out;omega) _) (fun _ _=>trivial));clear hw hc0_ hc1_ hf0_ hf1_))
   exact bodyPost_ret (results_cell_row rfl _ _ gs 68 #[.int .i64 0,.slice (some ⟨g7,0,none⟩) 1 1] (0,0) _ rfl (HZ.out.get 0 rfl) Try.underlying68 rfl (by kernel_rfl)) rfl ⟨_,rfl,Kd.R_lower HR9.out hwQ.out,HZ.out.below⟩

def impl_RepairShard.f (k : Nat) (a0_0 a0_1 a0_2 : Int) (l1 : List (S61)) (a2 : Int) : Option (Int × List ByteArray):=(impl_heldOf.f k l1).bind fun p=>(impl_oneLength.f k p.2.2).bind fun b=>if b = true ∧ impl_CodeFault.f a0_0 a0_1 a0_2 = some 0 ∧ a0_0.toNat + a0_1.toNat + a0_2.toNat = p.1.length ∧ l1.length = p.1.length ∧ p.2.1.length = p.1.length ∧ 0 ≤ a2 ∧ a2 < (p.1.length : Int) then (if (planV a0_0.toNat a0_1.toNat a0_2.toNat p.1 a2.toNat).2.2 = true then (if fitT (planV a0_0.toNat a0_1.toNat a0_2.toNat p.1 a2.toNat).1 p.2.1 (rdOf ByteArray.empty p.2.1 ((planV a0_0.toNat a0_1.toNat a0_2.toNat p.1 a2.toNat).1.getD 0 0 : Nat)).size then (if (planV a0_0.toNat a0_1.toNat a0_2.toNat p.1 a2.toNat).2.1 = true then (if 1 ≤ (planV a0_0.toNat a0_1.toNat a0_2.toNat p.1 a2.toNat).1.length ∧ (planV a0_0.toNat a0_1.toNat a0_2.toNat p.1 a2.toNat).1.length ≤ 64 then some (0,[nearV (rdOf ByteArray.empty p.2.1 ((planV a0_0.toNat a0_1.toNat a0_2.toNat p.1 a2.toNat).1.getD 0 0 : Nat)).size (planV a0_0.toNat a0_1.toNat a0_2.toNat p.1 a2.toNat).1 p.2.1]) else none) else (if (planV a0_0.toNat a0_1.toNat a0_2.toNat p.1 a2.toNat).1.length = a0_0.toNat then some (0,[farV a0_0.toNat a0_1.toNat a0_2.toNat (rdOf ByteArray.empty p.2.1 ((planV a0_0.toNat a0_1.toNat a0_2.toNat p.1 a2.toNat).1.getD 0 0 : Nat)).size a2.toNat (planV a0_0.toNat a0_1.toNat a0_2.toNat p.1 a2.toNat).1 p.2.1]) else none)) else none) else some (8,[])) else none
theorem impl_RepairShard.calls (k : Nat) (a0_0 : Int) (a0_1 : Int) (a0_2 : Int) (A1 : Option Addr) (c1 : Nat) (l1 : List (S61)) (a2 : Int) (r1 : Int) (r2 : List ByteArray) (w : World) (hr1 : Kd.C k61 w A1 l1.length l1) (hc1 : l1.length ≤ c1) (h : impl_RepairShard.f k a0_0 a0_1 a0_2 l1 a2 = some (r1,r2)) :
  Calls Try.prog 41 #[.agg #[.int .i64 a0_0,.int .i64 a0_1,.int .i64 a0_2],.slice A1 l1.length c1,.int .i64 a2] w fun e w'=>∃ v1_ : Value,e = .returned (.agg #[.int .i64 r1,v1_]) ∧ Kd.R Kd.string 9 w' w.heap.size (fun _=>True) v1_ r2 ∧ Below w.heap.size w w':=by
 unfold impl_RepairShard.f at h
 obtain ⟨⟨hv,tx,hl⟩,hh,h⟩:=Option.bind_eq_some_iff.mp h
 obtain ⟨b,hb,h⟩:=Option.bind_eq_some_iff.mp h
 dsimp only at h hb
 split at h
 ·rename_i hc
  obtain ⟨rfl,g1,g2,g3,g4,g5,g6⟩:=hc
  obtain ⟨f1,f2,f3,f4,f5,f6,f7⟩:=fault_okS g1
  obtain ⟨K,rfl⟩:=Int.eq_ofNat_of_zero_le (show 0 ≤ a0_0 by omega)
  obtain ⟨M,rfl⟩:=Int.eq_ofNat_of_zero_le f3
  obtain ⟨G,rfl⟩:=Int.eq_ofNat_of_zero_le f5
  obtain ⟨lost,rfl⟩:=Int.eq_ofNat_of_zero_le g5
  simp only [Int.toNat_natCast] at h g2
  obtain ⟨⟨T,near,ok⟩,hp⟩ : ∃ p,planV K M G hv lost = p:=⟨_,rfl⟩
  rw [hp] at h
  dsimp only at h
  obtain ⟨n,hn⟩ : ∃ n,n = (rdOf ByteArray.empty tx (T.getD 0 0 : Nat)).size:=⟨_,rfl⟩
  rw [← hn] at h
  clear hn
  cases ok with
  | true=>
   rw [if_pos rfl] at h
   split at h
   ·rename_i hfit
    cases near with
    | true=>
     rw [if_pos rfl] at h
     split at h
     ·rename_i hT
      simp only [Option.some.injEq,Prod.mk.injEq] at h
      obtain ⟨rfl,rfl⟩:=h
      exact rshard_near k K M G A1 c1 l1 lost w hr1 hc1 hv tx hl hh hb g1 g2 g3 g4 (by omega) (by omega) (by omega) (by omega) (by omega) (by omega) T n hT.1 hT.2 hfit hp
     ·cases h
    | false=>
     rw [if_neg (by decide)] at h
     split at h
     ·rename_i hT
      simp only [Option.some.injEq,Prod.mk.injEq] at h
      obtain ⟨rfl,rfl⟩:=h
      exact rshard_far k K M G A1 c1 l1 lost w hr1 hc1 hv tx hl hh hb g1 g2 g3 g4 (by omega) (by omega) (by omega) (by omega) (by omega) (by omega) T n hT hfit hp
     ·cases h
   ·cases h
  | false=>
   rw [if_neg (by decide)] at h
   simp only [Option.some.injEq,Prod.mk.injEq] at h
   obtain ⟨rfl,rfl⟩:=h
   exact rshard_lost k K M G A1 c1 l1 lost w hr1 hc1 hv tx hl hh hb g1 g2 g3 g4 (by omega) (by omega) (by omega) (by omega) (by omega) (by omega) T near hp
 ·cases h

end Go.Proofs.Ytffhbpepppodeaa.PFnRepaired
