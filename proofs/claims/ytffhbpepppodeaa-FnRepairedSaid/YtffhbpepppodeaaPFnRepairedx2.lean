import Derived.Test.YtffhbpepppodeaaPFnRepairedx0
import Derived.Test.YtffhbpepppodeaaPFnRepairedx1
import Derived.Test.YtffhbpepppodeaaPlant3FnRepaired
import Derived.Test.YtffhbpepppodeaaPlant5FnRepaired
import Derived.Test.YtffhbpepppodeaaPlant6FnRepaired
namespace Go.Proofs.Ytffhbpepppodeaa.PFnRepaired
open Go.RowKit Go.Proofs.YtffhbpepppodeaaW.PrintWords Go.Proofs.YtffhbpepppodeaaW.PrintLast Go.Proofs.YtffhbpepppodeaaW.PrintMore
open Go.Proofs.Ytffhbpepppodeaa.Hs Go.Proofs.Ytffhbpepppodeaa.Gf Go.Proofs.Ytffhbpepppodeaa.Grid Go.Proofs.Ytffhbpepppodeaa.Reduce Go.Proofs.Ytffhbpepppodeaa.Plant Go.Proofs.Ytffhbpepppodeaa.Plant2 Go.Proofs.Ytffhbpepppodeaa.Plant3 Go.Proofs.Ytffhbpepppodeaa.Plant4 Go.Proofs.Ytffhbpepppodeaa.Plant5 Go.Proofs.Ytffhbpepppodeaa.Plant6

theorem fault_okE {a0_0 a0_1 a0_2 : Int} (h : impl_CodeFault.f a0_0 a0_1 a0_2 = some 0) : 1 ≤ a0_0 ∧ a0_0 ≤ 32 ∧ 0 ≤ a0_1 ∧ a0_1 ≤ 16 ∧ 0 ≤ a0_2 ∧ a0_2 ≤ a0_0 ∧ a0_0 + a0_1 + a0_2 ≤ 64:=by
 unfold impl_CodeFault.f at h
 by_cases c1 : a0_0 < 1
 ·rw [if_pos c1] at h;cases h
 rw [if_neg c1] at h
 by_cases c2 : a0_0 > 32
 ·rw [if_pos c2] at h;cases h
 rw [if_neg c2] at h
 by_cases c3 : a0_1 < 0
 ·rw [if_pos c3] at h;cases h
 rw [if_neg c3] at h
 by_cases c4 : a0_1 > 16
 ·rw [if_pos c4] at h;cases h
 rw [if_neg c4] at h
 by_cases c5 : a0_2 < 0
 ·rw [if_pos c5] at h;cases h
 rw [if_neg c5] at h
 by_cases c6 : a0_2 > a0_0
 ·rw [if_pos c6] at h;cases h
 rw [if_neg c6] at h
 by_cases c7 : (wrap64 ((wrap64 (a0_0 + a0_1)) + a0_2)) > 64
 ·rw [if_pos c7] at h;cases h
 ·have e1 : wrap64 (a0_0 + a0_1) = a0_0 + a0_1:=by unfold wrap64;omega
  rw [e1] at c7
  have e2 : wrap64 (a0_0 + a0_1 + a0_2) = a0_0 + a0_1 + a0_2:=by unfold wrap64;omega
  rw [e2] at c7
  omega

set_option maxHeartbeats 8000000 in
set_option maxRecDepth 100000 in
theorem encodeS_bad (k : Nat) (a0_0 a0_1 a0_2 : Int) (A1 : Option Addr) (c1 : Nat) (l1 : List ByteArray) (t : Int) (w : World) (hc0 : Kd.C Kd.string w A1 l1.length l1) (hcc0 : l1.length ≤ c1) (h : impl_CodeFault.f a0_0 a0_1 a0_2 = some t) (h1 : ¬ t = 0) : Calls Try.prog 35 #[.agg #[.int .i64 a0_0,.int .i64 a0_1,.int .i64 a0_2],.slice A1 l1.length c1] w fun e w'=>∃ v1_ : Value,e = .returned (.agg #[.int .i64 1,v1_]) ∧ Kd.R Kd.string 9 w' w.heap.size (fun _=>True) v1_ [] ∧ Below w.heap.size w w':=by
 have d1 : (t == 0) = false:=by simpa using h1
 have d2 : (t != 0) = true:=by simpa using h1
 clear h1
 have ht:=Aside0.mk h
 have hc:=Aside0.mk hc0
 have hcc:=Aside0.mk hcc0
 clear h hc0 hcc0
 have hu1:=Try.underlying43
 have hu2:=Try.underlying68
 have H:=Aside0.mk (Hs.nil w)
 go_enter Try.func35,Try.ntmps35
 go_wp2_with (first
  | ((with_reducible refine gate_dst (N:=2) rfl ?_);(try (refine gate_guard (by rfl) ?_;dsimp only));refine box_event ?hg (N:=2) ?hd (cs:=#[.int .i64 a0_0,.int .i64 a0_1,.int .i64 a0_2]) (t:=43) ?hr ?_;(case hd=>rfl);(case hg=>rfl);(case hr=>first|(go_simp;done)|(go_simp;rfl));intro gc hg w1 hbox hb;have H_:=Aside0.mk (Hs.push H.out (Nat.le_of_eq hg.symm) hbox hb);clear hbox hb hg H;have H:=H_;clear H_)
  | ((with_reducible refine gate_dst (N:=4) rfl ?_);(try (refine gate_guard (by rfl) ?_;dsimp only));refine box_event ?hg (N:=4) ?hd (cs:=#[.int .i64 0,.slice none 0 0]) (t:=68) ?hr ?_;(case hd=>rfl);(case hg=>rfl);(case hr=>first|(go_simp;done)|(go_simp;rfl));intro gs hg w2 hbox hb;have H_:=Aside0.mk (Hs.push H.out (Nat.le_of_eq hg.symm) hbox hb);clear hbox hb hg H;have H:=H_;clear H_)
  | ((with_reducible refine gate_dst (N:=5) rfl ?_);(try (refine gate_guard (by rfl) ?_;dsimp only));have hc0_:=H.out.cellv (v:=.int .i64 a0_0) 1 rfl 0 rfl;have hc1_:=H.out.cellv (v:=.int .i64 a0_1) 1 rfl 1 rfl;have hc2_:=H.out.cellv (v:=.int .i64 a0_2) 1 rfl 2 rfl;refine load_at (.agg #[.int .i64 a0_0,.int .i64 a0_1,.int .i64 a0_2]) ?hg ?hr ?_;(case hg=>rfl);(case hr=>first|(go_simp;done)|(go_simp;rfl));clear hc0_ hc1_ hc2_)
  | ((with_reducible refine gate_callee (f:=87) rfl ?_);(try (refine gate_guard (by rfl) ?_;dsimp only));refine goesL_ (some 6) rfl rfl Try.func87 (by kernel_rfl) rfl #[.agg #[.int .i64 a0_0,.int .i64 a0_1,.int .i64 a0_2]] rfl (by (try simp only [List.map_toArray,List.map_cons,List.map_nil]);first|done|rfl) ?_;(with_reducible refine (impl_CodeFault.calls a0_0 a0_1 a0_2 t _ ht.out).mono ?_);rintro e w3 ⟨rfl,hb⟩;refine ⟨_,rfl,?_⟩;have H_:=Aside0.mk (show Hs w w3 [(gs,.cells #[.int .i64 0,.slice none 0 0] 68 (0,0)),(gc,.cells #[.int .i64 a0_0,.int .i64 a0_1,.int .i64 a0_2] 43 (0,0))] from H.out.call hb);clear hb H;have H:=H_;clear H_)
  | ((with_reducible refine gate_store (p:=4) rfl ?_);(try (refine gate_guard (by rfl) ?_;dsimp only));have hc0_:=H.out.cellv (v:=.int .i64 0) 0 rfl 0 rfl;have hf0_:=H.out.frozen 0 rfl 0;have hc1_:=H.out.cellv (v:=.slice none 0 0) 0 rfl 1 rfl;have hf1_:=H.out.frozen 0 rfl 1;refine store_at (fun W=>(World.setCell (World.setCell W ⟨gs,0,none⟩ (.int .i64 1)) ⟨gs,1,none⟩ (.slice none 0 0))) ?hg rfl ?hd ?hr ?_;(case hg=>rfl);(case hd=>rfl);(case hr=>first|(go_simp;done)|(go_simp;rfl));intro w4 hw;have H_:=Aside0.mk (show Hs w w4 [(gs,.cells #[.int .i64 1,.slice none 0 0] 68 (0,0)),(gc,.cells #[.int .i64 a0_0,.int .i64 a0_1,.int .i64 a0_2] 43 (0,0))] from by rw [hw];exact ((H.out.set 0 rfl 0 (.int .i64 1)).set 0 rfl 1 (.slice none 0 0)));clear hw hc0_ hf0_ hc1_ hf1_ H;have H:=H_;clear H_))
 exact bodyPost_ret (results_cell_row rfl _ _ gs 68 #[.int .i64 1,.slice none 0 0] (0,0) _ rfl (H.out.get 0 rfl) Try.underlying68 rfl (by kernel_rfl)) rfl ⟨_,rfl,Kd.R_nil _ _ _ _ _,H.out.below⟩

set_option maxHeartbeats 8000000 in
set_option maxRecDepth 100000 in
theorem encodeS_form (k : Nat) (a0_0 a0_1 a0_2 : Int) (A1 : Option Addr) (c1 : Nat) (l1 : List ByteArray) (t : Int) (w : World) (hc0 : Kd.C Kd.string w A1 l1.length l1) (hcc0 : l1.length ≤ c1) (h : impl_CodeFault.f a0_0 a0_1 a0_2 = some t) (h1 : t = 0) (h2 : ¬ (l1.length : Int) = a0_0) : Calls Try.prog 35 #[.agg #[.int .i64 a0_0,.int .i64 a0_1,.int .i64 a0_2],.slice A1 l1.length c1] w fun e w'=>∃ v1_ : Value,e = .returned (.agg #[.int .i64 1,v1_]) ∧ Kd.R Kd.string 9 w' w.heap.size (fun _=>True) v1_ [] ∧ Below w.heap.size w w':=by
 have d1 : (t == 0) = true:=by simpa using h1
 have d2 : (t != 0) = false:=by simpa using h1
 clear h1
 have d3 : ((l1.length : Int) == a0_0) = false:=by simpa using h2
 have d4 : ((l1.length : Int) != a0_0) = true:=by simpa using h2
 clear h2
 have ht:=Aside0.mk h
 have hc:=Aside0.mk hc0
 have hcc:=Aside0.mk hcc0
 clear h hc0 hcc0
 have hu1:=Try.underlying43
 have hu2:=Try.underlying68
 have H:=Aside0.mk (Hs.nil w)
 go_enter Try.func35,Try.ntmps35
 go_wp2_with (first
  | ((with_reducible refine gate_dst (N:=2) rfl ?_);(try (refine gate_guard (by rfl) ?_;dsimp only));refine box_event ?hg (N:=2) ?hd (cs:=#[.int .i64 a0_0,.int .i64 a0_1,.int .i64 a0_2]) (t:=43) ?hr ?_;(case hd=>rfl);(case hg=>rfl);(case hr=>first|(go_simp;done)|(go_simp;rfl));intro gc hg w1 hbox hb;have H_:=Aside0.mk (Hs.push H.out (Nat.le_of_eq hg.symm) hbox hb);clear hbox hb hg H;have H:=H_;clear H_)
  | ((with_reducible refine gate_dst (N:=4) rfl ?_);(try (refine gate_guard (by rfl) ?_;dsimp only));refine box_event ?hg (N:=4) ?hd (cs:=#[.int .i64 0,.slice none 0 0]) (t:=68) ?hr ?_;(case hd=>rfl);(case hg=>rfl);(case hr=>first|(go_simp;done)|(go_simp;rfl));intro gs hg w2 hbox hb;have H_:=Aside0.mk (Hs.push H.out (Nat.le_of_eq hg.symm) hbox hb);clear hbox hb hg H;have H:=H_;clear H_)
  | ((with_reducible refine gate_dst (N:=5) rfl ?_);(try (refine gate_guard (by rfl) ?_;dsimp only));have hc0_:=H.out.cellv (v:=.int .i64 a0_0) 1 rfl 0 rfl;have hc1_:=H.out.cellv (v:=.int .i64 a0_1) 1 rfl 1 rfl;have hc2_:=H.out.cellv (v:=.int .i64 a0_2) 1 rfl 2 rfl;refine load_at (.agg #[.int .i64 a0_0,.int .i64 a0_1,.int .i64 a0_2]) ?hg ?hr ?_;(case hg=>rfl);(case hr=>first|(go_simp;done)|(go_simp;rfl));clear hc0_ hc1_ hc2_)
  | ((with_reducible refine gate_callee (f:=87) rfl ?_);(try (refine gate_guard (by rfl) ?_;dsimp only));refine goesL_ (some 6) rfl rfl Try.func87 (by kernel_rfl) rfl #[.agg #[.int .i64 a0_0,.int .i64 a0_1,.int .i64 a0_2]] rfl (by (try simp only [List.map_toArray,List.map_cons,List.map_nil]);first|done|rfl) ?_;(with_reducible refine (impl_CodeFault.calls a0_0 a0_1 a0_2 t _ ht.out).mono ?_);rintro e w3 ⟨rfl,hb⟩;refine ⟨_,rfl,?_⟩;have H_:=Aside0.mk (show Hs w w3 [(gs,.cells #[.int .i64 0,.slice none 0 0] 68 (0,0)),(gc,.cells #[.int .i64 a0_0,.int .i64 a0_1,.int .i64 a0_2] 43 (0,0))] from H.out.call hb);clear hb H;have H:=H_;clear H_)
  | ((with_reducible refine gate_dst (N:=12) rfl ?_);(try (refine gate_guard (by rfl) ?_;dsimp only));have hc_:=H.out.cellv (v:=.int .i64 a0_0) 1 rfl 0 rfl;refine load_at (.int .i64 a0_0) ?hg ?hr ?_;(case hg=>rfl);(case hr=>first|(go_simp;done)|(go_simp;rfl));clear hc_)
  | ((with_reducible refine gate_store (p:=4) rfl ?_);(try (refine gate_guard (by rfl) ?_;dsimp only));have hc0_:=H.out.cellv (v:=.int .i64 0) 0 rfl 0 rfl;have hf0_:=H.out.frozen 0 rfl 0;have hc1_:=H.out.cellv (v:=.slice none 0 0) 0 rfl 1 rfl;have hf1_:=H.out.frozen 0 rfl 1;refine store_at (fun W=>(World.setCell (World.setCell W ⟨gs,0,none⟩ (.int .i64 1)) ⟨gs,1,none⟩ (.slice none 0 0))) ?hg rfl ?hd ?hr ?_;(case hg=>rfl);(case hd=>rfl);(case hr=>first|(go_simp;done)|(go_simp;rfl));intro w4 hw;have H_:=Aside0.mk (show Hs w w4 [(gs,.cells #[.int .i64 1,.slice none 0 0] 68 (0,0)),(gc,.cells #[.int .i64 a0_0,.int .i64 a0_1,.int .i64 a0_2] 43 (0,0))] from by rw [hw];exact ((H.out.set 0 rfl 0 (.int .i64 1)).set 0 rfl 1 (.slice none 0 0)));clear hw hc0_ hf0_ hc1_ hf1_ H;have H:=H_;clear H_))
 exact bodyPost_ret (results_cell_row rfl _ _ gs 68 #[.int .i64 1,.slice none 0 0] (0,0) _ rfl (H.out.get 0 rfl) Try.underlying68 rfl (by kernel_rfl)) rfl ⟨_,rfl,Kd.R_nil _ _ _ _ _,H.out.below⟩

set_option maxHeartbeats 8000000 in
set_option maxRecDepth 100000 in
theorem encodeS_size (k : Nat) (a0_0 a0_1 a0_2 : Int) (A1 : Option Addr) (c1 : Nat) (l1 : List ByteArray) (t : Int) (w : World) (hc0 : Kd.C Kd.string w A1 l1.length l1) (hcc0 : l1.length ≤ c1) (h : impl_CodeFault.f a0_0 a0_1 a0_2 = some t) (b : Bool) (h1 : t = 0) (h2 : (l1.length : Int) = a0_0) (hb0 : impl_oneLength.f k l1 = some b) (h3 : b = false) : Calls Try.prog 35 #[.agg #[.int .i64 a0_0,.int .i64 a0_1,.int .i64 a0_2],.slice A1 l1.length c1] w fun e w'=>∃ v1_ : Value,e = .returned (.agg #[.int .i64 2,v1_]) ∧ Kd.R Kd.string 9 w' w.heap.size (fun _=>True) v1_ [] ∧ Below w.heap.size w w':=by
 have d1 : (t == 0) = true:=by simpa using h1
 have d2 : (t != 0) = false:=by simpa using h1
 clear h1
 have d3 : ((l1.length : Int) == a0_0) = true:=by simpa using h2
 have d4 : ((l1.length : Int) != a0_0) = false:=by simpa using h2
 subst h3
 clear h2
 have hb:=Aside0.mk hb0
 clear hb0
 have ht:=Aside0.mk h
 have hc:=Aside0.mk hc0
 have hcc:=Aside0.mk hcc0
 clear h hc0 hcc0
 have hu1:=Try.underlying43
 have hu2:=Try.underlying68
 have H:=Aside0.mk (Hs.nil w)
 go_enter Try.func35,Try.ntmps35
 go_wp2_with (first
  | ((with_reducible refine gate_dst (N:=2) rfl ?_);(try (refine gate_guard (by rfl) ?_;dsimp only));refine box_event ?hg (N:=2) ?hd (cs:=#[.int .i64 a0_0,.int .i64 a0_1,.int .i64 a0_2]) (t:=43) ?hr ?_;(case hd=>rfl);(case hg=>rfl);(case hr=>first|(go_simp;done)|(go_simp;rfl));intro gc hg w1 hbox hb;have H_:=Aside0.mk (Hs.push H.out (Nat.le_of_eq hg.symm) hbox hb);clear hbox hb hg H;have H:=H_;clear H_)
  | ((with_reducible refine gate_dst (N:=4) rfl ?_);(try (refine gate_guard (by rfl) ?_;dsimp only));refine box_event ?hg (N:=4) ?hd (cs:=#[.int .i64 0,.slice none 0 0]) (t:=68) ?hr ?_;(case hd=>rfl);(case hg=>rfl);(case hr=>first|(go_simp;done)|(go_simp;rfl));intro gs hg w2 hbox hb;have H_:=Aside0.mk (Hs.push H.out (Nat.le_of_eq hg.symm) hbox hb);clear hbox hb hg H;have H:=H_;clear H_)
  | ((with_reducible refine gate_dst (N:=5) rfl ?_);(try (refine gate_guard (by rfl) ?_;dsimp only));have hc0_:=H.out.cellv (v:=.int .i64 a0_0) 1 rfl 0 rfl;have hc1_:=H.out.cellv (v:=.int .i64 a0_1) 1 rfl 1 rfl;have hc2_:=H.out.cellv (v:=.int .i64 a0_2) 1 rfl 2 rfl;refine load_at (.agg #[.int .i64 a0_0,.int .i64 a0_1,.int .i64 a0_2]) ?hg ?hr ?_;(case hg=>rfl);(case hr=>first|(go_simp;done)|(go_simp;rfl));clear hc0_ hc1_ hc2_)
  | ((with_reducible refine gate_callee (f:=87) rfl ?_);(try (refine gate_guard (by rfl) ?_;dsimp only));refine goesL_ (some 6) rfl rfl Try.func87 (by kernel_rfl) rfl #[.agg #[.int .i64 a0_0,.int .i64 a0_1,.int .i64 a0_2]] rfl (by (try simp only [List.map_toArray,List.map_cons,List.map_nil]);first|done|rfl) ?_;(with_reducible refine (impl_CodeFault.calls a0_0 a0_1 a0_2 t _ ht.out).mono ?_);rintro e w3 ⟨rfl,hb⟩;refine ⟨_,rfl,?_⟩;have H_:=Aside0.mk (show Hs w w3 [(gs,.cells #[.int .i64 0,.slice none 0 0] 68 (0,0)),(gc,.cells #[.int .i64 a0_0,.int .i64 a0_1,.int .i64 a0_2] 43 (0,0))] from H.out.call hb);clear hb H;have H:=H_;clear H_)
  | ((with_reducible refine gate_dst (N:=12) rfl ?_);(try (refine gate_guard (by rfl) ?_;dsimp only));have hc_:=H.out.cellv (v:=.int .i64 a0_0) 1 rfl 0 rfl;refine load_at (.int .i64 a0_0) ?hg ?hr ?_;(case hg=>rfl);(case hr=>first|(go_simp;done)|(go_simp;rfl));clear hc_)
  | ((with_reducible refine gate_callee (f:=88) rfl ?_);(try (refine gate_guard (by rfl) ?_;dsimp only));refine goesL_ (some 17) rfl rfl Try.func88 (by kernel_rfl) rfl #[.slice A1 l1.length c1] rfl (by (try simp only [List.map_toArray,List.map_cons,List.map_nil]);first|done|rfl) ?_;(with_reducible refine (impl_oneLength.calls k A1 c1 l1 false _ (Kd.C_below hc.out H.out.below) hcc.out hb.out).mono ?_);rintro e w4 ⟨rfl,hb⟩;refine ⟨_,rfl,?_⟩;have H_:=Aside0.mk (show Hs w w4 [(gs,.cells #[.int .i64 0,.slice none 0 0] 68 (0,0)),(gc,.cells #[.int .i64 a0_0,.int .i64 a0_1,.int .i64 a0_2] 43 (0,0))] from H.out.draw hb);clear hb H;have H:=H_;clear H_)
  | ((with_reducible refine gate_store (p:=4) rfl ?_);(try (refine gate_guard (by rfl) ?_;dsimp only));have hc0_:=H.out.cellv (v:=.int .i64 0) 0 rfl 0 rfl;have hf0_:=H.out.frozen 0 rfl 0;have hc1_:=H.out.cellv (v:=.slice none 0 0) 0 rfl 1 rfl;have hf1_:=H.out.frozen 0 rfl 1;refine store_at (fun W=>(World.setCell (World.setCell W ⟨gs,0,none⟩ (.int .i64 2)) ⟨gs,1,none⟩ (.slice none 0 0))) ?hg rfl ?hd ?hr ?_;(case hg=>rfl);(case hd=>rfl);(case hr=>first|(go_simp;done)|(go_simp;rfl));intro w5 hw;have H_:=Aside0.mk (show Hs w w5 [(gs,.cells #[.int .i64 2,.slice none 0 0] 68 (0,0)),(gc,.cells #[.int .i64 a0_0,.int .i64 a0_1,.int .i64 a0_2] 43 (0,0))] from by rw [hw];exact ((H.out.set 0 rfl 0 (.int .i64 2)).set 0 rfl 1 (.slice none 0 0)));clear hw hc0_ hf0_ hc1_ hf1_ H;have H:=H_;clear H_))
 exact bodyPost_ret (results_cell_row rfl _ _ gs 68 #[.int .i64 2,.slice none 0 0] (0,0) _ rfl (H.out.get 0 rfl) Try.underlying68 rfl (by kernel_rfl)) rfl ⟨_,rfl,Kd.R_nil _ _ _ _ _,H.out.below⟩

set_option maxHeartbeats 8000000 in
set_option maxRecDepth 100000 in
theorem encodeS_good (k : Nat) (K M G : Nat) (A1 : Option Addr) (c1 : Nat) (l1 : List ByteArray) (t : Int) (w : World) (hc0 : Kd.C Kd.string w A1 l1.length l1) (hcc0 : l1.length ≤ c1) (h : impl_CodeFault.f K M G = some t) (b : Bool) (h1 : t = 0) (hl0 : l1.length = K) (hb0 : impl_oneLength.f k l1 = some b) (h3 : b = true) (f1 : 1 ≤ K) (f2 : K ≤ 32) (f4 : M ≤ 16) (f5 : G ≤ K) (f6 : K + M + G ≤ 64) (f7 : ∀ j : Nat,j < l1.length → (rdOf ByteArray.empty l1 (j : Int)).size = (rdOf ByteArray.empty l1 0).size) (f8 : (rdOf ByteArray.empty l1 0).size ≤ 4096) : Calls Try.prog 35 #[.agg #[.int .i64 K,.int .i64 M,.int .i64 G],.slice A1 l1.length c1] w fun e w'=>∃ v1_ : Value,e = .returned (.agg #[.int .i64 0,v1_]) ∧ Kd.R Kd.string 9 w' w.heap.size (fun _=>True) v1_ (encV K M G (rdOf ByteArray.empty l1 0).size l1) ∧ Below w.heap.size w w':=by
 have d1 : (t == 0) = true:=by simpa using h1
 have d2 : (t != 0) = false:=by simpa using h1
 clear h1
 have d3 : ((l1.length : Int) == (K : Int)) = true:=by rw [beq_iff_eq];omega
 have d4 : ((l1.length : Int) != (K : Int)) = false:=by rw [bne_eq_false_iff_eq];omega
 have d5 : (l1.length == K) = true:=by rw [beq_iff_eq];omega
 have d6 : (l1.length != K) = false:=by rw [bne_eq_false_iff_eq];omega
 subst h3
 have hl:=Aside0.mk hl0
 have hb:=Aside0.mk hb0
 replace f1:=Aside0.mk f1
 replace f2:=Aside0.mk f2
 replace f4:=Aside0.mk f4
 replace f5:=Aside0.mk f5
 replace f6:=Aside0.mk f6
 replace f7:=Aside0.mk f7
 replace f8:=Aside0.mk f8
 clear hb0
 have ht:=Aside0.mk h
 have hc:=Aside0.mk hc0
 have hcc:=Aside0.mk hcc0
 clear h hc0 hcc0
 have hu1:=Try.underlying43
 have hu2:=Try.underlying68
 have H:=Aside0.mk (Hs.nil w)
 clear hl0
 go_enter Try.func35,Try.ntmps35
 go_wp2_with (first
  | ((with_reducible refine gate_dst (N:=2) rfl ?_);(try (refine gate_guard (by rfl) ?_;dsimp only));refine box_event ?hg (N:=2) ?hd (cs:=#[.int .i64 K,.int .i64 M,.int .i64 G]) (t:=43) ?hr ?_;(case hd=>rfl);(case hg=>rfl);(case hr=>first|(go_simp;done)|(go_simp;rfl));intro gc hg w1 hbox hb;have H_:=Aside0.mk (Hs.push H.out (Nat.le_of_eq hg.symm) hbox hb);clear hbox hb hg H;have H:=H_;clear H_)
  | ((with_reducible refine gate_dst (N:=4) rfl ?_);(try (refine gate_guard (by rfl) ?_;dsimp only));refine box_event ?hg (N:=4) ?hd (cs:=#[.int .i64 0,.slice none 0 0]) (t:=68) ?hr ?_;(case hd=>rfl);(case hg=>rfl);(case hr=>first|(go_simp;done)|(go_simp;rfl));intro gs hg w2 hbox hb;have H_:=Aside0.mk (Hs.push H.out (Nat.le_of_eq hg.symm) hbox hb);clear hbox hb hg H;have H:=H_;clear H_)
  | ((with_reducible refine gate_dst (N:=5) rfl ?_);(try (refine gate_guard (by rfl) ?_;dsimp only));have hc0_:=H.out.cellv (v:=.int .i64 K) 1 rfl 0 rfl;have hc1_:=H.out.cellv (v:=.int .i64 M) 1 rfl 1 rfl;have hc2_:=H.out.cellv (v:=.int .i64 G) 1 rfl 2 rfl;refine load_at (.agg #[.int .i64 K,.int .i64 M,.int .i64 G]) ?hg ?hr ?_;(case hg=>rfl);(case hr=>first|(go_simp;done)|(go_simp;rfl));clear hc0_ hc1_ hc2_)
  | ((with_reducible refine gate_callee (f:=87) rfl ?_);(try (refine gate_guard (by rfl) ?_;dsimp only));refine goesL_ (some 6) rfl rfl Try.func87 (by kernel_rfl) rfl #[.agg #[.int .i64 K,.int .i64 M,.int .i64 G]] rfl (by (try simp only [List.map_toArray,List.map_cons,List.map_nil]);first|done|rfl) ?_;(with_reducible refine (impl_CodeFault.calls K M G t _ ht.out).mono ?_);rintro e w3 ⟨rfl,hb⟩;refine ⟨_,rfl,?_⟩;have H_:=Aside0.mk (show Hs w w3 [(gs,.cells #[.int .i64 0,.slice none 0 0] 68 (0,0)),(gc,.cells #[.int .i64 K,.int .i64 M,.int .i64 G] 43 (0,0))] from H.out.call hb);clear hb H;have H:=H_;clear H_)
  | ((with_reducible refine gate_dst (N:=12) rfl ?_);(try (refine gate_guard (by rfl) ?_;dsimp only));have hc_:=H.out.cellv (v:=.int .i64 K) 1 rfl 0 rfl;refine load_at (.int .i64 K) ?hg ?hr ?_;(case hg=>rfl);(case hr=>first|(go_simp;done)|(go_simp;rfl));clear hc_)
  | ((with_reducible refine gate_callee (f:=88) rfl ?_);(try (refine gate_guard (by rfl) ?_;dsimp only));refine goesL_ (some 17) rfl rfl Try.func88 (by kernel_rfl) rfl #[.slice A1 l1.length c1] rfl (by (try simp only [List.map_toArray,List.map_cons,List.map_nil]);first|done|rfl) ?_;(with_reducible refine (impl_oneLength.calls k A1 c1 l1 true _ (Kd.C_below hc.out H.out.below) hcc.out hb.out).mono ?_);rintro e w4 ⟨rfl,hb⟩;refine ⟨_,rfl,?_⟩;have H_:=Aside0.mk (show Hs w w4 [(gs,.cells #[.int .i64 0,.slice none 0 0] 68 (0,0)),(gc,.cells #[.int .i64 K,.int .i64 M,.int .i64 G] 43 (0,0))] from H.out.draw hb);clear hb H;have H:=H_;clear H_)
  | ((with_reducible refine gate_dst (N:=20) rfl ?_);(try (refine gate_guard (by rfl) ?_;dsimp only));have hc0_:=H.out.cellv (v:=.int .i64 K) 1 rfl 0 rfl;have hc1_:=H.out.cellv (v:=.int .i64 M) 1 rfl 1 rfl;have hc2_:=H.out.cellv (v:=.int .i64 G) 1 rfl 2 rfl;refine load_at (.agg #[.int .i64 K,.int .i64 M,.int .i64 G]) ?hg ?hr ?_;(case hg=>rfl);(case hr=>first|(go_simp;done)|(go_simp;rfl));clear hc0_ hc1_ hc2_)
  | ((with_reducible refine gate_callee (f:=84) rfl ?_);(try (refine gate_guard (by rfl) ?_;dsimp only));refine goesL_ (some 21) rfl rfl Try.func84 (by kernel_rfl) rfl #[.agg #[.int .i64 K,.int .i64 M,.int .i64 G]] rfl (by (try simp only [List.map_toArray,List.map_cons,List.map_nil]);first|done|rfl) ?_;(with_reducible refine (newPlant_calls K M G _ f1.out f2.out f4.out f5.out).mono ?_);rintro e wP ⟨gt,gp,vg,vl,rfl,hP,hb⟩;refine ⟨_,rfl,?_⟩;have hP0:=Aside0.mk hP;clear hP;have H_:=Aside0.mk (H.out.call hb);clear H;have H:=H_;clear H_ hb)
  | ((with_reducible refine gate_callee (f:=85) rfl ?_);(try (refine gate_guard (by rfl) ?_;dsimp only));refine goesL_ (some 23) rfl rfl Try.func85 (by kernel_rfl) rfl #[.pointer (some ⟨gp,0,none⟩),.slice A1 l1.length c1] rfl (by (try simp only [List.map_toArray,List.map_cons,List.map_nil]);first|done|rfl) ?_;(with_reducible refine (encode_at gt gp K M G vg vl _ hP0.out A1 c1 l1 (rdOf ByteArray.empty l1 0).size l1.length (Kd.C_below hc.out H.out.below) hl.out hl.out f1.out f2.out f4.out f5.out f6.out f7.out f8.out).mono ?_);rintro e wE ⟨v,rfl,hR0,hb⟩;refine ⟨_,rfl,?_⟩;have hR:=Aside0.mk hR0;clear hR0;obtain ⟨Av,cv,rfl⟩:=Kd.R_slice hR.out;have hgs:=Aside0.mk (H.out.lt 0 rfl);have hsz_:=Aside0.mk H.out.size;have H_:=Aside0.mk (H.out.call hb);clear H;have H:=H_;clear H_ hb)
  | ((with_reducible refine gate_store (p:=4) rfl ?_);(try (refine gate_guard (by rfl) ?_;dsimp only));have hc0_:=H.out.cellv (v:=.int .i64 0) 0 rfl 0 rfl;have hf0_:=H.out.frozen 0 rfl 0;have hc1_:=H.out.cellv (v:=.slice none 0 0) 0 rfl 1 rfl;have hf1_:=H.out.frozen 0 rfl 1;refine store_at (fun W=>(World.setCell (World.setCell W ⟨gs,0,none⟩ (.int .i64 0)) ⟨gs,1,none⟩ (.slice Av (encV K M G (rdOf ByteArray.empty l1 0).size l1).length cv))) ?hg rfl ?hd ?hr ?_;(case hg=>rfl);(case hd=>rfl);(case hr=>first|(go_simp;done)|(go_simp;rfl));intro w41 hw;have hR9 : Aside0 (Kd.R Kd.string 9 w41 wP.heap.size (fun _=>True) (.slice Av (encV K M G (rdOf ByteArray.empty l1 0).size l1).length cv) (encV K M G (rdOf ByteArray.empty l1 0).size l1)):=⟨by rw [hw];exact Kd.R_mono (Kd.R_far (p:=⟨gs,1,none⟩) (Kd.R_far (p:=⟨gs,0,none⟩) (Kd.R_bound hR.out) (fun k_ hk_ e_=>by have h1_:=hk_.2.1;have h2_ : k_ = gs:=e_;have h3_:=hgs.out;omega) _) (fun k_ hk_ e_=>by have h1_:=hk_.1;have h2_ : k_ = gs:=e_;have h3_:=hk_.2.1;have h4_:=hgs.out;omega) _) (fun _ _=>trivial)⟩;have H_:=Aside0.mk (show Hs w w41 [(gs,.cells #[.int .i64 0,.slice Av (encV K M G (rdOf ByteArray.empty l1 0).size l1).length cv] 68 (0,0)),(gc,.cells #[.int .i64 K,.int .i64 M,.int .i64 G] 43 (0,0))] from by rw [hw];exact ((H.out.set 0 rfl 0 (.int .i64 0)).set 0 rfl 1 (.slice Av (encV K M G (rdOf ByteArray.empty l1 0).size l1).length cv)));clear hw hc0_ hf0_ hc1_ hf1_ H;have H:=H_;clear H_))
 exact bodyPost_ret (results_cell_row rfl _ _ gs 68 #[.int .i64 0,.slice Av (encV K M G (rdOf ByteArray.empty l1 0).size l1).length cv] (0,0) _ rfl (H.out.get 0 rfl) Try.underlying68 rfl (by kernel_rfl)) rfl ⟨_,rfl,Kd.R_lower hR9.out hsz_.out,H.out.below⟩

def impl_EncodeShards.f (k : Nat) (a0_0 a0_1 a0_2 : Int) (l1 : List ByteArray) : Option (Int × List ByteArray):=(impl_CodeFault.f a0_0 a0_1 a0_2).bind fun t=>if t = 0 then (if (l1.length : Int) = a0_0 then ((impl_oneLength.f k l1).bind fun b=>if b = true then (if (rdOf ByteArray.empty l1 0).size ≤ 4096 ∧ (∀ j,j < l1.length → (rdOf ByteArray.empty l1 (j : Int)).size = (rdOf ByteArray.empty l1 0).size) then some (0,encV a0_0.toNat a0_1.toNat a0_2.toNat (rdOf ByteArray.empty l1 0).size l1) else none) else some (2,[])) else some (1,[])) else some (1,[])
theorem impl_EncodeShards.calls (k : Nat) (a0_0 : Int) (a0_1 : Int) (a0_2 : Int) (A1 : Option Addr) (c1 : Nat) (l1 : List ByteArray) (r1 : Int) (r2 : List ByteArray) (w : World) (hr1 : Kd.C Kd.string w A1 l1.length l1) (hc1 : l1.length ≤ c1) (h : impl_EncodeShards.f k a0_0 a0_1 a0_2 l1 = some (r1,r2)) :
  Calls Try.prog 35 #[.agg #[.int .i64 a0_0,.int .i64 a0_1,.int .i64 a0_2],.slice A1 l1.length c1] w fun e w'=>∃ v1_ : Value,e = .returned (.agg #[.int .i64 r1,v1_]) ∧ Kd.R Kd.string 9 w' w.heap.size (fun _=>True) v1_ r2 ∧ Below w.heap.size w w':=by
 unfold impl_EncodeShards.f at h
 obtain ⟨t,ht,h⟩:=Option.bind_eq_some_iff.mp h
 by_cases h0 : t = 0
 ·rw [if_pos h0] at h
  by_cases h2 : (l1.length : Int) = a0_0
  ·rw [if_pos h2] at h
   obtain ⟨b,hb,h⟩:=Option.bind_eq_some_iff.mp h
   by_cases h3 : b = true
   ·rw [if_pos h3] at h
    by_cases h4 : (rdOf ByteArray.empty l1 0).size ≤ 4096 ∧ (∀ j,j < l1.length → (rdOf ByteArray.empty l1 (j : Int)).size = (rdOf ByteArray.empty l1 0).size)
    ·rw [if_pos h4] at h
     simp only [Option.some.injEq,Prod.mk.injEq] at h
     obtain ⟨rfl,rfl⟩:=h
     subst h0
     obtain ⟨f1,f2,f3,f4,f5,f6,f7⟩:=fault_okE ht
     obtain ⟨K,rfl⟩:=Int.eq_ofNat_of_zero_le (show 0 ≤ a0_0 by omega)
     obtain ⟨M,rfl⟩:=Int.eq_ofNat_of_zero_le f3
     obtain ⟨G,rfl⟩:=Int.eq_ofNat_of_zero_le f5
     simp only [Int.toNat_natCast]
     exact encodeS_good k K M G A1 c1 l1 0 w hr1 hc1 ht b rfl (by omega) hb h3 (by omega) (by omega) (by omega) (by omega) (by omega) h4.2 h4.1
    ·rw [if_neg h4] at h;cases h
   ·rw [if_neg h3] at h
    simp only [Option.some.injEq,Prod.mk.injEq] at h
    obtain ⟨rfl,rfl⟩:=h
    exact encodeS_size k a0_0 a0_1 a0_2 A1 c1 l1 t w hr1 hc1 ht b h0 h2 hb (Bool.eq_false_iff.2 h3)
  ·rw [if_neg h2] at h
   simp only [Option.some.injEq,Prod.mk.injEq] at h
   obtain ⟨rfl,rfl⟩:=h
   exact encodeS_form k a0_0 a0_1 a0_2 A1 c1 l1 t w hr1 hc1 ht h0 h2
 ·rw [if_neg h0] at h
  simp only [Option.some.injEq,Prod.mk.injEq] at h
  obtain ⟨rfl,rfl⟩:=h
  exact encodeS_bad k a0_0 a0_1 a0_2 A1 c1 l1 t w hr1 hc1 ht h0

end Go.Proofs.Ytffhbpepppodeaa.PFnRepaired
