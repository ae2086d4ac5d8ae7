import Derived.Test.YtffhbpepppodeaaPFnExactJoinObjectx0
import Derived.Test.YtffhbpepppodeaaPFnExactJoinObjectx1
import Derived.Test.YtffhbpepppodeaaPlant3FnExactJoinObject
import Derived.Test.YtffhbpepppodeaaPlant5FnExactJoinObject
import Derived.Test.YtffhbpepppodeaaPlant6FnExactJoinObject
namespace Go.Proofs.Ytffhbpepppodeaa.PFnExactJoinObject
open Go.RowKit Go.Proofs.YtffhbpepppodeaaW.PrintWords Go.Proofs.YtffhbpepppodeaaW.PrintLast Go.Proofs.YtffhbpepppodeaaW.PrintMore
open Go.Proofs.Ytffhbpepppodeaa.Hs Go.Proofs.Ytffhbpepppodeaa.Gf Go.Proofs.Ytffhbpepppodeaa.Grid Go.Proofs.Ytffhbpepppodeaa.Reduce Go.Proofs.Ytffhbpepppodeaa.Plant Go.Proofs.Ytffhbpepppodeaa.Plant2 Go.Proofs.Ytffhbpepppodeaa.Plant3 Go.Proofs.Ytffhbpepppodeaa.Plant4 Go.Proofs.Ytffhbpepppodeaa.Plant5 Go.Proofs.Ytffhbpepppodeaa.Plant6

theorem fault_okD {a0_0 a0_1 a0_2 : Int} (h : a4.f a0_0 a0_1 a0_2 = some 0) : 1 ≤ a0_0 ∧ a0_0 ≤ 32 ∧ 0 ≤ a0_1 ∧ a0_1 ≤ 16 ∧ 0 ≤ a0_2 ∧ a0_2 ≤ a0_0 ∧ a0_0 + a0_1 + a0_2 ≤ 64:=by
 unfold a4.f at h
 by_cases c1 : a0_0 < 1
 ·rw [if_pos c1] at h;cases h
 rw [if_neg c1] at h
 by_cases c2 : a0_0 > 32
 ·rw [if_pos c2] at h;cases h
 rw [if_neg c2] at h
 by_cases c3 : a0_1 < 0
 ·rw [if_pos c3] at h;cases h
 rw [if_neg c3] at h
 by_cases c4 : a0_1 > 16
 ·rw [if_pos c4] at h;cases h
 rw [if_neg c4] at h
 by_cases c5 : a0_2 < 0
 ·rw [if_pos c5] at h;cases h
 rw [if_neg c5] at h
 by_cases c6 : a0_2 > a0_0
 ·rw [if_pos c6] at h;cases h
 rw [if_neg c6] at h
 by_cases c7 : (wrap64 ((wrap64 (a0_0 + a0_1)) + a0_2)) > 64
 ·rw [if_pos c7] at h;cases h
 ·have e1 : wrap64 (a0_0 + a0_1) = a0_0 + a0_1:=by unfold wrap64;omega
  rw [e1] at c7
  have e2 : wrap64 (a0_0 + a0_1 + a0_2) = a0_0 + a0_1 + a0_2:=by unfold wrap64;omega
  rw [e2] at c7
  omega

set_option maxHeartbeats 8000000 in
set_option maxRecDepth 100000 in
theorem decodeS_bad (k : Nat) (a0_0 a0_1 a0_2 : Int) (A1 : Option Addr) (c1 : Nat) (l1 : List (S61)) (t : Int) (w : World) (hc0 : Kd.C k61 w A1 l1.length l1) (hcc0 : l1.length ≤ c1) (h : a4.f a0_0 a0_1 a0_2 = some t) (h1 : ¬ t = 0) : Calls Try.prog 38 #[.agg #[.int .i64 a0_0,.int .i64 a0_1,.int .i64 a0_2],.slice A1 l1.length c1] w fun e w'=>∃ v1_ : Value,e = .returned (.agg #[.int .i64 1,v1_]) ∧ Kd.R Kd.string 9 w' w.heap.size (fun _=>True) v1_ [] ∧ Below w.heap.size w w':=by
 have d1 : (t == 0) = false:=by simpa using h1
 have d2 : (t != 0) = true:=by simpa using h1
 clear h1
 have ht:=Aside0.mk h
 have hc:=Aside0.mk hc0
 have hcc:=Aside0.mk hcc0
 clear h hc0 hcc0
 have hu1:=Try.underlying43
 have hu2:=Try.underlying68
 have H:=Aside0.mk (Hs.nil w)
 go_enter Try.func38,Try.ntmps38
 go_wp2_with (first
  | ((with_reducible refine ak (N:=2) rfl ?_);(try (refine au (by rfl) ?_;dsimp only));refine aw ?hg (N:=2) ?hd (cs:=#[.int .i64 a0_0,.int .i64 a0_1,.int .i64 a0_2]) (t:=43) ?hr ?_;(case hd=>rfl);(case hg=>rfl);(case hr=>first|(go_simp;done)|(go_simp;rfl));intro gc hg w1 hbox hb;have H_:=Aside0.mk (Hs.push H.out (Nat.le_of_eq hg.symm) hbox hb);clear hbox hb hg H;have H:=H_;clear H_)
  | ((with_reducible refine ak (N:=4) rfl ?_);(try (refine au (by rfl) ?_;dsimp only));refine aw ?hg (N:=4) ?hd (cs:=#[.int .i64 0,.slice none 0 0]) (t:=68) ?hr ?_;(case hd=>rfl);(case hg=>rfl);(case hr=>first|(go_simp;done)|(go_simp;rfl));intro gs hg w2 hbox hb;have H_:=Aside0.mk (Hs.push H.out (Nat.le_of_eq hg.symm) hbox hb);clear hbox hb hg H;have H:=H_;clear H_)
  | ((with_reducible refine ak (N:=10) rfl ?_);(try (refine au (by rfl) ?_;dsimp only));have hc0_:=H.out.aJ (v:=.int .i64 a0_0) 1 rfl 0 rfl;have hc1_:=H.out.aJ (v:=.int .i64 a0_1) 1 rfl 1 rfl;have hc2_:=H.out.aJ (v:=.int .i64 a0_2) 1 rfl 2 rfl;refine cY (.agg #[.int .i64 a0_0,.int .i64 a0_1,.int .i64 a0_2]) ?hg ?hr ?_;(case hg=>rfl);(case hr=>first|(go_simp;done)|(go_simp;rfl));clear hc0_ hc1_ hc2_)
  | ((with_reducible refine ah (f:=87) rfl ?_);(try (refine au (by rfl) ?_;dsimp only));refine aH (some 11) rfl rfl Try.func87 (by kernel_rfl) rfl #[.agg #[.int .i64 a0_0,.int .i64 a0_1,.int .i64 a0_2]] rfl (by (try simp only [List.map_toArray,List.map_cons,List.map_nil]);first|done|rfl) ?_;(with_reducible refine (a4.calls a0_0 a0_1 a0_2 t _ ht.out).mono ?_);rintro e w3 ⟨rfl,hb⟩;refine ⟨_,rfl,?_⟩;have H_:=Aside0.mk (show Hs w w3 [(gs,.cells #[.int .i64 0,.slice none 0 0] 68 (0,0)),(gc,.cells #[.int .i64 a0_0,.int .i64 a0_1,.int .i64 a0_2] 43 (0,0))] from H.out.call hb);clear hb H;have H:=H_;clear H_)
  | ((with_reducible refine bo (p:=4) rfl ?_);(try (refine au (by rfl) ?_;dsimp only));have hc0_:=H.out.aJ (v:=.int .i64 0) 0 rfl 0 rfl;have hf0_:=H.out.frozen 0 rfl 0;have hc1_:=H.out.aJ (v:=.slice none 0 0) 0 rfl 1 rfl;have hf1_:=H.out.frozen 0 rfl 1;refine dp (fun W=>(World.setCell (World.setCell W ⟨gs,0,none⟩ (.int .i64 1)) ⟨gs,1,none⟩ (.slice none 0 0))) ?hg rfl ?hd ?hr ?_;(case hg=>rfl);(case hd=>rfl);(case hr=>first|(go_simp;done)|(go_simp;rfl));intro w4 hw;have H_:=Aside0.mk (show Hs w w4 [(gs,.cells #[.int .i64 1,.slice none 0 0] 68 (0,0)),(gc,.cells #[.int .i64 a0_0,.int .i64 a0_1,.int .i64 a0_2] 43 (0,0))] from by rw [hw];exact ((H.out.set 0 rfl 0 (.int .i64 1)).set 0 rfl 1 (.slice none 0 0)));clear hw hc0_ hf0_ hc1_ hf1_ H;have H:=H_;clear H_))
 exact bodyPost_ret (results_cell_row rfl _ _ gs 68 #[.int .i64 1,.slice none 0 0] (0,0) _ rfl (H.out.get 0 rfl) Try.underlying68 rfl (by kernel_rfl)) rfl ⟨_,rfl,Kd.R_nil _ _ _ _ _,H.out.below⟩

set_option maxHeartbeats 8000000 in
set_option maxRecDepth 100000 in
theorem decodeS_form (k : Nat) (a0_0 a0_1 a0_2 : Int) (A1 : Option Addr) (c1 : Nat) (l1 : List (S61)) (t : Int) (w : World) (hc0 : Kd.C k61 w A1 l1.length l1) (hcc0 : l1.length ≤ c1) (h : a4.f a0_0 a0_1 a0_2 = some t) (s : Int) (hs0 : bT.f a0_0 a0_1 a0_2 = some s) (h1 : t = 0) (h2 : ¬ (l1.length : Int) = s) : Calls Try.prog 38 #[.agg #[.int .i64 a0_0,.int .i64 a0_1,.int .i64 a0_2],.slice A1 l1.length c1] w fun e w'=>∃ v1_ : Value,e = .returned (.agg #[.int .i64 1,v1_]) ∧ Kd.R Kd.string 9 w' w.heap.size (fun _=>True) v1_ [] ∧ Below w.heap.size w w':=by
 have d1 : (t == 0) = true:=by simpa using h1
 have d2 : (t != 0) = false:=by simpa using h1
 clear h1
 have d3 : ((l1.length : Int) == s) = false:=by simpa using h2
 have d4 : ((l1.length : Int) != s) = true:=by simpa using h2
 clear h2
 have hs:=Aside0.mk hs0
 clear hs0
 have ht:=Aside0.mk h
 have hc:=Aside0.mk hc0
 have hcc:=Aside0.mk hcc0
 clear h hc0 hcc0
 have hu1:=Try.underlying43
 have hu2:=Try.underlying68
 have H:=Aside0.mk (Hs.nil w)
 go_enter Try.func38,Try.ntmps38
 go_wp2_with (first
  | ((with_reducible refine ak (N:=2) rfl ?_);(try (refine au (by rfl) ?_;dsimp only));refine aw ?hg (N:=2) ?hd (cs:=#[.int .i64 a0_0,.int .i64 a0_1,.int .i64 a0_2]) (t:=43) ?hr ?_;(case hd=>rfl);(case hg=>rfl);(case hr=>first|(go_simp;done)|(go_simp;rfl));intro gc hg w1 hbox hb;have H_:=Aside0.mk (Hs.push H.out (Nat.le_of_eq hg.symm) hbox hb);clear hbox hb hg H;have H:=H_;clear H_)
  | ((with_reducible refine ak (N:=4) rfl ?_);(try (refine au (by rfl) ?_;dsimp only));refine aw ?hg (N:=4) ?hd (cs:=#[.int .i64 0,.slice none 0 0]) (t:=68) ?hr ?_;(case hd=>rfl);(case hg=>rfl);(case hr=>first|(go_simp;done)|(go_simp;rfl));intro gs hg w2 hbox hb;have H_:=Aside0.mk (Hs.push H.out (Nat.le_of_eq hg.symm) hbox hb);clear hbox hb hg H;have H:=H_;clear H_)
  | ((with_reducible refine ak (N:=10) rfl ?_);(try (refine au (by rfl) ?_;dsimp only));have hc0_:=H.out.aJ (v:=.int .i64 a0_0) 1 rfl 0 rfl;have hc1_:=H.out.aJ (v:=.int .i64 a0_1) 1 rfl 1 rfl;have hc2_:=H.out.aJ (v:=.int .i64 a0_2) 1 rfl 2 rfl;refine cY (.agg #[.int .i64 a0_0,.int .i64 a0_1,.int .i64 a0_2]) ?hg ?hr ?_;(case hg=>rfl);(case hr=>first|(go_simp;done)|(go_simp;rfl));clear hc0_ hc1_ hc2_)
  | ((with_reducible refine ah (f:=87) rfl ?_);(try (refine au (by rfl) ?_;dsimp only));refine aH (some 11) rfl rfl Try.func87 (by kernel_rfl) rfl #[.agg #[.int .i64 a0_0,.int .i64 a0_1,.int .i64 a0_2]] rfl (by (try simp only [List.map_toArray,List.map_cons,List.map_nil]);first|done|rfl) ?_;(with_reducible refine (a4.calls a0_0 a0_1 a0_2 t _ ht.out).mono ?_);rintro e w3 ⟨rfl,hb⟩;refine ⟨_,rfl,?_⟩;have H_:=Aside0.mk (show Hs w w3 [(gs,.cells #[.int .i64 0,.slice none 0 0] 68 (0,0)),(gc,.cells #[.int .i64 a0_0,.int .i64 a0_1,.int .i64 a0_2] 43 (0,0))] from H.out.call hb);clear hb H;have H:=H_;clear H_)
  | ((with_reducible refine ak (N:=16) rfl ?_);(try (refine au (by rfl) ?_;dsimp only));have hc0_:=H.out.aJ (v:=.int .i64 a0_0) 1 rfl 0 rfl;have hc1_:=H.out.aJ (v:=.int .i64 a0_1) 1 rfl 1 rfl;have hc2_:=H.out.aJ (v:=.int .i64 a0_2) 1 rfl 2 rfl;refine cY (.agg #[.int .i64 a0_0,.int .i64 a0_1,.int .i64 a0_2]) ?hg ?hr ?_;(case hg=>rfl);(case hr=>first|(go_simp;done)|(go_simp;rfl));clear hc0_ hc1_ hc2_)
  | ((with_reducible refine ah (f:=92) rfl ?_);(try (refine au (by rfl) ?_;dsimp only));refine aH (some 17) rfl rfl Try.func92 (by kernel_rfl) rfl #[.agg #[.int .i64 a0_0,.int .i64 a0_1,.int .i64 a0_2]] rfl (by (try simp only [List.map_toArray,List.map_cons,List.map_nil]);first|done|rfl) ?_;(with_reducible refine (bT.calls a0_0 a0_1 a0_2 s _ hs.out).mono ?_);rintro e w4 ⟨rfl,hb⟩;refine ⟨_,rfl,?_⟩;have H_:=Aside0.mk (show Hs w w4 [(gs,.cells #[.int .i64 0,.slice none 0 0] 68 (0,0)),(gc,.cells #[.int .i64 a0_0,.int .i64 a0_1,.int .i64 a0_2] 43 (0,0))] from H.out.call hb);clear hb H;have H:=H_;clear H_)
  | ((with_reducible refine bo (p:=4) rfl ?_);(try (refine au (by rfl) ?_;dsimp only));have hc0_:=H.out.aJ (v:=.int .i64 0) 0 rfl 0 rfl;have hf0_:=H.out.frozen 0 rfl 0;have hc1_:=H.out.aJ (v:=.slice none 0 0) 0 rfl 1 rfl;have hf1_:=H.out.frozen 0 rfl 1;refine dp (fun W=>(World.setCell (World.setCell W ⟨gs,0,none⟩ (.int .i64 1)) ⟨gs,1,none⟩ (.slice none 0 0))) ?hg rfl ?hd ?hr ?_;(case hg=>rfl);(case hd=>rfl);(case hr=>first|(go_simp;done)|(go_simp;rfl));intro w5 hw;have H_:=Aside0.mk (show Hs w w5 [(gs,.cells #[.int .i64 1,.slice none 0 0] 68 (0,0)),(gc,.cells #[.int .i64 a0_0,.int .i64 a0_1,.int .i64 a0_2] 43 (0,0))] from by rw [hw];exact ((H.out.set 0 rfl 0 (.int .i64 1)).set 0 rfl 1 (.slice none 0 0)));clear hw hc0_ hf0_ hc1_ hf1_ H;have H:=H_;clear H_))
 exact bodyPost_ret (results_cell_row rfl _ _ gs 68 #[.int .i64 1,.slice none 0 0] (0,0) _ rfl (H.out.get 0 rfl) Try.underlying68 rfl (by kernel_rfl)) rfl ⟨_,rfl,Kd.R_nil _ _ _ _ _,H.out.below⟩

set_option maxHeartbeats 8000000 in
set_option maxRecDepth 100000 in
theorem decodeS_size (k : Nat) (a0_0 a0_1 a0_2 : Int) (A1 : Option Addr) (c1 : Nat) (l1 : List (S61)) (t : Int) (w : World) (hc0 : Kd.C k61 w A1 l1.length l1) (hcc0 : l1.length ≤ c1) (h : a4.f a0_0 a0_1 a0_2 = some t) (s : Int) (hs0 : bT.f a0_0 a0_1 a0_2 = some s) (hv : List Bool) (tx hl : List ByteArray) (hh0 : bq.f k l1 = some (hv,tx,hl)) (b : Bool) (hb0 : bg.f k hl = some b) (h1 : t = 0) (h2 : (l1.length : Int) = s) (h3 : b = false) : Calls Try.prog 38 #[.agg #[.int .i64 a0_0,.int .i64 a0_1,.int .i64 a0_2],.slice A1 l1.length c1] w fun e w'=>∃ v1_ : Value,e = .returned (.agg #[.int .i64 2,v1_]) ∧ Kd.R Kd.string 9 w' w.heap.size (fun _=>True) v1_ [] ∧ Below w.heap.size w w':=by
 have d1 : (t == 0) = true:=by simpa using h1
 have d2 : (t != 0) = false:=by simpa using h1
 clear h1
 have d3 : ((l1.length : Int) == s) = true:=by simpa using h2
 have d4 : ((l1.length : Int) != s) = false:=by simpa using h2
 clear h2
 subst h3
 have hs:=Aside0.mk hs0
 clear hs0
 have hh:=Aside0.mk hh0
 have hb:=Aside0.mk hb0
 clear hh0 hb0
 have ht:=Aside0.mk h
 have hc:=Aside0.mk hc0
 have hcc:=Aside0.mk hcc0
 clear h hc0 hcc0
 have hu1:=Try.underlying43
 have hu2:=Try.underlying68
 have H:=Aside0.mk (Hs.nil w)
 go_enter Try.func38,Try.ntmps38
 go_wp2_with (first
  | ((with_reducible refine ak (N:=2) rfl ?_);(try (refine au (by rfl) ?_;dsimp only));refine aw ?hg (N:=2) ?hd (cs:=#[.int .i64 a0_0,.int .i64 a0_1,.int .i64 a0_2]) (t:=43) ?hr ?_;(case hd=>rfl);(case hg=>rfl);(case hr=>first|(go_simp;done)|(go_simp;rfl));intro gc hg w1 hbox hb;have H_:=Aside0.mk (Hs.push H.out (Nat.le_of_eq hg.symm) hbox hb);clear hbox hb hg H;have H:=H_;clear H_)
  | ((with_reducible refine ak (N:=4) rfl ?_);(try (refine au (by rfl) ?_;dsimp only));refine aw ?hg (N:=4) ?hd (cs:=#[.int .i64 0,.slice none 0 0]) (t:=68) ?hr ?_;(case hd=>rfl);(case hg=>rfl);(case hr=>first|(go_simp;done)|(go_simp;rfl));intro gs hg w2 hbox hb;have H_:=Aside0.mk (Hs.push H.out (Nat.le_of_eq hg.symm) hbox hb);clear hbox hb hg H;have H:=H_;clear H_)
  | ((with_reducible refine ak (N:=10) rfl ?_);(try (refine au (by rfl) ?_;dsimp only));have hc0_:=H.out.aJ (v:=.int .i64 a0_0) 1 rfl 0 rfl;have hc1_:=H.out.aJ (v:=.int .i64 a0_1) 1 rfl 1 rfl;have hc2_:=H.out.aJ (v:=.int .i64 a0_2) 1 rfl 2 rfl;refine cY (.agg #[.int .i64 a0_0,.int .i64 a0_1,.int .i64 a0_2]) ?hg ?hr ?_;(case hg=>rfl);(case hr=>first|(go_simp;done)|(go_simp;rfl));clear hc0_ hc1_ hc2_)
  | ((with_reducible refine ah (f:=87) rfl ?_);(try (refine au (by rfl) ?_;dsimp only));refine aH (some 11) rfl rfl Try.func87 (by kernel_rfl) rfl #[.agg #[.int .i64 a0_0,.int .i64 a0_1,.int .i64 a0_2]] rfl (by (try simp only [List.map_toArray,List.map_cons,List.map_nil]);first|done|rfl) ?_;(with_reducible refine (a4.calls a0_0 a0_1 a0_2 t _ ht.out).mono ?_);rintro e w3 ⟨rfl,hb⟩;refine ⟨_,rfl,?_⟩;have H_:=Aside0.mk (show Hs w w3 [(gs,.cells #[.int .i64 0,.slice none 0 0] 68 (0,0)),(gc,.cells #[.int .i64 a0_0,.int .i64 a0_1,.int .i64 a0_2] 43 (0,0))] from H.out.call hb);clear hb H;have H:=H_;clear H_)
  | ((with_reducible refine ak (N:=16) rfl ?_);(try (refine au (by rfl) ?_;dsimp only));have hc0_:=H.out.aJ (v:=.int .i64 a0_0) 1 rfl 0 rfl;have hc1_:=H.out.aJ (v:=.int .i64 a0_1) 1 rfl 1 rfl;have hc2_:=H.out.aJ (v:=.int .i64 a0_2) 1 rfl 2 rfl;refine cY (.agg #[.int .i64 a0_0,.int .i64 a0_1,.int .i64 a0_2]) ?hg ?hr ?_;(case hg=>rfl);(case hr=>first|(go_simp;done)|(go_simp;rfl));clear hc0_ hc1_ hc2_)
  | ((with_reducible refine ah (f:=92) rfl ?_);(try (refine au (by rfl) ?_;dsimp only));refine aH (some 17) rfl rfl Try.func92 (by kernel_rfl) rfl #[.agg #[.int .i64 a0_0,.int .i64 a0_1,.int .i64 a0_2]] rfl (by (try simp only [List.map_toArray,List.map_cons,List.map_nil]);first|done|rfl) ?_;(with_reducible refine (bT.calls a0_0 a0_1 a0_2 s _ hs.out).mono ?_);rintro e w4 ⟨rfl,hb⟩;refine ⟨_,rfl,?_⟩;have H_:=Aside0.mk (show Hs w w4 [(gs,.cells #[.int .i64 0,.slice none 0 0] 68 (0,0)),(gc,.cells #[.int .i64 a0_0,.int .i64 a0_1,.int .i64 a0_2] 43 (0,0))] from H.out.call hb);clear hb H;have H:=H_;clear H_)
  | ((with_reducible refine ah (f:=93) rfl ?_);(try (refine au (by rfl) ?_;dsimp only));refine aH (some 23) rfl rfl Try.func93 (by kernel_rfl) rfl #[.slice A1 l1.length c1] rfl (by (try simp only [List.map_toArray,List.map_cons,List.map_nil]);first|done|rfl) ?_;(with_reducible refine (bq.calls k A1 c1 l1 hv tx hl _ (Kd.a8 hc.out H.out.below) hcc.out hh.out).mono ?_);rintro e wH ⟨v0,v1,v2,rfl,hR0,hR1,hR2,hb_⟩;refine ⟨_,rfl,?_⟩;obtain ⟨Av,cv,rfl⟩:=Kd.bc hR0;obtain ⟨Ax,cx,rfl⟩:=Kd.bc hR1;obtain ⟨Ah,ch,rfl⟩:=Kd.bc hR2;have HV:=Aside0.mk (Kd.aE hR0).2.2;have HT:=Aside0.mk (Kd.aE hR1).2.2;have HL:=Aside0.mk (Kd.aE hR2).2.2;have hcL:=Aside0.mk (Kd.aE hR2).2.1;clear hR0 hR1 hR2;have H_:=Aside0.mk (H.out.call hb_);clear H;have H:=H_;clear H_ hb_)
  | ((with_reducible refine ah (f:=88) rfl ?_);(try (refine au (by rfl) ?_;dsimp only));refine aH (some 28) rfl rfl Try.func88 (by kernel_rfl) rfl #[.slice Ah hl.length ch] rfl (by (try simp only [List.map_toArray,List.map_cons,List.map_nil]);first|done|rfl) ?_;(with_reducible refine (bg.calls k Ah ch hl false _ HL.out hcL.out hb.out).mono ?_);rintro e wO ⟨rfl,hd⟩;refine ⟨_,rfl,?_⟩;have HV_:=Aside0.mk (Kd.a8 HV.out hd.below);have HT_:=Aside0.mk (Kd.a8 HT.out hd.below);clear HV HT HL;have HV:=HV_;have HT:=HT_;clear HV_ HT_;have H_:=Aside0.mk (H.out.draw hd);clear H;have H:=H_;clear H_ hd)
  | ((with_reducible refine bo (p:=4) rfl ?_);(try (refine au (by rfl) ?_;dsimp only));have hc0_:=H.out.aJ (v:=.int .i64 0) 0 rfl 0 rfl;have hf0_:=H.out.frozen 0 rfl 0;have hc1_:=H.out.aJ (v:=.slice none 0 0) 0 rfl 1 rfl;have hf1_:=H.out.frozen 0 rfl 1;refine dp (fun W=>(World.setCell (World.setCell W ⟨gs,0,none⟩ (.int .i64 2)) ⟨gs,1,none⟩ (.slice none 0 0))) ?hg rfl ?hd ?hr ?_;(case hg=>rfl);(case hd=>rfl);(case hr=>first|(go_simp;done)|(go_simp;rfl));intro w51 hw;have H_:=Aside0.mk (show Hs w w51 [(gs,.cells #[.int .i64 2,.slice none 0 0] 68 (0,0)),(gc,.cells #[.int .i64 a0_0,.int .i64 a0_1,.int .i64 a0_2] 43 (0,0))] from by rw [hw];exact ((H.out.set 0 rfl 0 (.int .i64 2)).set 0 rfl 1 (.slice none 0 0)));clear hw hc0_ hf0_ hc1_ hf1_ H;have H:=H_;clear H_))
 exact bodyPost_ret (results_cell_row rfl _ _ gs 68 #[.int .i64 2,.slice none 0 0] (0,0) _ rfl (H.out.get 0 rfl) Try.underlying68 rfl (by kernel_rfl)) rfl ⟨_,rfl,Kd.R_nil _ _ _ _ _,H.out.below⟩

set_option maxHeartbeats 8000000 in
set_option maxRecDepth 100000 in
theorem decodeS_lost (k : Nat) (K M G : Nat) (A1 : Option Addr) (c1 : Nat) (l1 : List (S61)) (t : Int) (w : World) (hc0 : Kd.C k61 w A1 l1.length l1) (hcc0 : l1.length ≤ c1) (h : a4.f K M G = some t) (s : Int) (hs0 : bT.f K M G = some s) (hv : List Bool) (tx hl : List ByteArray) (hh0 : bq.f k l1 = some (hv,tx,hl)) (b : Bool) (hb0 : bg.f k hl = some b) (h1 : t = 0) (h2 : (l1.length : Int) = s) (h3 : b = true) (f1 : 1 ≤ K) (f2 : K ≤ 32) (f4 : M ≤ 16) (f5 : G ≤ K) (f6 : K + M + G = hv.length) (f7 : hv.length ≤ 64) (m : Nat) (hm : ((b9 K M G hv hv.length).1.map Int.ofNat).length = m) (hmk : m < K) : Calls Try.prog 38 #[.agg #[.int .i64 K,.int .i64 M,.int .i64 G],.slice A1 l1.length c1] w fun e w'=>∃ v1_ : Value,e = .returned (.agg #[.int .i64 8,v1_]) ∧ Kd.R Kd.string 9 w' w.heap.size (fun _=>True) v1_ [] ∧ Below w.heap.size w w':=by
 have d1 : (t == 0) = true:=by simpa using h1
 have d2 : (t != 0) = false:=by simpa using h1
 clear h1
 have d3 : ((l1.length : Int) == s) = true:=by simpa using h2
 have d4 : ((l1.length : Int) != s) = false:=by simpa using h2
 clear h2
 subst h3
 have m1 : (m : Int) < (K : Int):=by omega
 have hTm:=Aside0.mk hm
 replace f1:=Aside0.mk f1
 replace f2:=Aside0.mk f2
 replace f4:=Aside0.mk f4
 replace f5:=Aside0.mk f5
 replace f6:=Aside0.mk f6
 replace f7:=Aside0.mk f7
 have hs:=Aside0.mk hs0
 clear hs0
 have hh:=Aside0.mk hh0
 have hb:=Aside0.mk hb0
 clear hh0 hb0
 have ht:=Aside0.mk h
 have hc:=Aside0.mk hc0
 have hcc:=Aside0.mk hcc0
 clear h hc0 hcc0
 have hu1:=Try.underlying43
 have hu2:=Try.underlying68
 have H:=Aside0.mk (Hs.nil w)
 clear hm
 go_enter Try.func38,Try.ntmps38
 go_wp2_with (first
  | ((with_reducible refine ak (N:=2) rfl ?_);(try (refine au (by rfl) ?_;dsimp only));refine aw ?hg (N:=2) ?hd (cs:=#[.int .i64 K,.int .i64 M,.int .i64 G]) (t:=43) ?hr ?_;(case hd=>rfl);(case hg=>rfl);(case hr=>first|(go_simp;done)|(go_simp;rfl));intro gc hg w1 hbox hb;have H_:=Aside0.mk (Hs.push H.out (Nat.le_of_eq hg.symm) hbox hb);clear hbox hb hg H;have H:=H_;clear H_)
  | ((with_reducible refine ak (N:=4) rfl ?_);(try (refine au (by rfl) ?_;dsimp only));refine aw ?hg (N:=4) ?hd (cs:=#[.int .i64 0,.slice none 0 0]) (t:=68) ?hr ?_;(case hd=>rfl);(case hg=>rfl);(case hr=>first|(go_simp;done)|(go_simp;rfl));intro gs hg w2 hbox hb;have H_:=Aside0.mk (Hs.push H.out (Nat.le_of_eq hg.symm) hbox hb);clear hbox hb hg H;have H:=H_;clear H_)
  | ((with_reducible refine ak (N:=10) rfl ?_);(try (refine au (by rfl) ?_;dsimp only));have hc0_:=H.out.aJ (v:=.int .i64 K) 1 rfl 0 rfl;have hc1_:=H.out.aJ (v:=.int .i64 M) 1 rfl 1 rfl;have hc2_:=H.out.aJ (v:=.int .i64 G) 1 rfl 2 rfl;refine cY (.agg #[.int .i64 K,.int .i64 M,.int .i64 G]) ?hg ?hr ?_;(case hg=>rfl);(case hr=>first|(go_simp;done)|(go_simp;rfl));clear hc0_ hc1_ hc2_)
  | ((with_reducible refine ah (f:=87) rfl ?_);(try (refine au (by rfl) ?_;dsimp only));refine aH (some 11) rfl rfl Try.func87 (by kernel_rfl) rfl #[.agg #[.int .i64 K,.int .i64 M,.int .i64 G]] rfl (by (try simp only [List.map_toArray,List.map_cons,List.map_nil]);first|done|rfl) ?_;(with_reducible refine (a4.calls K M G t _ ht.out).mono ?_);rintro e w3 ⟨rfl,hb⟩;refine ⟨_,rfl,?_⟩;have H_:=Aside0.mk (show Hs w w3 [(gs,.cells #[.int .i64 0,.slice none 0 0] 68 (0,0)),(gc,.cells #[.int .i64 K,.int .i64 M,.int .i64 G] 43 (0,0))] from H.out.call hb);clear hb H;have H:=H_;clear H_)
  | ((with_reducible refine ak (N:=16) rfl ?_);(try (refine au (by rfl) ?_;dsimp only));have hc0_:=H.out.aJ (v:=.int .i64 K) 1 rfl 0 rfl;have hc1_:=H.out.aJ (v:=.int .i64 M) 1 rfl 1 rfl;have hc2_:=H.out.aJ (v:=.int .i64 G) 1 rfl 2 rfl;refine cY (.agg #[.int .i64 K,.int .i64 M,.int .i64 G]) ?hg ?hr ?_;(case hg=>rfl);(case hr=>first|(go_simp;done)|(go_simp;rfl));clear hc0_ hc1_ hc2_)
  | ((with_reducible refine ah (f:=92) rfl ?_);(try (refine au (by rfl) ?_;dsimp only));refine aH (some 17) rfl rfl Try.func92 (by kernel_rfl) rfl #[.agg #[.int .i64 K,.int .i64 M,.int .i64 G]] rfl (by (try simp only [List.map_toArray,List.map_cons,List.map_nil]);first|done|rfl) ?_;(with_reducible refine (bT.calls K M G s _ hs.out).mono ?_);rintro e w4 ⟨rfl,hb⟩;refine ⟨_,rfl,?_⟩;have H_:=Aside0.mk (show Hs w w4 [(gs,.cells #[.int .i64 0,.slice none 0 0] 68 (0,0)),(gc,.cells #[.int .i64 K,.int .i64 M,.int .i64 G] 43 (0,0))] from H.out.call hb);clear hb H;have H:=H_;clear H_)
  | ((with_reducible refine ah (f:=93) rfl ?_);(try (refine au (by rfl) ?_;dsimp only));refine aH (some 23) rfl rfl Try.func93 (by kernel_rfl) rfl #[.slice A1 l1.length c1] rfl (by (try simp only [List.map_toArray,List.map_cons,List.map_nil]);first|done|rfl) ?_;(with_reducible refine (bq.calls k A1 c1 l1 hv tx hl _ (Kd.a8 hc.out H.out.below) hcc.out hh.out).mono ?_);rintro e wH ⟨v0,v1,v2,rfl,hR0,hR1,hR2,hb_⟩;refine ⟨_,rfl,?_⟩;obtain ⟨Av,cv,rfl⟩:=Kd.bc hR0;obtain ⟨Ax,cx,rfl⟩:=Kd.bc hR1;obtain ⟨Ah,ch,rfl⟩:=Kd.bc hR2;have HV:=Aside0.mk (Kd.aE hR0).2.2;have HT:=Aside0.mk (Kd.aE hR1).2.2;have HL:=Aside0.mk (Kd.aE hR2).2.2;have hcL:=Aside0.mk (Kd.aE hR2).2.1;clear hR0 hR1 hR2;have H_:=Aside0.mk (H.out.call hb_);clear H;have H:=H_;clear H_ hb_)
  | ((with_reducible refine ah (f:=88) rfl ?_);(try (refine au (by rfl) ?_;dsimp only));refine aH (some 28) rfl rfl Try.func88 (by kernel_rfl) rfl #[.slice Ah hl.length ch] rfl (by (try simp only [List.map_toArray,List.map_cons,List.map_nil]);first|done|rfl) ?_;(with_reducible refine (bg.calls k Ah ch hl true _ HL.out hcL.out hb.out).mono ?_);rintro e wO ⟨rfl,hd⟩;refine ⟨_,rfl,?_⟩;have HV_:=Aside0.mk (Kd.a8 HV.out hd.below);have HT_:=Aside0.mk (Kd.a8 HT.out hd.below);clear HV HT HL;have HV:=HV_;have HT:=HT_;clear HV_ HT_;have H_:=Aside0.mk (H.out.draw hd);clear H;have H:=H_;clear H_ hd)
  | ((with_reducible refine ak (N:=31) rfl ?_);(try (refine au (by rfl) ?_;dsimp only));have hc0_:=H.out.aJ (v:=.int .i64 K) 1 rfl 0 rfl;have hc1_:=H.out.aJ (v:=.int .i64 M) 1 rfl 1 rfl;have hc2_:=H.out.aJ (v:=.int .i64 G) 1 rfl 2 rfl;refine cY (.agg #[.int .i64 K,.int .i64 M,.int .i64 G]) ?hg ?hr ?_;(case hg=>rfl);(case hr=>first|(go_simp;done)|(go_simp;rfl));clear hc0_ hc1_ hc2_)
  | ((with_reducible refine ah (f:=84) rfl ?_);(try (refine au (by rfl) ?_;dsimp only));refine aH (some 32) rfl rfl Try.func84 (by kernel_rfl) rfl #[.agg #[.int .i64 K,.int .i64 M,.int .i64 G]] rfl (by (try simp only [List.map_toArray,List.map_cons,List.map_nil]);first|done|rfl) ?_;(with_reducible refine (newPlant_calls K M G _ f1.out f2.out f4.out f5.out).mono ?_);rintro e wP ⟨gt,gp,vg,vl,rfl,hP,hb⟩;refine ⟨_,rfl,?_⟩;have hP0:=Aside0.mk hP;clear hP;have HV_:=Aside0.mk (Kd.a8 HV.out hb);have HT_:=Aside0.mk (Kd.a8 HT.out hb);clear HV HT;have HV:=HV_;have HT:=HT_;clear HV_ HT_;have H_:=Aside0.mk (H.out.call hb);clear H;have H:=H_;clear H_ hb)
  | ((with_reducible refine ah (f:=94) rfl ?_);(try (refine au (by rfl) ?_;dsimp only));refine aH (some 35) rfl rfl Try.func94 (by kernel_rfl) rfl #[.pointer (some ⟨gp,0,none⟩),.slice Av hv.length cv] rfl (by (try simp only [List.map_toArray,List.map_cons,List.map_nil]);first|done|rfl) ?_;(with_reducible refine (basis_calls gt gp K M G vg vl _ hP0.out Av cv hv HV.out hv.length rfl f6.out f7.out f1.out f2.out f4.out f5.out).mono ?_);rintro e wQ ⟨vt,rfl,hRt,hb⟩;refine ⟨_,rfl,?_⟩;obtain ⟨At,ct,et⟩:=Kd.bc hRt;rw [hTm.out] at et;subst et;have HK:=Aside0.mk (Kd.aE hRt).2.2;rw [hTm.out] at HK;clear hRt;have hP1:=Aside0.mk (hP0.out.below hb);clear hP0;have hP0:=hP1;clear hP1;have HV_:=Aside0.mk (Kd.a8 HV.out hb);have HT_:=Aside0.mk (Kd.a8 HT.out hb);clear HV HT;have HV:=HV_;have HT:=HT_;clear HV_ HT_;have H_:=Aside0.mk (H.out.call hb);clear H;have H:=H_;clear H_ hb;have hcK : wQ.cell? ⟨gc,0,none⟩ = some (.int .i64 K):=H.out.aJ 1 rfl 0 rfl)
  | ((with_reducible refine bo (p:=4) rfl ?_);(try (refine au (by rfl) ?_;dsimp only));have hc0_:=H.out.aJ (v:=.int .i64 0) 0 rfl 0 rfl;have hf0_:=H.out.frozen 0 rfl 0;have hc1_:=H.out.aJ (v:=.slice none 0 0) 0 rfl 1 rfl;have hf1_:=H.out.frozen 0 rfl 1;refine dp (fun W=>(World.setCell (World.setCell W ⟨gs,0,none⟩ (.int .i64 8)) ⟨gs,1,none⟩ (.slice none 0 0))) ?hg rfl ?hd ?hr ?_;(case hg=>rfl);(case hd=>rfl);(case hr=>first|(go_simp;done)|(go_simp;rfl));intro w71 hw;have H_:=Aside0.mk (show Hs w w71 [(gs,.cells #[.int .i64 8,.slice none 0 0] 68 (0,0)),(gc,.cells #[.int .i64 K,.int .i64 M,.int .i64 G] 43 (0,0))] from by rw [hw];exact ((H.out.set 0 rfl 0 (.int .i64 8)).set 0 rfl 1 (.slice none 0 0)));clear hw hc0_ hf0_ hc1_ hf1_ H;have H:=H_;clear H_))
 exact bodyPost_ret (results_cell_row rfl _ _ gs 68 #[.int .i64 8,.slice none 0 0] (0,0) _ rfl (H.out.get 0 rfl) Try.underlying68 rfl (by kernel_rfl)) rfl ⟨_,rfl,Kd.R_nil _ _ _ _ _,H.out.below⟩

set_option maxHeartbeats 8000000 in
set_option maxRecDepth 100000 in
theorem decodeS_good (k : Nat) (K M G : Nat) (A1 : Option Addr) (c1 : Nat) (l1 : List (S61)) (t : Int) (w : World) (hc0 : Kd.C k61 w A1 l1.length l1) (hcc0 : l1.length ≤ c1) (h : a4.f K M G = some t) (s : Int) (hs0 : bT.f K M G = some s) (hv : List Bool) (tx hl : List ByteArray) (hh0 : bq.f k l1 = some (hv,tx,hl)) (b : Bool) (hb0 : bg.f k hl = some b) (h1 : t = 0) (h2 : (l1.length : Int) = s) (h3 : b = true) (f1 : 1 ≤ K) (f2 : K ≤ 32) (f4 : M ≤ 16) (f5 : G ≤ K) (f6 : K + M + G = hv.length) (f7 : hv.length ≤ 64) (n : Nat) (hm : ((b9 K M G hv hv.length).1.map Int.ofNat).length = K) (g1 : tx.length = hv.length) (g2 : ∀ r,r < K → (b9 K M G hv hv.length).1.getD r 0 < tx.length) (g3 : ∀ r,r < K → (rdOf ByteArray.empty tx ((b9 K M G hv hv.length).1.getD r 0 : Nat)).size = n) (g4 : n ≤ 4096) : Calls Try.prog 38 #[.agg #[.int .i64 K,.int .i64 M,.int .i64 G],.slice A1 l1.length c1] w fun e w'=>∃ v1_ : Value,e = .returned (.agg #[.int .i64 0,v1_]) ∧ Kd.R Kd.string 9 w' w.heap.size (fun _=>True) v1_ (encV K M G n (ck K M G n (b9 K M G hv hv.length).1 tx)) ∧ Below w.heap.size w w':=by
 have d1 : (t == 0) = true:=by simpa using h1
 have d2 : (t != 0) = false:=by simpa using h1
 clear h1
 have d3 : ((l1.length : Int) == s) = true:=by simpa using h2
 have d4 : ((l1.length : Int) != s) = false:=by simpa using h2
 clear h2
 subst h3
 have hTm:=Aside0.mk hm
 have hTl:=Aside0.mk (show (b9 K M G hv hv.length).1.length = K by simpa using hm)
 have hTN:=Aside0.mk g2
 have hns:=Aside0.mk g3
 have hn4:=Aside0.mk g4
 have hNs:=Aside0.mk (show K + M + G = tx.length by omega)
 have hN64:=Aside0.mk (show tx.length ≤ 64 by omega)
 have hdl:=Aside0.mk (show (ck K M G n (b9 K M G hv hv.length).1 tx).length = K by simp [ck])
 have hds:=Aside0.mk (show ∀ j : Nat,j < (ck K M G n (b9 K M G hv hv.length).1 tx).length → (rdOf ByteArray.empty (ck K M G n (b9 K M G hv hv.length).1 tx) (j : Int)).size = n from fun j hj=>by
  have hj2 : j < K:=by simpa [ck] using hj
  have e : rdOf ByteArray.empty (ck K M G n (b9 K M G hv hv.length).1 tx) (j : Int) = datumV K M G n (b9 K M G hv hv.length).1 tx j:=by
   unfold rdOf ck
   rw [Int.toNat_natCast,List.getD_eq_getElem?_getD,List.getElem?_map,List.getElem?_range hj2];rfl
  rw [e]
  unfold datumV
  rw [strOfNums_size];simp)
 have m1 : decide ((K : Int) < (K : Int)) = false:=decide_eq_false (by omega)
 clear hm g1 g2 g3 g4
 replace f1:=Aside0.mk f1
 replace f2:=Aside0.mk f2
 replace f4:=Aside0.mk f4
 replace f5:=Aside0.mk f5
 replace f6:=Aside0.mk f6
 replace f7:=Aside0.mk f7
 have hs:=Aside0.mk hs0
 clear hs0
 have hh:=Aside0.mk hh0
 have hb:=Aside0.mk hb0
 clear hh0 hb0
 have ht:=Aside0.mk h
 have hc:=Aside0.mk hc0
 have hcc:=Aside0.mk hcc0
 clear h hc0 hcc0
 have hu1:=Try.underlying43
 have hu2:=Try.underlying68
 have H:=Aside0.mk (Hs.nil w)
 go_enter Try.func38,Try.ntmps38
 go_wp2_with (first
  | ((with_reducible refine ak (N:=2) rfl ?_);(try (refine au (by rfl) ?_;dsimp only));refine aw ?hg (N:=2) ?hd (cs:=#[.int .i64 K,.int .i64 M,.int .i64 G]) (t:=43) ?hr ?_;(case hd=>rfl);(case hg=>rfl);(case hr=>first|(go_simp;done)|(go_simp;rfl));intro gc hg w1 hbox hb;have H_:=Aside0.mk (Hs.push H.out (Nat.le_of_eq hg.symm) hbox hb);clear hbox hb hg H;have H:=H_;clear H_)
  | ((with_reducible refine ak (N:=4) rfl ?_);(try (refine au (by rfl) ?_;dsimp only));refine aw ?hg (N:=4) ?hd (cs:=#[.int .i64 0,.slice none 0 0]) (t:=68) ?hr ?_;(case hd=>rfl);(case hg=>rfl);(case hr=>first|(go_simp;done)|(go_simp;rfl));intro gs hg w2 hbox hb;have H_:=Aside0.mk (Hs.push H.out (Nat.le_of_eq hg.symm) hbox hb);clear hbox hb hg H;have H:=H_;clear H_)
  | ((with_reducible refine ak (N:=10) rfl ?_);(try (refine au (by rfl) ?_;dsimp only));have hc0_:=H.out.aJ (v:=.int .i64 K) 1 rfl 0 rfl;have hc1_:=H.out.aJ (v:=.int .i64 M) 1 rfl 1 rfl;have hc2_:=H.out.aJ (v:=.int .i64 G) 1 rfl 2 rfl;refine cY (.agg #[.int .i64 K,.int .i64 M,.int .i64 G]) ?hg ?hr ?_;(case hg=>rfl);(case hr=>first|(go_simp;done)|(go_simp;rfl));clear hc0_ hc1_ hc2_)
  | ((with_reducible refine ah (f:=87) rfl ?_);(try (refine au (by rfl) ?_;dsimp only));refine aH (some 11) rfl rfl Try.func87 (by kernel_rfl) rfl #[.agg #[.int .i64 K,.int .i64 M,.int .i64 G]] rfl (by (try simp only [List.map_toArray,List.map_cons,List.map_nil]);first|done|rfl) ?_;(with_reducible refine (a4.calls K M G t _ ht.out).mono ?_);rintro e w3 ⟨rfl,hb⟩;refine ⟨_,rfl,?_⟩;have H_:=Aside0.mk (show Hs w w3 [(gs,.cells #[.int .i64 0,.slice none 0 0] 68 (0,0)),(gc,.cells #[.int .i64 K,.int .i64 M,.int .i64 G] 43 (0,0))] from H.out.call hb);clear hb H;have H:=H_;clear H_)
  | ((with_reducible refine ak (N:=16) rfl ?_);(try (refine au (by rfl) ?_;dsimp only));have hc0_:=H.out.aJ (v:=.int .i64 K) 1 rfl 0 rfl;have hc1_:=H.out.aJ (v:=.int .i64 M) 1 rfl 1 rfl;have hc2_:=H.out.aJ (v:=.int .i64 G) 1 rfl 2 rfl;refine cY (.agg #[.int .i64 K,.int .i64 M,.int .i64 G]) ?hg ?hr ?_;(case hg=>rfl);(case hr=>first|(go_simp;done)|(go_simp;rfl));clear hc0_ hc1_ hc2_)
  | ((with_reducible refine ah (f:=92) rfl ?_);(try (refine au (by rfl) ?_;dsimp only));refine aH (some 17) rfl rfl Try.func92 (by kernel_rfl) rfl #[.agg #[.int .i64 K,.int .i64 M,.int .i64 G]] rfl (by (try simp only [List.map_toArray,List.map_cons,List.map_nil]);first|done|rfl) ?_;(with_reducible refine (bT.calls K M G s _ hs.out).mono ?_);rintro e w4 ⟨rfl,hb⟩;refine ⟨_,rfl,?_⟩;have H_:=Aside0.mk (show Hs w w4 [(gs,.cells #[.int .i64 0,.slice none 0 0] 68 (0,0)),(gc,.cells #[.int .i64 K,.int .i64 M,.int .i64 G] 43 (0,0))] from H.out.call hb);clear hb H;have H:=H_;clear H_)
  | ((with_reducible refine ah (f:=93) rfl ?_);(try (refine au (by rfl) ?_;dsimp only));refine aH (some 23) rfl rfl Try.func93 (by kernel_rfl) rfl #[.slice A1 l1.length c1] rfl (by (try simp only [List.map_toArray,List.map_cons,List.map_nil]);first|done|rfl) ?_;(with_reducible refine (bq.calls k A1 c1 l1 hv tx hl _ (Kd.a8 hc.out H.out.below) hcc.out hh.out).mono ?_);rintro e wH ⟨v0,v1,v2,rfl,hR0,hR1,hR2,hb_⟩;refine ⟨_,rfl,?_⟩;obtain ⟨Av,cv,rfl⟩:=Kd.bc hR0;obtain ⟨Ax,cx,rfl⟩:=Kd.bc hR1;obtain ⟨Ah,ch,rfl⟩:=Kd.bc hR2;have HV:=Aside0.mk (Kd.aE hR0).2.2;have HT:=Aside0.mk (Kd.aE hR1).2.2;have HL:=Aside0.mk (Kd.aE hR2).2.2;have hcL:=Aside0.mk (Kd.aE hR2).2.1;clear hR0 hR1 hR2;have H_:=Aside0.mk (H.out.call hb_);clear H;have H:=H_;clear H_ hb_)
  | ((with_reducible refine ah (f:=88) rfl ?_);(try (refine au (by rfl) ?_;dsimp only));refine aH (some 28) rfl rfl Try.func88 (by kernel_rfl) rfl #[.slice Ah hl.length ch] rfl (by (try simp only [List.map_toArray,List.map_cons,List.map_nil]);first|done|rfl) ?_;(with_reducible refine (bg.calls k Ah ch hl true _ HL.out hcL.out hb.out).mono ?_);rintro e wO ⟨rfl,hd⟩;refine ⟨_,rfl,?_⟩;have HV_:=Aside0.mk (Kd.a8 HV.out hd.below);have HT_:=Aside0.mk (Kd.a8 HT.out hd.below);clear HV HT HL;have HV:=HV_;have HT:=HT_;clear HV_ HT_;have H_:=Aside0.mk (H.out.draw hd);clear H;have H:=H_;clear H_ hd)
  | ((with_reducible refine ak (N:=31) rfl ?_);(try (refine au (by rfl) ?_;dsimp only));have hc0_:=H.out.aJ (v:=.int .i64 K) 1 rfl 0 rfl;have hc1_:=H.out.aJ (v:=.int .i64 M) 1 rfl 1 rfl;have hc2_:=H.out.aJ (v:=.int .i64 G) 1 rfl 2 rfl;refine cY (.agg #[.int .i64 K,.int .i64 M,.int .i64 G]) ?hg ?hr ?_;(case hg=>rfl);(case hr=>first|(go_simp;done)|(go_simp;rfl));clear hc0_ hc1_ hc2_)
  | ((with_reducible refine ah (f:=84) rfl ?_);(try (refine au (by rfl) ?_;dsimp only));refine aH (some 32) rfl rfl Try.func84 (by kernel_rfl) rfl #[.agg #[.int .i64 K,.int .i64 M,.int .i64 G]] rfl (by (try simp only [List.map_toArray,List.map_cons,List.map_nil]);first|done|rfl) ?_;(with_reducible refine (newPlant_calls K M G _ f1.out f2.out f4.out f5.out).mono ?_);rintro e wP ⟨gt,gp,vg,vl,rfl,hP,hb⟩;refine ⟨_,rfl,?_⟩;have hP0:=Aside0.mk hP;clear hP;have HV_:=Aside0.mk (Kd.a8 HV.out hb);have HT_:=Aside0.mk (Kd.a8 HT.out hb);clear HV HT;have HV:=HV_;have HT:=HT_;clear HV_ HT_;have H_:=Aside0.mk (H.out.call hb);clear H;have H:=H_;clear H_ hb)
  | ((with_reducible refine ah (f:=94) rfl ?_);(try (refine au (by rfl) ?_;dsimp only));refine aH (some 35) rfl rfl Try.func94 (by kernel_rfl) rfl #[.pointer (some ⟨gp,0,none⟩),.slice Av hv.length cv] rfl (by (try simp only [List.map_toArray,List.map_cons,List.map_nil]);first|done|rfl) ?_;(with_reducible refine (basis_calls gt gp K M G vg vl _ hP0.out Av cv hv HV.out hv.length rfl f6.out f7.out f1.out f2.out f4.out f5.out).mono ?_);rintro e wQ ⟨vt,rfl,hRt,hb⟩;refine ⟨_,rfl,?_⟩;obtain ⟨At,ct,et⟩:=Kd.bc hRt;rw [hTm.out] at et;subst et;have HK:=Aside0.mk (Kd.aE hRt).2.2;rw [hTm.out] at HK;clear hRt;have hP1:=Aside0.mk (hP0.out.below hb);clear hP0;have hP0:=hP1;clear hP1;have HV_:=Aside0.mk (Kd.a8 HV.out hb);have HT_:=Aside0.mk (Kd.a8 HT.out hb);clear HV HT;have HV:=HV_;have HT:=HT_;clear HV_ HT_;have H_:=Aside0.mk (H.out.call hb);clear H;have H:=H_;clear H_ hb;have hcK : wQ.cell? ⟨gc,0,none⟩ = some (.int .i64 K):=H.out.aJ 1 rfl 0 rfl)
  | ((with_reducible refine ah (f:=95) rfl ?_);(try (refine au (by rfl) ?_;dsimp only));refine aH (some 46) rfl rfl Try.func95 (by kernel_rfl) rfl #[.pointer (some ⟨gp,0,none⟩),.slice At K ct,.slice Ax tx.length cx] rfl (by (try simp only [List.map_toArray,List.map_cons,List.map_nil]);first|done|rfl) ?_;(with_reducible refine (dataOf_calls gt gp K M G vg vl _ hP0.out At ct (b9 K M G hv hv.length).1 HK.out hTl.out Ax cx tx tx.length HT.out rfl hTN.out hNs.out hN64.out f1.out f2.out f4.out f5.out n hns.out hn4.out).mono ?_);rintro e wD ⟨vd,rfl,hRd,hb⟩;refine ⟨_,rfl,?_⟩;obtain ⟨Ad,cd,ed⟩:=Kd.bc hRd;rw [hdl.out] at ed;subst ed;have HD:=Aside0.mk (Kd.aE hRd).2.2;rw [hdl.out] at HD;clear hRd;have hP1:=Aside0.mk (hP0.out.below hb);clear hP0;have hP0:=hP1;clear hP1;have H_:=Aside0.mk (H.out.call hb);clear H;have H:=H_;clear H_ hb)
  | ((with_reducible refine ah (f:=85) rfl ?_);(try (refine au (by rfl) ?_;dsimp only));refine aH (some 47) rfl rfl Try.func85 (by kernel_rfl) rfl #[.pointer (some ⟨gp,0,none⟩),.slice Ad K cd] rfl (by (try simp only [List.map_toArray,List.map_cons,List.map_nil]);first|done|rfl) ?_;(with_reducible refine (encode_calls gt gp K M G vg vl _ hP0.out Ad cd (ck K M G n (b9 K M G hv hv.length).1 tx) n HD.out hdl.out f1.out f2.out f4.out f5.out (by have h1_:=f6.out;have h2_:=f7.out;omega) hds.out hn4.out).mono ?_);rintro e wE ⟨v,rfl,hR0,hb⟩;refine ⟨_,rfl,?_⟩;have hR:=Aside0.mk hR0;clear hR0;obtain ⟨Ae,ce,rfl⟩:=Kd.bc hR.out;have hgs:=Aside0.mk (H.out.lt 0 rfl);have hsz_:=Aside0.mk H.out.size;have H_:=Aside0.mk (H.out.call hb);clear H;have H:=H_;clear H_ hb)
  | ((with_reducible refine bo (p:=4) rfl ?_);(try (refine au (by rfl) ?_;dsimp only));have hc0_:=H.out.aJ (v:=.int .i64 0) 0 rfl 0 rfl;have hf0_:=H.out.frozen 0 rfl 0;have hc1_:=H.out.aJ (v:=.slice none 0 0) 0 rfl 1 rfl;have hf1_:=H.out.frozen 0 rfl 1;refine dp (fun W=>(World.setCell (World.setCell W ⟨gs,0,none⟩ (.int .i64 0)) ⟨gs,1,none⟩ (.slice Ae (encV K M G n (ck K M G n (b9 K M G hv hv.length).1 tx)).length ce))) ?hg rfl ?hd ?hr ?_;(case hg=>rfl);(case hd=>rfl);(case hr=>first|(go_simp;done)|(go_simp;rfl));intro w91 hw;have hR9 : Aside0 (Kd.R Kd.string 9 w91 wD.heap.size (fun _=>True) (.slice Ae (encV K M G n (ck K M G n (b9 K M G hv hv.length).1 tx)).length ce) (encV K M G n (ck K M G n (b9 K M G hv hv.length).1 tx))):=⟨by rw [hw];exact Kd.bb (Kd.bw (p:=⟨gs,1,none⟩) (Kd.bw (p:=⟨gs,0,none⟩) (Kd.R_bound hR.out) (fun k_ hk_ e_=>by have h1_:=hk_.2.1;have h2_ : k_ = gs:=e_;have h3_:=hgs.out;omega) _) (fun k_ hk_ e_=>by have h1_:=hk_.1;have h2_ : k_ = gs:=e_;have h3_:=hk_.2.1;have h4_:=hgs.out;omega) _) (fun _ _=>trivial)⟩;have H_:=Aside0.mk (show Hs w w91 [(gs,.cells #[.int .i64 0,.slice Ae (encV K M G n (ck K M G n (b9 K M G hv hv.length).1 tx)).length ce] 68 (0,0)),(gc,.cells #[.int .i64 K,.int .i64 M,.int .i64 G] 43 (0,0))] from by rw [hw];exact ((H.out.set 0 rfl 0 (.int .i64 0)).set 0 rfl 1 (.slice Ae (encV K M G n (ck K M G n (b9 K M G hv hv.length).1 tx)).length ce)));clear hw hc0_ hf0_ hc1_ hf1_ H;have H:=H_;clear H_))
 exact bodyPost_ret (results_cell_row rfl _ _ gs 68 #[.int .i64 0,.slice Ae (encV K M G n (ck K M G n (b9 K M G hv hv.length).1 tx)).length ce] (0,0) _ rfl (H.out.get 0 rfl) Try.underlying68 rfl (by kernel_rfl)) rfl ⟨_,rfl,Kd.bj hR9.out hsz_.out,H.out.below⟩

def dm (a0_0 a0_1 a0_2 : Int) (hv : List Bool) : List Nat:=(b9 a0_0.toNat a0_1.toNat a0_2.toNat hv hv.length).1
def bS.f (k : Nat) (a0_0 a0_1 a0_2 : Int) (l1 : List (S61)) : Option (Int × List ByteArray):=(a4.f a0_0 a0_1 a0_2).bind fun t=>if t = 0 then ((bT.f a0_0 a0_1 a0_2).bind fun s=>if (l1.length : Int) = s then ((bq.f k l1).bind fun p=>(bg.f k p.2.2).bind fun b=>if b = true then (if a0_0.toNat + a0_1.toNat + a0_2.toNat = p.1.length ∧ p.2.1.length = p.1.length then (if (dm a0_0 a0_1 a0_2 p.1).length < a0_0.toNat then some (8,[]) else (if (dm a0_0 a0_1 a0_2 p.1).length = a0_0.toNat ∧ (∀ r,r < a0_0.toNat → (dm a0_0 a0_1 a0_2 p.1).getD r 0 < p.2.1.length) ∧ (∀ r,r < a0_0.toNat → (rdOf ByteArray.empty p.2.1 ((dm a0_0 a0_1 a0_2 p.1).getD r 0 : Nat)).size = (rdOf ByteArray.empty p.2.1 ((dm a0_0 a0_1 a0_2 p.1).getD 0 0 : Nat)).size) ∧ (rdOf ByteArray.empty p.2.1 ((dm a0_0 a0_1 a0_2 p.1).getD 0 0 : Nat)).size ≤ 4096 then some (0,encV a0_0.toNat a0_1.toNat a0_2.toNat (rdOf ByteArray.empty p.2.1 ((dm a0_0 a0_1 a0_2 p.1).getD 0 0 : Nat)).size (ck a0_0.toNat a0_1.toNat a0_2.toNat (rdOf ByteArray.empty p.2.1 ((dm a0_0 a0_1 a0_2 p.1).getD 0 0 : Nat)).size (dm a0_0 a0_1 a0_2 p.1) p.2.1)) else none)) else none) else some (2,[])) else some (1,[])) else some (1,[])
theorem bS.calls (k : Nat) (a0_0 : Int) (a0_1 : Int) (a0_2 : Int) (A1 : Option Addr) (c1 : Nat) (l1 : List (S61)) (r1 : Int) (r2 : List ByteArray) (w : World) (hr1 : Kd.C k61 w A1 l1.length l1) (hc1 : l1.length ≤ c1) (h : bS.f k a0_0 a0_1 a0_2 l1 = some (r1,r2)) :
  Calls Try.prog 38 #[.agg #[.int .i64 a0_0,.int .i64 a0_1,.int .i64 a0_2],.slice A1 l1.length c1] w fun e w'=>∃ v1_ : Value,e = .returned (.agg #[.int .i64 r1,v1_]) ∧ Kd.R Kd.string 9 w' w.heap.size (fun _=>True) v1_ r2 ∧ Below w.heap.size w w':=by
 unfold bS.f at h
 obtain ⟨t,ht,h⟩:=Option.bind_eq_some_iff.mp h
 by_cases h0 : t = 0
 ·rw [if_pos h0] at h
  obtain ⟨s,hs,h⟩:=Option.bind_eq_some_iff.mp h
  by_cases h2 : (l1.length : Int) = s
  ·rw [if_pos h2] at h
   obtain ⟨⟨hv,tx,hl⟩,hh,h⟩:=Option.bind_eq_some_iff.mp h
   obtain ⟨b,hb,h⟩:=Option.bind_eq_some_iff.mp h
   by_cases h3 : b = true
   ·rw [if_pos h3] at h
    dsimp only at h
    by_cases h4 : a0_0.toNat + a0_1.toNat + a0_2.toNat = hv.length ∧ tx.length = hv.length
    ·rw [if_pos h4] at h
     obtain ⟨f1,f2,f3,f4,f5,f6,f7⟩:=fault_okD (h0 ▸ ht)
     obtain ⟨K,rfl⟩:=Int.eq_ofNat_of_zero_le (show 0 ≤ a0_0 by omega)
     obtain ⟨M,rfl⟩:=Int.eq_ofNat_of_zero_le f3
     obtain ⟨G,rfl⟩:=Int.eq_ofNat_of_zero_le f5
     unfold dm at h
     simp only [Int.toNat_natCast] at h h4
     by_cases h5 : (b9 K M G hv hv.length).1.length < K
     ·rw [if_pos h5] at h
      simp only [Option.some.injEq,Prod.mk.injEq] at h
      obtain ⟨rfl,rfl⟩:=h
      exact decodeS_lost k K M G A1 c1 l1 t w hr1 hc1 ht s hs hv tx hl hh b hb h0 h2 h3 (by omega) (by omega) (by omega) (by omega) (by omega) (by omega) _ rfl (by rw [List.length_map];exact h5)
     ·rw [if_neg h5] at h
      by_cases h6 : (b9 K M G hv hv.length).1.length = K ∧ (∀ r,r < K → (b9 K M G hv hv.length).1.getD r 0 < tx.length) ∧ (∀ r,r < K → (rdOf ByteArray.empty tx ((b9 K M G hv hv.length).1.getD r 0 : Nat)).size = (rdOf ByteArray.empty tx ((b9 K M G hv hv.length).1.getD 0 0 : Nat)).size) ∧ (rdOf ByteArray.empty tx ((b9 K M G hv hv.length).1.getD 0 0 : Nat)).size ≤ 4096
      ·rw [if_pos h6] at h
       simp only [Option.some.injEq,Prod.mk.injEq] at h
       obtain ⟨rfl,rfl⟩:=h
       exact decodeS_good k K M G A1 c1 l1 t w hr1 hc1 ht s hs hv tx hl hh b hb h0 h2 h3 (by omega) (by omega) (by omega) (by omega) (by omega) (by omega) _ (by rw [List.length_map];exact h6.1) h4.2 h6.2.1 h6.2.2.1 h6.2.2.2
      ·rw [if_neg h6] at h;cases h
    ·rw [if_neg h4] at h;cases h
   ·rw [if_neg h3] at h
    simp only [Option.some.injEq,Prod.mk.injEq] at h
    obtain ⟨rfl,rfl⟩:=h
    exact decodeS_size k a0_0 a0_1 a0_2 A1 c1 l1 t w hr1 hc1 ht s hs hv tx hl hh b hb h0 h2 (Bool.eq_false_iff.2 h3)
  ·rw [if_neg h2] at h
   simp only [Option.some.injEq,Prod.mk.injEq] at h
   obtain ⟨rfl,rfl⟩:=h
   exact decodeS_form k a0_0 a0_1 a0_2 A1 c1 l1 t w hr1 hc1 ht s hs h0 h2
 ·rw [if_neg h0] at h
  simp only [Option.some.injEq,Prod.mk.injEq] at h
  obtain ⟨rfl,rfl⟩:=h
  exact decodeS_bad k a0_0 a0_1 a0_2 A1 c1 l1 t w hr1 hc1 ht h0

end Go.Proofs.Ytffhbpepppodeaa.PFnExactJoinObject
