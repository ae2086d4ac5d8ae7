import Derived.Test.YtffhbpepppodeaaPFnJoinedx0
import Derived.Test.YtffhbpepppodeaaPFnJoinedx2
import Derived.Test.YtffhbpepppodeaaPlant3FnJoined
import Derived.Test.YtffhbpepppodeaaCutFnJoined
namespace Go.Proofs.Ytffhbpepppodeaa.PFnJoined
open Go.RowKit Go.Proofs.YtffhbpepppodeaaW.PrintWords Go.Proofs.YtffhbpepppodeaaW.PrintLast Go.Proofs.YtffhbpepppodeaaW.PrintMore
open Go.Proofs.Ytffhbpepppodeaa.Hs Go.Proofs.Ytffhbpepppodeaa.Gf Go.Proofs.Ytffhbpepppodeaa.Grid Go.Proofs.Ytffhbpepppodeaa.Reduce Go.Proofs.Ytffhbpepppodeaa.Plant Go.Proofs.Ytffhbpepppodeaa.Plant2 Go.Proofs.Ytffhbpepppodeaa.Plant3 Go.Proofs.Ytffhbpepppodeaa.Cut

theorem hs_grown {α : Type} {d : Kd α} {e : Nat} {w0 W w1 : World} {L : List Blk} {base : Nat} {ok : Nat → Prop} {v : Value} {xs : List α} (H : Hs w0 W L) (hS : Kd.S d e W base ok v xs) (hB : Below w0.heap.size w0 w1) (hg : W.grownBy w1 v.ownBlock)
  (hT : ∀ x ∈ L,∃ cs t,x.2 = Obj.cells cs t (0,0) ∧ e ≠ t) : Hs w0 w1 L:=by
 refine Hs.rest (B:=[]) H hB (fun x hx=>?_)
 obtain ⟨cs,t,h1,h2⟩:=hT x hx
 have hm:=(H.mem x hx).2
 rw [h1] at hm
 exact hg.block x.1 (blk_lt hm) (Kd.S_ne hS hm h2)
theorem split_ne : ∀ q,q ∈ 58 :: k58.E → q ≠ 49:=by
 intro q hq
 have hq2 : q = 58 ∨ q = 9:=by simpa [k58,Kd.iso,Kd.slice,Kd.string,Kd.scalar] using hq
 rcases hq2 with rfl|rfl <;> decide
def stripesV (K M G u : Nat) (d : ByteArray) (n : Nat) : List S58:=(List.range n).map fun i=>⟨encV K M G u (dataS K u d i)⟩
theorem stripesV_len (K M G u : Nat) (d : ByteArray) (n : Nat) : (stripesV K M G u d n).length = n:=by simp [stripesV]
theorem stripesV_succ (K M G u : Nat) (d : ByteArray) (n : Nat) : stripesV K M G u d (n + 1) = stripesV K M G u d n ++ [⟨encV K M G u (dataS K u d n)⟩]:=by simp [stripesV,List.range_succ]

set_option maxHeartbeats 8000000 in
set_option maxRecDepth 100000 in
theorem split_bad (k : Nat) (a0_0 a0_1 a0_2 a1 : Int) (d : ByteArray) (t : Int) (w : World) (h : impl_StripeCount.f k a0_0 a0_1 a0_2 a1 (d.size : Int) = some t) (h1 : t < 0) : Calls Try.prog 30 #[.agg #[.int .i64 a0_0,.int .i64 a0_1,.int .i64 a0_2],.int .i64 a1,.string d] w fun e w'=>∃ v1_ : Value,e = .returned (.agg #[.int .i64 1,v1_]) ∧ Kd.S k58 58 w' w.heap.size (fun _=>True) v1_ [] ∧ Below w.heap.size w w':=by
 have ht:=Aside0.mk h
 clear h
 have hu1:=Try.underlying43
 have hu2:=Try.underlying49
 have hu3:=Try.underlying126
 have H:=Aside0.mk (Hs.nil w)
 go_enter Try.func30,Try.ntmps30
 go_wp2_with (first
  | ((with_reducible refine gate_dst (N:=3) rfl ?_);(try (refine gate_guard (by rfl) ?_;dsimp only));refine box_event ?hg (N:=3) ?hd (cs:=#[.int .i64 a0_0,.int .i64 a0_1,.int .i64 a0_2]) (t:=43) ?hr ?_;(case hd=>rfl);(case hg=>rfl);(case hr=>first|(go_simp;done)|(go_simp;rfl));intro gc hg w1 hbox hb;have H_:=Aside0.mk (Hs.push H.out (Nat.le_of_eq hg.symm) hbox hb);clear hbox hb hg H;have H:=H_;clear H_)
  | ((with_reducible refine gate_dst (N:=6) rfl ?_);(try (refine gate_guard (by rfl) ?_;dsimp only));refine box_event ?hg (N:=6) ?hd (cs:=#[.int .i64 0,.slice none 0 0]) (t:=49) ?hr ?_;(case hd=>rfl);(case hg=>rfl);(case hr=>first|(go_simp;done)|(go_simp;rfl));intro gs hg w2 hbox hb;have H_:=Aside0.mk (Hs.push H.out (Nat.le_of_eq hg.symm) hbox hb);clear hbox hb hg H;have H:=H_;clear H_)
  | ((with_reducible refine gate_dst (N:=12) rfl ?_);(try (refine gate_guard (by rfl) ?_;dsimp only));have hc0_:=H.out.cellv (v:=.int .i64 a0_0) 1 rfl 0 rfl;have hc1_:=H.out.cellv (v:=.int .i64 a0_1) 1 rfl 1 rfl;have hc2_:=H.out.cellv (v:=.int .i64 a0_2) 1 rfl 2 rfl;refine load_at (.agg #[.int .i64 a0_0,.int .i64 a0_1,.int .i64 a0_2]) ?hg ?hr ?_;(case hg=>rfl);(case hr=>first|(go_simp;done)|(go_simp;rfl));clear hc0_ hc1_ hc2_)
  | ((with_reducible refine gate_callee (f:=31) rfl ?_);(try (refine gate_guard (by rfl) ?_;dsimp only));refine goesL_ (some 16) rfl rfl Try.func31 (by kernel_rfl) rfl #[.agg #[.int .i64 a0_0,.int .i64 a0_1,.int .i64 a0_2],.int .i64 a1,.int .i64 d.size] rfl (by (try simp only [List.map_toArray,List.map_cons,List.map_nil]);first|done|rfl) ?_;(with_reducible refine (impl_StripeCount.calls k a0_0 a0_1 a0_2 a1 (d.size : Int) t _ ht.out).mono ?_);rintro e w3 ⟨rfl,hb⟩;refine ⟨_,rfl,?_⟩;have H_:=Aside0.mk (show Hs w w3 [(gs,.cells #[.int .i64 0,.slice none 0 0] 49 (0,0)),(gc,.cells #[.int .i64 a0_0,.int .i64 a0_1,.int .i64 a0_2] 43 (0,0))] from H.out.call hb);clear hb H;have H:=H_;clear H_)
  | ((with_reducible refine gate_store (p:=6) rfl ?_);(try (refine gate_guard (by rfl) ?_;dsimp only));have hc0_:=H.out.cellv (v:=.int .i64 0) 0 rfl 0 rfl;have hf0_:=H.out.frozen 0 rfl 0;have hc1_:=H.out.cellv (v:=.slice none 0 0) 0 rfl 1 rfl;have hf1_:=H.out.frozen 0 rfl 1;refine store_at (fun W=>(World.setCell (World.setCell W ⟨gs,0,none⟩ (.int .i64 1)) ⟨gs,1,none⟩ (.slice none 0 0))) ?hg rfl ?hd ?hr ?_;(case hg=>rfl);(case hd=>rfl);(case hr=>first|(go_simp;done)|(go_simp;rfl));intro w4 hw;have H_:=Aside0.mk (show Hs w w4 [(gs,.cells #[.int .i64 1,.slice none 0 0] 49 (0,0)),(gc,.cells #[.int .i64 a0_0,.int .i64 a0_1,.int .i64 a0_2] 43 (0,0))] from by rw [hw];exact ((H.out.set 0 rfl 0 (.int .i64 1)).set 0 rfl 1 (.slice none 0 0)));clear hw hc0_ hf0_ hc1_ hf1_ H;have H:=H_;clear H_))
 exact bodyPost_ret (results_cell_row rfl _ _ gs 49 #[.int .i64 1,.slice none 0 0] (0,0) _ rfl (H.out.get 0 rfl) Try.underlying49 rfl (by kernel_rfl)) rfl ⟨_,rfl,Kd.S_nil _ _ _ _ _,H.out.below⟩

set_option maxHeartbeats 8000000 in
set_option maxRecDepth 100000 in
theorem split_good (k : Nat) (K M G u : Nat) (d : ByteArray) (n : Nat) (w : World) (h : impl_StripeCount.f k K M G u (d.size : Int) = some (n : Int)) (f1 : 1 ≤ K) (f2 : K ≤ 32) (f4 : M ≤ 16) (f5 : G ≤ K) (f6 : K + M + G ≤ 64) (f8 : 1 ≤ u) (f9 : u ≤ 4096) (f10 : n ≤ 200) (f11 : d.size ≤ 100000) (f12 : ∀ i,i < n → i * K * u ≤ d.size) : Calls Try.prog 30 #[.agg #[.int .i64 K,.int .i64 M,.int .i64 G],.int .i64 u,.string d] w fun e w'=>∃ v1_ : Value,e = .returned (.agg #[.int .i64 0,v1_]) ∧ Kd.S k58 58 w' w.heap.size (fun _=>True) v1_ (stripesV K M G u d n) ∧ Below w.heap.size w w':=by
 have hd30:=Aside0.mk (show d.size ≤ 1073741824 by omega)
 have n0_ : 0 ≤ (n : Int):=by omega
 have n1_ : decide ((n : Int) < 0) = false:=decide_eq_false (by omega)
 replace f1:=Aside0.mk f1
 replace f2:=Aside0.mk f2
 replace f4:=Aside0.mk f4
 replace f5:=Aside0.mk f5
 replace f6:=Aside0.mk f6
 replace f8:=Aside0.mk f8
 replace f9:=Aside0.mk f9
 replace f12:=Aside0.mk f12
 have ht:=Aside0.mk h
 clear h
 have hu1:=Try.underlying43
 have hu2:=Try.underlying49
 have hu3:=Try.underlying126
 have H:=Aside0.mk (Hs.nil w)
 go_enter Try.func30,Try.ntmps30
 go_wp2_with (first
  | ((with_reducible refine gate_dst (N:=3) rfl ?_);(try (refine gate_guard (by rfl) ?_;dsimp only));refine box_event ?hg (N:=3) ?hd (cs:=#[.int .i64 K,.int .i64 M,.int .i64 G]) (t:=43) ?hr ?_;(case hd=>rfl);(case hg=>rfl);(case hr=>first|(go_simp;done)|(go_simp;rfl));intro gc hg w1 hbox hb;have H_:=Aside0.mk (Hs.push H.out (Nat.le_of_eq hg.symm) hbox hb);clear hbox hb hg H;have H:=H_;clear H_)
  | ((with_reducible refine gate_dst (N:=6) rfl ?_);(try (refine gate_guard (by rfl) ?_;dsimp only));refine box_event ?hg (N:=6) ?hd (cs:=#[.int .i64 0,.slice none 0 0]) (t:=49) ?hr ?_;(case hd=>rfl);(case hg=>rfl);(case hr=>first|(go_simp;done)|(go_simp;rfl));intro gs hg w2 hbox hb;have H_:=Aside0.mk (Hs.push H.out (Nat.le_of_eq hg.symm) hbox hb);clear hbox hb hg H;have H:=H_;clear H_)
  | ((with_reducible refine gate_dst (N:=12) rfl ?_);(try (refine gate_guard (by rfl) ?_;dsimp only));have hc0_:=H.out.cellv (v:=.int .i64 K) 1 rfl 0 rfl;have hc1_:=H.out.cellv (v:=.int .i64 M) 1 rfl 1 rfl;have hc2_:=H.out.cellv (v:=.int .i64 G) 1 rfl 2 rfl;refine load_at (.agg #[.int .i64 K,.int .i64 M,.int .i64 G]) ?hg ?hr ?_;(case hg=>rfl);(case hr=>first|(go_simp;done)|(go_simp;rfl));clear hc0_ hc1_ hc2_)
  | ((with_reducible refine gate_callee (f:=31) rfl ?_);(try (refine gate_guard (by rfl) ?_;dsimp only));refine goesL_ (some 16) rfl rfl Try.func31 (by kernel_rfl) rfl #[.agg #[.int .i64 K,.int .i64 M,.int .i64 G],.int .i64 u,.int .i64 d.size] rfl (by (try simp only [List.map_toArray,List.map_cons,List.map_nil]);first|done|rfl) ?_;(with_reducible refine (impl_StripeCount.calls k K M G u (d.size : Int) (n : Int) _ ht.out).mono ?_);rintro e w3 ⟨rfl,hb⟩;refine ⟨_,rfl,?_⟩;have H_:=Aside0.mk (show Hs w w3 [(gs,.cells #[.int .i64 0,.slice none 0 0] 49 (0,0)),(gc,.cells #[.int .i64 K,.int .i64 M,.int .i64 G] 43 (0,0))] from H.out.call hb);clear hb H;have H:=H_;clear H_)
  | ((with_reducible refine gate_dst (N:=20) rfl ?_);(try (refine gate_guard (by rfl) ?_;dsimp only));have hc0_:=H.out.cellv (v:=.int .i64 K) 1 rfl 0 rfl;have hc1_:=H.out.cellv (v:=.int .i64 M) 1 rfl 1 rfl;have hc2_:=H.out.cellv (v:=.int .i64 G) 1 rfl 2 rfl;refine load_at (.agg #[.int .i64 K,.int .i64 M,.int .i64 G]) ?hg ?hr ?_;(case hg=>rfl);(case hr=>first|(go_simp;done)|(go_simp;rfl));clear hc0_ hc1_ hc2_)
  | ((with_reducible refine gate_callee (f:=84) rfl ?_);(try (refine gate_guard (by rfl) ?_;dsimp only));refine goesL_ (some 21) rfl rfl Try.func84 (by kernel_rfl) rfl #[.agg #[.int .i64 K,.int .i64 M,.int .i64 G]] rfl (by (try simp only [List.map_toArray,List.map_cons,List.map_nil]);first|done|rfl) ?_;(with_reducible refine (newPlant_calls K M G _ f1.out f2.out f4.out f5.out).mono ?_);rintro e wP ⟨gt,gp,vg,vl,rfl,hP,hb⟩;refine ⟨_,rfl,?_⟩;have hP0:=Aside0.mk hP;clear hP;have HO:=Aside0.mk (H.out.call hb);clear hb H;have hgs:=Aside0.mk (HO.out.lt 0 rfl);have hwP:=Aside0.mk HO.out.size;have H:=Aside0.mk (Hs.nil wP))
  | ((with_reducible refine gate_dst (N:=22) rfl ?_);(try (refine gate_guard (by rfl) ?_;dsimp only));have hc0_:=HO.out.cellv (v:=.int .i64 K) 1 rfl 0 rfl;have hc1_:=HO.out.cellv (v:=.int .i64 M) 1 rfl 1 rfl;have hc2_:=HO.out.cellv (v:=.int .i64 G) 1 rfl 2 rfl;refine load_at (.agg #[.int .i64 K,.int .i64 M,.int .i64 G]) ?hg ?hr ?_;(case hg=>rfl);(case hr=>first|(go_simp;done)|(go_simp;rfl));clear hc0_ hc1_ hc2_)
  | ((with_reducible refine gate_dst (N:=9) rfl ?_);(try (refine gate_guard (by rfl) ?_;dsimp only));refine box_event ?hg (N:=9) ?hd (cs:=#[.int .i64 0,.int .i64 0,.int .i64 0,.int .i64 0,.int .i64 0]) (t:=126) ?hr ?_;(case hd=>rfl);(case hg=>rfl);(case hr=>first|(go_simp;done)|(go_simp;rfl));intro gk hg w31 hbox hb;have H_:=Aside0.mk (Hs.push H.out (Nat.le_of_eq hg.symm) hbox hb);clear hbox hb hg H;have H:=H_;clear H_)
  | ((with_reducible refine gate_store (p:=9) rfl ?_);(try (refine gate_guard (by rfl) ?_;dsimp only));have hc0_:=H.out.cellv (v:=.int .i64 0) 0 rfl 0 rfl;have hf0_:=H.out.frozen 0 rfl 0;have hc1_:=H.out.cellv (v:=.int .i64 0) 0 rfl 1 rfl;have hf1_:=H.out.frozen 0 rfl 1;have hc2_:=H.out.cellv (v:=.int .i64 0) 0 rfl 2 rfl;have hf2_:=H.out.frozen 0 rfl 2;have hc3_:=H.out.cellv (v:=.int .i64 0) 0 rfl 3 rfl;have hf3_:=H.out.frozen 0 rfl 3;have hc4_:=H.out.cellv (v:=.int .i64 0) 0 rfl 4 rfl;have hf4_:=H.out.frozen 0 rfl 4;refine store_at (fun W=>(World.setCell (World.setCell (World.setCell (World.setCell (World.setCell W ⟨gk,0,none⟩ (.int .i64 K)) ⟨gk,1,none⟩ (.int .i64 M)) ⟨gk,2,none⟩ (.int .i64 G)) ⟨gk,3,none⟩ (.int .i64 u)) ⟨gk,4,none⟩ (.int .i64 d.size))) ?hg rfl ?hd ?hr ?_;(case hg=>rfl);(case hd=>rfl);(case hr=>first|(go_simp;done)|(go_simp;rfl));intro w32 hw;have H_:=Aside0.mk (show Hs wP w32 [(gk,.cells #[.int .i64 K,.int .i64 M,.int .i64 G,.int .i64 u,.int .i64 d.size] 126 (0,0))] from by rw [hw];exact (((((H.out.set 0 rfl 0 (.int .i64 K)).set 0 rfl 1 (.int .i64 M)).set 0 rfl 2 (.int .i64 G)).set 0 rfl 3 (.int .i64 u)).set 0 rfl 4 (.int .i64 d.size)));clear hw hc0_ hf0_ hc1_ hf1_ hc2_ hf2_ hc3_ hf3_ hc4_ hf4_ H;have H:=H_;clear H_)
  | ((with_reducible refine gate_dst (N:=10) rfl ?_);(try (refine gate_guard (by rfl) ?_;dsimp only));refine box_event ?hg (N:=10) ?hd (cs:=#[.int .i64 0,.slice none 0 0]) (t:=49) ?hr ?_;(case hd=>rfl);(case hg=>rfl);(case hr=>first|(go_simp;done)|(go_simp;rfl));intro go hg w33 hbox hb;have H_:=Aside0.mk (Hs.push H.out (Nat.le_of_eq hg.symm) hbox hb);clear hbox hb hg H;have H:=H_;clear H_)
  | ((with_reducible refine gate_store (p:=10) rfl ?_);(try (refine gate_guard (by rfl) ?_;dsimp only));have hc0_:=H.out.cellv (v:=.int .i64 0) 0 rfl 0 rfl;have hf0_:=H.out.frozen 0 rfl 0;have hc1_:=H.out.cellv (v:=.slice none 0 0) 0 rfl 1 rfl;have hf1_:=H.out.frozen 0 rfl 1;refine store_at (fun W=>(World.setCell (World.setCell W ⟨go,0,none⟩ (.int .i64 0)) ⟨go,1,none⟩ (.slice none 0 0))) ?hg rfl ?hd ?hr ?_;(case hg=>rfl);(case hd=>rfl);(case hr=>first|(go_simp;done)|(go_simp;rfl));intro w34 hw;have H_:=Aside0.mk (show Hs wP w34 [(go,.cells #[.int .i64 0,.slice none 0 0] 49 (0,0)),(gk,.cells #[.int .i64 K,.int .i64 M,.int .i64 G,.int .i64 u,.int .i64 d.size] 126 (0,0))] from by rw [hw];exact ((H.out.set 0 rfl 0 (.int .i64 0)).set 0 rfl 1 (.slice none 0 0)));clear hw hc0_ hf0_ hc1_ hf1_ H;have H:=H_;clear H_))
 clear n1_
 go_loopw [29] (fun v29 wr=>∃ (i : Nat) (vo : Value),i ≤ n ∧ v29 = .int .i64 i ∧ Aside0 (Kd.S k58 58 wr wP.heap.size (fun _=>True) vo (stripesV K M G u d i)) ∧ Aside0 (Hs wP wr [(go,.cells #[.int .i64 0,vo] 49 (0,0)),(gk,.cells #[.int .i64 K,.int .i64 M,.int .i64 G,.int .i64 u,.int .i64 d.size] 126 (0,0))])) (fun i _=>n - (intOf i).toNat)
 case atStart=>exact ⟨0,.slice none 0 0,by omega,rfl,Aside0.mk (Kd.S_nil _ _ _ _ _),H⟩
 case round=>
  clear H
  obtain ⟨i,vo,hi,rfl,HS,H⟩:=hrel
  obtain ⟨Ao,co,ev⟩:=Kd.S_slice HS.out
  rw [stripesV_len] at ev
  subst ev
  have i0 : 0 ≤ (i : Int):=by omega
  have hin:=Aside0.mk (show i ≤ 200 by omega)
  by_cases hlt : i < n
  ·have i1 : (i : Int) < (n : Int):=by omega
   have hix:=Aside0.mk (f12.out i hlt)
   have hc0 : wr.cell? ⟨go,1,none⟩ = some (.slice Ao i co):=H.out.cellv 0 rfl 1 rfl
   have hc1 : wr.cell? ⟨gk,0,none⟩ = some (.int .i64 K):=H.out.cellv 1 rfl 0 rfl
   have hc2 : wr.cell? ⟨gk,1,none⟩ = some (.int .i64 M):=H.out.cellv 1 rfl 1 rfl
   have hc3 : wr.cell? ⟨gk,2,none⟩ = some (.int .i64 G):=H.out.cellv 1 rfl 2 rfl
   have hc4 : wr.cell? ⟨gk,3,none⟩ = some (.int .i64 u):=H.out.cellv 1 rfl 3 rfl
   have hc5 : wr.cell? ⟨gk,4,none⟩ = some (.int .i64 d.size):=H.out.cellv 1 rfl 4 rfl
   go_wp2_with fail
   refine start_ (n:=13) (S:=fun w'=>w'.cell? ⟨go,1,none⟩ = some (.slice Ao i co) ∧ w'.cell? ⟨gk,0,none⟩ = some (.int .i64 K) ∧ w'.cell? ⟨gk,1,none⟩ = some (.int .i64 M) ∧ w'.cell? ⟨gk,2,none⟩ = some (.int .i64 G) ∧ w'.cell? ⟨gk,3,none⟩ = some (.int .i64 u) ∧ w'.cell? ⟨gk,4,none⟩ = some (.int .i64 d.size)) (ds:=[12]) #[false,false,false,false,false,false,false,false,false,false,false,false,false] (by kernel_rfl) rfl rfl ⟨hc0,hc1,hc2,hc3,hc4,hc5⟩ (fun hHeld=>?_)
   have H_:=Aside0.mk H.out.drew
   have HS_:=Aside0.mk (Kd.S_drew HS.out)
   clear H HS hc0 hc1 hc2 hc3 hc4 hc5
   have H:=H_
   have HS:=HS_
   clear H_ HS_
   generalize wr.drew = wd at H HS hHeld ⊢
   refine pure_ (i:=0) (N:=some 32) (v:=?_) (a':=?_) #[true,false,false,false,false,false,false,false,false,false,false,false,false] rfl rfl (by kernel_rfl) (fun _ _ _ h=>h) (Or.inl ⟨by rfl,?_⟩) ?_ ?_
   rotate_left
   ·intro w'
    go_simp
    with_reducible rfl
   rotate_left
   ·simp only [Act.put,List.setIfInBounds_toArray,List.set_cons_zero,List.set_cons_succ,i64_w,i32_w]
    rfl
   refine pure_ (i:=2) (N:=some 34) (v:=?_) (a':=?_) #[true,false,true,false,false,false,false,false,false,false,false,false,false] rfl rfl (by kernel_rfl) (fun _ _ _ h=>h) (Or.inl ⟨by rfl,?_⟩) ?_ ?_
   rotate_left
   ·intro w'
    go_simp
    with_reducible rfl
   rotate_left
   ·simp only [Act.put,List.setIfInBounds_toArray,List.set_cons_zero,List.set_cons_succ,i64_w,i32_w]
    rfl
   refine pure_ (i:=4) (N:=some 36) (v:=?_) (a':=?_) #[true,false,true,false,true,false,false,false,false,false,false,false,false] rfl rfl (by kernel_rfl) (fun _ _ _ h=>h) (Or.inl ⟨by rfl,?_⟩) ?_ ?_
   rotate_left
   ·intro w'
    go_simp
    with_reducible rfl
   rotate_left
   ·simp only [Act.put,List.setIfInBounds_toArray,List.set_cons_zero,List.set_cons_succ,i64_w,i32_w]
    rfl
   refine pure_ (i:=5) (N:=some 37) (v:=?_) (a':=?_) #[true,false,true,false,true,true,false,false,false,false,false,false,false] rfl rfl (by kernel_rfl) (fun _ _ _ h=>h) (Or.inl ⟨by rfl,?_⟩) ?_ ?_
   rotate_left
   ·intro w'
    go_simp
    with_reducible rfl
   rotate_left
   ·simp only [Act.put,List.setIfInBounds_toArray,List.set_cons_zero,List.set_cons_succ,i64_w,i32_w]
    rfl
   refine take_ (i:=1) (N:=some 33) (v:=?_) (a':=?_) #[true,true,true,false,true,true,false,false,false,false,false,false,false] rfl rfl (by kernel_rfl) (fun _ _ _ h=>h) (Or.inl ⟨by rfl,?_⟩) hHeld ?_ ?_
   rotate_left
   ·rintro w' ⟨s0,s1,s2,s3,s4,s5⟩
    go_simp
    with_reducible rfl
   rotate_left
   ·simp only [Act.put,List.setIfInBounds_toArray,List.set_cons_zero,List.set_cons_succ,i64_w,i32_w]
    rfl
   refine take_ (i:=3) (N:=some 35) (v:=?_) (a':=?_) #[true,true,true,true,true,true,false,false,false,false,false,false,false] rfl rfl (by kernel_rfl) (fun _ _ _ h=>h) (Or.inl ⟨by rfl,?_⟩) hHeld ?_ ?_
   rotate_left
   ·rintro w' ⟨s0,s1,s2,s3,s4,s5⟩
    go_simp
    with_reducible rfl
   rotate_left
   ·simp only [Act.put,List.setIfInBounds_toArray,List.set_cons_zero,List.set_cons_succ,i64_w,i32_w]
    rfl
   refine one_ (i:=6) (N:=some 38) #[true,true,true,true,true,true,true,false,false,false,false,false,false] rfl rfl (by kernel_rfl) (by decide) (fun Kc hK=>?_)
   refine goes_ Try.func86 (by kernel_rfl) rfl #[.agg #[.int .i64 K,.int .i64 M,.int .i64 G,.int .i64 u,.int .i64 d.size],.int .i64 i,.string d] (by rfl) rfl rfl (by first|(simp only [List.map_toArray,List.map_cons,List.map_nil];done)|rfl|(simp only [List.map_toArray,List.map_cons,List.map_nil];rfl)) ?_
   with_reducible refine (dataAt_calls K M G u (d.size : Int) i d _ f1.out f2.out f8.out f9.out hix.out hd30.out).mono ?_
   rintro e wA ⟨vd,rfl,hRd,hb⟩
   refine ⟨_,rfl,?_⟩
   obtain ⟨Ad,cd,ed⟩:=Kd.R_slice hRd
   rw [dataS_len] at ed
   subst ed
   have HD:=Aside0.mk (Kd.R_reads' hRd).2.2
   rw [dataS_len] at HD
   clear hRd
   have H1:=Aside0.mk (H.out.call hb)
   have HS1:=Aside0.mk (Kd.S_below HS.out hb)
   clear hb
   refine hK.out _ _ ⟨(H1.out.cellv 0 rfl 1 rfl),(H1.out.cellv 1 rfl 0 rfl),(H1.out.cellv 1 rfl 1 rfl),(H1.out.cellv 1 rfl 2 rfl),(H1.out.cellv 1 rfl 3 rfl),(H1.out.cellv 1 rfl 4 rfl)⟩ (fun hHeld=>?_)
   clear hK Kc
   refine norm_ (a':=?_) ?_ ?_
   rotate_left
   ·show Act.put _ (some 38) _ = _
    simp only [Act.put,List.setIfInBounds_toArray,List.set_cons_zero,List.set_cons_succ,i64_w,i32_w]
    rfl
   refine one_ (i:=7) (N:=some 39) #[true,true,true,true,true,true,true,true,false,false,false,false,false] rfl rfl (by kernel_rfl) (by decide) (fun Kc hK=>?_)
   refine goes_ Try.func85 (by kernel_rfl) rfl #[.pointer (some ⟨gp,0,none⟩),.slice Ad K cd] (by rfl) rfl rfl (by first|(simp only [List.map_toArray,List.map_cons,List.map_nil];done)|rfl|(simp only [List.map_toArray,List.map_cons,List.map_nil];rfl)) ?_
   with_reducible refine (encode_calls gt gp K M G vg vl _ (hP0.out.below H1.out.below) Ad cd (dataS K u d i) u HD.out (dataS_len _ _ _ _) f1.out f2.out f4.out f5.out f6.out (dataS_size K u d i) f9.out).mono ?_
   rintro e wB ⟨ve,rfl,hRe0,hb⟩
   refine ⟨_,rfl,?_⟩
   have hRe:=Aside0.mk hRe0
   clear hRe0
   obtain ⟨Ae,ce,rfl⟩:=Kd.R_slice hRe.out
   have H2:=Aside0.mk (H1.out.call hb)
   have HS2:=Aside0.mk (Kd.S_old HS1.out hb)
   clear hb
   refine hK.out _ _ ⟨(H2.out.cellv 0 rfl 1 rfl),(H2.out.cellv 1 rfl 0 rfl),(H2.out.cellv 1 rfl 1 rfl),(H2.out.cellv 1 rfl 2 rfl),(H2.out.cellv 1 rfl 3 rfl),(H2.out.cellv 1 rfl 4 rfl)⟩ (fun hHeld=>?_)
   clear hK Kc
   refine norm_ (a':=?_) ?_ ?_
   rotate_left
   ·show Act.put _ (some 39) _ = _
    simp only [Act.put,List.setIfInBounds_toArray,List.set_cons_zero,List.set_cons_succ,i64_w,i32_w]
    rfl
   refine pure_ (i:=8) (N:=some 40) (v:=?_) (a':=?_) #[true,true,true,true,true,true,true,true,true,false,false,false,false] rfl rfl (by kernel_rfl) (fun _ _ _ h=>h) (Or.inl ⟨by rfl,?_⟩) ?_ ?_
   rotate_left
   ·intro w'
    go_simp
    with_reducible rfl
   rotate_left
   ·simp only [Act.put,List.setIfInBounds_toArray,List.set_cons_zero,List.set_cons_succ,i64_w,i32_w]
    rfl
   refine one_ (i:=9) (N:=some 41) #[true,true,true,true,true,true,true,true,true,true,false,false,false] rfl rfl (by kernel_rfl) (by decide) (fun Kc hK=>?_)
   refine value_ (w1:=?_) (v:=?_) (by rfl) rfl ?_ ?_
   rotate_left 2
   ·go_simp
    constructor
    ·rfl
    ·rfl
   have hD:=Aside0.mk (H2.out.alloc (.cells #[.slice Ae (encV K M G u (dataS K u d i)).length ce] 58 (0,0)))
   refine hK.out _ _ ⟨(hD.out.tail.cellv 0 rfl 1 rfl),(hD.out.tail.cellv 1 rfl 0 rfl),(hD.out.tail.cellv 1 rfl 1 rfl),(hD.out.tail.cellv 1 rfl 2 rfl),(hD.out.tail.cellv 1 rfl 3 rfl),(hD.out.tail.cellv 1 rfl 4 rfl)⟩ (fun hHeld=>?_)
   clear hK Kc
   refine norm_ (a':=?_) ?_ ?_
   rotate_left
   ·show Act.put _ (some 41) _ = _
    simp only [Act.put,List.setIfInBounds_toArray,List.set_cons_zero,List.set_cons_succ,i64_w,i32_w]
    rfl
   refine one_ (i:=10) (N:=some 42) #[true,true,true,true,true,true,true,true,true,true,true,false,false] rfl rfl (by kernel_rfl) (by decide) (fun Kc hK=>?_)
   refine Kd.S_append_step k58 (w0:=wP) (W:=wB) wP.heap.size (by rfl) (.tmp 33) (.tmp 41) 47 58 (.agg #[.slice none 0 0]) 24 rfl Try.underlying47 (by kernel_rfl) rfl (by decide) (by decide) (.slice Ao i co) (stripesV K M G u d i) ⟨encV K M G u (dataS K u d i)⟩ [.slice Ae (encV K M G u (dataS K u d i)).length ce] (fun _=>True) (fun k_=>wA.heap.size ≤ k_) rfl rfl (k58_mkM _ _ _ _ (Kd.R_mono (Kd.R_lower (Kd.R_bound hRe.out) H1.out.size) (fun k_ hk_=>hk_.2.1))) (fun k_ hk_=>⟨trivial,fun e_=>by have h_:=Kd.S_lt HS1.out k_ e_.symm;omega⟩) (fun _ _=>trivial) (Kd.S_mono HS2.out (fun k_ hk_=>⟨trivial,by have h_:=hk_.2;omega⟩)) H2.out.below H2.out.size (by rw [stripesV_len];have h_:=hin.out;omega) ?_
   intro vo1 w1 hS1_ hB1 hg1 hat1
   obtain ⟨A1,z1,e1⟩:=Kd.S_slice hS1_
   rw [List.length_append,stripesV_len,List.length_singleton] at e1
   subst e1
   have hS1:=Aside0.mk hS1_
   have H3:=Aside0.mk (hs_grown H2.out HS2.out hB1 hg1 (by intro x hx;simp only [List.mem_cons,List.not_mem_nil,or_false] at hx;rcases hx with rfl|rfl <;> exact ⟨_,_,rfl,by decide⟩))
   clear hS1_ hB1 hg1 hat1 hD
   have hf1 : w1.frozen? ⟨go,1,none⟩ = false:=H3.out.frozen 0 rfl 1
   refine hK.out _ _ ⟨(H3.out.cellv 0 rfl 1 rfl),(H3.out.cellv 1 rfl 0 rfl),(H3.out.cellv 1 rfl 1 rfl),(H3.out.cellv 1 rfl 2 rfl),(H3.out.cellv 1 rfl 3 rfl),(H3.out.cellv 1 rfl 4 rfl)⟩ (fun hHeld=>?_)
   clear hK Kc
   refine norm_ (a':=?_) ?_ ?_
   rotate_left
   ·show Act.put _ (some 42) _ = _
    simp only [Act.put,List.setIfInBounds_toArray,List.set_cons_zero,List.set_cons_succ,i64_w,i32_w]
    rfl
   refine pure_ (i:=11) (N:=some 43) (v:=?_) (a':=?_) #[true,true,true,true,true,true,true,true,true,true,true,true,false] rfl rfl (by kernel_rfl) (fun _ _ _ h=>h) (Or.inl ⟨by rfl,?_⟩) ?_ ?_
   rotate_left
   ·intro w'
    go_simp
    with_reducible rfl
   rotate_left
   ·simp only [Act.put,List.setIfInBounds_toArray,List.set_cons_zero,List.set_cons_succ,i64_w,i32_w]
    rfl
   refine last_ (i:=12) (N:=none) #[true,true,true,true,true,true,true,true,true,true,true,true,true] rfl rfl (by kernel_rfl) (by decide) (fun Kc hK=>?_)
   refine skip_ (w1:=?_) (by rfl) rfl ?_ ?_
   rotate_left
   ·go_simp
    rfl
   refine hK.out _ _ ?_
   clear hK Kc
   refine done_ (by kernel_rfl) ?_
   go_wp2
   go_roundw
   case rel=>exact ⟨i + 1,_,by omega,by go_num,Aside0.mk (by rw [stripesV_succ];exact Kd.S_set hS1.out (H3.out.get 0 rfl) split_ne 1 _),Aside0.mk (H3.out.set 0 rfl 1 _)⟩
   case measure=>simp [intOf];omega
  ·obtain rfl : n = i:=by omega
   have i1 : decide ((n : Int) < (n : Int)) = false:=decide_eq_false (by omega)
   have HO2:=Aside0.mk (HO.out.call H.out.below)
   clear HO
   have hc0 : wr.cell? ⟨go,0,none⟩ = some (.int .i64 0):=H.out.cellv 0 rfl 0 rfl
   have hc1 : wr.cell? ⟨go,1,none⟩ = some (.slice Ao n co):=H.out.cellv 0 rfl 1 rfl
   have hq0 : wr.cell? ⟨gs,0,none⟩ = some (.int .i64 0):=HO2.out.cellv 0 rfl 0 rfl
   have hq1 : wr.cell? ⟨gs,1,none⟩ = some (.slice none 0 0):=HO2.out.cellv 0 rfl 1 rfl
   have hqf:=HO2.out.frozen 0 rfl 0
   have hqg:=HO2.out.frozen 0 rfl 1
   go_wp2_with (first
    | ((with_reducible refine gate_store (p:=6) rfl ?_);refine store_at (fun W=>World.setCell (World.setCell W ⟨gs,0,none⟩ (.int .i64 0)) ⟨gs,1,none⟩ (.slice Ao n co)) ?hg rfl ?hd ?hr ?_;(case hg=>rfl);(case hd=>rfl);(case hr=>first|(go_simp;done)|(go_simp;rfl));intro wz hw;have HZ:=Aside0.mk (show Hs w wz [(gs,.cells #[.int .i64 0,.slice Ao n co] 49 (0,0)),(gc,.cells #[.int .i64 K,.int .i64 M,.int .i64 G] 43 (0,0))] from by rw [hw];exact (HO2.out.set 0 rfl 0 (.int .i64 0)).set 0 rfl 1 (.slice Ao n co));have HSZ:=Aside0.mk (show Kd.S k58 58 wz wP.heap.size (fun _=>True) (.slice Ao n co) (stripesV K M G u d n) from by rw [hw];exact Kd.S_mono (Kd.S_far (p:=⟨gs,1,none⟩) (Kd.S_far (p:=⟨gs,0,none⟩) (Kd.S_bound HS.out) (fun k_ hk_ e_=>by have h1_:=hk_.2.1;have h2_ : k_ = gs:=e_;have h3_:=hgs.out;omega) _) (fun k_ hk_ e_=>by have h1_:=hk_.2.1;have h2_ : k_ = gs:=e_;have h3_:=hgs.out;omega) _) (fun _ _=>trivial))))
   exact bodyPost_ret (results_cell_row rfl _ _ gs 49 #[.int .i64 0,.slice Ao n co] (0,0) _ rfl (HZ.out.get 0 rfl) Try.underlying49 rfl (by kernel_rfl)) rfl ⟨_,rfl,Kd.S_lower HSZ.out hwP.out,HZ.out.below⟩

def impl_SplitObject.f (k : Nat) (a0_0 a0_1 a0_2 a1 : Int) (d : ByteArray) : Option (Int × List S58):=(impl_StripeCount.f k a0_0 a0_1 a0_2 a1 (d.size : Int)).bind fun t=>if t < 0 then some (1,[]) else (if 1 ≤ a0_0 ∧ a0_0 ≤ 32 ∧ 0 ≤ a0_1 ∧ a0_1 ≤ 16 ∧ 0 ≤ a0_2 ∧ a0_2 ≤ a0_0 ∧ a0_0 + a0_1 + a0_2 ≤ 64 ∧ 1 ≤ a1 ∧ a1 ≤ 4096 ∧ t ≤ 200 ∧ d.size ≤ 100000 ∧ (∀ i,i < t.toNat → i * a0_0.toNat * a1.toNat ≤ d.size) then some (0,stripesV a0_0.toNat a0_1.toNat a0_2.toNat a1.toNat d t.toNat) else none)
theorem impl_SplitObject.mono : ∀ a0 a1 a2 a3 a4 k,LeO (impl_SplitObject.f k a0 a1 a2 a3 a4) (impl_SplitObject.f (k + 1) a0 a1 a2 a3 a4):=by
 intro a0 a1 a2 a3 a4 k
 unfold impl_SplitObject.f
 exact LeO.bind (impl_StripeCount.mono _ _ _ _ _ _) (fun t=>LeO.refl _)
theorem impl_SplitObject.calls (k : Nat) (a0_0 a0_1 a0_2 a1 : Int) (d : ByteArray) (r1 : Int) (r2 : List S58) (w : World) (h : impl_SplitObject.f k a0_0 a0_1 a0_2 a1 d = some (r1,r2)) :
  Calls Try.prog 30 #[.agg #[.int .i64 a0_0,.int .i64 a0_1,.int .i64 a0_2],.int .i64 a1,.string d] w fun e w'=>∃ v1_ : Value,e = .returned (.agg #[.int .i64 r1,v1_]) ∧ Kd.S k58 58 w' w.heap.size (fun _=>True) v1_ r2 ∧ Below w.heap.size w w':=by
 unfold impl_SplitObject.f at h
 obtain ⟨t,ht,h⟩:=Option.bind_eq_some_iff.mp h
 by_cases h0 : t < 0
 ·rw [if_pos h0] at h
  simp only [Option.some.injEq,Prod.mk.injEq] at h
  obtain ⟨rfl,rfl⟩:=h
  exact split_bad k a0_0 a0_1 a0_2 a1 d t w ht h0
 ·rw [if_neg h0] at h
  split at h
  ·rename_i hc
   obtain ⟨c1,c2,c3,c4,c5,c6,c7,c8,c9,c10,c11,c12⟩:=hc
   simp only [Option.some.injEq,Prod.mk.injEq] at h
   obtain ⟨rfl,rfl⟩:=h
   obtain ⟨K,rfl⟩:=Int.eq_ofNat_of_zero_le (show 0 ≤ a0_0 by omega)
   obtain ⟨M,rfl⟩:=Int.eq_ofNat_of_zero_le c3
   obtain ⟨G,rfl⟩:=Int.eq_ofNat_of_zero_le c5
   obtain ⟨u,rfl⟩:=Int.eq_ofNat_of_zero_le (show 0 ≤ a1 by omega)
   obtain ⟨n,rfl⟩:=Int.eq_ofNat_of_zero_le (show 0 ≤ t by omega)
   simp only [Int.toNat_natCast] at c12 ⊢
   exact split_good k K M G u d n w ht (by omega) (by omega) (by omega) (by omega) (by omega) (by omega) (by omega) (by omega) c11 c12
  ·cases h

end Go.Proofs.Ytffhbpepppodeaa.PFnJoined
