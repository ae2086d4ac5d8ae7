import Derived.Test.YtffhbpepppodeaaPFnInversex0
import Derived.Test.YtffhbpepppodeaaPFnInversex1
import Derived.Test.YtffhbpepppodeaaRedOFnInverse
import Derived.Test.YtffhbpepppodeaaGridMFnInverse
import Derived.Test.YtffhbpepppodeaaInvFnInverse
import Derived.ChangeKeysEq
namespace Go.Proofs.Ytffhbpepppodeaa.PFnInverse
open Go.RowKit Go.Proofs.YtffhbpepppodeaaW.PrintWords Go.Proofs.YtffhbpepppodeaaW.PrintLast Go.Proofs.YtffhbpepppodeaaW.PrintMore
open Go.Proofs.Ytffhbpepppodeaa.Hs Go.Proofs.Ytffhbpepppodeaa.Gf Go.Proofs.Ytffhbpepppodeaa.Grid Go.Proofs.Ytffhbpepppodeaa.Reduce Go.Proofs.Ytffhbpepppodeaa.RedO Go.Proofs.Ytffhbpepppodeaa.GridM Go.Proofs.Ytffhbpepppodeaa.Elim
def invOf (n : Nat) (l : List Int) : Int × Int × Int × List Int:=if (redS n n n (0,fun i j=>l.getD (i * n + j) 0,idM) n).1 < n then (5,0,0,[]) else (0,n,n,GridM.cellsK n (redS n n n (0,fun i j=>l.getD (i * n + j) 0,idM) n).2.2 (n * n))
def impl_MatInv.f (k : Nat) (a0_0 : Int) (a0_1 : Int) (l0_2 : List Int) : Option (Int × Int × Int × List Int):=(impl_MatrixFault.f k a0_0 a0_1 l0_2).bind fun t=>if t = 0 then (if a0_0 = a0_1 then (if Fit a0_0 a0_1 l0_2 then some (invOf a0_0.toNat l0_2) else none) else some (1,0,0,[])) else some (1,0,0,[])
theorem impl_MatInv.mono : ∀ a0 a1 a2 k,LeO (impl_MatInv.f k a0 a1 a2) (impl_MatInv.f (k + 1) a0 a1 a2):=by
 intro a0 a1 a2 k r h
 unfold impl_MatInv.f at h ⊢
 obtain ⟨t,ht,h⟩:=Option.bind_eq_some_iff.mp h
 exact Option.bind_eq_some_iff.mpr ⟨t,impl_MatrixFault.mono a0 a1 a2 k t ht,h⟩
theorem shape_eq (a b : Int) (w : World) : (Op.equalIn 10000 107 (.agg #[.int .i64 a,.int .i64 a]) (.agg #[.int .i64 a,.int .i64 b])).run Try.prog w = .ok (a == b) w:=by
 obtain ⟨i,hi,_⟩:=Option.map_eq_some_iff.1 (show (Try.prog.info? 2).map (·.size) = some 1 by kernel_rfl)
 rw [run_equalIn_array w 9999 _ _ Try.underlying107 hi]
 have hc : Try.prog.cellsOf 2 = 1:=by kernel_rfl
 rw [hc]
 have p0 : ∀ x y : Int,(part 2 #[.int .i64 x,.int .i64 y] (0 * 1)).run Try.prog w = .ok (.int .i64 x) w:=fun _ _=>by kernel_rfl
 have p1 : ∀ x y : Int,(part 2 #[.int .i64 x,.int .i64 y] (1 * 1)).run Try.prog w = .ok (.int .i64 y) w:=fun _ _=>by kernel_rfl
 have e : ∀ x y : Int,(Op.equalIn 9999 2 (.int .i64 x) (.int .i64 y)).run Try.prog w = .ok (x == y) w:=fun x y=>run_equalIn_int w 9998 _ _ _ _ _ Try.underlying2
 simp only [show List.range 2 = [0,1] from rfl,Op.eqItems,Sem.run_bind,p0,p1,e,Result.andThen_ok]
 have p2 : ∀ x y : Int,(part 2 #[.int .i64 x,.int .i64 y] 1).run Try.prog w = .ok (.int .i64 y) w:=fun _ _=>by kernel_rfl
 cases h : a == b <;> simp [p2,e,h]

set_option maxHeartbeats 8000000 in
set_option maxRecDepth 100000 in
theorem matInv_bad (k : Nat) (a0_0 a0_1 : Int) (A0_2 : Option Addr) (c0_2 : Nat) (l0_2 : List Int) (t : Int) (w : World) (hc0 : Kd.C (Kd.int .i64) w A0_2 l0_2.length l0_2) (hcc : l0_2.length ≤ c0_2) (h : impl_MatrixFault.f k a0_0 a0_1 l0_2 = some t) (h1 : ¬ t = 0) : Calls Try.prog 18 #[.agg #[.int .i64 a0_0,.int .i64 a0_1,.slice A0_2 l0_2.length c0_2]] w fun e w'=>∃ v,e = .returned (.agg #[.int .i64 1,.int .i64 0,.int .i64 0,v]) ∧ Kd.R (Kd.int .i64) 2 w' w.heap.size (fun _=>True) v [] ∧ Below w.heap.size w w':=by
 have d1 : (t == 0) = false:=by simpa using h1
 have d2 : (t != 0) = true:=by simpa using h1
 clear h1
 have ht:=Aside0.mk h
 have hc:=Aside0.mk hc0
 have hu:=Try.underlying27
 have hu2:=Try.underlying32
 have hu3:=Try.underlying107
 have H:=Aside0.mk (Hs.nil w)
 clear h hc0
 go_enter Try.func18,Try.ntmps18
 go_wp2_with (first
  | ((with_reducible refine gate_dst (N:=1) rfl ?_);(try (refine gate_guard (by rfl) ?_;dsimp only));refine box_event ?hg (N:=1) ?hd (cs:=#[.int .i64 a0_0,.int .i64 a0_1,.slice A0_2 l0_2.length c0_2]) (t:=27) ?hr ?_;(case hd=>rfl);(case hg=>rfl);(case hr=>first|(go_simp;done)|(go_simp;rfl));intro gm hg w1 hbox hb;have H_:=Aside0.mk (Hs.push H.out (Nat.le_of_eq hg.symm) hbox hb);clear hbox hb hg H;have H:=H_;clear H_)
  | ((with_reducible refine gate_dst (N:=2) rfl ?_);(try (refine gate_guard (by rfl) ?_;dsimp only));refine box_event ?hg (N:=2) ?hd (cs:=#[.int .i64 0,.int .i64 0,.int .i64 0,.slice none 0 0]) (t:=32) ?hr ?_;(case hd=>rfl);(case hg=>rfl);(case hr=>first|(go_simp;done)|(go_simp;rfl));intro gs hg w2 hbox hb;have H_:=Aside0.mk (Hs.push H.out (Nat.le_of_eq hg.symm) hbox hb);clear hbox hb hg H;have H:=H_;clear H_)
  | ((with_reducible refine gate_dst (N:=9) rfl ?_);(try (refine gate_guard (by rfl) ?_;dsimp only));have hc_:=H.out.cellv (v:=.int .i64 a0_0) 1 rfl 0 rfl;refine load_at (.int .i64 a0_0) ?hg ?hr ?_;(case hg=>rfl);(case hr=>first|(go_simp;done)|(go_simp;rfl));clear hc_)
  | ((with_reducible refine gate_dst (N:=11) rfl ?_);(try (refine gate_guard (by rfl) ?_;dsimp only));have hc_:=H.out.cellv (v:=.int .i64 a0_0) 1 rfl 0 rfl;refine load_at (.int .i64 a0_0) ?hg ?hr ?_;(case hg=>rfl);(case hr=>first|(go_simp;done)|(go_simp;rfl));clear hc_)
  | ((with_reducible refine gate_dst (N:=3) rfl ?_);(try (refine gate_guard (by rfl) ?_;dsimp only));refine box_event ?hg (N:=3) ?hd (cs:=#[.int .i64 0,.int .i64 0]) (t:=107) ?hr ?_;(case hd=>rfl);(case hg=>rfl);(case hr=>first|(go_simp;done)|(go_simp;rfl));intro gh hg w3 hbox hb;have H_:=Aside0.mk (Hs.push H.out (Nat.le_of_eq hg.symm) hbox hb);clear hbox hb hg H;have H:=H_;clear H_)
  | ((with_reducible refine gate_store (p:=3) rfl ?_);(try (refine gate_guard (by rfl) ?_;dsimp only));have hc0_:=H.out.cellv (v:=.int .i64 0) 0 rfl 0 rfl;have hf0_:=H.out.frozen 0 rfl 0;have hc1_:=H.out.cellv (v:=.int .i64 0) 0 rfl 1 rfl;have hf1_:=H.out.frozen 0 rfl 1;refine store_at (fun W=>(World.setCell (World.setCell W ⟨gh,0,none⟩ (.int .i64 a0_0)) ⟨gh,1,none⟩ (.int .i64 a0_0))) ?hg rfl ?hd ?hr ?_;(case hg=>rfl);(case hd=>rfl);(case hr=>first|(go_simp;done)|(go_simp;rfl));intro w4 hw;have H_:=Aside0.mk (show Hs w w4 [(gh,.cells #[.int .i64 a0_0,.int .i64 a0_0] 107 (0,0)),(gs,.cells #[.int .i64 0,.int .i64 0,.int .i64 0,.slice none 0 0] 32 (0,0)),(gm,.cells #[.int .i64 a0_0,.int .i64 a0_1,.slice A0_2 l0_2.length c0_2] 27 (0,0))] from by rw [hw];exact ((H.out.set 0 rfl 0 (.int .i64 a0_0)).set 0 rfl 1 (.int .i64 a0_0)));clear hw hc0_ hf0_ hc1_ hf1_ H;have H:=H_;clear H_)
  | ((with_reducible refine gate_dst (N:=13) rfl ?_);(try (refine gate_guard (by rfl) ?_;dsimp only));have hc0_:=H.out.cellv (v:=.int .i64 a0_0) 2 rfl 0 rfl;have hc1_:=H.out.cellv (v:=.int .i64 a0_1) 2 rfl 1 rfl;have hc2_:=H.out.cellv (v:=.slice A0_2 l0_2.length c0_2) 2 rfl 2 rfl;refine load_at (.agg #[.int .i64 a0_0,.int .i64 a0_1,.slice A0_2 l0_2.length c0_2]) ?hg ?hr ?_;(case hg=>rfl);(case hr=>first|(go_simp;done)|(go_simp;rfl));clear hc0_ hc1_ hc2_)
  | ((with_reducible refine gate_callee (f:=61) rfl ?_);(try (refine gate_guard (by rfl) ?_;dsimp only));refine goesL_ (some 14) rfl rfl Try.func61 (by kernel_rfl) rfl #[.agg #[.int .i64 a0_0,.int .i64 a0_1,.slice A0_2 l0_2.length c0_2]] rfl (by (try simp only [List.map_toArray,List.map_cons,List.map_nil]);first|done|rfl) ?_;(with_reducible refine (impl_MatrixFault.calls k a0_0 a0_1 A0_2 c0_2 l0_2 t _ (Kd.C_below hc.out (H.out.below)) hcc ht.out).mono ?_);rintro e w5 ⟨rfl,hb⟩;refine ⟨_,rfl,?_⟩;have H_:=Aside0.mk (show Hs w w5 [(gh,.cells #[.int .i64 a0_0,.int .i64 a0_0] 107 (0,0)),(gs,.cells #[.int .i64 0,.int .i64 0,.int .i64 0,.slice none 0 0] 32 (0,0)),(gm,.cells #[.int .i64 a0_0,.int .i64 a0_1,.slice A0_2 l0_2.length c0_2] 27 (0,0))] from H.out.call hb);clear hb H;have H:=H_;clear H_)
  | ((with_reducible refine gate_store (p:=2) rfl ?_);(try (refine gate_guard (by rfl) ?_;dsimp only));have hc0_:=H.out.cellv (v:=.int .i64 0) 1 rfl 0 rfl;have hf0_:=H.out.frozen 1 rfl 0;have hc1_:=H.out.cellv (v:=.int .i64 0) 1 rfl 1 rfl;have hf1_:=H.out.frozen 1 rfl 1;have hc2_:=H.out.cellv (v:=.int .i64 0) 1 rfl 2 rfl;have hf2_:=H.out.frozen 1 rfl 2;have hc3_:=H.out.cellv (v:=.slice none 0 0) 1 rfl 3 rfl;have hf3_:=H.out.frozen 1 rfl 3;refine store_at (fun W=>(World.setCell (World.setCell (World.setCell (World.setCell W ⟨gs,0,none⟩ (.int .i64 1)) ⟨gs,1,none⟩ (.int .i64 0)) ⟨gs,2,none⟩ (.int .i64 0)) ⟨gs,3,none⟩ (.slice none 0 0))) ?hg rfl ?hd ?hr ?_;(case hg=>rfl);(case hd=>rfl);(case hr=>first|(go_simp;done)|(go_simp;rfl));intro w6 hw;have H_:=Aside0.mk (show Hs w w6 [(gh,.cells #[.int .i64 a0_0,.int .i64 a0_0] 107 (0,0)),(gs,.cells #[.int .i64 1,.int .i64 0,.int .i64 0,.slice none 0 0] 32 (0,0)),(gm,.cells #[.int .i64 a0_0,.int .i64 a0_1,.slice A0_2 l0_2.length c0_2] 27 (0,0))] from by rw [hw];exact ((((H.out.set 1 rfl 0 (.int .i64 1)).set 1 rfl 1 (.int .i64 0)).set 1 rfl 2 (.int .i64 0)).set 1 rfl 3 (.slice none 0 0)));clear hw hc0_ hf0_ hc1_ hf1_ hc2_ hf2_ hc3_ hf3_ H;have H:=H_;clear H_))
 exact bodyPost_ret (results_cell_row rfl _ _ gs 32 #[.int .i64 1,.int .i64 0,.int .i64 0,.slice none 0 0] (0,0) _ rfl (H.out.get 1 rfl) Try.underlying32 rfl (by kernel_rfl)) rfl ⟨_,rfl,Kd.R_nil _ _ _ _ _,H.out.below⟩

set_option maxHeartbeats 8000000 in
set_option maxRecDepth 100000 in
theorem matInv_oblong (k : Nat) (a0_0 a0_1 : Int) (A0_2 : Option Addr) (c0_2 : Nat) (l0_2 : List Int) (t : Int) (w : World) (hc0 : Kd.C (Kd.int .i64) w A0_2 l0_2.length l0_2) (hcc : l0_2.length ≤ c0_2) (h : impl_MatrixFault.f k a0_0 a0_1 l0_2 = some t) (h1 : t = 0) (h2 : ¬ a0_0 = a0_1) : Calls Try.prog 18 #[.agg #[.int .i64 a0_0,.int .i64 a0_1,.slice A0_2 l0_2.length c0_2]] w fun e w'=>∃ v,e = .returned (.agg #[.int .i64 1,.int .i64 0,.int .i64 0,v]) ∧ Kd.R (Kd.int .i64) 2 w' w.heap.size (fun _=>True) v [] ∧ Below w.heap.size w w':=by
 have d1 : (t == 0) = true:=by simpa using h1
 have d2 : (t != 0) = false:=by simpa using h1
 have d3 : (a0_0 == a0_1) = false:=by simpa using h2
 have d4 : (a0_0 != a0_1) = true:=by simpa using h2
 clear h1 h2
 have heq:=shape_eq a0_0 a0_1
 have ht:=Aside0.mk h
 have hc:=Aside0.mk hc0
 have hu:=Try.underlying27
 have hu2:=Try.underlying32
 have hu3:=Try.underlying107
 have H:=Aside0.mk (Hs.nil w)
 clear h hc0
 go_enter Try.func18,Try.ntmps18
 go_wp2_with (first
  | ((with_reducible refine gate_dst (N:=1) rfl ?_);(try (refine gate_guard (by rfl) ?_;dsimp only));refine box_event ?hg (N:=1) ?hd (cs:=#[.int .i64 a0_0,.int .i64 a0_1,.slice A0_2 l0_2.length c0_2]) (t:=27) ?hr ?_;(case hd=>rfl);(case hg=>rfl);(case hr=>first|(go_simp;done)|(go_simp;rfl));intro gm hg w1 hbox hb;have H_:=Aside0.mk (Hs.push H.out (Nat.le_of_eq hg.symm) hbox hb);clear hbox hb hg H;have H:=H_;clear H_)
  | ((with_reducible refine gate_dst (N:=2) rfl ?_);(try (refine gate_guard (by rfl) ?_;dsimp only));refine box_event ?hg (N:=2) ?hd (cs:=#[.int .i64 0,.int .i64 0,.int .i64 0,.slice none 0 0]) (t:=32) ?hr ?_;(case hd=>rfl);(case hg=>rfl);(case hr=>first|(go_simp;done)|(go_simp;rfl));intro gs hg w2 hbox hb;have H_:=Aside0.mk (Hs.push H.out (Nat.le_of_eq hg.symm) hbox hb);clear hbox hb hg H;have H:=H_;clear H_)
  | ((with_reducible refine gate_dst (N:=9) rfl ?_);(try (refine gate_guard (by rfl) ?_;dsimp only));have hc_:=H.out.cellv (v:=.int .i64 a0_0) 1 rfl 0 rfl;refine load_at (.int .i64 a0_0) ?hg ?hr ?_;(case hg=>rfl);(case hr=>first|(go_simp;done)|(go_simp;rfl));clear hc_)
  | ((with_reducible refine gate_dst (N:=11) rfl ?_);(try (refine gate_guard (by rfl) ?_;dsimp only));have hc_:=H.out.cellv (v:=.int .i64 a0_0) 1 rfl 0 rfl;refine load_at (.int .i64 a0_0) ?hg ?hr ?_;(case hg=>rfl);(case hr=>first|(go_simp;done)|(go_simp;rfl));clear hc_)
  | ((with_reducible refine gate_dst (N:=3) rfl ?_);(try (refine gate_guard (by rfl) ?_;dsimp only));refine box_event ?hg (N:=3) ?hd (cs:=#[.int .i64 0,.int .i64 0]) (t:=107) ?hr ?_;(case hd=>rfl);(case hg=>rfl);(case hr=>first|(go_simp;done)|(go_simp;rfl));intro gh hg w3 hbox hb;have H_:=Aside0.mk (Hs.push H.out (Nat.le_of_eq hg.symm) hbox hb);clear hbox hb hg H;have H:=H_;clear H_)
  | ((with_reducible refine gate_store (p:=3) rfl ?_);(try (refine gate_guard (by rfl) ?_;dsimp only));have hc0_:=H.out.cellv (v:=.int .i64 0) 0 rfl 0 rfl;have hf0_:=H.out.frozen 0 rfl 0;have hc1_:=H.out.cellv (v:=.int .i64 0) 0 rfl 1 rfl;have hf1_:=H.out.frozen 0 rfl 1;refine store_at (fun W=>(World.setCell (World.setCell W ⟨gh,0,none⟩ (.int .i64 a0_0)) ⟨gh,1,none⟩ (.int .i64 a0_0))) ?hg rfl ?hd ?hr ?_;(case hg=>rfl);(case hd=>rfl);(case hr=>first|(go_simp;done)|(go_simp;rfl));intro w4 hw;have H_:=Aside0.mk (show Hs w w4 [(gh,.cells #[.int .i64 a0_0,.int .i64 a0_0] 107 (0,0)),(gs,.cells #[.int .i64 0,.int .i64 0,.int .i64 0,.slice none 0 0] 32 (0,0)),(gm,.cells #[.int .i64 a0_0,.int .i64 a0_1,.slice A0_2 l0_2.length c0_2] 27 (0,0))] from by rw [hw];exact ((H.out.set 0 rfl 0 (.int .i64 a0_0)).set 0 rfl 1 (.int .i64 a0_0)));clear hw hc0_ hf0_ hc1_ hf1_ H;have H:=H_;clear H_)
  | ((with_reducible refine gate_dst (N:=13) rfl ?_);(try (refine gate_guard (by rfl) ?_;dsimp only));have hc0_:=H.out.cellv (v:=.int .i64 a0_0) 2 rfl 0 rfl;have hc1_:=H.out.cellv (v:=.int .i64 a0_1) 2 rfl 1 rfl;have hc2_:=H.out.cellv (v:=.slice A0_2 l0_2.length c0_2) 2 rfl 2 rfl;refine load_at (.agg #[.int .i64 a0_0,.int .i64 a0_1,.slice A0_2 l0_2.length c0_2]) ?hg ?hr ?_;(case hg=>rfl);(case hr=>first|(go_simp;done)|(go_simp;rfl));clear hc0_ hc1_ hc2_)
  | ((with_reducible refine gate_callee (f:=61) rfl ?_);(try (refine gate_guard (by rfl) ?_;dsimp only));refine goesL_ (some 14) rfl rfl Try.func61 (by kernel_rfl) rfl #[.agg #[.int .i64 a0_0,.int .i64 a0_1,.slice A0_2 l0_2.length c0_2]] rfl (by (try simp only [List.map_toArray,List.map_cons,List.map_nil]);first|done|rfl) ?_;(with_reducible refine (impl_MatrixFault.calls k a0_0 a0_1 A0_2 c0_2 l0_2 t _ (Kd.C_below hc.out (H.out.below)) hcc ht.out).mono ?_);rintro e w5 ⟨rfl,hb⟩;refine ⟨_,rfl,?_⟩;have H_:=Aside0.mk (show Hs w w5 [(gh,.cells #[.int .i64 a0_0,.int .i64 a0_0] 107 (0,0)),(gs,.cells #[.int .i64 0,.int .i64 0,.int .i64 0,.slice none 0 0] 32 (0,0)),(gm,.cells #[.int .i64 a0_0,.int .i64 a0_1,.slice A0_2 l0_2.length c0_2] 27 (0,0))] from H.out.call hb);clear hb H;have H:=H_;clear H_)
  | ((with_reducible refine gate_dst (N:=17) rfl ?_);(try (refine gate_guard (by rfl) ?_;dsimp only));have hc0_:=H.out.cellv (v:=.int .i64 a0_0) 0 rfl 0 rfl;have hc1_:=H.out.cellv (v:=.int .i64 a0_0) 0 rfl 1 rfl;refine load_at (.agg #[.int .i64 a0_0,.int .i64 a0_0]) ?hg ?hr ?_;(case hg=>rfl);(case hr=>first|(go_simp;done)|(go_simp;rfl));clear hc0_ hc1_)
  | ((with_reducible refine gate_dst (N:=19) rfl ?_);(try (refine gate_guard (by rfl) ?_;dsimp only));have hc_:=H.out.cellv (v:=.int .i64 a0_0) 2 rfl 0 rfl;refine load_at (.int .i64 a0_0) ?hg ?hr ?_;(case hg=>rfl);(case hr=>first|(go_simp;done)|(go_simp;rfl));clear hc_)
  | ((with_reducible refine gate_dst (N:=21) rfl ?_);(try (refine gate_guard (by rfl) ?_;dsimp only));have hc_:=H.out.cellv (v:=.int .i64 a0_1) 2 rfl 1 rfl;refine load_at (.int .i64 a0_1) ?hg ?hr ?_;(case hg=>rfl);(case hr=>first|(go_simp;done)|(go_simp;rfl));clear hc_)
  | ((with_reducible refine gate_store (p:=2) rfl ?_);(try (refine gate_guard (by rfl) ?_;dsimp only));have hc0_:=H.out.cellv (v:=.int .i64 0) 1 rfl 0 rfl;have hf0_:=H.out.frozen 1 rfl 0;have hc1_:=H.out.cellv (v:=.int .i64 0) 1 rfl 1 rfl;have hf1_:=H.out.frozen 1 rfl 1;have hc2_:=H.out.cellv (v:=.int .i64 0) 1 rfl 2 rfl;have hf2_:=H.out.frozen 1 rfl 2;have hc3_:=H.out.cellv (v:=.slice none 0 0) 1 rfl 3 rfl;have hf3_:=H.out.frozen 1 rfl 3;refine store_at (fun W=>(World.setCell (World.setCell (World.setCell (World.setCell W ⟨gs,0,none⟩ (.int .i64 1)) ⟨gs,1,none⟩ (.int .i64 0)) ⟨gs,2,none⟩ (.int .i64 0)) ⟨gs,3,none⟩ (.slice none 0 0))) ?hg rfl ?hd ?hr ?_;(case hg=>rfl);(case hd=>rfl);(case hr=>first|(go_simp;done)|(go_simp;rfl));intro w6 hw;have H_:=Aside0.mk (show Hs w w6 [(gh,.cells #[.int .i64 a0_0,.int .i64 a0_0] 107 (0,0)),(gs,.cells #[.int .i64 1,.int .i64 0,.int .i64 0,.slice none 0 0] 32 (0,0)),(gm,.cells #[.int .i64 a0_0,.int .i64 a0_1,.slice A0_2 l0_2.length c0_2] 27 (0,0))] from by rw [hw];exact ((((H.out.set 1 rfl 0 (.int .i64 1)).set 1 rfl 1 (.int .i64 0)).set 1 rfl 2 (.int .i64 0)).set 1 rfl 3 (.slice none 0 0)));clear hw hc0_ hf0_ hc1_ hf1_ hc2_ hf2_ hc3_ hf3_ H;have H:=H_;clear H_))
 exact bodyPost_ret (results_cell_row rfl _ _ gs 32 #[.int .i64 1,.int .i64 0,.int .i64 0,.slice none 0 0] (0,0) _ rfl (H.out.get 1 rfl) Try.underlying32 rfl (by kernel_rfl)) rfl ⟨_,rfl,Kd.R_nil _ _ _ _ _,H.out.below⟩

set_option maxHeartbeats 8000000 in
set_option maxRecDepth 100000 in
theorem matInv_none (n : Nat) (k : Nat) (A0_2 : Option Addr) (c0_2 : Nat) (l0_2 : List Int) (t : Int) (w : World) (hc0 : Kd.C (Kd.int .i64) w A0_2 l0_2.length l0_2) (hcc : l0_2.length ≤ c0_2) (h : impl_MatrixFault.f k n n l0_2 = some t) (h1 : t = 0) (r1 : 1 ≤ n) (r2 : n ≤ 64) (hl0 : l0_2.length = n * n) (hb0 : ∀ x ∈ l0_2,0 ≤ x ∧ x ≤ 255) (hrk : (redS n n n (0,(fun i j=>l0_2.getD (i * n + j) 0),idM) n).1 < n) : Calls Try.prog 18 #[.agg #[.int .i64 n,.int .i64 n,.slice A0_2 l0_2.length c0_2]] w fun e w'=>∃ v,e = .returned (.agg #[.int .i64 5,.int .i64 0,.int .i64 0,v]) ∧ Kd.R (Kd.int .i64) 2 w' w.heap.size (fun _=>True) v [] ∧ Below w.heap.size w w':=by
 have d1 : (t == 0) = true:=by simpa using h1
 have d2 : (t != 0) = false:=by simpa using h1
 have hl:=Aside0.mk hl0
 have hb:=Aside0.mk hb0
 have hby:=Aside0.mk (show Bytes2 (fun i j=>l0_2.getD (i * n + j) 0) from fun i j=>by
  show 0 ≤ l0_2.getD _ 0 ∧ l0_2.getD _ 0 ≤ 255
  rw [List.getD_eq_getElem?_getD]
  by_cases hx : i * n + j < l0_2.length
  ·rw [List.getElem?_eq_getElem hx];exact hb.out _ (List.getElem_mem hx)
  ·rw [List.getElem?_eq_none (by omega)];exact ⟨by decide,by decide⟩)
 have hbq:=Aside0.mk (redS_good (R:=n) (C:=n) (C2:=n) hby.out idM_byt n (Nat.le_refl _)).2.2
 have hrk1:=Aside0.mk hrk
 clear h1 hl0 hb0 hrk
 have heq:=shape_eq n n
 have hu4:=Try.underlying111
 have ht:=Aside0.mk h
 have hc:=Aside0.mk hc0
 have hu:=Try.underlying27
 have hu2:=Try.underlying32
 have hu3:=Try.underlying107
 have H:=Aside0.mk (Hs.nil w)
 clear h hc0
 go_enter Try.func18,Try.ntmps18
 go_wp2_with (first
  | ((with_reducible refine gate_dst (N:=1) rfl ?_);(try (refine gate_guard (by rfl) ?_;dsimp only));refine box_event ?hg (N:=1) ?hd (cs:=#[.int .i64 n,.int .i64 n,.slice A0_2 l0_2.length c0_2]) (t:=27) ?hr ?_;(case hd=>rfl);(case hg=>rfl);(case hr=>first|(go_simp;done)|(go_simp;rfl));intro gm hg w1 hbox hb;have H_:=Aside0.mk (Hs.push H.out (Nat.le_of_eq hg.symm) hbox hb);clear hbox hb hg H;have H:=H_;clear H_)
  | ((with_reducible refine gate_dst (N:=2) rfl ?_);(try (refine gate_guard (by rfl) ?_;dsimp only));refine box_event ?hg (N:=2) ?hd (cs:=#[.int .i64 0,.int .i64 0,.int .i64 0,.slice none 0 0]) (t:=32) ?hr ?_;(case hd=>rfl);(case hg=>rfl);(case hr=>first|(go_simp;done)|(go_simp;rfl));intro gs hg w2 hbox hb;have H_:=Aside0.mk (Hs.push H.out (Nat.le_of_eq hg.symm) hbox hb);clear hbox hb hg H;have H:=H_;clear H_)
  | ((with_reducible refine gate_dst (N:=9) rfl ?_);(try (refine gate_guard (by rfl) ?_;dsimp only));have hc_:=H.out.cellv (v:=.int .i64 n) 1 rfl 0 rfl;refine load_at (.int .i64 n) ?hg ?hr ?_;(case hg=>rfl);(case hr=>first|(go_simp;done)|(go_simp;rfl));clear hc_)
  | ((with_reducible refine gate_dst (N:=11) rfl ?_);(try (refine gate_guard (by rfl) ?_;dsimp only));have hc_:=H.out.cellv (v:=.int .i64 n) 1 rfl 0 rfl;refine load_at (.int .i64 n) ?hg ?hr ?_;(case hg=>rfl);(case hr=>first|(go_simp;done)|(go_simp;rfl));clear hc_)
  | ((with_reducible refine gate_dst (N:=3) rfl ?_);(try (refine gate_guard (by rfl) ?_;dsimp only));refine box_event ?hg (N:=3) ?hd (cs:=#[.int .i64 0,.int .i64 0]) (t:=107) ?hr ?_;(case hd=>rfl);(case hg=>rfl);(case hr=>first|(go_simp;done)|(go_simp;rfl));intro gh hg w3 hbox hb;have H_:=Aside0.mk (Hs.push H.out (Nat.le_of_eq hg.symm) hbox hb);clear hbox hb hg H;have H:=H_;clear H_)
  | ((with_reducible refine gate_store (p:=3) rfl ?_);(try (refine gate_guard (by rfl) ?_;dsimp only));have hc0_:=H.out.cellv (v:=.int .i64 0) 0 rfl 0 rfl;have hf0_:=H.out.frozen 0 rfl 0;have hc1_:=H.out.cellv (v:=.int .i64 0) 0 rfl 1 rfl;have hf1_:=H.out.frozen 0 rfl 1;refine store_at (fun W=>(World.setCell (World.setCell W ⟨gh,0,none⟩ (.int .i64 n)) ⟨gh,1,none⟩ (.int .i64 n))) ?hg rfl ?hd ?hr ?_;(case hg=>rfl);(case hd=>rfl);(case hr=>first|(go_simp;done)|(go_simp;rfl));intro w4 hw;have H_:=Aside0.mk (show Hs w w4 [(gh,.cells #[.int .i64 n,.int .i64 n] 107 (0,0)),(gs,.cells #[.int .i64 0,.int .i64 0,.int .i64 0,.slice none 0 0] 32 (0,0)),(gm,.cells #[.int .i64 n,.int .i64 n,.slice A0_2 l0_2.length c0_2] 27 (0,0))] from by rw [hw];exact ((H.out.set 0 rfl 0 (.int .i64 n)).set 0 rfl 1 (.int .i64 n)));clear hw hc0_ hf0_ hc1_ hf1_ H;have H:=H_;clear H_)
  | ((with_reducible refine gate_dst (N:=13) rfl ?_);(try (refine gate_guard (by rfl) ?_;dsimp only));have hc0_:=H.out.cellv (v:=.int .i64 n) 2 rfl 0 rfl;have hc1_:=H.out.cellv (v:=.int .i64 n) 2 rfl 1 rfl;have hc2_:=H.out.cellv (v:=.slice A0_2 l0_2.length c0_2) 2 rfl 2 rfl;refine load_at (.agg #[.int .i64 n,.int .i64 n,.slice A0_2 l0_2.length c0_2]) ?hg ?hr ?_;(case hg=>rfl);(case hr=>first|(go_simp;done)|(go_simp;rfl));clear hc0_ hc1_ hc2_)
  | ((with_reducible refine gate_callee (f:=61) rfl ?_);(try (refine gate_guard (by rfl) ?_;dsimp only));refine goesL_ (some 14) rfl rfl Try.func61 (by kernel_rfl) rfl #[.agg #[.int .i64 n,.int .i64 n,.slice A0_2 l0_2.length c0_2]] rfl (by (try simp only [List.map_toArray,List.map_cons,List.map_nil]);first|done|rfl) ?_;(with_reducible refine (impl_MatrixFault.calls k n n A0_2 c0_2 l0_2 t _ (Kd.C_below hc.out (H.out.below)) hcc ht.out).mono ?_);rintro e w5 ⟨rfl,hb⟩;refine ⟨_,rfl,?_⟩;have H_:=Aside0.mk (show Hs w w5 [(gh,.cells #[.int .i64 n,.int .i64 n] 107 (0,0)),(gs,.cells #[.int .i64 0,.int .i64 0,.int .i64 0,.slice none 0 0] 32 (0,0)),(gm,.cells #[.int .i64 n,.int .i64 n,.slice A0_2 l0_2.length c0_2] 27 (0,0))] from H.out.call hb);clear hb H;have H:=H_;clear H_)
  | ((with_reducible refine gate_dst (N:=17) rfl ?_);(try (refine gate_guard (by rfl) ?_;dsimp only));have hc0_:=H.out.cellv (v:=.int .i64 n) 0 rfl 0 rfl;have hc1_:=H.out.cellv (v:=.int .i64 n) 0 rfl 1 rfl;refine load_at (.agg #[.int .i64 n,.int .i64 n]) ?hg ?hr ?_;(case hg=>rfl);(case hr=>first|(go_simp;done)|(go_simp;rfl));clear hc0_ hc1_)
  | ((with_reducible refine gate_dst (N:=19) rfl ?_);(try (refine gate_guard (by rfl) ?_;dsimp only));have hc_:=H.out.cellv (v:=.int .i64 n) 2 rfl 0 rfl;refine load_at (.int .i64 n) ?hg ?hr ?_;(case hg=>rfl);(case hr=>first|(go_simp;done)|(go_simp;rfl));clear hc_)
  | ((with_reducible refine gate_dst (N:=21) rfl ?_);(try (refine gate_guard (by rfl) ?_;dsimp only));have hc_:=H.out.cellv (v:=.int .i64 n) 2 rfl 1 rfl;refine load_at (.int .i64 n) ?hg ?hr ?_;(case hg=>rfl);(case hr=>first|(go_simp;done)|(go_simp;rfl));clear hc_)
  | ((with_reducible refine gate_callee (f:=63) rfl ?_);refine goesL_ (some 26) rfl rfl Try.func63 (by kernel_rfl) rfl #[] rfl (by (try simp only [List.map_toArray,List.map_cons,List.map_nil]);first|done|rfl) ?_;(with_reducible refine (make_calls w _ _ H.out).mono ?_);rintro e wA ⟨gt,rfl,hH⟩;refine ⟨_,rfl,?_⟩;have H_:=Aside0.mk (hH);clear hH H;have H:=H_;clear H_)
  | ((with_reducible refine gate_dst (N:=28) rfl ?_);(try (refine gate_guard (by rfl) ?_;dsimp only));have hc0_:=H.out.cellv (v:=.int .i64 n) 3 rfl 0 rfl;have hc1_:=H.out.cellv (v:=.int .i64 n) 3 rfl 1 rfl;have hc2_:=H.out.cellv (v:=.slice A0_2 l0_2.length c0_2) 3 rfl 2 rfl;refine load_at (.agg #[.int .i64 n,.int .i64 n,.slice A0_2 l0_2.length c0_2]) ?hg ?hr ?_;(case hg=>rfl);(case hr=>first|(go_simp;done)|(go_simp;rfl));clear hc0_ hc1_ hc2_)
  | ((with_reducible refine gate_callee (f:=62) rfl ?_);refine goesL_ (some 29) rfl rfl Try.func62 (by kernel_rfl) rfl #[.pointer (some ⟨gt,0,none⟩),.agg #[.int .i64 n,.int .i64 n,.slice A0_2 l0_2.length c0_2]] rfl (by (try simp only [List.map_toArray,List.map_cons,List.map_nil]);first|done|rfl) ?_;(with_reducible refine (gridOf_calls gt n n l0_2.length c0_2 A0_2 l0_2 w _ _ H.out r1 r2 r1 r2 rfl hl.out hc.out hb.out).mono ?_);rintro e wB ⟨g,B,rfl,hG,hH⟩;refine ⟨_,rfl,?_⟩;have hG1:=Aside0.mk hG;clear hG;have H_:=Aside0.mk (hH);clear hH H;have H:=H_;clear H_;have hm1 : wB.cell? ⟨gm,0,none⟩ = some (.int .i64 n):=H.out.left.cellv 3 rfl 0 rfl)
  | ((with_reducible refine gate_callee (f:=70) rfl ?_);refine goesL_ (some 35) rfl rfl Try.func70 (by kernel_rfl) rfl #[.pointer (some ⟨gt,0,none⟩),.int .i64 n,.int .i64 n] rfl (by (try simp only [List.map_toArray,List.map_cons,List.map_nil]);first|done|rfl) ?_;(with_reducible refine (newGrid_calls gt n n w _ _ H.out r1 r2 r1 r2).mono ?_);rintro e wC ⟨h,Bo,rfl,hGo,hH⟩;refine ⟨_,rfl,?_⟩;have hG2:=Aside0.mk hGo;clear hGo hm1;have H_:=Aside0.mk (hH);clear hH H;have H:=H_;clear H_;obtain ⟨hr_,ha_,cH,rh,dh,off,cap,rfl,hRh,hsz,hmx,hrh0,hdh0,hap0⟩:=hG2.out;have hh0 : wC.cell? ⟨h,0,none⟩ = some (.slice (some ⟨hr_,0,none⟩) n cH):=H.out.cellv 0 rfl 0 rfl))
 have hrh:=Aside0.mk hrh0
 have hap:=Aside0.mk hap0
 have hdh:=Aside0.mk hdh0
 have hs1:=Aside0.mk hsz
 have hs2:=Aside0.mk hmx
 clear hrh0 hdh0 hap0 hsz hmx hh0 hG2 heq
 go_loopw [41] (fun v41 wr=>∃ (i : Nat) (dk : Array Value),i ≤ n ∧ v41 = .int .i64 i ∧ Aside0 (∀ a b,a < n → b < n → dk[off a + b]? = some (.int .u8 (if a = b ∧ a < i then 1 else 0))) ∧ Aside0 (Hs w wr ((h,.cells #[.slice (some ⟨hr_,0,none⟩) n cH,.pointer (some ⟨gt,0,none⟩)] 111 (0,0)) :: (hr_,.cells rh 37 (0,0)) :: (ha_,.cells dk 5 (0,0)) :: (B ++ (gt,.cells (tabN 255) 162 (0,0)) :: (gh,.cells #[.int .i64 n,.int .i64 n] 107 (0,0)) :: (gs,.cells #[.int .i64 0,.int .i64 0,.int .i64 0,.slice none 0 0] 32 (0,0)) :: (gm,.cells #[.int .i64 n,.int .i64 n,.slice A0_2 l0_2.length c0_2] 27 (0,0)) :: [])))) (fun i _=>n - (intOf i).toNat)
 case atStart=>exact ⟨0,dh,by omega,rfl,Aside0.mk (fun a b ha hb'=>by rw [hdh.out a b ha hb',if_neg (by omega)]),H⟩
 case round=>
  clear H hdh
  obtain ⟨i,dk,hi0,rfl,hdk,H⟩:=hrel
  by_cases hi1 : i < n
  ·have hc0 : wr.cell? ⟨h,0,none⟩ = some (.slice (some ⟨hr_,0,none⟩) n cH):=H.out.cellv 0 rfl 0 rfl
   have hc1 : wr.cell? ⟨hr_,i,none⟩ = some (.slice (some ⟨ha_,off i,none⟩) n (cap i)):=H.out.cellv 1 rfl i (hrh.out i hi1).1
   have hc2:=H.out.cellv 2 rfl (off i + i) (hdk.out i i hi1 hi1)
   have hc3:=H.out.frozen 2 rfl (off i + i)
   have l1 : (i : Int) < (n : Int):=by omega
   have l2 : 0 ≤ (i : Int):=by omega
   go_wp2_with fail
   go_roundw
   case rel=>exact ⟨i + 1,dk.setIfInBounds (off i + i) (.int .u8 1),by omega,by go_num,Aside0.mk (set_gridL (N:=fun a b=>if a = b ∧ a < i then 1 else 0) (N':=fun a b=>if a = b ∧ a < i + 1 then 1 else 0) hdk.out hap.out hi1 hi1 (if_pos ⟨rfl,by omega⟩) (fun a b ha hb' hne=>by
    by_cases c : a = b ∧ a < i
    ·show (if _ then _ else _ : Int) = if _ then _ else _
     rw [if_pos c,if_pos ⟨c.1,by omega⟩]
    ·show (if _ then _ else _ : Int) = if _ then _ else _
     rw [if_neg c,if_neg (fun e=>hne (by have:=e.1;subst this;have : ¬ a < i:=fun e2=>c ⟨rfl,e2⟩;omega))])),Aside0.mk (H.out.set 2 rfl _ _)⟩
   case measure=>simp [intOf];omega
  ·obtain rfl : i = n:=by omega
   have l5 : decide ((i : Int) < (i : Int)) = false:=decide_eq_false (by omega)
   go_wp2_with fail
   have hGi:=Aside0.mk (show GridB gt h i i idM [(h,.cells #[.slice (some ⟨hr_,0,none⟩) i cH,.pointer (some ⟨gt,0,none⟩)] 111 (0,0)),(hr_,.cells rh 37 (0,0)),(ha_,.cells dk 5 (0,0))] from
    ⟨hr_,ha_,cH,rh,dk,off,cap,rfl,hRh,hs1.out,hs2.out,hrh.out,fun a b ha hb'=>by
     rw [hdk.out a b ha hb']
     unfold idM
     by_cases c : a = b
     ·rw [if_pos ⟨c,ha⟩,if_pos c]
     ·rw [if_neg (fun e=>c e.1),if_neg c],hap.out⟩)
   clear hdk
   obtain ⟨rk,hrke0⟩ : ∃ rk,rk = (redS i i i (0,(fun a b=>l0_2.getD (a * i + b) 0),idM) i).1:=⟨_,rfl⟩
   have hrke:=Aside0.mk hrke0
   have hrk2 : rk < i:=by rw [hrke0];exact hrk1.out
   clear hrke0
   have l6 : decide ((rk : Int) < (i : Int)) = true:=decide_eq_true (by omega)
   have l7 : decide (rk < i) = true:=decide_eq_true (by omega)
   have hc_0 : wr.cell? ⟨gm,0,none⟩ = some (.int .i64 i):=(Hs.left (B:=[_,_,_]) H.out).left.cellv 3 rfl 0 rfl
   have hc_1 : wr.cell? ⟨gm,1,none⟩ = some (.int .i64 i):=(Hs.left (B:=[_,_,_]) H.out).left.cellv 3 rfl 1 rfl
   refine start_ (n:=8) (S:=fun w'=>w'.cell? ⟨gm,0,none⟩ = some (.int .i64 i) ∧ w'.cell? ⟨gm,1,none⟩ = some (.int .i64 i)) (ds:=[]) #[false,false,false,false,false,false,false,false] (by kernel_rfl) rfl rfl ⟨hc_0,hc_1⟩ (fun hHeld=>?_)
   have H_:=Aside0.mk H.out.drew
   clear H hc_0 hc_1
   have H:=H_
   clear H_
   generalize wr.drew = wd at H hHeld ⊢
   refine pure_ (i:=0) (N:=some 54) (v:=?_) (a':=?_) #[true,false,false,false,false,false,false,false] rfl rfl (by kernel_rfl) (fun _ _ _ h=>h) (Or.inl ⟨by rfl,?_⟩) ?_ ?_
   rotate_left
   ·intro w'
    go_simp
    with_reducible rfl
   rotate_left
   ·simp only [Act.put,List.setIfInBounds_toArray,List.set_cons_zero,List.set_cons_succ,i64_w,i32_w]
    rfl
   refine pure_ (i:=1) (N:=some 55) (v:=?_) (a':=?_) #[true,true,false,false,false,false,false,false] rfl rfl (by kernel_rfl) (fun _ _ _ h=>h) (Or.inl ⟨by rfl,?_⟩) ?_ ?_
   rotate_left
   ·intro w'
    go_simp
    with_reducible rfl
   rotate_left
   ·simp only [Act.put,List.setIfInBounds_toArray,List.set_cons_zero,List.set_cons_succ,i64_w,i32_w]
    rfl
   refine pure_ (i:=3) (N:=some 57) (v:=?_) (a':=?_) #[true,true,false,true,false,false,false,false] rfl rfl (by kernel_rfl) (fun _ _ _ h=>h) (Or.inl ⟨by rfl,?_⟩) ?_ ?_
   rotate_left
   ·intro w'
    go_simp
    with_reducible rfl
   rotate_left
   ·simp only [Act.put,List.setIfInBounds_toArray,List.set_cons_zero,List.set_cons_succ,i64_w,i32_w]
    rfl
   refine pure_ (i:=5) (N:=some 59) (v:=?_) (a':=?_) #[true,true,false,true,false,true,false,false] rfl rfl (by kernel_rfl) (fun _ _ _ h=>h) (Or.inl ⟨by rfl,?_⟩) ?_ ?_
   rotate_left
   ·intro w'
    go_simp
    with_reducible rfl
   rotate_left
   ·simp only [Act.put,List.setIfInBounds_toArray,List.set_cons_zero,List.set_cons_succ,i64_w,i32_w]
    rfl
   refine take_ (i:=2) (N:=some 56) (v:=?_) (a':=?_) #[true,true,true,true,false,true,false,false] rfl rfl (by kernel_rfl) (fun _ _ _ h=>h) (Or.inl ⟨by rfl,?_⟩) hHeld ?_ ?_
   rotate_left
   ·rintro w' ⟨s0,s1⟩
    go_simp
    with_reducible rfl
   rotate_left
   ·simp only [Act.put,List.setIfInBounds_toArray,List.set_cons_zero,List.set_cons_succ,i64_w,i32_w]
    rfl
   refine take_ (i:=6) (N:=some 60) (v:=?_) (a':=?_) #[true,true,true,true,false,true,true,false] rfl rfl (by kernel_rfl) (fun _ _ _ h=>h) (Or.inl ⟨by rfl,?_⟩) hHeld ?_ ?_
   rotate_left
   ·rintro w' ⟨s0,s1⟩
    go_simp
    with_reducible rfl
   rotate_left
   ·simp only [Act.put,List.setIfInBounds_toArray,List.set_cons_zero,List.set_cons_succ,i64_w,i32_w]
    rfl
   refine one_ (i:=4) (N:=some 58) #[true,true,true,true,true,true,true,false] rfl rfl (by kernel_rfl) (by decide) (fun K hK=>?_)
   refine goes_ Try.func64 (by kernel_rfl) rfl #[.pointer (some ⟨g,0,none⟩),.int .i64 i,.pointer (some ⟨h,0,none⟩)] (by rfl) rfl rfl (by first|(simp only [List.map_toArray,List.map_cons,List.map_nil];done)|(simp only [List.map_toArray,List.map_cons,List.map_nil];rfl)) ?_
   with_reducible refine (reduceO_calls gt g h i i i i (fun a b=>l0_2.getD (a * i + b) 0) idM B _ _ w _ hG1.out hGi.out hby.out idM_byt (Nat.le_refl _) r2 r2 r2 0 rfl (hs_front (B:=[_,_,_]) H.out)).mono ?_
   rintro e w3 ⟨B1,B2,he,hGa,hGb,hH⟩
   rw [← hrke.out] at he
   subst he
   refine ⟨_,rfl,?_⟩
   have hG3:=Aside0.mk hGb
   have H_:=Aside0.mk hH
   clear hGa hGb hH H
   have H:=H_
   clear H_
   refine hK.out _ _ ⟨(H.out.left.left.cellv 3 rfl 0 rfl),(H.out.left.left.cellv 3 rfl 1 rfl)⟩ (fun hHeld=>?_)
   clear hK K
   refine norm_ (a':=?_) ?_ ?_
   rotate_left
   ·show Act.put _ (some 58) _ = _
    simp only [Act.put,List.setIfInBounds_toArray,List.set_cons_zero,List.set_cons_succ,i64_w,i32_w]
    rfl
   refine pure_ (i:=7) (N:=some 61) (v:=?_) (a':=?_) #[true,true,true,true,true,true,true,true] rfl rfl (by kernel_rfl) (fun _ _ _ h=>h) (Or.inl ⟨by rfl,?_⟩) ?_ ?_
   rotate_left
   ·intro w'
    go_simp
    with_reducible rfl
   rotate_left
   ·simp only [Act.put,List.setIfInBounds_toArray,List.set_cons_zero,List.set_cons_succ,i64_w,i32_w]
    rfl
   refine done_ (by kernel_rfl) ?_
   have H_:=Aside0.mk H.out.left.left
   clear H
   have H:=Aside0.mk (show Hs w w3 [(gt,.cells (tabN 255) 162 (0,0)),(gh,.cells #[.int .i64 i,.int .i64 i] 107 (0,0)),(gs,.cells #[.int .i64 0,.int .i64 0,.int .i64 0,.slice none 0 0] 32 (0,0)),(gm,.cells #[.int .i64 i,.int .i64 i,.slice A0_2 l0_2.length c0_2] 27 (0,0))] from H_.out)
   clear H_
   go_wp2_with (first
     | ((with_reducible refine gate_store (p:=2) rfl ?_);(try (refine gate_guard (by rfl) ?_;dsimp only));have hc0_:=H.out.cellv (v:=.int .i64 0) 2 rfl 0 rfl;have hf0_:=H.out.frozen 2 rfl 0;have hc1_:=H.out.cellv (v:=.int .i64 0) 2 rfl 1 rfl;have hf1_:=H.out.frozen 2 rfl 1;have hc2_:=H.out.cellv (v:=.int .i64 0) 2 rfl 2 rfl;have hf2_:=H.out.frozen 2 rfl 2;have hc3_:=H.out.cellv (v:=.slice none 0 0) 2 rfl 3 rfl;have hf3_:=H.out.frozen 2 rfl 3;refine store_at (fun W=>(World.setCell (World.setCell (World.setCell (World.setCell W ⟨gs,0,none⟩ (.int .i64 5)) ⟨gs,1,none⟩ (.int .i64 0)) ⟨gs,2,none⟩ (.int .i64 0)) ⟨gs,3,none⟩ (.slice none 0 0))) ?hg rfl ?hd ?hr ?_;(case hg=>rfl);(case hd=>rfl);(case hr=>first|(go_simp;done)|(go_simp;rfl));intro w61 hw;have H_:=Aside0.mk (show Hs w w61 [(gt,.cells (tabN 255) 162 (0,0)),(gh,.cells #[.int .i64 i,.int .i64 i] 107 (0,0)),(gs,.cells #[.int .i64 5,.int .i64 0,.int .i64 0,.slice none 0 0] 32 (0,0)),(gm,.cells #[.int .i64 i,.int .i64 i,.slice A0_2 l0_2.length c0_2] 27 (0,0))] from by rw [hw];exact ((((H.out.set 2 rfl 0 (.int .i64 5)).set 2 rfl 1 (.int .i64 0)).set 2 rfl 2 (.int .i64 0)).set 2 rfl 3 (.slice none 0 0)));clear hw hc0_ hf0_ hc1_ hf1_ hc2_ hf2_ hc3_ hf3_ H;have H:=H_;clear H_))
   exact bodyPost_ret (results_cell_row rfl _ _ gs 32 #[.int .i64 5,.int .i64 0,.int .i64 0,.slice none 0 0] (0,0) _ rfl (H.out.get 2 rfl) Try.underlying32 rfl (by kernel_rfl)) rfl ⟨_,rfl,Kd.R_nil _ _ _ _ _,H.out.below⟩

set_option maxHeartbeats 8000000 in
set_option maxRecDepth 100000 in
theorem matInv_some (n : Nat) (k : Nat) (A0_2 : Option Addr) (c0_2 : Nat) (l0_2 : List Int) (t : Int) (w : World) (hc0 : Kd.C (Kd.int .i64) w A0_2 l0_2.length l0_2) (hcc : l0_2.length ≤ c0_2) (h : impl_MatrixFault.f k n n l0_2 = some t) (h1 : t = 0) (r1 : 1 ≤ n) (r2 : n ≤ 64) (hl0 : l0_2.length = n * n) (hb0 : ∀ x ∈ l0_2,0 ≤ x ∧ x ≤ 255) (hrk : ¬ (redS n n n (0,(fun i j=>l0_2.getD (i * n + j) 0),idM) n).1 < n) : Calls Try.prog 18 #[.agg #[.int .i64 n,.int .i64 n,.slice A0_2 l0_2.length c0_2]] w fun e w'=>∃ v,e = .returned (.agg #[.int .i64 0,.int .i64 n,.int .i64 n,v]) ∧ Kd.R (Kd.int .i64) 2 w' w.heap.size (fun _=>True) v (GridM.cellsK n (redS n n n (0,(fun i j=>l0_2.getD (i * n + j) 0),idM) n).2.2 (n * n)) ∧ Below w.heap.size w w':=by
 have d1 : (t == 0) = true:=by simpa using h1
 have d2 : (t != 0) = false:=by simpa using h1
 have hl:=Aside0.mk hl0
 have hb:=Aside0.mk hb0
 have hby:=Aside0.mk (show Bytes2 (fun i j=>l0_2.getD (i * n + j) 0) from fun i j=>by
  show 0 ≤ l0_2.getD _ 0 ∧ l0_2.getD _ 0 ≤ 255
  rw [List.getD_eq_getElem?_getD]
  by_cases hx : i * n + j < l0_2.length
  ·rw [List.getElem?_eq_getElem hx];exact hb.out _ (List.getElem_mem hx)
  ·rw [List.getElem?_eq_none (by omega)];exact ⟨by decide,by decide⟩)
 have hbq:=Aside0.mk (redS_good (R:=n) (C:=n) (C2:=n) hby.out idM_byt n (Nat.le_refl _)).2.2
 have hrk1:=Aside0.mk hrk
 clear h1 hl0 hb0 hrk
 have heq:=shape_eq n n
 have hu4:=Try.underlying111
 have ht:=Aside0.mk h
 have hc:=Aside0.mk hc0
 have hu:=Try.underlying27
 have hu2:=Try.underlying32
 have hu3:=Try.underlying107
 have H:=Aside0.mk (Hs.nil w)
 clear h hc0
 go_enter Try.func18,Try.ntmps18
 go_wp2_with (first
  | ((with_reducible refine gate_dst (N:=1) rfl ?_);(try (refine gate_guard (by rfl) ?_;dsimp only));refine box_event ?hg (N:=1) ?hd (cs:=#[.int .i64 n,.int .i64 n,.slice A0_2 l0_2.length c0_2]) (t:=27) ?hr ?_;(case hd=>rfl);(case hg=>rfl);(case hr=>first|(go_simp;done)|(go_simp;rfl));intro gm hg w1 hbox hb;have H_:=Aside0.mk (Hs.push H.out (Nat.le_of_eq hg.symm) hbox hb);clear hbox hb hg H;have H:=H_;clear H_)
  | ((with_reducible refine gate_dst (N:=2) rfl ?_);(try (refine gate_guard (by rfl) ?_;dsimp only));refine box_event ?hg (N:=2) ?hd (cs:=#[.int .i64 0,.int .i64 0,.int .i64 0,.slice none 0 0]) (t:=32) ?hr ?_;(case hd=>rfl);(case hg=>rfl);(case hr=>first|(go_simp;done)|(go_simp;rfl));intro gs hg w2 hbox hb;have H_:=Aside0.mk (Hs.push H.out (Nat.le_of_eq hg.symm) hbox hb);clear hbox hb hg H;have H:=H_;clear H_)
  | ((with_reducible refine gate_dst (N:=9) rfl ?_);(try (refine gate_guard (by rfl) ?_;dsimp only));have hc_:=H.out.cellv (v:=.int .i64 n) 1 rfl 0 rfl;refine load_at (.int .i64 n) ?hg ?hr ?_;(case hg=>rfl);(case hr=>first|(go_simp;done)|(go_simp;rfl));clear hc_)
  | ((with_reducible refine gate_dst (N:=11) rfl ?_);(try (refine gate_guard (by rfl) ?_;dsimp only));have hc_:=H.out.cellv (v:=.int .i64 n) 1 rfl 0 rfl;refine load_at (.int .i64 n) ?hg ?hr ?_;(case hg=>rfl);(case hr=>first|(go_simp;done)|(go_simp;rfl));clear hc_)
  | ((with_reducible refine gate_dst (N:=3) rfl ?_);(try (refine gate_guard (by rfl) ?_;dsimp only));refine box_event ?hg (N:=3) ?hd (cs:=#[.int .i64 0,.int .i64 0]) (t:=107) ?hr ?_;(case hd=>rfl);(case hg=>rfl);(case hr=>first|(go_simp;done)|(go_simp;rfl));intro gh hg w3 hbox hb;have H_:=Aside0.mk (Hs.push H.out (Nat.le_of_eq hg.symm) hbox hb);clear hbox hb hg H;have H:=H_;clear H_)
  | ((with_reducible refine gate_store (p:=3) rfl ?_);(try (refine gate_guard (by rfl) ?_;dsimp only));have hc0_:=H.out.cellv (v:=.int .i64 0) 0 rfl 0 rfl;have hf0_:=H.out.frozen 0 rfl 0;have hc1_:=H.out.cellv (v:=.int .i64 0) 0 rfl 1 rfl;have hf1_:=H.out.frozen 0 rfl 1;refine store_at (fun W=>(World.setCell (World.setCell W ⟨gh,0,none⟩ (.int .i64 n)) ⟨gh,1,none⟩ (.int .i64 n))) ?hg rfl ?hd ?hr ?_;(case hg=>rfl);(case hd=>rfl);(case hr=>first|(go_simp;done)|(go_simp;rfl));intro w4 hw;have H_:=Aside0.mk (show Hs w w4 [(gh,.cells #[.int .i64 n,.int .i64 n] 107 (0,0)),(gs,.cells #[.int .i64 0,.int .i64 0,.int .i64 0,.slice none 0 0] 32 (0,0)),(gm,.cells #[.int .i64 n,.int .i64 n,.slice A0_2 l0_2.length c0_2] 27 (0,0))] from by rw [hw];exact ((H.out.set 0 rfl 0 (.int .i64 n)).set 0 rfl 1 (.int .i64 n)));clear hw hc0_ hf0_ hc1_ hf1_ H;have H:=H_;clear H_)
  | ((with_reducible refine gate_dst (N:=13) rfl ?_);(try (refine gate_guard (by rfl) ?_;dsimp only));have hc0_:=H.out.cellv (v:=.int .i64 n) 2 rfl 0 rfl;have hc1_:=H.out.cellv (v:=.int .i64 n) 2 rfl 1 rfl;have hc2_:=H.out.cellv (v:=.slice A0_2 l0_2.length c0_2) 2 rfl 2 rfl;refine load_at (.agg #[.int .i64 n,.int .i64 n,.slice A0_2 l0_2.length c0_2]) ?hg ?hr ?_;(case hg=>rfl);(case hr=>first|(go_simp;done)|(go_simp;rfl));clear hc0_ hc1_ hc2_)
  | ((with_reducible refine gate_callee (f:=61) rfl ?_);(try (refine gate_guard (by rfl) ?_;dsimp only));refine goesL_ (some 14) rfl rfl Try.func61 (by kernel_rfl) rfl #[.agg #[.int .i64 n,.int .i64 n,.slice A0_2 l0_2.length c0_2]] rfl (by (try simp only [List.map_toArray,List.map_cons,List.map_nil]);first|done|rfl) ?_;(with_reducible refine (impl_MatrixFault.calls k n n A0_2 c0_2 l0_2 t _ (Kd.C_below hc.out (H.out.below)) hcc ht.out).mono ?_);rintro e w5 ⟨rfl,hb⟩;refine ⟨_,rfl,?_⟩;have H_:=Aside0.mk (show Hs w w5 [(gh,.cells #[.int .i64 n,.int .i64 n] 107 (0,0)),(gs,.cells #[.int .i64 0,.int .i64 0,.int .i64 0,.slice none 0 0] 32 (0,0)),(gm,.cells #[.int .i64 n,.int .i64 n,.slice A0_2 l0_2.length c0_2] 27 (0,0))] from H.out.call hb);clear hb H;have H:=H_;clear H_)
  | ((with_reducible refine gate_dst (N:=17) rfl ?_);(try (refine gate_guard (by rfl) ?_;dsimp only));have hc0_:=H.out.cellv (v:=.int .i64 n) 0 rfl 0 rfl;have hc1_:=H.out.cellv (v:=.int .i64 n) 0 rfl 1 rfl;refine load_at (.agg #[.int .i64 n,.int .i64 n]) ?hg ?hr ?_;(case hg=>rfl);(case hr=>first|(go_simp;done)|(go_simp;rfl));clear hc0_ hc1_)
  | ((with_reducible refine gate_dst (N:=19) rfl ?_);(try (refine gate_guard (by rfl) ?_;dsimp only));have hc_:=H.out.cellv (v:=.int .i64 n) 2 rfl 0 rfl;refine load_at (.int .i64 n) ?hg ?hr ?_;(case hg=>rfl);(case hr=>first|(go_simp;done)|(go_simp;rfl));clear hc_)
  | ((with_reducible refine gate_dst (N:=21) rfl ?_);(try (refine gate_guard (by rfl) ?_;dsimp only));have hc_:=H.out.cellv (v:=.int .i64 n) 2 rfl 1 rfl;refine load_at (.int .i64 n) ?hg ?hr ?_;(case hg=>rfl);(case hr=>first|(go_simp;done)|(go_simp;rfl));clear hc_)
  | ((with_reducible refine gate_callee (f:=63) rfl ?_);refine goesL_ (some 26) rfl rfl Try.func63 (by kernel_rfl) rfl #[] rfl (by (try simp only [List.map_toArray,List.map_cons,List.map_nil]);first|done|rfl) ?_;(with_reducible refine (make_calls w _ _ H.out).mono ?_);rintro e wA ⟨gt,rfl,hH⟩;refine ⟨_,rfl,?_⟩;have H_:=Aside0.mk (hH);clear hH H;have H:=H_;clear H_)
  | ((with_reducible refine gate_dst (N:=28) rfl ?_);(try (refine gate_guard (by rfl) ?_;dsimp only));have hc0_:=H.out.cellv (v:=.int .i64 n) 3 rfl 0 rfl;have hc1_:=H.out.cellv (v:=.int .i64 n) 3 rfl 1 rfl;have hc2_:=H.out.cellv (v:=.slice A0_2 l0_2.length c0_2) 3 rfl 2 rfl;refine load_at (.agg #[.int .i64 n,.int .i64 n,.slice A0_2 l0_2.length c0_2]) ?hg ?hr ?_;(case hg=>rfl);(case hr=>first|(go_simp;done)|(go_simp;rfl));clear hc0_ hc1_ hc2_)
  | ((with_reducible refine gate_callee (f:=62) rfl ?_);refine goesL_ (some 29) rfl rfl Try.func62 (by kernel_rfl) rfl #[.pointer (some ⟨gt,0,none⟩),.agg #[.int .i64 n,.int .i64 n,.slice A0_2 l0_2.length c0_2]] rfl (by (try simp only [List.map_toArray,List.map_cons,List.map_nil]);first|done|rfl) ?_;(with_reducible refine (gridOf_calls gt n n l0_2.length c0_2 A0_2 l0_2 w _ _ H.out r1 r2 r1 r2 rfl hl.out hc.out hb.out).mono ?_);rintro e wB ⟨g,B,rfl,hG,hH⟩;refine ⟨_,rfl,?_⟩;have hG1:=Aside0.mk hG;clear hG;have H_:=Aside0.mk (hH);clear hH H;have H:=H_;clear H_;have hm1 : wB.cell? ⟨gm,0,none⟩ = some (.int .i64 n):=H.out.left.cellv 3 rfl 0 rfl)
  | ((with_reducible refine gate_callee (f:=70) rfl ?_);refine goesL_ (some 35) rfl rfl Try.func70 (by kernel_rfl) rfl #[.pointer (some ⟨gt,0,none⟩),.int .i64 n,.int .i64 n] rfl (by (try simp only [List.map_toArray,List.map_cons,List.map_nil]);first|done|rfl) ?_;(with_reducible refine (newGrid_calls gt n n w _ _ H.out r1 r2 r1 r2).mono ?_);rintro e wC ⟨h,Bo,rfl,hGo,hH⟩;refine ⟨_,rfl,?_⟩;have hG2:=Aside0.mk hGo;clear hGo hm1;have H_:=Aside0.mk (hH);clear hH H;have H:=H_;clear H_;obtain ⟨hr_,ha_,cH,rh,dh,off,cap,rfl,hRh,hsz,hmx,hrh0,hdh0,hap0⟩:=hG2.out;have hh0 : wC.cell? ⟨h,0,none⟩ = some (.slice (some ⟨hr_,0,none⟩) n cH):=H.out.cellv 0 rfl 0 rfl))
 have hrh:=Aside0.mk hrh0
 have hap:=Aside0.mk hap0
 have hdh:=Aside0.mk hdh0
 have hs1:=Aside0.mk hsz
 have hs2:=Aside0.mk hmx
 clear hrh0 hdh0 hap0 hsz hmx hh0 hG2 heq
 go_loopw [41] (fun v41 wr=>∃ (i : Nat) (dk : Array Value),i ≤ n ∧ v41 = .int .i64 i ∧ Aside0 (∀ a b,a < n → b < n → dk[off a + b]? = some (.int .u8 (if a = b ∧ a < i then 1 else 0))) ∧ Aside0 (Hs w wr ((h,.cells #[.slice (some ⟨hr_,0,none⟩) n cH,.pointer (some ⟨gt,0,none⟩)] 111 (0,0)) :: (hr_,.cells rh 37 (0,0)) :: (ha_,.cells dk 5 (0,0)) :: (B ++ (gt,.cells (tabN 255) 162 (0,0)) :: (gh,.cells #[.int .i64 n,.int .i64 n] 107 (0,0)) :: (gs,.cells #[.int .i64 0,.int .i64 0,.int .i64 0,.slice none 0 0] 32 (0,0)) :: (gm,.cells #[.int .i64 n,.int .i64 n,.slice A0_2 l0_2.length c0_2] 27 (0,0)) :: [])))) (fun i _=>n - (intOf i).toNat)
 case atStart=>exact ⟨0,dh,by omega,rfl,Aside0.mk (fun a b ha hb'=>by rw [hdh.out a b ha hb',if_neg (by omega)]),H⟩
 case round=>
  clear H hdh
  obtain ⟨i,dk,hi0,rfl,hdk,H⟩:=hrel
  by_cases hi1 : i < n
  ·have hc0 : wr.cell? ⟨h,0,none⟩ = some (.slice (some ⟨hr_,0,none⟩) n cH):=H.out.cellv 0 rfl 0 rfl
   have hc1 : wr.cell? ⟨hr_,i,none⟩ = some (.slice (some ⟨ha_,off i,none⟩) n (cap i)):=H.out.cellv 1 rfl i (hrh.out i hi1).1
   have hc2:=H.out.cellv 2 rfl (off i + i) (hdk.out i i hi1 hi1)
   have hc3:=H.out.frozen 2 rfl (off i + i)
   have l1 : (i : Int) < (n : Int):=by omega
   have l2 : 0 ≤ (i : Int):=by omega
   go_wp2_with fail
   go_roundw
   case rel=>exact ⟨i + 1,dk.setIfInBounds (off i + i) (.int .u8 1),by omega,by go_num,Aside0.mk (set_gridL (N:=fun a b=>if a = b ∧ a < i then 1 else 0) (N':=fun a b=>if a = b ∧ a < i + 1 then 1 else 0) hdk.out hap.out hi1 hi1 (if_pos ⟨rfl,by omega⟩) (fun a b ha hb' hne=>by
    by_cases c : a = b ∧ a < i
    ·show (if _ then _ else _ : Int) = if _ then _ else _
     rw [if_pos c,if_pos ⟨c.1,by omega⟩]
    ·show (if _ then _ else _ : Int) = if _ then _ else _
     rw [if_neg c,if_neg (fun e=>hne (by have:=e.1;subst this;have : ¬ a < i:=fun e2=>c ⟨rfl,e2⟩;omega))])),Aside0.mk (H.out.set 2 rfl _ _)⟩
   case measure=>simp [intOf];omega
  ·obtain rfl : i = n:=by omega
   have l5 : decide ((i : Int) < (i : Int)) = false:=decide_eq_false (by omega)
   go_wp2_with fail
   have hGi:=Aside0.mk (show GridB gt h i i idM [(h,.cells #[.slice (some ⟨hr_,0,none⟩) i cH,.pointer (some ⟨gt,0,none⟩)] 111 (0,0)),(hr_,.cells rh 37 (0,0)),(ha_,.cells dk 5 (0,0))] from
    ⟨hr_,ha_,cH,rh,dk,off,cap,rfl,hRh,hs1.out,hs2.out,hrh.out,fun a b ha hb'=>by
     rw [hdk.out a b ha hb']
     unfold idM
     by_cases c : a = b
     ·rw [if_pos ⟨c,ha⟩,if_pos c]
     ·rw [if_neg (fun e=>c e.1),if_neg c],hap.out⟩)
   clear hdk
   obtain ⟨rk,hrke0⟩ : ∃ rk,rk = (redS i i i (0,(fun a b=>l0_2.getD (a * i + b) 0),idM) i).1:=⟨_,rfl⟩
   have hrke:=Aside0.mk hrke0
   have hrk2 : ¬ rk < i:=by rw [hrke0];exact hrk1.out
   clear hrke0
   have l6 : decide ((rk : Int) < (i : Int)) = false:=decide_eq_false (by omega)
   have l7 : decide (rk < i) = false:=decide_eq_false (by omega)
   have hc_0 : wr.cell? ⟨gm,0,none⟩ = some (.int .i64 i):=(Hs.left (B:=[_,_,_]) H.out).left.cellv 3 rfl 0 rfl
   have hc_1 : wr.cell? ⟨gm,1,none⟩ = some (.int .i64 i):=(Hs.left (B:=[_,_,_]) H.out).left.cellv 3 rfl 1 rfl
   refine start_ (n:=8) (S:=fun w'=>w'.cell? ⟨gm,0,none⟩ = some (.int .i64 i) ∧ w'.cell? ⟨gm,1,none⟩ = some (.int .i64 i)) (ds:=[]) #[false,false,false,false,false,false,false,false] (by kernel_rfl) rfl rfl ⟨hc_0,hc_1⟩ (fun hHeld=>?_)
   have H_:=Aside0.mk H.out.drew
   clear H hc_0 hc_1
   have H:=H_
   clear H_
   generalize wr.drew = wd at H hHeld ⊢
   refine pure_ (i:=0) (N:=some 54) (v:=?_) (a':=?_) #[true,false,false,false,false,false,false,false] rfl rfl (by kernel_rfl) (fun _ _ _ h=>h) (Or.inl ⟨by rfl,?_⟩) ?_ ?_
   rotate_left
   ·intro w'
    go_simp
    with_reducible rfl
   rotate_left
   ·simp only [Act.put,List.setIfInBounds_toArray,List.set_cons_zero,List.set_cons_succ,i64_w,i32_w]
    rfl
   refine pure_ (i:=1) (N:=some 55) (v:=?_) (a':=?_) #[true,true,false,false,false,false,false,false] rfl rfl (by kernel_rfl) (fun _ _ _ h=>h) (Or.inl ⟨by rfl,?_⟩) ?_ ?_
   rotate_left
   ·intro w'
    go_simp
    with_reducible rfl
   rotate_left
   ·simp only [Act.put,List.setIfInBounds_toArray,List.set_cons_zero,List.set_cons_succ,i64_w,i32_w]
    rfl
   refine pure_ (i:=3) (N:=some 57) (v:=?_) (a':=?_) #[true,true,false,true,false,false,false,false] rfl rfl (by kernel_rfl) (fun _ _ _ h=>h) (Or.inl ⟨by rfl,?_⟩) ?_ ?_
   rotate_left
   ·intro w'
    go_simp
    with_reducible rfl
   rotate_left
   ·simp only [Act.put,List.setIfInBounds_toArray,List.set_cons_zero,List.set_cons_succ,i64_w,i32_w]
    rfl
   refine pure_ (i:=5) (N:=some 59) (v:=?_) (a':=?_) #[true,true,false,true,false,true,false,false] rfl rfl (by kernel_rfl) (fun _ _ _ h=>h) (Or.inl ⟨by rfl,?_⟩) ?_ ?_
   rotate_left
   ·intro w'
    go_simp
    with_reducible rfl
   rotate_left
   ·simp only [Act.put,List.setIfInBounds_toArray,List.set_cons_zero,List.set_cons_succ,i64_w,i32_w]
    rfl
   refine take_ (i:=2) (N:=some 56) (v:=?_) (a':=?_) #[true,true,true,true,false,true,false,false] rfl rfl (by kernel_rfl) (fun _ _ _ h=>h) (Or.inl ⟨by rfl,?_⟩) hHeld ?_ ?_
   rotate_left
   ·rintro w' ⟨s0,s1⟩
    go_simp
    with_reducible rfl
   rotate_left
   ·simp only [Act.put,List.setIfInBounds_toArray,List.set_cons_zero,List.set_cons_succ,i64_w,i32_w]
    rfl
   refine take_ (i:=6) (N:=some 60) (v:=?_) (a':=?_) #[true,true,true,true,false,true,true,false] rfl rfl (by kernel_rfl) (fun _ _ _ h=>h) (Or.inl ⟨by rfl,?_⟩) hHeld ?_ ?_
   rotate_left
   ·rintro w' ⟨s0,s1⟩
    go_simp
    with_reducible rfl
   rotate_left
   ·simp only [Act.put,List.setIfInBounds_toArray,List.set_cons_zero,List.set_cons_succ,i64_w,i32_w]
    rfl
   refine one_ (i:=4) (N:=some 58) #[true,true,true,true,true,true,true,false] rfl rfl (by kernel_rfl) (by decide) (fun K hK=>?_)
   refine goes_ Try.func64 (by kernel_rfl) rfl #[.pointer (some ⟨g,0,none⟩),.int .i64 i,.pointer (some ⟨h,0,none⟩)] (by rfl) rfl rfl (by first|(simp only [List.map_toArray,List.map_cons,List.map_nil];done)|(simp only [List.map_toArray,List.map_cons,List.map_nil];rfl)) ?_
   with_reducible refine (reduceO_calls gt g h i i i i (fun a b=>l0_2.getD (a * i + b) 0) idM B _ _ w _ hG1.out hGi.out hby.out idM_byt (Nat.le_refl _) r2 r2 r2 0 rfl (hs_front (B:=[_,_,_]) H.out)).mono ?_
   rintro e w3 ⟨B1,B2,he,hGa,hGb,hH⟩
   rw [← hrke.out] at he
   subst he
   refine ⟨_,rfl,?_⟩
   have hG3:=Aside0.mk hGb
   have H_:=Aside0.mk hH
   clear hGa hGb hH H
   have H:=H_
   clear H_
   refine hK.out _ _ ⟨(H.out.left.left.cellv 3 rfl 0 rfl),(H.out.left.left.cellv 3 rfl 1 rfl)⟩ (fun hHeld=>?_)
   clear hK K
   refine norm_ (a':=?_) ?_ ?_
   rotate_left
   ·show Act.put _ (some 58) _ = _
    simp only [Act.put,List.setIfInBounds_toArray,List.set_cons_zero,List.set_cons_succ,i64_w,i32_w]
    rfl
   refine pure_ (i:=7) (N:=some 61) (v:=?_) (a':=?_) #[true,true,true,true,true,true,true,true] rfl rfl (by kernel_rfl) (fun _ _ _ h=>h) (Or.inl ⟨by rfl,?_⟩) ?_ ?_
   rotate_left
   ·intro w'
    go_simp
    with_reducible rfl
   rotate_left
   ·simp only [Act.put,List.setIfInBounds_toArray,List.set_cons_zero,List.set_cons_succ,i64_w,i32_w]
    rfl
   refine done_ (by kernel_rfl) ?_
   go_wp2_with (first
    | ((with_reducible refine gate_callee (f:=71) rfl ?_);refine goesL_ (some 64) rfl rfl Try.func71 (by kernel_rfl) rfl #[.pointer (some ⟨h,0,none⟩)] rfl (by (try simp only [List.map_toArray,List.map_cons,List.map_nil]);first|done|rfl) ?_;(with_reducible refine (matrix_calls gt h i i _ B2 _ w _ hG3.out hbq.out r1 r2 r1 r2 (hs_front H.out)).mono ?_);rintro e w4 ⟨v,Bk,rfl,hB,hH⟩;refine ⟨_,rfl,?_⟩;obtain ⟨Av,zv,rfl⟩:=own_slice (hB.owns hH);have hB1:=Aside0.mk hB;clear hB;have H_:=Aside0.mk (Hs.comm (hs_sub hH (List.Sublist.append (List.Sublist.refl Bk) (List.sublist_append_right B1 _))));clear hH H;have H:=Aside0.mk (show Hs w w4 ((gt,.cells (tabN 255) 162 (0,0)) :: (gh,.cells #[.int .i64 i,.int .i64 i] 107 (0,0)) :: (gs,.cells #[.int .i64 0,.int .i64 0,.int .i64 0,.slice none 0 0] 32 (0,0)) :: (gm,.cells #[.int .i64 i,.int .i64 i,.slice A0_2 l0_2.length c0_2] 27 (0,0)) :: Bk) from H_.out);clear H_)
    | ((with_reducible refine gate_store (p:=2) rfl ?_);(try (refine gate_guard (by rfl) ?_;dsimp only));have hc0_:=H.out.cellv (v:=.int .i64 0) 2 rfl 0 rfl;have hf0_:=H.out.frozen 2 rfl 0;have hc1_:=H.out.cellv (v:=.int .i64 0) 2 rfl 1 rfl;have hf1_:=H.out.frozen 2 rfl 1;have hc2_:=H.out.cellv (v:=.int .i64 0) 2 rfl 2 rfl;have hf2_:=H.out.frozen 2 rfl 2;have hc3_:=H.out.cellv (v:=.slice none 0 0) 2 rfl 3 rfl;have hf3_:=H.out.frozen 2 rfl 3;refine store_at (fun W=>(World.setCell (World.setCell (World.setCell (World.setCell W ⟨gs,0,none⟩ (.int .i64 0)) ⟨gs,1,none⟩ (.int .i64 i)) ⟨gs,2,none⟩ (.int .i64 i)) ⟨gs,3,none⟩ (.slice Av (i * i) zv))) ?hg rfl ?hd ?hr ?_;(case hg=>rfl);(case hd=>rfl);(case hr=>first|(go_simp;done)|(go_simp;rfl));intro w71 hw;have H_:=Aside0.mk (show Hs w w71 ((gt,.cells (tabN 255) 162 (0,0)) :: (gh,.cells #[.int .i64 i,.int .i64 i] 107 (0,0)) :: (gs,.cells #[.int .i64 0,.int .i64 i,.int .i64 i,.slice Av (i * i) zv] 32 (0,0)) :: (gm,.cells #[.int .i64 i,.int .i64 i,.slice A0_2 l0_2.length c0_2] 27 (0,0)) :: Bk) from by rw [hw];exact ((((H.out.set 2 rfl 0 (.int .i64 0)).set 2 rfl 1 (.int .i64 i)).set 2 rfl 2 (.int .i64 i)).set 2 rfl 3 (.slice Av (i * i) zv)));clear hw hc0_ hf0_ hc1_ hf1_ hc2_ hf2_ hc3_ hf3_ H;have H:=H_;clear H_))
   refine bodyPost_ret (results_cell_row rfl _ _ gs 32 #[.int .i64 0,.int .i64 i,.int .i64 i,.slice Av (i * i) zv] (0,0) _ rfl (H.out.get 2 rfl) Try.underlying32 rfl (by kernel_rfl)) rfl ⟨_,rfl,Kd.R_of_own ?_ (fun _ _=>trivial),H.out.below⟩
   have ho:=hB1.out.owns (Hs.comm (B:=[(gt,.cells (tabN 255) 162 (0,0)),(gh,.cells #[.int .i64 i,.int .i64 i] 107 (0,0)),(gs,.cells #[.int .i64 0,.int .i64 i,.int .i64 i,.slice Av (i * i) zv] 32 (0,0)),(gm,.cells #[.int .i64 i,.int .i64 i,.slice A0_2 l0_2.length c0_2] 27 (0,0))]) (L:=Bk) H.out)
   have hl2 : (GridM.cellsK i (redS i i i (0,(fun a b=>l0_2.getD (a * i + b) 0),idM) i).2.2 (i * i)).length = i * i:=GridM.cellsK_len _ _ _
   rw [hl2]
   exact ho

theorem impl_MatInv.calls (k : Nat) (a0_0 : Int) (a0_1 : Int) (A0_2 : Option Addr) (c0_2 : Nat) (l0_2 : List Int) (r1 : Int) (r2 : Int) (r3 : Int) (r4 : List Int) (w : World) (hr0_2 : Kd.C (Kd.int .i64) w A0_2 l0_2.length l0_2) (hc0_2 : l0_2.length ≤ c0_2) (h : impl_MatInv.f k a0_0 a0_1 l0_2 = some (r1,r2,r3,r4)) :
  Calls Try.prog 18 #[.agg #[.int .i64 a0_0,.int .i64 a0_1,.slice A0_2 l0_2.length c0_2]] w fun e w'=>∃ v3_ : Value,e = .returned (.agg #[.int .i64 r1,.int .i64 r2,.int .i64 r3,v3_]) ∧ Kd.R (Kd.int .i64) 2 w' w.heap.size (fun _=>True) v3_ r4 ∧ Below w.heap.size w w':=by
 unfold impl_MatInv.f at h
 obtain ⟨t,ht,h⟩:=Option.bind_eq_some_iff.mp h
 by_cases h0 : t = 0
 ·rw [if_pos h0] at h
  by_cases hs : a0_0 = a0_1
  ·rw [if_pos hs] at h
   subst hs
   by_cases hf : Fit a0_0 a0_0 l0_2
   ·rw [if_pos hf] at h
    obtain ⟨f1,f2,f3,f4,f5,f6⟩:=hf
    obtain ⟨n,rfl⟩:=Int.eq_ofNat_of_zero_le (show 0 ≤ a0_0 by omega)
    unfold invOf at h
    rw [Int.toNat_natCast] at h
    by_cases hr : (redS n n n (0,fun i j=>l0_2.getD (i * n + j) 0,idM) n).1 < n
    ·rw [if_pos hr] at h
     simp only [Option.some.injEq,Prod.mk.injEq] at h
     obtain ⟨rfl,rfl,rfl,rfl⟩:=h
     exact matInv_none n k A0_2 c0_2 l0_2 t w hr0_2 hc0_2 ht h0 (by omega) (by omega) f5 f6 hr
    ·rw [if_neg hr] at h
     simp only [Option.some.injEq,Prod.mk.injEq] at h
     obtain ⟨rfl,rfl,rfl,rfl⟩:=h
     exact matInv_some n k A0_2 c0_2 l0_2 t w hr0_2 hc0_2 ht h0 (by omega) (by omega) f5 f6 hr
   ·rw [if_neg hf] at h;cases h
  ·rw [if_neg hs] at h
   simp only [Option.some.injEq,Prod.mk.injEq] at h
   obtain ⟨rfl,rfl,rfl,rfl⟩:=h
   exact matInv_oblong k a0_0 a0_1 A0_2 c0_2 l0_2 t w hr0_2 hc0_2 ht h0 hs
 ·rw [if_neg h0] at h
  simp only [Option.some.injEq,Prod.mk.injEq] at h
  obtain ⟨rfl,rfl,rfl,rfl⟩:=h
  exact matInv_bad k a0_0 a0_1 A0_2 c0_2 l0_2 t w hr0_2 hc0_2 ht h0

end Go.Proofs.Ytffhbpepppodeaa.PFnInverse
