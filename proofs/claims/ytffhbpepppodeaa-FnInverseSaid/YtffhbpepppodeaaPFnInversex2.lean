import Derived.Test.YtffhbpepppodeaaPFnInversex0
import Derived.Test.YtffhbpepppodeaaPFnInversex1
import Derived.Test.YtffhbpepppodeaaRedNFnInverse
import Derived.Test.YtffhbpepppodeaaInvFnInverse
namespace Go.Proofs.Ytffhbpepppodeaa.PFnInverse
open Go.RowKit Go.Proofs.YtffhbpepppodeaaW.PrintWords Go.Proofs.YtffhbpepppodeaaW.PrintLast Go.Proofs.YtffhbpepppodeaaW.PrintMore
open Go.Proofs.Ytffhbpepppodeaa.Hs Go.Proofs.Ytffhbpepppodeaa.Gf Go.Proofs.Ytffhbpepppodeaa.Grid Go.Proofs.Ytffhbpepppodeaa.Reduce Go.Proofs.Ytffhbpepppodeaa.RedN Go.Proofs.Ytffhbpepppodeaa.Elim
def rankOf (R C : Nat) (l : List Int) : Nat:=(redS R C 0 (0,fun i j=>l.getD (i * C + j) 0,fun i j=>l.getD (i * C + j) 0) C).1
def impl_MatRank.f (k : Nat) (a0_0 : Int) (a0_1 : Int) (l0_2 : List Int) : Option Int:=(impl_MatrixFault.f k a0_0 a0_1 l0_2).bind fun t=>if t = 0 then (if Fit a0_0 a0_1 l0_2 then some (rankOf a0_0.toNat a0_1.toNat l0_2 : Int) else none) else some (-1)
theorem impl_MatRank.mono : ∀ a0 a1 a2 k,LeO (impl_MatRank.f k a0 a1 a2) (impl_MatRank.f (k + 1) a0 a1 a2):=by
 intro a0 a1 a2 k r h
 unfold impl_MatRank.f at h ⊢
 obtain ⟨t,ht,h⟩:=Option.bind_eq_some_iff.mp h
 exact Option.bind_eq_some_iff.mpr ⟨t,impl_MatrixFault.mono a0 a1 a2 k t ht,h⟩
set_option maxHeartbeats 8000000 in
set_option maxRecDepth 100000 in
theorem matRank_bad (k : Nat) (a0_0 a0_1 : Int) (A0_2 : Option Addr) (c0_2 : Nat) (l0_2 : List Int) (t : Int) (w : World) (hc0 : Kd.C (Kd.int .i64) w A0_2 l0_2.length l0_2) (hcc : l0_2.length ≤ c0_2) (h : impl_MatrixFault.f k a0_0 a0_1 l0_2 = some t) (h1 : ¬ t = 0) : Calls Try.prog 15 #[.agg #[.int .i64 a0_0,.int .i64 a0_1,.slice A0_2 l0_2.length c0_2]] w fun e w'=>e = .returned (.int .i64 (-1)) ∧ Below w.heap.size w w':=by
 have ht:=Aside0.mk h
 have hc:=Aside0.mk hc0
 have d1 : (t == 0) = false:=by simpa using h1
 have d2 : (t != 0) = true:=by simpa using h1
 clear h hc0 h1
 have hu:=Try.underlying27
 have H:=Aside0.mk (Hs.nil w)
 go_enter Try.func15,Try.ntmps15
 go_wp2_with (first
  | ((with_reducible refine gate_dst (N:=1) rfl ?_);(try (refine gate_guard (by rfl) ?_;dsimp only));refine box_event ?hg (N:=1) ?hd (cs:=#[.int .i64 a0_0,.int .i64 a0_1,.slice A0_2 l0_2.length c0_2]) (t:=27) ?hr ?_;(case hd=>rfl);(case hg=>rfl);(case hr=>first|(go_simp;done)|(go_simp;rfl));intro gm hg w1 hbox hb;have H_:=Aside0.mk (Hs.push H.out (Nat.le_of_eq hg.symm) hbox hb);clear hbox hb hg H;have H:=H_;clear H_)
  | ((with_reducible refine gate_dst (N:=3) rfl ?_);(try (refine gate_guard (by rfl) ?_;dsimp only));have hc0_:=H.out.cellv (v:=.int .i64 a0_0) 0 rfl 0 rfl;have hc1_:=H.out.cellv (v:=.int .i64 a0_1) 0 rfl 1 rfl;have hc2_:=H.out.cellv (v:=.slice A0_2 l0_2.length c0_2) 0 rfl 2 rfl;refine load_at (.agg #[.int .i64 a0_0,.int .i64 a0_1,.slice A0_2 l0_2.length c0_2]) ?hg ?hr ?_;(case hg=>rfl);(case hr=>first|(go_simp;done)|(go_simp;rfl));clear hc0_ hc1_ hc2_)
  | ((with_reducible refine gate_callee (f:=61) rfl ?_);(try (refine gate_guard (by rfl) ?_;dsimp only));refine goesL_ (some 4) rfl rfl Try.func61 (by kernel_rfl) rfl #[.agg #[.int .i64 a0_0,.int .i64 a0_1,.slice A0_2 l0_2.length c0_2]] rfl (by (try simp only [List.map_toArray,List.map_cons,List.map_nil]);first|done|rfl) ?_;(with_reducible refine (impl_MatrixFault.calls k a0_0 a0_1 A0_2 c0_2 l0_2 t _ (Kd.C_below hc.out (H.out.below)) hcc ht.out).mono ?_);rintro e w2 ⟨rfl,hb⟩;refine ⟨_,rfl,?_⟩;have H_:=Aside0.mk (show Hs w w2 [(gm,.cells #[.int .i64 a0_0,.int .i64 a0_1,.slice A0_2 l0_2.length c0_2] 27 (0,0))] from H.out.call hb);clear hb H;have H:=H_;clear H_))
 go_ret
 exact ⟨rfl,H.out.below⟩

set_option maxHeartbeats 8000000 in
set_option maxRecDepth 100000 in
theorem matRank_good (R C : Nat) (k : Nat) (A0_2 : Option Addr) (c0_2 : Nat) (l0_2 : List Int) (t : Int) (w : World) (hc0 : Kd.C (Kd.int .i64) w A0_2 l0_2.length l0_2) (hcc : l0_2.length ≤ c0_2) (h : impl_MatrixFault.f k R C l0_2 = some t) (h1 : t = 0) (r1 : 1 ≤ R) (r2 : R ≤ 64) (c1 : 1 ≤ C) (c2 : C ≤ 64) (hl0 : l0_2.length = R * C) (hb0 : ∀ x ∈ l0_2,0 ≤ x ∧ x ≤ 255) : Calls Try.prog 15 #[.agg #[.int .i64 R,.int .i64 C,.slice A0_2 l0_2.length c0_2]] w fun e w'=>e = .returned (.int .i64 (rankOf R C l0_2)) ∧ Below w.heap.size w w':=by
 have ht:=Aside0.mk h
 have hc:=Aside0.mk hc0
 have hl:=Aside0.mk hl0
 have hb:=Aside0.mk hb0
 have hby:=Aside0.mk (show Bytes2 (fun i j=>l0_2.getD (i * C + j) 0) from fun i j=>by
  show 0 ≤ l0_2.getD _ 0 ∧ l0_2.getD _ 0 ≤ 255
  rw [List.getD_eq_getElem?_getD]
  by_cases hx : i * C + j < l0_2.length
  ·rw [List.getElem?_eq_getElem hx];exact hb.out _ (List.getElem_mem hx)
  ·rw [List.getElem?_eq_none (by omega)];exact ⟨by decide,by decide⟩)
 have d1 : (t == 0) = true:=by simpa using h1
 have d2 : (t != 0) = false:=by simpa using h1
 clear h hc0 h1 hl0 hb0
 have hu:=Try.underlying27
 have H:=Aside0.mk (Hs.nil w)
 go_enter Try.func15,Try.ntmps15
 go_wp2_with (first
  | ((with_reducible refine gate_dst (N:=1) rfl ?_);(try (refine gate_guard (by rfl) ?_;dsimp only));refine box_event ?hg (N:=1) ?hd (cs:=#[.int .i64 R,.int .i64 C,.slice A0_2 l0_2.length c0_2]) (t:=27) ?hr ?_;(case hd=>rfl);(case hg=>rfl);(case hr=>first|(go_simp;done)|(go_simp;rfl));intro gm hg w1 hbox hb;have H_:=Aside0.mk (Hs.push H.out (Nat.le_of_eq hg.symm) hbox hb);clear hbox hb hg H;have H:=H_;clear H_)
  | ((with_reducible refine gate_dst (N:=3) rfl ?_);(try (refine gate_guard (by rfl) ?_;dsimp only));have hc0_:=H.out.cellv (v:=.int .i64 R) 0 rfl 0 rfl;have hc1_:=H.out.cellv (v:=.int .i64 C) 0 rfl 1 rfl;have hc2_:=H.out.cellv (v:=.slice A0_2 l0_2.length c0_2) 0 rfl 2 rfl;refine load_at (.agg #[.int .i64 R,.int .i64 C,.slice A0_2 l0_2.length c0_2]) ?hg ?hr ?_;(case hg=>rfl);(case hr=>first|(go_simp;done)|(go_simp;rfl));clear hc0_ hc1_ hc2_)
  | ((with_reducible refine gate_callee (f:=61) rfl ?_);(try (refine gate_guard (by rfl) ?_;dsimp only));refine goesL_ (some 4) rfl rfl Try.func61 (by kernel_rfl) rfl #[.agg #[.int .i64 R,.int .i64 C,.slice A0_2 l0_2.length c0_2]] rfl (by (try simp only [List.map_toArray,List.map_cons,List.map_nil]);first|done|rfl) ?_;(with_reducible refine (impl_MatrixFault.calls k R C A0_2 c0_2 l0_2 t _ (Kd.C_below hc.out (H.out.below)) hcc ht.out).mono ?_);rintro e w2 ⟨rfl,hb⟩;refine ⟨_,rfl,?_⟩;have H_:=Aside0.mk (show Hs w w2 [(gm,.cells #[.int .i64 R,.int .i64 C,.slice A0_2 l0_2.length c0_2] 27 (0,0))] from H.out.call hb);clear hb H;have H:=H_;clear H_))
 have hc_0 : w2.cell? ⟨gm,0,none⟩ = some (.int .i64 R):=H.out.cellv 0 rfl 0 rfl
 have hc_1 : w2.cell? ⟨gm,1,none⟩ = some (.int .i64 C):=H.out.cellv 0 rfl 1 rfl
 have hc_2 : w2.cell? ⟨gm,2,none⟩ = some (.slice A0_2 l0_2.length c0_2):=H.out.cellv 0 rfl 2 rfl
 refine start_ (n:=7) (S:=fun w'=>w'.cell? ⟨gm,0,none⟩ = some (.int .i64 R) ∧ w'.cell? ⟨gm,1,none⟩ = some (.int .i64 C) ∧ w'.cell? ⟨gm,2,none⟩ = some (.slice A0_2 l0_2.length c0_2)) (ds:=[]) #[false,false,false,false,false,false,false] (by kernel_rfl) rfl rfl ⟨hc_0,hc_1,hc_2⟩ (fun hHeld=>?_)
 have H_:=Aside0.mk H.out.drew
 clear H hc_0 hc_1 hc_2
 have H:=H_
 clear H_
 generalize w2.drew = wd at H hHeld ⊢
 refine pure_ (i:=3) (N:=some 9) (v:=?_) (a':=?_) #[false,false,false,true,false,false,false] rfl rfl (by kernel_rfl) (fun _ _ _ h=>h) (Or.inl ⟨by rfl,?_⟩) ?_ ?_
 rotate_left
 ·intro w'
  go_simp
  with_reducible rfl
 rotate_left
 ·simp only [Act.put,List.setIfInBounds_toArray,List.set_cons_zero,List.set_cons_succ,i64_w,i32_w]
  rfl
 refine take_ (i:=1) (N:=some 7) (v:=?_) (a':=?_) #[false,true,false,true,false,false,false] rfl rfl (by kernel_rfl) (fun _ _ _ h=>h) (Or.inl ⟨by rfl,?_⟩) hHeld ?_ ?_
 rotate_left
 ·rintro w' ⟨s0,s1,s2⟩
  go_simp
  with_reducible rfl
 rotate_left
 ·simp only [Act.put,List.setIfInBounds_toArray,List.set_cons_zero,List.set_cons_succ,i64_w,i32_w]
  rfl
 refine take_ (i:=4) (N:=some 10) (v:=?_) (a':=?_) #[false,true,false,true,true,false,false] rfl rfl (by kernel_rfl) (fun _ _ _ h=>h) (Or.inl ⟨by rfl,?_⟩) hHeld ?_ ?_
 rotate_left
 ·rintro w' ⟨s0,s1,s2⟩
  go_simp
  with_reducible rfl
 rotate_left
 ·simp only [Act.put,List.setIfInBounds_toArray,List.set_cons_zero,List.set_cons_succ,i64_w,i32_w]
  rfl
 refine one_ (i:=0) (N:=some 6) #[true,true,false,true,true,false,false] rfl rfl (by kernel_rfl) (by decide) (fun K hK=>?_)
 refine goes_ Try.func63 (by kernel_rfl) rfl #[] (by rfl) rfl rfl (by first|(simp only [List.map_toArray,List.map_cons,List.map_nil];done)|(simp only [List.map_toArray,List.map_cons,List.map_nil];rfl)) ?_
 with_reducible refine (make_calls w wd _ H.out).mono ?_
 rintro e w3 ⟨gt,rfl,hH⟩
 refine ⟨_,rfl,?_⟩
 have H_:=Aside0.mk hH
 clear hH H
 have H:=H_
 clear H_
 refine hK.out _ _ ⟨(H.out.cellv 1 rfl 0 rfl),(H.out.cellv 1 rfl 1 rfl),(H.out.cellv 1 rfl 2 rfl)⟩ (fun hHeld=>?_)
 clear hK K
 refine norm_ (a':=?_) ?_ ?_
 rotate_left
 ·show Act.put _ (some 6) _ = _
  simp only [Act.put,List.setIfInBounds_toArray,List.set_cons_zero,List.set_cons_succ,i64_w,i32_w]
  rfl
 refine one_ (i:=2) (N:=some 8) #[true,true,true,true,true,false,false] rfl rfl (by kernel_rfl) (by decide) (fun K hK=>?_)
 refine goes_ Try.func62 (by kernel_rfl) rfl #[.pointer (some ⟨gt,0,none⟩),.agg #[.int .i64 R,.int .i64 C,.slice A0_2 l0_2.length c0_2]] (by rfl) rfl rfl (by first|(simp only [List.map_toArray,List.map_cons,List.map_nil];done)|(simp only [List.map_toArray,List.map_cons,List.map_nil];rfl)) ?_
 with_reducible refine (gridOf_calls gt R C l0_2.length c0_2 A0_2 l0_2 w w3 _ H.out r1 r2 c1 c2 rfl hl.out hc.out hb.out).mono ?_
 rintro e w3 ⟨g,B,rfl,hG,hH⟩
 refine ⟨_,rfl,?_⟩
 have hG1:=Aside0.mk hG
 have H_:=Aside0.mk hH
 clear hH hG H
 have H:=H_
 clear H_
 refine hK.out _ _ ⟨(H.out.left.cellv 1 rfl 0 rfl),(H.out.left.cellv 1 rfl 1 rfl),(H.out.left.cellv 1 rfl 2 rfl)⟩ (fun hHeld=>?_)
 clear hK K
 refine norm_ (a':=?_) ?_ ?_
 rotate_left
 ·show Act.put _ (some 8) _ = _
  simp only [Act.put,List.setIfInBounds_toArray,List.set_cons_zero,List.set_cons_succ,i64_w,i32_w]
  rfl
 refine one_ (i:=5) (N:=some 11) #[true,true,true,true,true,true,false] rfl rfl (by kernel_rfl) (by decide) (fun K hK=>?_)
 refine goes_ Try.func64 (by kernel_rfl) rfl #[.pointer (some ⟨g,0,none⟩),.int .i64 C,.pointer none] (by rfl) rfl rfl (by first|(simp only [List.map_toArray,List.map_cons,List.map_nil];done)|(simp only [List.map_toArray,List.map_cons,List.map_nil];rfl)) ?_
 with_reducible refine (reduceN_calls gt g R C C _ B _ w w3 hG1.out hby.out (Nat.le_refl _) c2 r2 0 rfl H.out).mono ?_
 rintro e w3 ⟨B5,rfl,hG,hH⟩
 refine ⟨_,rfl,?_⟩
 have H_:=Aside0.mk hH
 clear hH hG H
 have H:=H_
 clear H_
 refine hK.out _ _ ⟨(H.out.left.cellv 1 rfl 0 rfl),(H.out.left.cellv 1 rfl 1 rfl),(H.out.left.cellv 1 rfl 2 rfl)⟩ (fun hHeld=>?_)
 clear hK K
 refine norm_ (a':=?_) ?_ ?_
 rotate_left
 ·show Act.put _ (some 11) _ = _
  simp only [Act.put,List.setIfInBounds_toArray,List.set_cons_zero,List.set_cons_succ,i64_w,i32_w]
  rfl
 refine pure_ (i:=6) (N:=some 2) (v:=?_) (a':=?_) #[true,true,true,true,true,true,true] rfl rfl (by kernel_rfl) (fun _ _ _ h=>h) (Or.inl ⟨by rfl,?_⟩) ?_ ?_
 rotate_left
 ·intro w'
  go_simp
  with_reducible rfl
 rotate_left
 ·simp only [Act.put,List.setIfInBounds_toArray,List.set_cons_zero,List.set_cons_succ,i64_w,i32_w]
  rfl
 refine done_ (by kernel_rfl) ?_
 go_wp2
 go_ret
 exact ⟨rfl,H.out.below⟩

theorem impl_MatRank.calls (k : Nat) (a0_0 : Int) (a0_1 : Int) (A0_2 : Option Addr) (c0_2 : Nat) (l0_2 : List Int) (r : Int) (w : World) (hr0_2 : Kd.C (Kd.int .i64) w A0_2 l0_2.length l0_2) (hc0_2 : l0_2.length ≤ c0_2) (h : impl_MatRank.f k a0_0 a0_1 l0_2 = some r) :
  Calls Try.prog 15 #[.agg #[.int .i64 a0_0,.int .i64 a0_1,.slice A0_2 l0_2.length c0_2]] w fun e w'=>e = .returned (.int .i64 r) ∧ Below w.heap.size w w':=by
 unfold impl_MatRank.f at h
 obtain ⟨t,ht,h⟩:=Option.bind_eq_some_iff.mp h
 by_cases h0 : t = 0
 ·rw [if_pos h0] at h
  by_cases hf : Fit a0_0 a0_1 l0_2
  ·rw [if_pos hf] at h
   cases h
   obtain ⟨f1,f2,f3,f4,f5,f6⟩:=hf
   obtain ⟨R,rfl⟩:=Int.eq_ofNat_of_zero_le (show 0 ≤ a0_0 by omega)
   obtain ⟨C,rfl⟩:=Int.eq_ofNat_of_zero_le (show 0 ≤ a0_1 by omega)
   exact matRank_good R C k A0_2 c0_2 l0_2 t w hr0_2 hc0_2 ht h0 (by omega) (by omega) (by omega) (by omega) f5 f6
  ·rw [if_neg hf] at h;cases h
 ·rw [if_neg h0] at h
  cases h
  exact matRank_bad k a0_0 a0_1 A0_2 c0_2 l0_2 t w hr0_2 hc0_2 ht h0

end Go.Proofs.Ytffhbpepppodeaa.PFnInverse
