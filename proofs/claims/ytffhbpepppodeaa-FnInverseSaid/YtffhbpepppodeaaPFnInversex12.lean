import Derived.Test.YtffhbpepppodeaaPFnInversex0
import Derived.Test.YtffhbpepppodeaaPFnInversex1
import Derived.Test.YtffhbpepppodeaaGridMFnInverse
import Derived.Test.YtffhbpepppodeaaInvFnInverse
namespace Go.Proofs.Ytffhbpepppodeaa.PFnInverse
open Go.RowKit Go.Proofs.YtffhbpepppodeaaW.PrintWords Go.Proofs.YtffhbpepppodeaaW.PrintLast Go.Proofs.YtffhbpepppodeaaW.PrintMore
open Go.Proofs.Ytffhbpepppodeaa.Hs Go.Proofs.Ytffhbpepppodeaa.Gf Go.Proofs.Ytffhbpepppodeaa.Grid Go.Proofs.Ytffhbpepppodeaa.Reduce Go.Proofs.Ytffhbpepppodeaa.GridM Go.Proofs.Ytffhbpepppodeaa.Elim
def psum (M N : Mat) (a b : Nat) : Nat → Int
 | 0=>0
 | j + 1=>Go.bits .xor .u8 (psum M N a b j) (tmul (M a j) (N j b))
theorem psum_byte (M N : Mat) (a b : Nat) : ∀ j,0 ≤ psum M N a b j ∧ psum M N a b j ≤ 255
 | 0=>⟨Int.le_refl 0,by show (0 : Int) ≤ 255;decide⟩
 | j + 1=>xor_byte _ _
def outK (M N : Mat) (D i j k a b : Nat) : Int:=if a < i then psum M N a b D else if a = i then (if b < k then psum M N a b (j + 1) else psum M N a b j) else 0
theorem outK_now (M N : Mat) (D i j k : Nat) : outK M N D i j k i k = psum M N i k j:=by unfold outK;rw [if_neg (by omega),if_pos rfl,if_neg (by omega)]
theorem outK_hit (M N : Mat) (D i j k : Nat) : outK M N D i j (k + 1) i k = psum M N i k (j + 1):=by unfold outK;rw [if_neg (by omega),if_pos rfl,if_pos (by omega)]
theorem outK_miss (M N : Mat) (D i j k a b : Nat) (h : ¬ (a = i ∧ b = k)) : outK M N D i j (k + 1) a b = outK M N D i j k a b:=by
 unfold outK
 by_cases c : a < i
 ·rw [if_pos c,if_pos c]
 ·rw [if_neg c,if_neg c]
  by_cases d : a = i
  ·rw [if_pos d,if_pos d]
   by_cases e : b < k
   ·rw [if_pos e,if_pos (by omega)]
   ·rw [if_neg e,if_neg (by omega)]
  ·rw [if_neg d,if_neg d]
theorem outK_row (M N : Mat) (D C i j a b : Nat) (hb : b < C) : outK M N D i j C a b = outK M N D i (j + 1) 0 a b:=by
 unfold outK
 by_cases c : a < i
 ·rw [if_pos c,if_pos c]
 ·rw [if_neg c,if_neg c]
  by_cases d : a = i
  ·rw [if_pos d,if_pos d,if_pos hb,if_neg (by omega)]
  ·rw [if_neg d,if_neg d]
theorem outK_next (M N : Mat) (D i a b : Nat) : outK M N D i D 0 a b = outK M N D (i + 1) 0 0 a b:=by
 unfold outK
 by_cases c : a < i
 ·rw [if_pos c,if_pos (by omega)]
 ·rw [if_neg c]
  by_cases d : a = i
  ·rw [if_pos d,if_neg (by omega),if_pos (by omega),d]
  ·rw [if_neg d,if_neg (by omega)]
   by_cases e : a = i + 1
   ·rw [if_pos e,if_neg (by omega)];rfl
   ·rw [if_neg e]
theorem outK_zero (M N : Mat) (D a b : Nat) : outK M N D 0 0 0 a b = 0:=by
 unfold outK
 rw [if_neg (by omega)]
 by_cases d : a = 0
 ·rw [if_pos d,if_neg (by omega)];rfl
 ·rw [if_neg d]
theorem outK_all (M N : Mat) (D R a b : Nat) (ha : a < R) : outK M N D R 0 0 a b = psum M N a b D:=by unfold outK;rw [if_pos ha]

def mulOf (R D C : Nat) (la lb : List Int) : List Int:=cellsK C (fun a b=>psum (fun a b=>la.getD (a * D + b) 0) (fun a b=>lb.getD (a * C + b) 0) a b D) (R * C)
def impl_MatMul.f (k : Nat) (a0_0 : Int) (a0_1 : Int) (l0_2 : List Int) (a1_0 : Int) (a1_1 : Int) (l1_2 : List Int) : Option (Int × Int × Int × List Int):=
 (impl_MatrixFault.f k a0_0 a0_1 l0_2).bind fun t1=>(impl_MatrixFault.f k a1_0 a1_1 l1_2).bind fun t2=>if t1 = 0 ∧ t2 = 0 ∧ a0_1 = a1_0 ∧ Fit a0_0 a0_1 l0_2 ∧ Fit a1_0 a1_1 l1_2 then some (0,a0_0,a1_1,mulOf a0_0.toNat a0_1.toNat a1_1.toNat l0_2 l1_2) else none
theorem impl_MatMul.mono : ∀ a0 a1 a2 a3 a4 a5 k,LeO (impl_MatMul.f k a0 a1 a2 a3 a4 a5) (impl_MatMul.f (k + 1) a0 a1 a2 a3 a4 a5):=by
 intro a0 a1 a2 a3 a4 a5 k
 unfold impl_MatMul.f
 exact LeO.bind (impl_MatrixFault.mono a0 a1 a2 k) fun _=>LeO.bind (impl_MatrixFault.mono a3 a4 a5 k) fun _=>LeO.refl _

set_option maxHeartbeats 8000000 in
set_option maxRecDepth 100000 in
theorem matMul_good (R D C : Nat) (k : Nat) (A A2 : Option Addr) (ca cb : Nat) (la lb : List Int) (t1 t2 : Int) (w : World) (ha0 : Kd.C (Kd.int .i64) w A la.length la) (hcc1 : la.length ≤ ca) (hb0 : Kd.C (Kd.int .i64) w A2 lb.length lb) (hcc2 : lb.length ≤ cb)
  (h1 : impl_MatrixFault.f k R D la = some t1) (h2 : impl_MatrixFault.f k D C lb = some t2) (e1 : t1 = 0) (e2 : t2 = 0) (r1 : 1 ≤ R) (r2 : R ≤ 64) (k1 : 1 ≤ D) (k2 : D ≤ 64) (c1 : 1 ≤ C) (c2 : C ≤ 64) (hla : la.length = R * D) (hlb : lb.length = D * C) (ba : ∀ x ∈ la,0 ≤ x ∧ x ≤ 255) (bb : ∀ x ∈ lb,0 ≤ x ∧ x ≤ 255) :
  Calls Try.prog 26 #[.agg #[.int .i64 R,.int .i64 D,.slice A la.length ca],.agg #[.int .i64 D,.int .i64 C,.slice A2 lb.length cb]] w fun e w'=>∃ v,e = .returned (.agg #[.int .i64 0,.int .i64 R,.int .i64 C,v]) ∧ Kd.R (Kd.int .i64) 2 w' w.heap.size (fun _=>True) v (cellsK C (fun a b=>psum (fun a b=>la.getD (a * D + b) 0) (fun a b=>lb.getD (a * C + b) 0) a b D) (R * C)) ∧ Below w.heap.size w w':=by
 have d1 : (t1 == 0) = true:=by simpa using e1
 have d2 : (t1 != 0) = false:=by simpa using e1
 have d3 : (t2 == 0) = true:=by simpa using e2
 have d4 : (t2 != 0) = false:=by simpa using e2
 have hl1:=Aside0.mk hla
 have hl2:=Aside0.mk hlb
 have hb1:=Aside0.mk ba
 have hb2:=Aside0.mk bb
 have ht1:=Aside0.mk h1
 have ht2:=Aside0.mk h2
 have hc1:=Aside0.mk ha0
 have hc2:=Aside0.mk hb0
 obtain ⟨M,hM0⟩ : ∃ M : Mat,M = (fun a b=>la.getD (a * D + b) 0):=⟨_,rfl⟩
 obtain ⟨N,hN0⟩ : ∃ N : Mat,N = (fun a b=>lb.getD (a * C + b) 0):=⟨_,rfl⟩
 have hM:=Aside0.mk (show Bytes2 M by rw [hM0];exact getD_bytes ba D)
 have hN:=Aside0.mk (show Bytes2 N by rw [hN0];exact getD_bytes bb C)
 have hMe:=Aside0.mk hM0
 have hNe:=Aside0.mk hN0
 rw [← hM0,← hN0]
 clear h1 h2 ha0 hb0 e1 e2 hla hlb ba bb hM0 hN0
 have hu:=Try.underlying27
 have hu2:=Try.underlying32
 have hu4:=Try.underlying111
 have H:=Aside0.mk (Hs.nil w)
 go_enter Try.func26,Try.ntmps26
 go_wp2_with (first
  | ((with_reducible refine gate_dst (N:=2) rfl ?_);(try (refine gate_guard (by rfl) ?_;dsimp only));refine box_event ?hg (N:=2) ?hd (cs:=#[.int .i64 R,.int .i64 D,.slice A la.length ca]) (t:=27) ?hr ?_;(case hd=>rfl);(case hg=>rfl);(case hr=>first|(go_simp;done)|(go_simp;rfl));intro gx hg w1 hbox hb;have H_:=Aside0.mk (Hs.push H.out (Nat.le_of_eq hg.symm) hbox hb);clear hbox hb hg H;have H:=H_;clear H_)
  | ((with_reducible refine gate_dst (N:=3) rfl ?_);(try (refine gate_guard (by rfl) ?_;dsimp only));refine box_event ?hg (N:=3) ?hd (cs:=#[.int .i64 D,.int .i64 C,.slice A2 lb.length cb]) (t:=27) ?hr ?_;(case hd=>rfl);(case hg=>rfl);(case hr=>first|(go_simp;done)|(go_simp;rfl));intro gy hg w2 hbox hb;have H_:=Aside0.mk (Hs.push H.out (Nat.le_of_eq hg.symm) hbox hb);clear hbox hb hg H;have H:=H_;clear H_)
  | ((with_reducible refine gate_dst (N:=4) rfl ?_);(try (refine gate_guard (by rfl) ?_;dsimp only));refine box_event ?hg (N:=4) ?hd (cs:=#[.int .i64 0,.int .i64 0,.int .i64 0,.slice none 0 0]) (t:=32) ?hr ?_;(case hd=>rfl);(case hg=>rfl);(case hr=>first|(go_simp;done)|(go_simp;rfl));intro gs hg w3 hbox hb;have H_:=Aside0.mk (Hs.push H.out (Nat.le_of_eq hg.symm) hbox hb);clear hbox hb hg H;have H:=H_;clear H_)
  | ((with_reducible refine gate_dst (N:=13) rfl ?_);(try (refine gate_guard (by rfl) ?_;dsimp only));have hc0_:=H.out.cellv (v:=.int .i64 R) 2 rfl 0 rfl;have hc1_:=H.out.cellv (v:=.int .i64 D) 2 rfl 1 rfl;have hc2_:=H.out.cellv (v:=.slice A la.length ca) 2 rfl 2 rfl;refine load_at (.agg #[.int .i64 R,.int .i64 D,.slice A la.length ca]) ?hg ?hr ?_;(case hg=>rfl);(case hr=>first|(go_simp;done)|(go_simp;rfl));clear hc0_ hc1_ hc2_)
  | ((with_reducible refine gate_callee (f:=61) rfl ?_);(try (refine gate_guard (by rfl) ?_;dsimp only));refine goesL_ (some 14) rfl rfl Try.func61 (by kernel_rfl) rfl #[.agg #[.int .i64 R,.int .i64 D,.slice A la.length ca]] rfl (by (try simp only [List.map_toArray,List.map_cons,List.map_nil]);first|done|rfl) ?_;(with_reducible refine (impl_MatrixFault.calls k R D A ca la t1 _ (Kd.C_below hc1.out (H.out.below)) hcc1 ht1.out).mono ?_);rintro e w4 ⟨rfl,hb⟩;refine ⟨_,rfl,?_⟩;have H_:=Aside0.mk (show Hs w w4 [(gs,.cells #[.int .i64 0,.int .i64 0,.int .i64 0,.slice none 0 0] 32 (0,0)),(gy,.cells #[.int .i64 D,.int .i64 C,.slice A2 lb.length cb] 27 (0,0)),(gx,.cells #[.int .i64 R,.int .i64 D,.slice A la.length ca] 27 (0,0))] from H.out.call hb);clear hb H;have H:=H_;clear H_)
  | ((with_reducible refine gate_dst (N:=17) rfl ?_);(try (refine gate_guard (by rfl) ?_;dsimp only));have hc0_:=H.out.cellv (v:=.int .i64 D) 1 rfl 0 rfl;have hc1_:=H.out.cellv (v:=.int .i64 C) 1 rfl 1 rfl;have hc2_:=H.out.cellv (v:=.slice A2 lb.length cb) 1 rfl 2 rfl;refine load_at (.agg #[.int .i64 D,.int .i64 C,.slice A2 lb.length cb]) ?hg ?hr ?_;(case hg=>rfl);(case hr=>first|(go_simp;done)|(go_simp;rfl));clear hc0_ hc1_ hc2_)
  | ((with_reducible refine gate_callee (f:=61) rfl ?_);(try (refine gate_guard (by rfl) ?_;dsimp only));refine goesL_ (some 18) rfl rfl Try.func61 (by kernel_rfl) rfl #[.agg #[.int .i64 D,.int .i64 C,.slice A2 lb.length cb]] rfl (by (try simp only [List.map_toArray,List.map_cons,List.map_nil]);first|done|rfl) ?_;(with_reducible refine (impl_MatrixFault.calls k D C A2 cb lb t2 _ (Kd.C_below hc2.out (H.out.below)) hcc2 ht2.out).mono ?_);rintro e w5 ⟨rfl,hb⟩;refine ⟨_,rfl,?_⟩;have H_:=Aside0.mk (show Hs w w5 [(gs,.cells #[.int .i64 0,.int .i64 0,.int .i64 0,.slice none 0 0] 32 (0,0)),(gy,.cells #[.int .i64 D,.int .i64 C,.slice A2 lb.length cb] 27 (0,0)),(gx,.cells #[.int .i64 R,.int .i64 D,.slice A la.length ca] 27 (0,0))] from H.out.call hb);clear hb H;have H:=H_;clear H_)
  | ((with_reducible refine gate_dst (N:=23) rfl ?_);(try (refine gate_guard (by rfl) ?_;dsimp only));have hc_:=H.out.cellv (v:=.int .i64 D) 2 rfl 1 rfl;refine load_at (.int .i64 D) ?hg ?hr ?_;(case hg=>rfl);(case hr=>first|(go_simp;done)|(go_simp;rfl));clear hc_)
  | ((with_reducible refine gate_dst (N:=25) rfl ?_);(try (refine gate_guard (by rfl) ?_;dsimp only));have hc_:=H.out.cellv (v:=.int .i64 D) 1 rfl 0 rfl;refine load_at (.int .i64 D) ?hg ?hr ?_;(case hg=>rfl);(case hr=>first|(go_simp;done)|(go_simp;rfl));clear hc_)
  | ((with_reducible refine gate_callee (f:=63) rfl ?_);(try (refine gate_guard (by rfl) ?_;dsimp only));refine goesL_ (some 29) rfl rfl Try.func63 (by kernel_rfl) rfl #[] rfl (by (try simp only [List.map_toArray,List.map_cons,List.map_nil]);first|done|rfl) ?_;(with_reducible refine (make_calls w _ _ H.out).mono ?_);rintro e wA ⟨gt,rfl,hH⟩;refine ⟨_,rfl,?_⟩;have H_:=Aside0.mk (hH);clear hH H;have H:=H_;clear H_))
 have hq0 : wA.cell? ⟨gx,0,none⟩ = some (.int .i64 R):=H.out.cellv 3 rfl 0 rfl
 have hq1 : wA.cell? ⟨gx,1,none⟩ = some (.int .i64 D):=H.out.cellv 3 rfl 1 rfl
 have hq2 : wA.cell? ⟨gx,2,none⟩ = some (.slice A la.length ca):=H.out.cellv 3 rfl 2 rfl
 have hq3 : wA.cell? ⟨gy,0,none⟩ = some (.int .i64 D):=H.out.cellv 2 rfl 0 rfl
 have hq4 : wA.cell? ⟨gy,1,none⟩ = some (.int .i64 C):=H.out.cellv 2 rfl 1 rfl
 have hq5 : wA.cell? ⟨gy,2,none⟩ = some (.slice A2 lb.length cb):=H.out.cellv 2 rfl 2 rfl
 refine start_ (n:=8) (S:=fun w'=>w'.cell? ⟨gx,0,none⟩ = some (.int .i64 R) ∧ w'.cell? ⟨gx,1,none⟩ = some (.int .i64 D) ∧ w'.cell? ⟨gx,2,none⟩ = some (.slice A la.length ca) ∧ w'.cell? ⟨gy,0,none⟩ = some (.int .i64 D) ∧ w'.cell? ⟨gy,1,none⟩ = some (.int .i64 C) ∧ w'.cell? ⟨gy,2,none⟩ = some (.slice A2 lb.length cb)) (ds:=[]) #[false,false,false,false,false,false,false,false] (by kernel_rfl) rfl rfl ⟨hq0,hq1,hq2,hq3,hq4,hq5⟩ (fun hHeld=>?_)
 have H_:=Aside0.mk H.out.drew
 clear H hq0 hq1 hq2 hq3 hq4 hq5
 have H:=H_
 clear H_
 generalize wA.drew = wd at H hHeld ⊢
 refine pure_ (i:=0) (N:=some 30) (v:=?_) (a':=?_) #[true,false,false,false,false,false,false,false] rfl rfl (by kernel_rfl) (fun _ _ _ h=>h) (Or.inl ⟨by rfl,?_⟩) ?_ ?_
 rotate_left
 ·intro w'
  go_simp
  with_reducible rfl
 rotate_left
 ·simp only [Act.put,List.setIfInBounds_toArray,List.set_cons_zero,List.set_cons_succ,i64_w,i32_w]
  rfl
 refine pure_ (i:=3) (N:=some 33) (v:=?_) (a':=?_) #[true,false,false,true,false,false,false,false] rfl rfl (by kernel_rfl) (fun _ _ _ h=>h) (Or.inl ⟨by rfl,?_⟩) ?_ ?_
 rotate_left
 ·intro w'
  go_simp
  with_reducible rfl
 rotate_left
 ·simp only [Act.put,List.setIfInBounds_toArray,List.set_cons_zero,List.set_cons_succ,i64_w,i32_w]
  rfl
 refine take_ (i:=1) (N:=some 31) (v:=?_) (a':=?_) #[true,true,false,true,false,false,false,false] rfl rfl (by kernel_rfl) (fun _ _ _ h=>h) (Or.inl ⟨by rfl,?_⟩) hHeld ?_ ?_
 rotate_left
 ·rintro w' ⟨s0,s1,s2,s3,s4,s5⟩
  go_simp
  with_reducible rfl
 rotate_left
 ·simp only [Act.put,List.setIfInBounds_toArray,List.set_cons_zero,List.set_cons_succ,i64_w,i32_w]
  rfl
 refine take_ (i:=4) (N:=some 34) (v:=?_) (a':=?_) #[true,true,false,true,true,false,false,false] rfl rfl (by kernel_rfl) (fun _ _ _ h=>h) (Or.inl ⟨by rfl,?_⟩) hHeld ?_ ?_
 rotate_left
 ·rintro w' ⟨s0,s1,s2,s3,s4,s5⟩
  go_simp
  with_reducible rfl
 rotate_left
 ·simp only [Act.put,List.setIfInBounds_toArray,List.set_cons_zero,List.set_cons_succ,i64_w,i32_w]
  rfl
 refine one_ (i:=2) (N:=some 32) #[true,true,true,true,true,false,false,false] rfl rfl (by kernel_rfl) (by decide) (fun K hK=>?_)
 refine goes_ Try.func62 (by kernel_rfl) rfl #[.pointer (some ⟨gt,0,none⟩),.agg #[.int .i64 R,.int .i64 D,.slice A la.length ca]] (by rfl) rfl rfl (by first|(simp only [List.map_toArray,List.map_cons,List.map_nil];done)|(simp only [List.map_toArray,List.map_cons,List.map_nil];rfl)) ?_
 with_reducible refine (gridOf_calls gt R D la.length ca A la w _ _ H.out r1 r2 k1 k2 rfl hl1.out hc1.out hb1.out).mono ?_
 rintro e w3 ⟨g,B,rfl,hG,hH⟩
 refine ⟨_,rfl,?_⟩
 have hG1:=Aside0.mk hG
 have H_:=Aside0.mk hH
 clear hH hG H
 have H:=H_
 clear H_
 refine hK.out _ _ ⟨(H.out.left.cellv 3 rfl 0 rfl),(H.out.left.cellv 3 rfl 1 rfl),(H.out.left.cellv 3 rfl 2 rfl),(H.out.left.cellv 2 rfl 0 rfl),(H.out.left.cellv 2 rfl 1 rfl),(H.out.left.cellv 2 rfl 2 rfl)⟩ (fun hHeld=>?_)
 clear hK K
 refine norm_ (a':=?_) ?_ ?_
 rotate_left
 ·show Act.put _ (some 32) _ = _
  simp only [Act.put,List.setIfInBounds_toArray,List.set_cons_zero,List.set_cons_succ,i64_w,i32_w]
  rfl
 refine one_ (i:=5) (N:=some 35) #[true,true,true,true,true,true,false,false] rfl rfl (by kernel_rfl) (by decide) (fun K hK=>?_)
 refine goes_ Try.func62 (by kernel_rfl) rfl #[.pointer (some ⟨gt,0,none⟩),.agg #[.int .i64 D,.int .i64 C,.slice A2 lb.length cb]] (by rfl) rfl rfl (by first|(simp only [List.map_toArray,List.map_cons,List.map_nil];done)|(simp only [List.map_toArray,List.map_cons,List.map_nil];rfl)) ?_
 with_reducible refine (gridOf_calls gt D C lb.length cb A2 lb w _ _ H.out k1 k2 c1 c2 rfl hl2.out hc2.out hb2.out).mono ?_
 rintro e w3 ⟨g2,B2,rfl,hG,hH⟩
 refine ⟨_,rfl,?_⟩
 have hG2:=Aside0.mk hG
 have H_:=Aside0.mk hH
 clear hH hG H
 have H:=H_
 clear H_
 refine hK.out _ _ ⟨(H.out.left.left.cellv 3 rfl 0 rfl),(H.out.left.left.cellv 3 rfl 1 rfl),(H.out.left.left.cellv 3 rfl 2 rfl),(H.out.left.left.cellv 2 rfl 0 rfl),(H.out.left.left.cellv 2 rfl 1 rfl),(H.out.left.left.cellv 2 rfl 2 rfl)⟩ (fun hHeld=>?_)
 clear hK K
 refine norm_ (a':=?_) ?_ ?_
 rotate_left
 ·show Act.put _ (some 35) _ = _
  simp only [Act.put,List.setIfInBounds_toArray,List.set_cons_zero,List.set_cons_succ,i64_w,i32_w]
  rfl
 refine pure_ (i:=6) (N:=some 6) (v:=?_) (a':=?_) #[true,true,true,true,true,true,true,false] rfl rfl (by kernel_rfl) (fun _ _ _ h=>h) (Or.inl ⟨by rfl,?_⟩) ?_ ?_
 rotate_left
 ·intro w'
  go_simp
  with_reducible rfl
 rotate_left
 ·simp only [Act.put,List.setIfInBounds_toArray,List.set_cons_zero,List.set_cons_succ,i64_w,i32_w]
  rfl
 refine pure_ (i:=7) (N:=some 7) (v:=?_) (a':=?_) #[true,true,true,true,true,true,true,true] rfl rfl (by kernel_rfl) (fun _ _ _ h=>h) (Or.inl ⟨by rfl,?_⟩) ?_ ?_
 rotate_left
 ·intro w'
  go_simp
  with_reducible rfl
 rotate_left
 ·simp only [Act.put,List.setIfInBounds_toArray,List.set_cons_zero,List.set_cons_succ,i64_w,i32_w]
  rfl
 refine done_ (by kernel_rfl) ?_
 have hm1 : w3.cell? ⟨gx,0,none⟩ = some (.int .i64 R):=H.out.left.left.cellv 3 rfl 0 rfl
 have hm2 : w3.cell? ⟨gy,1,none⟩ = some (.int .i64 C):=H.out.left.left.cellv 2 rfl 1 rfl
 rw [← hMe.out] at hG1
 rw [← hNe.out] at hG2
 go_wp2_with (first|((with_reducible refine gate_callee (f:=70) rfl ?_);(try (refine gate_guard (by rfl) ?_;dsimp only));refine goesL_ (some 41) rfl rfl Try.func70 (by kernel_rfl) rfl #[.pointer (some ⟨gt,0,none⟩),.int .i64 R,.int .i64 C] rfl (by (try simp only [List.map_toArray,List.map_cons,List.map_nil]);first|done|rfl) ?_;(with_reducible refine (newGrid_calls gt R C w _ _ H.out r1 r2 c1 c2).mono ?_);rintro e wC ⟨h,Bo,rfl,hGo,hH⟩;refine ⟨_,rfl,?_⟩;have hG3:=Aside0.mk hGo;clear hGo hm1 hm2;have H_:=Aside0.mk (hH);clear hH H;have H:=H_;clear H_;obtain ⟨gr,ga,cR,rc,dc,off,cap,rfl,hRc1,hsz1,hmx1,hrc0,hdc0,hap1⟩:=hG1.out;obtain ⟨gr2,ga2,cR2,rc2,dc2,off2,cap2,rfl,hRc2,hsz2,hmx2,hrc20,hdc20,hap2⟩:=hG2.out;obtain ⟨hr_,ha_,cH,rh,dh,offh,caph,rfl,hRh,hsz3,hmx3,hrh0,hdh0,hap0⟩:=hG3.out;have hg0 : wC.cell? ⟨g,0,none⟩ = some (.slice (some ⟨gr,0,none⟩) R cR):=H.out.cellv 6 rfl 0 rfl))
 have hrh:=Aside0.mk hrh0
 have hap:=Aside0.mk hap0
 have hdh:=Aside0.mk hdh0
 have hrc:=Aside0.mk hrc0
 have hdc:=Aside0.mk hdc0
 have hrc2:=Aside0.mk hrc20
 have hdc2:=Aside0.mk hdc20
 have hs3:=Aside0.mk hsz3
 have hm3:=Aside0.mk hmx3
 clear hrh0 hap0 hdh0 hrc0 hdc0 hrc20 hdc20 hsz1 hmx1 hsz2 hmx2 hsz3 hmx3 hap1 hap2 hg0 hG1 hG2 hG3 hRc1 hRc2
 go_loopw [47] (fun v47 wr=>∃ (i : Nat) (dk : Array Value),i ≤ R ∧ v47 = .int .i64 i ∧ Aside0 (∀ a b,a < R → b < C → dk[offh a + b]? = some (.int .u8 (outK M N D i 0 0 a b))) ∧ Aside0 (Hs w wr ((h,.cells #[.slice (some ⟨hr_,0,none⟩) R cH,.pointer (some ⟨gt,0,none⟩)] 111 (0,0)) :: (hr_,.cells rh 37 (0,0)) :: (ha_,.cells dk 5 (0,0)) :: (g2,.cells #[.slice (some ⟨gr2,0,none⟩) D cR2,.pointer (some ⟨gt,0,none⟩)] 111 (0,0)) :: (gr2,.cells rc2 37 (0,0)) :: (ga2,.cells dc2 5 (0,0)) :: (g,.cells #[.slice (some ⟨gr,0,none⟩) R cR,.pointer (some ⟨gt,0,none⟩)] 111 (0,0)) :: (gr,.cells rc 37 (0,0)) :: (ga,.cells dc 5 (0,0)) :: (gt,.cells (tabN 255) 162 (0,0)) :: (gs,.cells #[.int .i64 0,.int .i64 0,.int .i64 0,.slice none 0 0] 32 (0,0)) :: (gy,.cells #[.int .i64 D,.int .i64 C,.slice A2 lb.length cb] 27 (0,0)) :: (gx,.cells #[.int .i64 R,.int .i64 D,.slice A la.length ca] 27 (0,0)) :: []))) (fun i _=>R - (intOf i).toNat)
 case atStart=>exact ⟨0,dh,by omega,rfl,Aside0.mk (fun a b ha hb=>by rw [hdh.out a b ha hb,outK_zero]),H⟩
 case round=>
  clear H hdh
  obtain ⟨i,dk,hi0,rfl,hdk,H⟩:=hrel
  by_cases hi1 : i < R
  ·have hi:=Aside0.mk hi1
   have hg2 : wr.cell? ⟨g2,0,none⟩ = some (.slice (some ⟨gr2,0,none⟩) D cR2):=H.out.cellv 3 rfl 0 rfl
   have l1 : decide ((i : Int) < (R : Int)) = true:=decide_eq_true (by omega)
   go_wp2_with fail
   clear hg2 l1
   go_loopw [55] (fun v55 wr=>∃ (j : Nat) (dk : Array Value),j ≤ D ∧ v55 = .int .i64 j ∧ Aside0 (∀ a b,a < R → b < C → dk[offh a + b]? = some (.int .u8 (outK M N D i j 0 a b))) ∧ Aside0 (Hs w wr ((h,.cells #[.slice (some ⟨hr_,0,none⟩) R cH,.pointer (some ⟨gt,0,none⟩)] 111 (0,0)) :: (hr_,.cells rh 37 (0,0)) :: (ha_,.cells dk 5 (0,0)) :: (g2,.cells #[.slice (some ⟨gr2,0,none⟩) D cR2,.pointer (some ⟨gt,0,none⟩)] 111 (0,0)) :: (gr2,.cells rc2 37 (0,0)) :: (ga2,.cells dc2 5 (0,0)) :: (g,.cells #[.slice (some ⟨gr,0,none⟩) R cR,.pointer (some ⟨gt,0,none⟩)] 111 (0,0)) :: (gr,.cells rc 37 (0,0)) :: (ga,.cells dc 5 (0,0)) :: (gt,.cells (tabN 255) 162 (0,0)) :: (gs,.cells #[.int .i64 0,.int .i64 0,.int .i64 0,.slice none 0 0] 32 (0,0)) :: (gy,.cells #[.int .i64 D,.int .i64 C,.slice A2 lb.length cb] 27 (0,0)) :: (gx,.cells #[.int .i64 R,.int .i64 D,.slice A la.length ca] 27 (0,0)) :: []))) (fun j _=>D - (intOf j).toNat)
   case atStart=>exact ⟨0,dk,by omega,rfl,hdk,H⟩
   case round=>
    clear H hdk
    obtain ⟨j,dk,hj0,rfl,hdk,H⟩:=hrel
    by_cases hj1 : j < D
    ·have hj:=Aside0.mk hj1
     have hg2 : wr.cell? ⟨g2,0,none⟩ = some (.slice (some ⟨gr2,0,none⟩) D cR2):=H.out.cellv 3 rfl 0 rfl
     have hg3 : wr.cell? ⟨gr2,j,none⟩ = some (.slice (some ⟨ga2,off2 j,none⟩) C (cap2 j)):=H.out.cellv 4 rfl j (hrc2.out j hj1).1
     have l1 : decide ((j : Int) < (D : Int)) = true:=decide_eq_true (by omega)
     have l2 : (j : Int) < (D : Int):=by omega
     have l3 : 0 ≤ (j : Int):=by omega
     go_wp2_with fail
     clear hg2 hg3 l1
     go_loopw [66] (fun v66 wr=>∃ (q : Nat) (dk : Array Value),q ≤ C ∧ v66 = .int .i64 q ∧ Aside0 (∀ a b,a < R → b < C → dk[offh a + b]? = some (.int .u8 (outK M N D i j q a b))) ∧ Aside0 (Hs w wr ((h,.cells #[.slice (some ⟨hr_,0,none⟩) R cH,.pointer (some ⟨gt,0,none⟩)] 111 (0,0)) :: (hr_,.cells rh 37 (0,0)) :: (ha_,.cells dk 5 (0,0)) :: (g2,.cells #[.slice (some ⟨gr2,0,none⟩) D cR2,.pointer (some ⟨gt,0,none⟩)] 111 (0,0)) :: (gr2,.cells rc2 37 (0,0)) :: (ga2,.cells dc2 5 (0,0)) :: (g,.cells #[.slice (some ⟨gr,0,none⟩) R cR,.pointer (some ⟨gt,0,none⟩)] 111 (0,0)) :: (gr,.cells rc 37 (0,0)) :: (ga,.cells dc 5 (0,0)) :: (gt,.cells (tabN 255) 162 (0,0)) :: (gs,.cells #[.int .i64 0,.int .i64 0,.int .i64 0,.slice none 0 0] 32 (0,0)) :: (gy,.cells #[.int .i64 D,.int .i64 C,.slice A2 lb.length cb] 27 (0,0)) :: (gx,.cells #[.int .i64 R,.int .i64 D,.slice A la.length ca] 27 (0,0)) :: []))) (fun q _=>C - (intOf q).toNat)
     case atStart=>exact ⟨0,dk,by omega,rfl,hdk,H⟩
     case round=>
      clear H hdk
      obtain ⟨q,dk,hq0,rfl,hdk,H⟩:=hrel
      by_cases hq1 : q < C
      ·have hnow:=Aside0.mk (show dk[offh i + q]? = some (.int .u8 (psum M N i q j)) by rw [hdk.out i q hi.out hq1,outK_now])
       have hg4 : wr.cell? ⟨ga2,off2 j + q,none⟩ = some (.int .u8 (N j q)):=H.out.cellv 5 rfl (off2 j + q) (hdc2.out j q hj.out hq1)
       have l1 : decide ((q : Int) < (C : Int)) = true:=decide_eq_true (by omega)
       have l4 : (q : Int) < (C : Int):=by omega
       have l5 : 0 ≤ (q : Int):=by omega
       have l6 : (i : Int) < (R : Int):=by have:=hi.out;omega
       have l7 : 0 ≤ (i : Int):=by omega
       have hd0 : wr.cell? ⟨h,0,none⟩ = some (.slice (some ⟨hr_,0,none⟩) R cH):=H.out.cellv 0 rfl 0 rfl
       have hd1 : wr.cell? ⟨hr_,i,none⟩ = some (.slice (some ⟨ha_,offh i,none⟩) C (caph i)):=H.out.cellv 1 rfl i (hrh.out i hi.out).1
       have hd2 : wr.cell? ⟨ha_,offh i + q,none⟩ = some (.int .u8 (psum M N i q j)):=H.out.cellv 2 rfl (offh i + q) hnow.out
       have hd3 : wr.cell? ⟨g,0,none⟩ = some (.slice (some ⟨gr,0,none⟩) R cR):=H.out.cellv 6 rfl 0 rfl
       have hd4 : wr.cell? ⟨gr,i,none⟩ = some (.slice (some ⟨ga,off i,none⟩) D (cap i)):=H.out.cellv 7 rfl i (hrc.out i hi.out).1
       have hd5 : wr.cell? ⟨ga,off i + j,none⟩ = some (.int .u8 (M i j)):=H.out.cellv 8 rfl (off i + j) (hdc.out i j hi.out hj.out)
       go_wp2_with fail
       refine start_ (n:=26) (S:=fun w'=>w'.cell? ⟨h,0,none⟩ = some (.slice (some ⟨hr_,0,none⟩) R cH) ∧ w'.cell? ⟨hr_,i,none⟩ = some (.slice (some ⟨ha_,offh i,none⟩) C (caph i)) ∧ w'.cell? ⟨ha_,offh i + q,none⟩ = some (.int .u8 (psum M N i q j)) ∧ w'.cell? ⟨g,0,none⟩ = some (.slice (some ⟨gr,0,none⟩) R cR) ∧ w'.cell? ⟨gr,i,none⟩ = some (.slice (some ⟨ga,off i,none⟩) D (cap i)) ∧ w'.cell? ⟨ga,off i + j,none⟩ = some (.int .u8 (M i j))) (ds:=[25]) #[false,false,false,false,false,false,false,false,false,false,false,false,false,false,false,false,false,false,false,false,false,false,false,false,false,false] (by kernel_rfl) rfl rfl ⟨hd0,hd1,hd2,hd3,hd4,hd5⟩ (fun hHeld=>?_)
       have H_:=Aside0.mk H.out.drew
       clear H hd0 hd1 hd2 hd3 hd4 hd5
       have H:=H_
       clear H_
       generalize wr.drew = wd at H hHeld ⊢
       refine pure_ (i:=0) (N:=some 71) (v:=?_) (a':=?_) #[true,false,false,false,false,false,false,false,false,false,false,false,false,false,false,false,false,false,false,false,false,false,false,false,false,false] rfl rfl (by kernel_rfl) (fun _ _ _ h=>h) (Or.inl ⟨by rfl,?_⟩) ?_ ?_
       rotate_left
       ·intro w'
        go_simp
        with_reducible rfl
       rotate_left
       ·simp only [Act.put,List.setIfInBounds_toArray,List.set_cons_zero,List.set_cons_succ,i64_w,i32_w]
        rfl
       refine pure_ (i:=1) (N:=some 72) (v:=?_) (a':=?_) #[true,true,false,false,false,false,false,false,false,false,false,false,false,false,false,false,false,false,false,false,false,false,false,false,false,false] rfl rfl (by kernel_rfl) (fun _ _ _ h=>h) (Or.inl ⟨by rfl,?_⟩) ?_ ?_
       rotate_left
       ·intro w'
        go_simp
        with_reducible rfl
       rotate_left
       ·simp only [Act.put,List.setIfInBounds_toArray,List.set_cons_zero,List.set_cons_succ,i64_w,i32_w]
        rfl
       refine pure_ (i:=2) (N:=some 73) (v:=?_) (a':=?_) #[true,true,true,false,false,false,false,false,false,false,false,false,false,false,false,false,false,false,false,false,false,false,false,false,false,false] rfl rfl (by kernel_rfl) (fun _ _ _ h=>h) (Or.inl ⟨by rfl,?_⟩) ?_ ?_
       rotate_left
       ·intro w'
        go_simp
        with_reducible rfl
       rotate_left
       ·simp only [Act.put,List.setIfInBounds_toArray,List.set_cons_zero,List.set_cons_succ,i64_w,i32_w]
        rfl
       refine pure_ (i:=4) (N:=some 75) (v:=?_) (a':=?_) #[true,true,true,false,true,false,false,false,false,false,false,false,false,false,false,false,false,false,false,false,false,false,false,false,false,false] rfl rfl (by kernel_rfl) (fun _ _ _ h=>h) (Or.inl ⟨by rfl,?_⟩) ?_ ?_
       rotate_left
       ·intro w'
        go_simp
        with_reducible rfl
       rotate_left
       ·simp only [Act.put,List.setIfInBounds_toArray,List.set_cons_zero,List.set_cons_succ,i64_w,i32_w]
        rfl
       refine pure_ (i:=7) (N:=some 78) (v:=?_) (a':=?_) #[true,true,true,false,true,false,false,true,false,false,false,false,false,false,false,false,false,false,false,false,false,false,false,false,false,false] rfl rfl (by kernel_rfl) (fun _ _ _ h=>h) (Or.inl ⟨by rfl,?_⟩) ?_ ?_
       rotate_left
       ·intro w'
        go_simp
        with_reducible rfl
       rotate_left
       ·simp only [Act.put,List.setIfInBounds_toArray,List.set_cons_zero,List.set_cons_succ,i64_w,i32_w]
        rfl
       refine pure_ (i:=10) (N:=some 81) (v:=?_) (a':=?_) #[true,true,true,false,true,false,false,true,false,false,true,false,false,false,false,false,false,false,false,false,false,false,false,false,false,false] rfl rfl (by kernel_rfl) (fun _ _ _ h=>h) (Or.inl ⟨by rfl,?_⟩) ?_ ?_
       rotate_left
       ·intro w'
        go_simp
        with_reducible rfl
       rotate_left
       ·simp only [Act.put,List.setIfInBounds_toArray,List.set_cons_zero,List.set_cons_succ,i64_w,i32_w]
        rfl
       refine pure_ (i:=11) (N:=some 82) (v:=?_) (a':=?_) #[true,true,true,false,true,false,false,true,false,false,true,true,false,false,false,false,false,false,false,false,false,false,false,false,false,false] rfl rfl (by kernel_rfl) (fun _ _ _ h=>h) (Or.inl ⟨by rfl,?_⟩) ?_ ?_
       rotate_left
       ·intro w'
        go_simp
        with_reducible rfl
       rotate_left
       ·simp only [Act.put,List.setIfInBounds_toArray,List.set_cons_zero,List.set_cons_succ,i64_w,i32_w]
        rfl
       refine pure_ (i:=12) (N:=some 83) (v:=?_) (a':=?_) #[true,true,true,false,true,false,false,true,false,false,true,true,true,false,false,false,false,false,false,false,false,false,false,false,false,false] rfl rfl (by kernel_rfl) (fun _ _ _ h=>h) (Or.inl ⟨by rfl,?_⟩) ?_ ?_
       rotate_left
       ·intro w'
        go_simp
        with_reducible rfl
       rotate_left
       ·simp only [Act.put,List.setIfInBounds_toArray,List.set_cons_zero,List.set_cons_succ,i64_w,i32_w]
        rfl
       refine pure_ (i:=13) (N:=some 84) (v:=?_) (a':=?_) #[true,true,true,false,true,false,false,true,false,false,true,true,true,true,false,false,false,false,false,false,false,false,false,false,false,false] rfl rfl (by kernel_rfl) (fun _ _ _ h=>h) (Or.inl ⟨by rfl,?_⟩) ?_ ?_
       rotate_left
       ·intro w'
        go_simp
        with_reducible rfl
       rotate_left
       ·simp only [Act.put,List.setIfInBounds_toArray,List.set_cons_zero,List.set_cons_succ,i64_w,i32_w]
        rfl
       refine pure_ (i:=15) (N:=some 86) (v:=?_) (a':=?_) #[true,true,true,false,true,false,false,true,false,false,true,true,true,true,false,true,false,false,false,false,false,false,false,false,false,false] rfl rfl (by kernel_rfl) (fun _ _ _ h=>h) (Or.inl ⟨by rfl,?_⟩) ?_ ?_
       rotate_left
       ·intro w'
        go_simp
        with_reducible rfl
       rotate_left
       ·simp only [Act.put,List.setIfInBounds_toArray,List.set_cons_zero,List.set_cons_succ,i64_w,i32_w]
        rfl
       refine pure_ (i:=18) (N:=some 89) (v:=?_) (a':=?_) #[true,true,true,false,true,false,false,true,false,false,true,true,true,true,false,true,false,false,true,false,false,false,false,false,false,false] rfl rfl (by kernel_rfl) (fun _ _ _ h=>h) (Or.inl ⟨by rfl,?_⟩) ?_ ?_
       rotate_left
       ·intro w'
        go_simp
        with_reducible rfl
       rotate_left
       ·simp only [Act.put,List.setIfInBounds_toArray,List.set_cons_zero,List.set_cons_succ,i64_w,i32_w]
        rfl
       refine pure_ (i:=21) (N:=some 92) (v:=?_) (a':=?_) #[true,true,true,false,true,false,false,true,false,false,true,true,true,true,false,true,false,false,true,false,false,true,false,false,false,false] rfl rfl (by kernel_rfl) (fun _ _ _ h=>h) (Or.inl ⟨by rfl,?_⟩) ?_ ?_
       rotate_left
       ·intro w'
        go_simp
        with_reducible rfl
       rotate_left
       ·simp only [Act.put,List.setIfInBounds_toArray,List.set_cons_zero,List.set_cons_succ,i64_w,i32_w]
        rfl
       refine take_ (i:=3) (N:=some 74) (v:=?_) (a':=?_) #[true,true,true,true,true,false,false,true,false,false,true,true,true,true,false,true,false,false,true,false,false,true,false,false,false,false] rfl rfl (by kernel_rfl) (fun _ _ _ h=>h) (Or.inl ⟨by rfl,?_⟩) hHeld ?_ ?_
       rotate_left
       ·rintro w' ⟨s0,s1,s2,s3,s4,s5⟩
        go_simp
        with_reducible rfl
       rotate_left
       ·simp only [Act.put,List.setIfInBounds_toArray,List.set_cons_zero,List.set_cons_succ,i64_w,i32_w]
        rfl
       refine pure_ (i:=5) (N:=some 76) (v:=?_) (a':=?_) #[true,true,true,true,true,true,false,true,false,false,true,true,true,true,false,true,false,false,true,false,false,true,false,false,false,false] rfl rfl (by kernel_rfl) (fun _ _ _ h=>h) (Or.inl ⟨by rfl,?_⟩) ?_ ?_
       rotate_left
       ·intro w'
        go_simp
        with_reducible rfl
       rotate_left
       ·simp only [Act.put,List.setIfInBounds_toArray,List.set_cons_zero,List.set_cons_succ,i64_w,i32_w]
        rfl
       refine take_ (i:=6) (N:=some 77) (v:=?_) (a':=?_) #[true,true,true,true,true,true,true,true,false,false,true,true,true,true,false,true,false,false,true,false,false,true,false,false,false,false] rfl rfl (by kernel_rfl) (fun _ _ _ h=>h) (Or.inl ⟨by rfl,?_⟩) hHeld ?_ ?_
       rotate_left
       ·rintro w' ⟨s0,s1,s2,s3,s4,s5⟩
        go_simp
        with_reducible rfl
       rotate_left
       ·simp only [Act.put,List.setIfInBounds_toArray,List.set_cons_zero,List.set_cons_succ,i64_w,i32_w]
        rfl
       refine pure_ (i:=8) (N:=some 79) (v:=?_) (a':=?_) #[true,true,true,true,true,true,true,true,true,false,true,true,true,true,false,true,false,false,true,false,false,true,false,false,false,false] rfl rfl (by kernel_rfl) (fun _ _ _ h=>h) (Or.inl ⟨by rfl,?_⟩) ?_ ?_
       rotate_left
       ·intro w'
        go_simp
        with_reducible rfl
       rotate_left
       ·simp only [Act.put,List.setIfInBounds_toArray,List.set_cons_zero,List.set_cons_succ,i64_w,i32_w]
        rfl
       refine take_ (i:=9) (N:=some 80) (v:=?_) (a':=?_) #[true,true,true,true,true,true,true,true,true,true,true,true,true,true,false,true,false,false,true,false,false,true,false,false,false,false] rfl rfl (by kernel_rfl) (fun _ _ _ h=>h) (Or.inl ⟨by rfl,?_⟩) hHeld ?_ ?_
       rotate_left
       ·rintro w' ⟨s0,s1,s2,s3,s4,s5⟩
        go_simp
        with_reducible rfl
       rotate_left
       ·simp only [Act.put,List.setIfInBounds_toArray,List.set_cons_zero,List.set_cons_succ,i64_w,i32_w]
        rfl
       refine take_ (i:=14) (N:=some 85) (v:=?_) (a':=?_) #[true,true,true,true,true,true,true,true,true,true,true,true,true,true,true,true,false,false,true,false,false,true,false,false,false,false] rfl rfl (by kernel_rfl) (fun _ _ _ h=>h) (Or.inl ⟨by rfl,?_⟩) hHeld ?_ ?_
       rotate_left
       ·rintro w' ⟨s0,s1,s2,s3,s4,s5⟩
        go_simp
        with_reducible rfl
       rotate_left
       ·simp only [Act.put,List.setIfInBounds_toArray,List.set_cons_zero,List.set_cons_succ,i64_w,i32_w]
        rfl
       refine pure_ (i:=16) (N:=some 87) (v:=?_) (a':=?_) #[true,true,true,true,true,true,true,true,true,true,true,true,true,true,true,true,true,false,true,false,false,true,false,false,false,false] rfl rfl (by kernel_rfl) (fun _ _ _ h=>h) (Or.inl ⟨by rfl,?_⟩) ?_ ?_
       rotate_left
       ·intro w'
        go_simp
        with_reducible rfl
       rotate_left
       ·simp only [Act.put,List.setIfInBounds_toArray,List.set_cons_zero,List.set_cons_succ,i64_w,i32_w]
        rfl
       refine take_ (i:=17) (N:=some 88) (v:=?_) (a':=?_) #[true,true,true,true,true,true,true,true,true,true,true,true,true,true,true,true,true,true,true,false,false,true,false,false,false,false] rfl rfl (by kernel_rfl) (fun _ _ _ h=>h) (Or.inl ⟨by rfl,?_⟩) hHeld ?_ ?_
       rotate_left
       ·rintro w' ⟨s0,s1,s2,s3,s4,s5⟩
        go_simp
        with_reducible rfl
       rotate_left
       ·simp only [Act.put,List.setIfInBounds_toArray,List.set_cons_zero,List.set_cons_succ,i64_w,i32_w]
        rfl
       refine pure_ (i:=19) (N:=some 90) (v:=?_) (a':=?_) #[true,true,true,true,true,true,true,true,true,true,true,true,true,true,true,true,true,true,true,true,false,true,false,false,false,false] rfl rfl (by kernel_rfl) (fun _ _ _ h=>h) (Or.inl ⟨by rfl,?_⟩) ?_ ?_
       rotate_left
       ·intro w'
        go_simp
        with_reducible rfl
       rotate_left
       ·simp only [Act.put,List.setIfInBounds_toArray,List.set_cons_zero,List.set_cons_succ,i64_w,i32_w]
        rfl
       refine take_ (i:=20) (N:=some 91) (v:=?_) (a':=?_) #[true,true,true,true,true,true,true,true,true,true,true,true,true,true,true,true,true,true,true,true,true,true,false,false,false,false] rfl rfl (by kernel_rfl) (fun _ _ _ h=>h) (Or.inl ⟨by rfl,?_⟩) hHeld ?_ ?_
       rotate_left
       ·rintro w' ⟨s0,s1,s2,s3,s4,s5⟩
        go_simp
        with_reducible rfl
       rotate_left
       ·simp only [Act.put,List.setIfInBounds_toArray,List.set_cons_zero,List.set_cons_succ,i64_w,i32_w]
        rfl
       refine one_ (i:=22) (N:=some 93) #[true,true,true,true,true,true,true,true,true,true,true,true,true,true,true,true,true,true,true,true,true,true,true,false,false,false] rfl rfl (by kernel_rfl) (by decide) (fun K hK=>?_)
       refine goes_ Try.func80 (by kernel_rfl) rfl #[.pointer (some ⟨gt,0,none⟩),.int .u8 (M i j),.int .u8 (N j q)] (by rfl) rfl rfl (by simp only [List.map_toArray,List.map_cons,List.map_nil];rfl) ?_
       with_reducible refine (mul_calls gt (M i j) (N j q) _ (H.out.get 9 rfl) (hM.out i j).1 (hM.out i j).2 (hN.out j q).1 (hN.out j q).2).mono ?_
       rintro e wm ⟨rfl,hd⟩
       refine ⟨_,rfl,?_⟩
       have H1:=Aside0.mk (H.out.draw hd)
       clear hd
       have hx1 : wm.cell? ⟨ha_,offh i + q,none⟩ = some (.int .u8 (psum M N i q j)):=H1.out.cellv 2 rfl (offh i + q) hnow.out
       have hx2:=H1.out.frozen 2 rfl (offh i + q)
       refine hK.out _ _ ⟨(H1.out.cellv 0 rfl 0 rfl),(H1.out.cellv 1 rfl i (hrh.out i hi.out).1),(H1.out.cellv 2 rfl (offh i + q) hnow.out),(H1.out.cellv 6 rfl 0 rfl),(H1.out.cellv 7 rfl i (hrc.out i hi.out).1),(H1.out.cellv 8 rfl (off i + j) (hdc.out i j hi.out hj.out))⟩ (fun hHeld=>?_)
       clear hK K
       refine norm_ (a':=?_) ?_ ?_
       rotate_left
       ·show Act.put _ (some 93) _ = _
        simp only [Act.put,List.setIfInBounds_toArray,List.set_cons_zero,List.set_cons_succ,i64_w,i32_w]
        rfl
       refine pure_ (i:=23) (N:=some 94) (v:=?_) (a':=?_) #[true,true,true,true,true,true,true,true,true,true,true,true,true,true,true,true,true,true,true,true,true,true,true,true,false,false] rfl rfl (by kernel_rfl) (fun _ _ _ h=>h) (Or.inl ⟨by rfl,?_⟩) ?_ ?_
       rotate_left
       ·intro w'
        go_simp
        with_reducible rfl
       rotate_left
       ·simp only [Act.put,List.setIfInBounds_toArray,List.set_cons_zero,List.set_cons_succ,i64_w,i32_w]
        rfl
       refine pure_ (i:=24) (N:=some 95) (v:=?_) (a':=?_) #[true,true,true,true,true,true,true,true,true,true,true,true,true,true,true,true,true,true,true,true,true,true,true,true,true,false] rfl rfl (by kernel_rfl) (fun _ _ _ h=>h) (Or.inl ⟨by rfl,?_⟩) ?_ ?_
       rotate_left
       ·intro w'
        go_simp
        with_reducible rfl
       rotate_left
       ·simp only [Act.put,List.setIfInBounds_toArray,List.set_cons_zero,List.set_cons_succ,i64_w,i32_w]
        rfl
       refine last_ (i:=25) (N:=none) #[true,true,true,true,true,true,true,true,true,true,true,true,true,true,true,true,true,true,true,true,true,true,true,true,true,true] rfl rfl (by kernel_rfl) (by decide) (fun K hK=>?_)
       refine skip_ (w1:=?_) (by rfl) rfl ?_ ?_
       rotate_left
       ·go_simp
        rfl
       refine hK.out _ _ ?_
       clear hK K
       refine done_ (by kernel_rfl) ?_
       go_wp2
       go_roundw
       case rel=>exact ⟨q + 1,dk.setIfInBounds (offh i + q) (.int .u8 (psum M N i q (j + 1))),by omega,by go_num,Aside0.mk (set_grid (N:=outK M N D i j q) (N':=outK M N D i j (q + 1)) hdk.out hap.out hi.out hq1 (outK_hit M N D i j q) (fun a b h=>outK_miss M N D i j q a b h)),Aside0.mk (H1.out.set 2 rfl _ _)⟩
       case measure=>simp [intOf];omega
      ·obtain rfl : q = C:=by omega
       have l1 : decide ((q : Int) < (q : Int)) = false:=decide_eq_false (by omega)
       go_wp2_with fail
       go_roundw
       case rel=>exact ⟨j + 1,dk,by omega,by go_num,Aside0.mk (fun a b ha hb=>by rw [hdk.out a b ha hb,outK_row M N D q i j a b hb]),H⟩
       case measure=>simp [intOf];omega
    ·obtain rfl : j = D:=by omega
     have l1 : decide ((j : Int) < (j : Int)) = false:=decide_eq_false (by omega)
     go_wp2_with fail
     go_roundw
     case rel=>exact ⟨i + 1,dk,by omega,by go_num,Aside0.mk (fun a b ha hb=>by rw [hdk.out a b ha hb,outK_next]),H⟩
     case measure=>simp [intOf];omega
  ·obtain rfl : i = R:=by omega
   have l1 : decide ((i : Int) < (i : Int)) = false:=decide_eq_false (by omega)
   have hGf:=Aside0.mk (show GridB gt h i C (fun a b=>psum M N a b D) [(h,.cells #[.slice (some ⟨hr_,0,none⟩) i cH,.pointer (some ⟨gt,0,none⟩)] 111 (0,0)),(hr_,.cells rh 37 (0,0)),(ha_,.cells dk 5 (0,0))] from
    ⟨hr_,ha_,cH,rh,dk,offh,caph,rfl,hRh,hs3.out,hm3.out,hrh.out,fun a b ha hb=>by rw [hdk.out a b ha hb,outK_all M N D i a b ha],hap.out⟩)
   have hbf:=Aside0.mk (show Bytes2 (fun a b=>psum M N a b D) from fun a b=>psum_byte M N a b D)
   clear hdk
   go_wp2_with (first
    | ((with_reducible refine gate_callee (f:=71) rfl ?_);(try (refine gate_guard (by rfl) ?_;dsimp only));refine goesL_ (some 100) rfl rfl Try.func71 (by kernel_rfl) rfl #[.pointer (some ⟨h,0,none⟩)] rfl (by (try simp only [List.map_toArray,List.map_cons,List.map_nil]);first|done|rfl) ?_;(with_reducible refine (matrix_calls gt h i C _ [_,_,_] _ w _ hGf.out hbf.out r1 r2 c1 c2 H.out).mono ?_);rintro e w4 ⟨v,Bk,rfl,hB,hH⟩;refine ⟨_,rfl,?_⟩;obtain ⟨Av,zv,rfl⟩:=own_slice (hB.owns hH);have hB1:=Aside0.mk hB;clear hB;have H_:=Aside0.mk (Hs.comm (hs_sub hH (List.Sublist.append (List.Sublist.refl Bk) (List.sublist_append_right [_,_,_,_,_,_] _))));clear hH H;have H:=Aside0.mk (show Hs w w4 ((gt,.cells (tabN 255) 162 (0,0)) :: (gs,.cells #[.int .i64 0,.int .i64 0,.int .i64 0,.slice none 0 0] 32 (0,0)) :: (gy,.cells #[.int .i64 D,.int .i64 C,.slice A2 lb.length cb] 27 (0,0)) :: (gx,.cells #[.int .i64 i,.int .i64 D,.slice A la.length ca] 27 (0,0)) :: Bk) from H_.out);clear H_)
    | ((with_reducible refine gate_store (p:=4) rfl ?_);(try (refine gate_guard (by rfl) ?_;dsimp only));have hc0_:=H.out.cellv (v:=.int .i64 0) 1 rfl 0 rfl;have hf0_:=H.out.frozen 1 rfl 0;have hc1_:=H.out.cellv (v:=.int .i64 0) 1 rfl 1 rfl;have hf1_:=H.out.frozen 1 rfl 1;have hc2_:=H.out.cellv (v:=.int .i64 0) 1 rfl 2 rfl;have hf2_:=H.out.frozen 1 rfl 2;have hc3_:=H.out.cellv (v:=.slice none 0 0) 1 rfl 3 rfl;have hf3_:=H.out.frozen 1 rfl 3;refine store_at (fun W=>(World.setCell (World.setCell (World.setCell (World.setCell W ⟨gs,0,none⟩ (.int .i64 0)) ⟨gs,1,none⟩ (.int .i64 i)) ⟨gs,2,none⟩ (.int .i64 C)) ⟨gs,3,none⟩ (.slice Av (i * C) zv))) ?hg rfl ?hd ?hr ?_;(case hg=>rfl);(case hd=>rfl);(case hr=>first|(go_simp;done)|(go_simp;rfl));intro w71 hw;have H_:=Aside0.mk (show Hs w w71 ((gt,.cells (tabN 255) 162 (0,0)) :: (gs,.cells #[.int .i64 0,.int .i64 i,.int .i64 C,.slice Av (i * C) zv] 32 (0,0)) :: (gy,.cells #[.int .i64 D,.int .i64 C,.slice A2 lb.length cb] 27 (0,0)) :: (gx,.cells #[.int .i64 i,.int .i64 D,.slice A la.length ca] 27 (0,0)) :: Bk) from by rw [hw];exact ((((H.out.set 1 rfl 0 (.int .i64 0)).set 1 rfl 1 (.int .i64 i)).set 1 rfl 2 (.int .i64 C)).set 1 rfl 3 (.slice Av (i * C) zv)));clear hw hc0_ hf0_ hc1_ hf1_ hc2_ hf2_ hc3_ hf3_ H;have H:=H_;clear H_))
   refine bodyPost_ret (results_cell_row rfl _ _ gs 32 #[.int .i64 0,.int .i64 i,.int .i64 C,.slice Av (i * C) zv] (0,0) _ rfl (H.out.get 1 rfl) Try.underlying32 rfl (by kernel_rfl)) rfl ⟨_,rfl,Kd.R_of_own ?_ (fun _ _=>trivial),H.out.below⟩
   have ho:=hB1.out.owns (Hs.comm (B:=[(gt,.cells (tabN 255) 162 (0,0)),(gs,.cells #[.int .i64 0,.int .i64 i,.int .i64 C,.slice Av (i * C) zv] 32 (0,0)),(gy,.cells #[.int .i64 D,.int .i64 C,.slice A2 lb.length cb] 27 (0,0)),(gx,.cells #[.int .i64 i,.int .i64 D,.slice A la.length ca] 27 (0,0))]) (L:=Bk) H.out)
   have hl2 : (cellsK C (fun a b=>psum M N a b D) (i * C)).length = i * C:=cellsK_len _ _ _
   rw [hl2]
   exact ho

theorem impl_MatMul.calls (k : Nat) (a0_0 : Int) (a0_1 : Int) (A0_2 : Option Addr) (c0_2 : Nat) (l0_2 : List Int) (a1_0 : Int) (a1_1 : Int) (A1_2 : Option Addr) (c1_2 : Nat) (l1_2 : List Int) (r1 : Int) (r2 : Int) (r3 : Int) (r4 : List Int) (w : World) (hr0_2 : Kd.C (Kd.int .i64) w A0_2 l0_2.length l0_2) (hc0_2 : l0_2.length ≤ c0_2) (hr1_2 : Kd.C (Kd.int .i64) w A1_2 l1_2.length l1_2) (hc1_2 : l1_2.length ≤ c1_2) (h : impl_MatMul.f k a0_0 a0_1 l0_2 a1_0 a1_1 l1_2 = some (r1,r2,r3,r4)) :
  Calls Try.prog 26 #[.agg #[.int .i64 a0_0,.int .i64 a0_1,.slice A0_2 l0_2.length c0_2],.agg #[.int .i64 a1_0,.int .i64 a1_1,.slice A1_2 l1_2.length c1_2]] w fun e w'=>∃ v3_ : Value,e = .returned (.agg #[.int .i64 r1,.int .i64 r2,.int .i64 r3,v3_]) ∧ Kd.R (Kd.int .i64) 2 w' w.heap.size (fun _=>True) v3_ r4 ∧ Below w.heap.size w w':=by
 unfold impl_MatMul.f at h
 obtain ⟨t1,h1,h⟩:=Option.bind_eq_some_iff.mp h
 obtain ⟨t2,h2,h⟩:=Option.bind_eq_some_iff.mp h
 by_cases c : t1 = 0 ∧ t2 = 0 ∧ a0_1 = a1_0 ∧ Fit a0_0 a0_1 l0_2 ∧ Fit a1_0 a1_1 l1_2
 rotate_left
 ·rw [if_neg c] at h;cases h
 rw [if_pos c] at h
 simp only [Option.some.injEq,Prod.mk.injEq] at h
 obtain ⟨rfl,rfl,rfl,rfl⟩:=h
 obtain ⟨e1,e2,rfl,⟨f1,f2,f3,f4,f5,f6⟩,⟨g1,g2,g3,g4,g5,g6⟩⟩:=c
 obtain ⟨R,rfl⟩:=Int.eq_ofNat_of_zero_le (show 0 ≤ a0_0 by omega)
 obtain ⟨D,rfl⟩:=Int.eq_ofNat_of_zero_le (show 0 ≤ a0_1 by omega)
 obtain ⟨C,rfl⟩:=Int.eq_ofNat_of_zero_le (show 0 ≤ a1_1 by omega)
 unfold mulOf
 simp only [Int.toNat_natCast]
 exact matMul_good R D C k A0_2 A1_2 c0_2 c1_2 l0_2 l1_2 t1 t2 w hr0_2 hc0_2 hr1_2 hc1_2 h1 h2 e1 e2 (by omega) (by omega) (by omega) (by omega) (by omega) (by omega) f5 g5 f6 g6

end Go.Proofs.Ytffhbpepppodeaa.PFnInverse
