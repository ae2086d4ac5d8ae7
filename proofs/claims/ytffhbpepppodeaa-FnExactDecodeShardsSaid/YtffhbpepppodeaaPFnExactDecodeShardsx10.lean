import Derived.Test.YtffhbpepppodeaaPFnExactDecodeShardsx0
import Derived.Test.YtffhbpepppodeaaPFnExactDecodeShardsx3
namespace Go.Proofs.Ytffhbpepppodeaa.PFnExactDecodeShards
private theorem nn {α : Type} {c : Prop} [Decidable c] {a : Option α} {r : α} (h : (if c then a else none) = some r) : c ∧ a = some r:=by
 split at h
 ·exact ⟨‹c›,h⟩
 ·cases h
open Go.RowKit Go.Proofs.YtffhbpepppodeaaW.PrintWords Go.Proofs.YtffhbpepppodeaaW.PrintLast Go.Proofs.YtffhbpepppodeaaW.PrintMore
attribute [local go_sem] max2_int min2_int max_two min_two max_three min_three max_four min_four   -- for this text's walks alone
set_option linter.unusedVariables false
set_option linter.unusedSimpArgs false

/-! ### spec_l04Split: function 103 -/
def spec_l04Split.l0 : Nat → List (S61) → List ByteArray → List Bool → Int → Option (List ByteArray × List Bool)
 | 0,_,_,_,_=>none
 | k + 1,x0,x4,x5,x6=>if x6 < (x0.length : Int) then (if 0 ≤ x6 then (if x4.length < 8796093022208 then (if x5.length < 140737488355328 then (spec_l04Split.l0 k x0 (x4 ++ [(rd_T61 x0 x6).f1]) (x5 ++ [(rd_T61 x0 x6).f0]) (wrap64 (x6 + 1))) else (none)) else (none)) else (none)) else (some (x4,x5))
def spec_l04Split.f (k : Nat) (l0 : List (S61)) : Option (List ByteArray × List Bool):=spec_l04Split.l0 k l0 (([] : List ByteArray)) (([] : List Bool)) 0
set_option maxHeartbeats 8000000 in
set_option maxRecDepth 100000 in
theorem spec_l04Split.calls (k : Nat) (A0 : Option Addr) (c0 : Nat) (l0 : List (S61)) (r1 : List ByteArray) (r2 : List Bool) (w : World) (hr0 : Kd.C k61 w A0 l0.length l0) (hc0 : l0.length ≤ c0) (h : spec_l04Split.f k l0 = some (r1,r2)) :
  Calls Try.prog 103 #[.slice A0 l0.length c0] w fun e w'=>∃ v0_ v1_ : Value,e = .returned (.tuple #[v0_,v1_]) ∧ Kd.R Kd.string 9 w' w.heap.size (fun _=>True) v0_ r1 ∧ Kd.R Kd.bool 4 w' w.heap.size (fun _=>True) v1_ r2 ∧ Below w.heap.size w w':=by
 have HR0:=Aside0.mk hr0
 have HC0:=Aside0.mk hc0
 clear hr0 hc0
 have HB:=Aside0.mk (Below.refl w.heap.size w)
 have H : (spec_l04Split.l0 k l0 (([] : List ByteArray)) (([] : List Bool)) 0) = some (r1,r2):=h
 clear h
 obtain ⟨y234,hy234⟩ : ∃ y_ : List ByteArray,y_ = (([] : List ByteArray)):=⟨_,rfl⟩
 rw [← hy234] at H
 have Ny234:=Aside0.mk hy234
 clear hy234
 obtain ⟨y237,hy237⟩ : ∃ y_ : List Bool,y_ = (([] : List Bool)):=⟨_,rfl⟩
 rw [← hy237] at H
 have Ny237:=Aside0.mk hy237
 clear hy237
 have H':=Aside0.mk H
 clear H
 go_enter Try.func103,Try.ntmps103
 go_wp2_with (first|((with_reducible refine gate_dst (N:=7) rfl ?_);refine Kd.R_lit Kd.string _ 9 ?hg (N:=7) ?hd (xs:=([] : List ByteArray)) (inner:=[]) (ok:=fun _=>True) (okp:=fun _=>True) ?hr ?hp (fun _ hk=>hk) trivial (Below.refl _ _) (Nat.le_refl _) (by simp) ?_;(case hd=>rfl);(case hg=>rfl);(case hr=>(go_simp;done));(case hp=>exact (Reps.none _ _));intro v235 w2 ho3 hb hg_ hnew_;clear hg_ hnew_;(rw [← Ny234.out] at ho3);have HO236:=Aside0.mk (Kd.R_lower ho3 (below_size HB.out));replace HB:=Aside0.mk (below_step HB.out hb);clear hb ho3)|((with_reducible refine gate_dst (N:=8) rfl ?_);refine Kd.R_lit Kd.bool _ 4 ?hg (N:=8) ?hd (xs:=([] : List Bool)) (inner:=[]) (ok:=fun _=>True) (okp:=fun _=>True) ?hr ?hp (fun _ hk=>hk) trivial (Below.refl _ _) (Nat.le_refl _) (by simp) ?_;(case hd=>rfl);(case hg=>rfl);(case hr=>(go_simp;done));(case hp=>exact (Reps.none _ _));intro v238 w4 ho5 hb hg_ hnew_;clear hg_ hnew_;(rw [← Ny237.out] at ho5);replace HO236:=Aside0.mk (Kd.R_below HO236.out hb);have HO239:=Aside0.mk (Kd.R_lower ho5 (below_size HB.out));replace HB:=Aside0.mk (below_step HB.out hb);clear hb ho5))
 go_loopg [4,5,6] k (fun kq v4 v5 v6 w'=>∃ (x4_1 : List ByteArray) (x5_1 : List Bool) (x6_1 : Int),v6 = .int .i64 x6_1 ∧ Aside0 (spec_l04Split.l0 kq l0 x4_1 x5_1 x6_1 = some (r1,r2)) ∧ Aside0 (kq ≤ k) ∧ Aside0 (Kd.R Kd.string 9 w' w.heap.size (fun _=>True) v4 x4_1) ∧ Aside0 (Kd.R Kd.bool 4 w' w.heap.size (fun _=>True) v5 x5_1) ∧ Aside0 (Below w.heap.size w w'))
 case atStart=>exact ⟨(y234),(y237),(0),(by rfl),H',⟨Nat.le_refl _⟩,⟨by exact HO236.out⟩,⟨by exact HO239.out⟩,⟨HB.out⟩⟩
 case round=>
  clear H'
  obtain ⟨x4_1,x5_1,x6_1,rfl,HA,HK1,HO_4,HO_5,HB⟩:=hrel
  cases gk with
  | zero=>exact absurd HA.out (by simp [spec_l04Split.l0])
  | succ k1=>
   have H:=HA.out
   clear HA
   simp only [spec_l04Split.l0] at H
   by_cases c6 : x6_1 < (l0.length : Int)
   ·rw [if_pos c6] at H
    have c6b0:=decide_eq_true c6
    clear c6
    obtain ⟨c7,H⟩:=nn H
    have c7b0:=decide_eq_true c7
    clear c7
    obtain ⟨c8,H⟩:=nn H
    have LMc8:=Aside0.mk c8
    clear c8
    obtain ⟨y241,hy241⟩ : ∃ y_ : List ByteArray,y_ = (x4_1 ++ [(rd_T61 l0 x6_1).f1]):=⟨_,rfl⟩
    rw [← hy241] at H
    have Ny241:=Aside0.mk hy241
    clear hy241
    obtain ⟨c9,H⟩:=nn H
    have LMc9:=Aside0.mk c9
    clear c9
    obtain ⟨y245,hy245⟩ : ∃ y_ : List Bool,y_ = (x5_1 ++ [(rd_T61 l0 x6_1).f0]):=⟨_,rfl⟩
    rw [← hy245] at H
    have Ny245:=Aside0.mk hy245
    clear hy245
    have H':=Aside0.mk H
    clear H
    have p240 : 0 ≤ (x6_1 : Int):=of_decide_eq_true (by with_reducible assumption)
    have q240 : x6_1 < (l0.length : Int):=of_decide_eq_true (by with_reducible assumption)
    obtain ⟨ad240,e240,hx240_0,hx240_1⟩:=at_T61 HR0.out x6_1 p240 q240
    cases e240
    replace hx240_0:=(HB.out.cell (World.block_lt_of_cell? w _ hx240_0)).trans hx240_0
    replace hx240_1:=(HB.out.cell (World.block_lt_of_cell? w _ hx240_1)).trans hx240_1
    replace p240:=eq_true p240
    replace q240:=eq_true q240
    go_wp2_with (first|((with_reducible refine gate_builtin (b:=.append) (xs:=#[.tmp 15,.tmp 21]) rfl ?_);at_builtin;refine Kd.R_append Kd.string (w0:=w) w.heap.size rfl (.tmp 15) (.tmp 21) 56 9 (.string ⟨#[]⟩) 16 rfl Try.underlying56 info9 rfl (by decide) (by omega) u4 x4_1 ((rd_T61 l0 x6_1).f1) [.string ((rd_T61 l0 x6_1).f1)] (fun _=>True) (fun _=>False) rfl rfl ?aP (fun _ hk=>hk.elim) ?aF ?aO ?aB ?aS ?aL ?_;(case aP=>exact rfl);(case aB=>exact HB.out);(case aF=>exact (fun _ _=>trivial));(case aO=>exact HO_4.out);(case aS=>exact (below_size HB.out));(case aL=>have:=LMc8.out;omega);intro v242 w10 ho hb hg hat;rw [← Ny241.out] at ho;have n0_:=Aside0.mk (Kd.R_over' HO_5.out (Kd.R_typed HO_4.out) (by decide) hg);have n1_:=Aside0.mk (hb);have n2_:=Aside0.mk (ho);clear HO_5 HB HO_4;have HO_5:=n0_;have HB:=n1_;have HO243:=n2_;clear n0_ n1_ n2_ ho hb hg hat;have p244 : 0 ≤ (x6_1 : Int):=of_decide_eq_true (by with_reducible assumption);have q244 : x6_1 < (l0.length : Int):=of_decide_eq_true (by with_reducible assumption);obtain ⟨ad244,e244,hx244_0,hx244_1⟩:=at_T61 HR0.out x6_1 p244 q244;obtain rfl : ad240 = ad244:=(by injection e244);replace hx244_0:=(HB.out.cell (World.block_lt_of_cell? w _ hx244_0)).trans hx244_0;replace hx244_1:=(HB.out.cell (World.block_lt_of_cell? w _ hx244_1)).trans hx244_1;replace p244:=eq_true p244;replace q244:=eq_true q244)|((with_reducible refine gate_builtin (b:=.append) (xs:=#[.tmp 23,.tmp 29]) rfl ?_);at_builtin;refine Kd.R_append Kd.bool (w0:=w) w.heap.size rfl (.tmp 23) (.tmp 29) 72 4 (.bool false) 1 rfl Try.underlying72 info4 rfl (by decide) (by omega) u5 x5_1 ((rd_T61 l0 x6_1).f0) [.bool ((rd_T61 l0 x6_1).f0)] (fun _=>True) (fun _=>False) rfl rfl ?aP (fun _ hk=>hk.elim) ?aF ?aO ?aB ?aS ?aL ?_;(case aP=>exact rfl);(case aB=>exact HB.out);(case aF=>exact (fun _ _=>trivial));(case aO=>exact HO_5.out);(case aS=>exact (below_size HB.out));(case aL=>have:=LMc9.out;omega);intro v246 w11 ho hb hg hat;rw [← Ny245.out] at ho;have n0_:=Aside0.mk (Kd.R_over' HO243.out (Kd.R_typed HO_5.out) (by decide) hg);have n1_:=Aside0.mk (hb);have n2_:=Aside0.mk (ho);clear HO243 HB HO_5;have HO243:=n0_;have HB:=n1_;have HO247:=n2_;clear n0_ n1_ n2_ ho hb hg hat))
    go_roundg k1
    case measure=>have:=HK1.out;omega
    case rel=>exact ⟨(y241),(y245),(wrap64 (x6_1 + 1)),(by rfl),H',⟨by have:=HK1.out;omega⟩,⟨by exact HO243.out⟩,⟨by exact HO247.out⟩,⟨HB.out⟩⟩
   ·rw [if_neg c6] at H
    have c6b0:=decide_eq_false c6
    clear c6
    simp only [Option.some.injEq,Prod.mk.injEq] at H
    obtain ⟨rfl,rfl⟩:=H
    go_wp2
    go_ret2
    exact ⟨_,_,by rfl,by exact HO_4.out,by exact HO_5.out,HB.out⟩

/-! ### spec_MatrixFault: function 24 -/
mutual
def spec_MatrixFault.j0 : Nat → Bool → Int → Int → List Int → Option (Int)
 | 0,_,_,_,_=>none
 | k + 1,x32,x249000,x249001,x249002=>if x32 = true then (some 1) else (spec_MatrixFault.l0 k 0 x249000 x249001 x249002)
def spec_MatrixFault.l0 : Nat → Int → Int → Int → List Int → Option (Int)
 | 0,_,_,_,_=>none
 | k + 1,x3,x249000,x249001,x249002=>if x3 < (x249002.length : Int) then (if 0 ≤ x3 then ((spec_l02In.f (rd x249002 x3) 256).bind fun t250=>(if t250 = true then (spec_MatrixFault.l0 k (wrap64 (x3 + 1)) x249000 x249001 x249002) else (some 1))) else (none)) else (some 0)
end
def spec_MatrixFault.f (k : Nat) (a0_0 : Int) (a0_1 : Int) (l0_2 : List Int) : Option (Int):=if a0_0 < 1 then (spec_MatrixFault.j0 k true a0_0 a0_1 l0_2) else (if a0_0 > 64 then (spec_MatrixFault.j0 k true a0_0 a0_1 l0_2) else (if a0_1 < 1 then (spec_MatrixFault.j0 k true a0_0 a0_1 l0_2) else (if a0_1 > 64 then (spec_MatrixFault.j0 k true a0_0 a0_1 l0_2) else (spec_MatrixFault.j0 k ((l0_2.length : Int) != (wrap64 (a0_0 * a0_1))) a0_0 a0_1 l0_2))))
set_option maxHeartbeats 8000000 in
set_option maxRecDepth 100000 in
theorem spec_MatrixFault.calls (k : Nat) (a0_0 : Int) (a0_1 : Int) (A0_2 : Option Addr) (c0_2 : Nat) (l0_2 : List Int) (r : Int) (w : World) (hr0_2 : Kd.C (Kd.int .i64) w A0_2 l0_2.length l0_2) (hc0_2 : l0_2.length ≤ c0_2) (h : spec_MatrixFault.f k a0_0 a0_1 l0_2 = some r) :
  Calls Try.prog 24 #[.agg #[.int .i64 a0_0,.int .i64 a0_1,.slice A0_2 l0_2.length c0_2]] w fun e w'=>e = .returned (.int .i64 r) ∧ Below w.heap.size w w':=by
 have hu27:=Try.underlying27
 have HR0_2:=Aside0.mk hr0_2
 have HC0_2:=Aside0.mk hc0_2
 clear hr0_2 hc0_2
 have HB:=Aside0.mk (Below.refl w.heap.size w)
 have H : (if a0_0 < 1 then (spec_MatrixFault.j0 k true a0_0 a0_1 l0_2) else (if a0_0 > 64 then (spec_MatrixFault.j0 k true a0_0 a0_1 l0_2) else (if a0_1 < 1 then (spec_MatrixFault.j0 k true a0_0 a0_1 l0_2) else (if a0_1 > 64 then (spec_MatrixFault.j0 k true a0_0 a0_1 l0_2) else (spec_MatrixFault.j0 k ((l0_2.length : Int) != (wrap64 (a0_0 * a0_1))) a0_0 a0_1 l0_2))))) = some r:=h
 clear h
 have HC2:=Aside0.mk H
 clear H
 go_enter Try.func24,Try.ntmps24
 go_upto_region 1 with (((with_reducible refine gate_dst (N:=1) rfl ?_);(try (refine gate_guard (by rfl) ?_;dsimp only));refine box_event ?hg (N:=1) ?hd (cs:=#[.int .i64 a0_0,.int .i64 a0_1,.slice A0_2 l0_2.length c0_2]) (t:=27) ?hr ?_;(case hd=>rfl);(case hg=>rfl);(case hr=>(go_simp;done));intro gb248 hg w3 hbox hb;have BK248:=Aside0.mk (hbox);have GW248:=Aside0.mk ((by rw [hg];exact (below_size HB.out) : w.heap.size ≤ gb248));have GE248:=Aside0.mk ((by rw [hg];exact (below_size HB.out) : w.heap.size ≤ gb248));replace HB:=Aside0.mk (below_step HB.out hb);clear hb hbox hg))
 go_cut [32] (fun v32 wc=>∃ (kq : Nat) (x32_1 : Bool),v32 = .bool x32_1 ∧ Aside0 (spec_MatrixFault.j0 kq x32_1 a0_0 a0_1 l0_2 = some r) ∧ Aside0 (kq ≤ k) ∧ Aside0 (wc.heap[gb248]? = some (.cells #[.int .i64 a0_0,.int .i64 a0_1,(.slice A0_2 l0_2.length c0_2)] 27 (0,0))) ∧ Aside0 (Below w.heap.size w wc))
 case first=>
  have H:=HC2.out
  clear HC2
  by_cases c4 : a0_0 < 1
  ·rw [if_pos c4] at H
   have c4b0:=decide_eq_true c4
   clear c4
   (skip)
   have H':=Aside0.mk H
   clear H
   have hcz5_0 : w3.cell? ⟨gb248,0,none⟩ = some (.int .i64 a0_0):=(blk_cell BK248.out 0).trans rfl
   have hcz5_1 : w3.cell? ⟨gb248,1,none⟩ = some (.int .i64 a0_1):=(blk_cell BK248.out 1).trans rfl
   have hcz5_2 : w3.cell? ⟨gb248,2,none⟩ = some (.slice A0_2 l0_2.length c0_2):=(blk_cell BK248.out 2).trans rfl
   have hfz5_0:=blk_frozen BK248.out 0
   have hfz5_1:=blk_frozen BK248.out 1
   have hfz5_2:=blk_frozen BK248.out 2
   go_wp2
   go_meet
   case rel=>exact ⟨_,(true),(by rfl),H',⟨by omega⟩,⟨by exact BK248.out⟩,⟨HB.out⟩⟩
  ·rw [if_neg c4] at H
   have c4b0:=decide_eq_false c4
   clear c4
   (skip)
   by_cases c6 : a0_0 > 64
   ·rw [if_pos c6] at H
    have c6b0:=decide_eq_true c6
    clear c6
    have H':=Aside0.mk H
    clear H
    have hcz7_0 : w3.cell? ⟨gb248,0,none⟩ = some (.int .i64 a0_0):=(blk_cell BK248.out 0).trans rfl
    have hcz7_1 : w3.cell? ⟨gb248,1,none⟩ = some (.int .i64 a0_1):=(blk_cell BK248.out 1).trans rfl
    have hcz7_2 : w3.cell? ⟨gb248,2,none⟩ = some (.slice A0_2 l0_2.length c0_2):=(blk_cell BK248.out 2).trans rfl
    have hfz7_0:=blk_frozen BK248.out 0
    have hfz7_1:=blk_frozen BK248.out 1
    have hfz7_2:=blk_frozen BK248.out 2
    go_wp2
    go_meet
    case rel=>exact ⟨_,(true),(by rfl),H',⟨by omega⟩,⟨by exact BK248.out⟩,⟨HB.out⟩⟩
   ·rw [if_neg c6] at H
    have c6b0:=decide_eq_false c6
    clear c6
    by_cases c8 : a0_1 < 1
    ·rw [if_pos c8] at H
     have c8b0:=decide_eq_true c8
     clear c8
     have H':=Aside0.mk H
     clear H
     have hcz9_0 : w3.cell? ⟨gb248,0,none⟩ = some (.int .i64 a0_0):=(blk_cell BK248.out 0).trans rfl
     have hcz9_1 : w3.cell? ⟨gb248,1,none⟩ = some (.int .i64 a0_1):=(blk_cell BK248.out 1).trans rfl
     have hcz9_2 : w3.cell? ⟨gb248,2,none⟩ = some (.slice A0_2 l0_2.length c0_2):=(blk_cell BK248.out 2).trans rfl
     have hfz9_0:=blk_frozen BK248.out 0
     have hfz9_1:=blk_frozen BK248.out 1
     have hfz9_2:=blk_frozen BK248.out 2
     go_wp2
     go_meet
     case rel=>exact ⟨_,(true),(by rfl),H',⟨by omega⟩,⟨by exact BK248.out⟩,⟨HB.out⟩⟩
    ·rw [if_neg c8] at H
     have c8b0:=decide_eq_false c8
     clear c8
     by_cases c10 : a0_1 > 64
     ·rw [if_pos c10] at H
      have c10b0:=decide_eq_true c10
      clear c10
      have H':=Aside0.mk H
      clear H
      have hcz11_0 : w3.cell? ⟨gb248,0,none⟩ = some (.int .i64 a0_0):=(blk_cell BK248.out 0).trans rfl
      have hcz11_1 : w3.cell? ⟨gb248,1,none⟩ = some (.int .i64 a0_1):=(blk_cell BK248.out 1).trans rfl
      have hcz11_2 : w3.cell? ⟨gb248,2,none⟩ = some (.slice A0_2 l0_2.length c0_2):=(blk_cell BK248.out 2).trans rfl
      have hfz11_0:=blk_frozen BK248.out 0
      have hfz11_1:=blk_frozen BK248.out 1
      have hfz11_2:=blk_frozen BK248.out 2
      go_wp2
      go_meet
      case rel=>exact ⟨_,(true),(by rfl),H',⟨by omega⟩,⟨by exact BK248.out⟩,⟨HB.out⟩⟩
     ·rw [if_neg c10] at H
      have c10b0:=decide_eq_false c10
      clear c10
      have H':=Aside0.mk H
      clear H
      have hcz12_0 : w3.cell? ⟨gb248,0,none⟩ = some (.int .i64 a0_0):=(blk_cell BK248.out 0).trans rfl
      have hcz12_1 : w3.cell? ⟨gb248,1,none⟩ = some (.int .i64 a0_1):=(blk_cell BK248.out 1).trans rfl
      have hcz12_2 : w3.cell? ⟨gb248,2,none⟩ = some (.slice A0_2 l0_2.length c0_2):=(blk_cell BK248.out 2).trans rfl
      have hfz12_0:=blk_frozen BK248.out 0
      have hfz12_1:=blk_frozen BK248.out 1
      have hfz12_2:=blk_frozen BK248.out 2
      go_wp2
      go_meet
      case rel=>exact ⟨_,(((l0_2.length : Int) != (wrap64 (a0_0 * a0_1)))),(by rfl),H',⟨by omega⟩,⟨by exact BK248.out⟩,⟨HB.out⟩⟩
 case rest=>
  clear HC2
  obtain ⟨kq,x32_1,rfl,HA,HJ1,BK248,HB⟩:=hcut
  cases kq with
  | zero=>exact absurd HA.out (by simp [spec_MatrixFault.j0])
  | succ kj1=>
   have H:=HA.out
   clear HA
   simp only [spec_MatrixFault.j0] at H
   by_cases c13 : x32_1 = true
   ·subst c13
    have H1 : (some 1) = some r:=by rw [if_pos rfl] at H;exact H
    clear H
    have H:=H1
    clear H1
    obtain rfl:=Option.some.inj H
    go_wp2
    go_ret
    exact ⟨by rfl,HB.out⟩
   ·replace c13:=Bool.eq_false_iff.mpr c13
    subst c13
    have H1 : (spec_MatrixFault.l0 kj1 0 a0_0 a0_1 l0_2) = some r:=by rw [if_neg (show ¬ (false = true) by decide)] at H;exact H
    clear H
    have H:=H1
    clear H1
    have H':=Aside0.mk H
    clear H
    go_wp2
    go_loopg [3] kj1 (fun kq v3 w'=>∃ (x3_2 : Int),v3 = .int .i64 x3_2 ∧ Aside0 (spec_MatrixFault.l0 kq x3_2 a0_0 a0_1 l0_2 = some r) ∧ Aside0 (kq ≤ kj1) ∧ Aside0 (w'.heap[gb248]? = some (.cells #[.int .i64 a0_0,.int .i64 a0_1,(.slice A0_2 l0_2.length c0_2)] 27 (0,0))) ∧ Aside0 (Below w.heap.size w w'))
    case atStart=>exact ⟨(0),(by rfl),H',⟨Nat.le_refl _⟩,⟨by exact BK248.out⟩,⟨HB.out⟩⟩
    case round=>
     clear H'
     obtain ⟨x3_2,rfl,HA,HK2,BK248,HB⟩:=hrel
     cases gk with
     | zero=>exact absurd HA.out (by simp [spec_MatrixFault.l0])
     | succ k2=>
      have H:=HA.out
      clear HA
      simp only [spec_MatrixFault.l0] at H
      by_cases c14 : x3_2 < (l0_2.length : Int)
      ·rw [if_pos c14] at H
       have c14b0:=decide_eq_true c14
       clear c14
       obtain ⟨c15,H⟩:=nn H
       have c15b0:=decide_eq_true c15
       clear c15
       replace H:=Option.bind_eq_some_iff.mp H
       obtain ⟨t250,A160,H⟩:=H
       replace H : (if t250 = true then (spec_MatrixFault.l0 k2 (wrap64 (x3_2 + 1)) a0_0 a0_1 l0_2) else (some 1)) = some r:=H
       have A16:=Aside0.mk A160
       clear A160
       by_cases c17 : t250 = true
       ·subst c17
        have H1 : (spec_MatrixFault.l0 k2 (wrap64 (x3_2 + 1)) a0_0 a0_1 l0_2) = some r:=by rw [if_pos rfl] at H;exact H
        clear H
        have H:=H1
        clear H1
        have H':=Aside0.mk H
        clear H
        have hcz18_0 : wr.cell? ⟨gb248,0,none⟩ = some (.int .i64 a0_0):=(blk_cell BK248.out 0).trans rfl
        have hcz18_1 : wr.cell? ⟨gb248,1,none⟩ = some (.int .i64 a0_1):=(blk_cell BK248.out 1).trans rfl
        have hcz18_2 : wr.cell? ⟨gb248,2,none⟩ = some (.slice A0_2 l0_2.length c0_2):=(blk_cell BK248.out 2).trans rfl
        have hfz18_0:=blk_frozen BK248.out 0
        have hfz18_1:=blk_frozen BK248.out 1
        have hfz18_2:=blk_frozen BK248.out 2
        have p249 : 0 ≤ (x3_2 : Int):=of_decide_eq_true (by with_reducible assumption)
        have q249 : x3_2 < (l0_2.length : Int):=of_decide_eq_true (by with_reducible assumption)
        obtain ⟨ad249,e249,hx249_0⟩:=Kd.at_int HR0_2.out x3_2 p249 q249
        cases e249
        replace hx249_0:=(HB.out.cell (World.block_lt_of_cell? w _ hx249_0)).trans hx249_0
        replace p249:=eq_true p249
        replace q249:=eq_true q249
        go_wp2_with (((with_reducible refine gate_callee (f:=79) rfl ?_);refine goesL_ (some 45) rfl rfl Try.func79 (by kernel_rfl) rfl #[.int .i64 (rd l0_2 x3_2),.int .i64 256] rfl (by (try simp only [List.map_toArray,List.map_cons,List.map_nil]);rfl) ?_;(with_reducible refine (spec_l02In.calls (rd l0_2 x3_2) 256 true _ A16.out).mono ?_);rintro e w' ⟨rfl,⟨nd,rfl⟩⟩;refine ⟨_,rfl,?_⟩))
        go_roundg k2
        case measure=>have:=HJ1.out;have:=HK2.out;omega
        case rel=>exact ⟨(wrap64 (x3_2 + 1)),(by rfl),H',⟨by have:=HJ1.out;have:=HK2.out;omega⟩,⟨by (with_reducible repeat (refine blk_drewN ?_ _));exact BK248.out⟩,⟨by repeat ((with_reducible first|exact HB.out|apply pw_below_drewN))⟩⟩
       ·replace c17:=Bool.eq_false_iff.mpr c17
        subst c17
        have H1 : (some 1) = some r:=by rw [if_neg (show ¬ (false = true) by decide)] at H;exact H
        clear H
        have H:=H1
        clear H1
        obtain rfl:=Option.some.inj H
        have hcz19_0 : wr.cell? ⟨gb248,0,none⟩ = some (.int .i64 a0_0):=(blk_cell BK248.out 0).trans rfl
        have hcz19_1 : wr.cell? ⟨gb248,1,none⟩ = some (.int .i64 a0_1):=(blk_cell BK248.out 1).trans rfl
        have hcz19_2 : wr.cell? ⟨gb248,2,none⟩ = some (.slice A0_2 l0_2.length c0_2):=(blk_cell BK248.out 2).trans rfl
        have hfz19_0:=blk_frozen BK248.out 0
        have hfz19_1:=blk_frozen BK248.out 1
        have hfz19_2:=blk_frozen BK248.out 2
        have p249 : 0 ≤ (x3_2 : Int):=of_decide_eq_true (by with_reducible assumption)
        have q249 : x3_2 < (l0_2.length : Int):=of_decide_eq_true (by with_reducible assumption)
        obtain ⟨ad249,e249,hx249_0⟩:=Kd.at_int HR0_2.out x3_2 p249 q249
        cases e249
        replace hx249_0:=(HB.out.cell (World.block_lt_of_cell? w _ hx249_0)).trans hx249_0
        replace p249:=eq_true p249
        replace q249:=eq_true q249
        go_wp2_with (((with_reducible refine gate_callee (f:=79) rfl ?_);refine goesL_ (some 45) rfl rfl Try.func79 (by kernel_rfl) rfl #[.int .i64 (rd l0_2 x3_2),.int .i64 256] rfl (by (try simp only [List.map_toArray,List.map_cons,List.map_nil]);rfl) ?_;(with_reducible refine (spec_l02In.calls (rd l0_2 x3_2) 256 false _ A16.out).mono ?_);rintro e w' ⟨rfl,⟨nd,rfl⟩⟩;refine ⟨_,rfl,?_⟩))
        go_ret
        exact ⟨by rfl,by repeat ((with_reducible first|exact HB.out|apply pw_below_drewN))⟩
      ·rw [if_neg c14] at H
       have c14b0:=decide_eq_false c14
       clear c14
       obtain rfl:=Option.some.inj H
       have hcz20_0 : wr.cell? ⟨gb248,0,none⟩ = some (.int .i64 a0_0):=(blk_cell BK248.out 0).trans rfl
       have hcz20_1 : wr.cell? ⟨gb248,1,none⟩ = some (.int .i64 a0_1):=(blk_cell BK248.out 1).trans rfl
       have hcz20_2 : wr.cell? ⟨gb248,2,none⟩ = some (.slice A0_2 l0_2.length c0_2):=(blk_cell BK248.out 2).trans rfl
       have hfz20_0:=blk_frozen BK248.out 0
       have hfz20_1:=blk_frozen BK248.out 1
       have hfz20_2:=blk_frozen BK248.out 2
       go_wp2
       go_ret
       exact ⟨by rfl,HB.out⟩

/-! ### spec_l03New: function 66 -/
def spec_l03New.f (a0 : Int) (a1 : Int) : Option (Int × Int × List Int):=if 0 ≤ (wrap64 (a0 * a1)) then (if (wrap64 (a0 * a1) : Int).toNat ≤ 35184372088832 then (some (a0,a1,(List.replicate (wrap64 (a0 * a1) : Int).toNat 0))) else (none)) else (none)
set_option maxHeartbeats 8000000 in
set_option maxRecDepth 100000 in
theorem spec_l03New.calls (a0 : Int) (a1 : Int) (r1 : Int) (r2 : Int) (r3 : List Int) (w : World) (h : spec_l03New.f a0 a1 = some (r1,r2,r3)) :
  Calls Try.prog 66 #[.int .i64 a0,.int .i64 a1] w fun e w'=>∃ v2_ : Value,e = .returned (.agg #[.int .i64 r1,.int .i64 r2,v2_]) ∧ Kd.R (Kd.int .i64) 2 w' w.heap.size (fun _=>True) v2_ r3 ∧ Below w.heap.size w w':=by
 have hu27:=Try.underlying27
 have HB:=Aside0.mk (Below.refl w.heap.size w)
 have H : (if 0 ≤ (wrap64 (a0 * a1)) then (if (wrap64 (a0 * a1) : Int).toNat ≤ 35184372088832 then (some (a0,a1,(List.replicate (wrap64 (a0 * a1) : Int).toNat 0))) else (none)) else (none)) = some (r1,r2,r3):=h
 clear h
 obtain ⟨ji3,hji3⟩ : ∃ j_ : Int,(wrap64 (a0 * a1)) = j_:=⟨_,rfl⟩
 replace H : (if 0 ≤ (ji3) then (if (ji3 : Int).toNat ≤ 35184372088832 then (some (a0,a1,(List.replicate (ji3 : Int).toNat 0))) else (none)) else (none)) = some (r1,r2,r3):=by (rw [hji3] at H;exact H)
 have hji3w : (IntKind.i64.wrap (a0 * a1)) = ji3:=(i64_w _).trans hji3
 obtain ⟨c4,H⟩:=nn H
 have c4b0:=eq_true c4
 have c4b1:=decide_eq_true c4
 clear c4
 obtain ⟨c5,H⟩:=nn H
 have c5b0:=eq_true c5
 have c5b1:=decide_eq_true c5
 clear c5
 obtain ⟨y252,hy252⟩ : ∃ y_ : List Int,y_ = (List.replicate (ji3 : Int).toNat 0):=⟨_,rfl⟩
 rw [← hy252] at H
 have Ny252:=Aside0.mk hy252
 clear hy252
 simp only [Option.some.injEq,Prod.mk.injEq] at H
 obtain ⟨rfl,rfl,rfl⟩:=H
 go_enter Try.func66,Try.ntmps66
 go_wp2_with (first|((with_reducible refine gate_dst (N:=4) rfl ?_);refine box_event ?hg (N:=4) ?hd (cs:=#[.int .i64 0,.int .i64 0,.slice none 0 0]) (t:=27) ?hr ?_;(case hd=>rfl);(case hg=>rfl);(case hr=>(go_simp;done));intro gb251 hg w6 hbox hb;have BK251:=Aside0.mk (hbox);have GW251:=Aside0.mk ((by rw [hg];exact (below_size HB.out) : w.heap.size ≤ gb251));have GE251:=Aside0.mk ((by rw [hg];exact (below_size HB.out) : w.heap.size ≤ gb251));replace HB:=Aside0.mk (below_step HB.out hb);clear hb hbox hg)|((with_reducible refine gate_dst (N:=10) rfl ?_);refine Kd.R_make (Kd.int .i64) _ 2 rfl (N:=10) rfl 22 _ _ rfl ji3 rfl rfl Try.underlying22 (.int .i64 0) 8 info2 rfl (by decide) (by omega) 0 (ok:=fun _=>True) (okp:=fun _=>True) rfl (fun _ hk=>hk) trivial (of_decide_eq_true (by with_reducible assumption)) (Nat.le_trans (Nat.mul_le_mul_right _ (of_decide_eq_true (by with_reducible assumption) : ji3.toNat ≤ 35184372088832)) (by omega)) (Below.refl _ _) (Nat.le_refl _) ?_;intro v253 w7 ho8 hb hg_ hnew_;clear hg_ hnew_;(rw [← Ny252.out] at ho8);have HO254:=Aside0.mk (Kd.R_lower ho8 (below_size HB.out));replace BK251:=Aside0.mk (blk_below BK251.out hb);replace HB:=Aside0.mk (below_step HB.out hb);clear hb ho8;obtain ⟨Ao9,co9,eo9⟩:=Kd.R_slice HO254.out;subst eo9;have hcz10_0 : w7.cell? ⟨gb251,0,none⟩ = some (.int .i64 0):=(blk_cell BK251.out 0).trans rfl;have hcz10_1 : w7.cell? ⟨gb251,1,none⟩ = some (.int .i64 0):=(blk_cell BK251.out 1).trans rfl;have hcz10_2 : w7.cell? ⟨gb251,2,none⟩ = some (.slice none 0 0):=(blk_cell BK251.out 2).trans rfl;have hfz10_0:=blk_frozen BK251.out 0;have hfz10_1:=blk_frozen BK251.out 1;have hfz10_2:=blk_frozen BK251.out 2))
 refine bodyPost_ret (results_cell_row rfl _ _ gb251 27 #[.int .i64 a0,.int .i64 a1,.slice Ao9 y252.length co9] (0,0) _ rfl (by refine blk_put (cs:=#[.int .i64 a0,.int .i64 a1,.slice none 0 0]) ?_ 2 _ rfl;refine blk_put (cs:=#[.int .i64 a0,.int .i64 0,.slice none 0 0]) ?_ 1 _ rfl;refine blk_put (cs:=#[.int .i64 0,.int .i64 0,.slice none 0 0]) ?_ 0 _ rfl;exact BK251.out) Try.underlying27 rfl (by kernel_rfl)) rfl ?_
 exact ⟨_,by rfl,by exact Kd.R_mono (Kd.R_far (p:=⟨gb251,2,none⟩) (Kd.R_far (p:=⟨gb251,1,none⟩) (Kd.R_far (p:=⟨gb251,0,none⟩) (Kd.R_types HO254.out BK251.out (by decide)) (fun _ hk=>hk.2) (.int .i64 a0)) (fun _ hk=>hk.2) (.int .i64 a1)) (fun _ hk=>hk.2) (.slice Ao9 y252.length co9)) (fun _ hk=>trivial),by repeat ((with_reducible first|exact HB.out|refine below_set ?_ GE251.out))⟩

end Go.Proofs.Ytffhbpepppodeaa.PFnExactDecodeShards
