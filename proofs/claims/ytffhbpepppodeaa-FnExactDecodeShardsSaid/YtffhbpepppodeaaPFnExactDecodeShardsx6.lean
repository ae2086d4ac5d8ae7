import Derived.Test.YtffhbpepppodeaaPFnExactDecodeShardsx0
import Derived.Test.YtffhbpepppodeaaPFnExactDecodeShardsx5
namespace Go.Proofs.Ytffhbpepppodeaa.PFnExactDecodeShards
private theorem nn {α : Type} {c : Prop} [Decidable c] {a : Option α} {r : α} (h : (if c then a else none) = some r) : c ∧ a = some r:=by
 split at h
 ·exact ⟨‹c›,h⟩
 ·cases h
open Go.RowKit Go.Proofs.YtffhbpepppodeaaW.PrintWords Go.Proofs.YtffhbpepppodeaaW.PrintLast Go.Proofs.YtffhbpepppodeaaW.PrintMore
attribute [local go_sem] max2_int min2_int max_two min_two max_three min_three max_four min_four   -- for this text's walks alone
set_option linter.unusedVariables false
set_option linter.unusedSimpArgs false

/-! ### spec_l03Swap: function 68 -/
def spec_l03Swap.l0 : Nat → Int → Int → Int → Int → Int → List Int → Option (List Int)
 | 0,_,_,_,_,_,_=>none
 | k + 1,x1,x2,x6,x180000,x180001,x180002=>if x6 < x180001 then ((spec_l03At.f x180000 x180001 x180002 x1 x6).bind fun t180=>((spec_l03At.f x180000 x180001 x180002 x2 x6).bind fun t181=>(if 0 ≤ (wrap64 ((wrap64 (x1 * x180001)) + x6)) then (if (wrap64 ((wrap64 (x1 * x180001)) + x6)) < (x180002.length : Int) then (if 0 ≤ (wrap64 ((wrap64 (x2 * x180001)) + x6)) then (if (wrap64 ((wrap64 (x2 * x180001)) + x6)) < (x180002.length : Int) then (spec_l03Swap.l0 k x1 x2 (wrap64 (x6 + 1)) x180000 x180001 ((x180002.set ((wrap64 ((wrap64 (x1 * x180001)) + x6)) : Int).toNat t181).set ((wrap64 ((wrap64 (x2 * x180001)) + x6)) : Int).toNat t180)) else (none)) else (none)) else (none)) else (none)))) else (some x180002)
def spec_l03Swap.f (k : Nat) (a0_0 : Int) (a0_1 : Int) (l0_2 : List Int) (a1 : Int) (a2 : Int) : Option (List Int):=spec_l03Swap.l0 k a1 a2 0 a0_0 a0_1 l0_2
set_option maxHeartbeats 8000000 in
set_option maxRecDepth 100000 in
theorem spec_l03Swap.calls (k : Nat) (a0_0 : Int) (a0_1 : Int) (P0_2_ : Nat → Prop) (u9000_ : Value) (l0_2 : List Int) (a1 : Int) (a2 : Int) (r : List Int) (w0 w : World) (hB : Below w0.heap.size w0 w) (ho0_2 : Kd.R (Kd.int .i64) 2 w w0.heap.size P0_2_ u9000_ l0_2) (h : spec_l03Swap.f k a0_0 a0_1 l0_2 a1 a2 = some r) :
  Calls Try.prog 68 #[.agg #[.int .i64 a0_0,.int .i64 a0_1,u9000_],.int .i64 a1,.int .i64 a2] w fun e w'=>e = .returned (.tuple #[]) ∧ Kd.R (Kd.int .i64) 2 w' w0.heap.size (fun k_=>(P0_2_ k_ ∨ w.heap.size ≤ k_)) u9000_ r ∧ Below w0.heap.size w0 w' ∧ Kept w w' (fun k_=>P0_2_ k_):=by
 have hu27:=Try.underlying27
 have HO0_2:=Aside0.mk (show Kd.R (Kd.int .i64) 2 w w0.heap.size (fun k_=>(P0_2_ k_ ∨ w.heap.size ≤ k_)) u9000_ l0_2 from Kd.R_mono ho0_2 (fun k_ hk=>(.inl hk)))
 have HK:=Aside0.mk (Kept.refl w (fun k_=>P0_2_ k_))
 have HW0:=Aside0.mk hB.size
 have HB:=Aside0.mk hB
 clear hB
 have H : (spec_l03Swap.l0 k a1 a2 0 a0_0 a0_1 l0_2) = some r:=h
 clear h
 have H':=Aside0.mk H
 clear H
 obtain ⟨Ao4,co4,eo4⟩:=Kd.R_slice HO0_2.out
 subst eo4
 go_enter Try.func68,Try.ntmps68
 go_wp2_with (((with_reducible refine gate_dst (N:=3) rfl ?_);refine box_event ?hg (N:=3) ?hd (cs:=#[.int .i64 a0_0,.int .i64 a0_1,.slice Ao4 l0_2.length co4]) (t:=27) ?hr ?_;(case hd=>rfl);(case hg=>rfl);(case hr=>(go_simp;done));intro gb179 hg w5 hbox hb;replace HO0_2:=Aside0.mk (Kd.R_below HO0_2.out hb);have BK179:=Aside0.mk (hbox);have GW179:=Aside0.mk ((by rw [hg];exact HK.out.1 : w.heap.size ≤ gb179));replace HK:=Aside0.mk (Kept.below (S:=(fun k_=>P0_2_ k_)) HK.out hb);have GE179:=Aside0.mk ((by rw [hg];exact (below_size HB.out) : w0.heap.size ≤ gb179));replace HB:=Aside0.mk (below_step HB.out hb);clear hb hbox hg))
 go_loopg [6] k (fun kq v6 w'=>∃ (x6_1 : Int) (x180002_1 : List Int),v6 = .int .i64 x6_1 ∧ Aside0 (spec_l03Swap.l0 kq a1 a2 x6_1 a0_0 a0_1 x180002_1 = some r) ∧ Aside0 (kq ≤ k) ∧ Aside0 (Kd.R (Kd.int .i64) 2 w' w0.heap.size (fun k_=>(P0_2_ k_ ∨ w.heap.size ≤ k_)) (.slice Ao4 l0_2.length co4) x180002_1) ∧ Aside0 (w'.heap[gb179]? = some (.cells #[.int .i64 a0_0,.int .i64 a0_1,(.slice Ao4 l0_2.length co4)] 27 (0,0))) ∧ Aside0 (Kept w w' (fun k_=>P0_2_ k_)) ∧ Aside0 (Below w0.heap.size w0 w'))
 case atStart=>exact ⟨(0),(l0_2),(by rfl),H',⟨Nat.le_refl _⟩,⟨by exact HO0_2.out⟩,⟨by exact BK179.out⟩,⟨HK.out⟩,⟨HB.out⟩⟩
 case round=>
  clear H'
  obtain ⟨x6_1,x180002_1,rfl,HA,HK1,HO_180002,BK179,HK,HB⟩:=hrel
  have hl180002_1:=(Kd.R_reads' HO_180002.out).1
  rw [hl180002_1] at HO_180002
  (try simp only [hl180002_1])
  (try simp only [hl180002_1] at BK179)
  cases gk with
  | zero=>exact absurd HA.out (by simp [spec_l03Swap.l0])
  | succ k1=>
   have H:=HA.out
   clear HA
   simp only [spec_l03Swap.l0] at H
   by_cases c6 : x6_1 < a0_1
   ·rw [if_pos c6] at H
    have c6b0:=decide_eq_true c6
    clear c6
    replace H:=Option.bind_eq_some_iff.mp H
    obtain ⟨t180,A70,H⟩:=H
    replace H : ((spec_l03At.f a0_0 a0_1 x180002_1 a2 x6_1).bind fun t181=>(if 0 ≤ (wrap64 ((wrap64 (a1 * a0_1)) + x6_1)) then (if (wrap64 ((wrap64 (a1 * a0_1)) + x6_1)) < (x180002_1.length : Int) then (if 0 ≤ (wrap64 ((wrap64 (a2 * a0_1)) + x6_1)) then (if (wrap64 ((wrap64 (a2 * a0_1)) + x6_1)) < (x180002_1.length : Int) then (spec_l03Swap.l0 k1 a1 a2 (wrap64 (x6_1 + 1)) a0_0 a0_1 ((x180002_1.set ((wrap64 ((wrap64 (a1 * a0_1)) + x6_1)) : Int).toNat t181).set ((wrap64 ((wrap64 (a2 * a0_1)) + x6_1)) : Int).toNat t180)) else (none)) else (none)) else (none)) else (none))) = some r:=H
    have A7:=Aside0.mk A70
    clear A70
    replace H:=Option.bind_eq_some_iff.mp H
    obtain ⟨t181,A80,H⟩:=H
    replace H : (if 0 ≤ (wrap64 ((wrap64 (a1 * a0_1)) + x6_1)) then (if (wrap64 ((wrap64 (a1 * a0_1)) + x6_1)) < (x180002_1.length : Int) then (if 0 ≤ (wrap64 ((wrap64 (a2 * a0_1)) + x6_1)) then (if (wrap64 ((wrap64 (a2 * a0_1)) + x6_1)) < (x180002_1.length : Int) then (spec_l03Swap.l0 k1 a1 a2 (wrap64 (x6_1 + 1)) a0_0 a0_1 ((x180002_1.set ((wrap64 ((wrap64 (a1 * a0_1)) + x6_1)) : Int).toNat t181).set ((wrap64 ((wrap64 (a2 * a0_1)) + x6_1)) : Int).toNat t180)) else (none)) else (none)) else (none)) else (none)) = some r:=H
    have A8:=Aside0.mk A80
    clear A80
    obtain ⟨ji9,hji9⟩ : ∃ j_ : Int,(wrap64 ((wrap64 (a1 * a0_1)) + x6_1)) = j_:=⟨_,rfl⟩
    replace H : (if 0 ≤ (ji9) then (if (ji9) < (x180002_1.length : Int) then (if 0 ≤ (wrap64 ((wrap64 (a2 * a0_1)) + x6_1)) then (if (wrap64 ((wrap64 (a2 * a0_1)) + x6_1)) < (x180002_1.length : Int) then (spec_l03Swap.l0 k1 a1 a2 (wrap64 (x6_1 + 1)) a0_0 a0_1 ((x180002_1.set ((ji9) : Int).toNat t181).set ((wrap64 ((wrap64 (a2 * a0_1)) + x6_1)) : Int).toNat t180)) else (none)) else (none)) else (none)) else (none)) = some r:=by (rw [hji9] at H;exact H)
    have hji9w : (IntKind.i64.wrap ((wrap64 (a1 * a0_1)) + x6_1)) = ji9:=(i64_w _).trans hji9
    obtain ⟨c10,H⟩:=nn H
    have c10b0:=decide_eq_true c10
    clear c10
    obtain ⟨c11,H⟩:=nn H
    have c11b0:=decide_eq_true c11
    clear c11
    obtain ⟨y182,hy182⟩ : ∃ y_ : List Int,y_ = (x180002_1.set ((ji9) : Int).toNat t181):=⟨_,rfl⟩
    rw [← hy182] at H
    have Ny182:=Aside0.mk hy182
    clear hy182
    obtain ⟨ji13,hji13⟩ : ∃ j_ : Int,(wrap64 ((wrap64 (a2 * a0_1)) + x6_1)) = j_:=⟨_,rfl⟩
    replace H : (if 0 ≤ (ji13) then (if (ji13) < (x180002_1.length : Int) then (spec_l03Swap.l0 k1 a1 a2 (wrap64 (x6_1 + 1)) a0_0 a0_1 (y182.set ((ji13) : Int).toNat t180)) else (none)) else (none)) = some r:=by (rw [hji13] at H;exact H)
    have hji13w : (IntKind.i64.wrap ((wrap64 (a2 * a0_1)) + x6_1)) = ji13:=(i64_w _).trans hji13
    obtain ⟨c14,H⟩:=nn H
    have c14b0:=decide_eq_true c14
    clear c14
    obtain ⟨c15,H⟩:=nn H
    have c15b0:=decide_eq_true c15
    clear c15
    obtain ⟨y183,hy183⟩ : ∃ y_ : List Int,y_ = (y182.set ((ji13) : Int).toNat t180):=⟨_,rfl⟩
    rw [← hy183] at H
    have Ny183:=Aside0.mk hy183
    clear hy183
    have H':=Aside0.mk H
    clear H
    have hcz17_0 : wr.cell? ⟨gb179,0,none⟩ = some (.int .i64 a0_0):=(blk_cell BK179.out 0).trans rfl
    have hcz17_1 : wr.cell? ⟨gb179,1,none⟩ = some (.int .i64 a0_1):=(blk_cell BK179.out 1).trans rfl
    have hcz17_2 : wr.cell? ⟨gb179,2,none⟩ = some (.slice Ao4 x180002_1.length co4):=(blk_cell BK179.out 2).trans rfl
    have hfz17_0:=blk_frozen BK179.out 0
    have hfz17_1:=blk_frozen BK179.out 1
    have hfz17_2:=blk_frozen BK179.out 2
    go_wp2_with (first|((with_reducible refine gate_callee (f:=67) rfl ?_);refine goesL_ (some 18) rfl rfl Try.func67 (by kernel_rfl) rfl #[.agg #[.int .i64 a0_0,.int .i64 a0_1,.slice Ao4 x180002_1.length co4],.int .i64 a1,.int .i64 x6_1] rfl (by (try simp only [List.map_toArray,List.map_cons,List.map_nil]);rfl) ?_;(with_reducible refine (spec_l03At.calls a0_0 a0_1 _ _ x180002_1 a1 x6_1 t180 _ ?side1 ?side2 A7.out).mono ?_);(case side1=>exact (Kd.R_reads' HO_180002.out).2.2);(case side2=>exact (Kd.R_reads' HO_180002.out).2.1);rintro e w18 ⟨rfl,hb⟩;refine ⟨_,rfl,?_⟩;replace HO_180002:=Aside0.mk (Kd.R_below HO_180002.out hb);replace BK179:=Aside0.mk (blk_below BK179.out hb);replace HK:=Aside0.mk (Kept.below (S:=(fun k_=>P0_2_ k_)) HK.out hb);replace HB:=Aside0.mk (below_step HB.out hb);(try clear hb);have hcz19_0 : w18.cell? ⟨gb179,0,none⟩ = some (.int .i64 a0_0):=(blk_cell BK179.out 0).trans rfl;have hcz19_1 : w18.cell? ⟨gb179,1,none⟩ = some (.int .i64 a0_1):=(blk_cell BK179.out 1).trans rfl;have hcz19_2 : w18.cell? ⟨gb179,2,none⟩ = some (.slice Ao4 x180002_1.length co4):=(blk_cell BK179.out 2).trans rfl;have hfz19_0:=blk_frozen BK179.out 0;have hfz19_1:=blk_frozen BK179.out 1;have hfz19_2:=blk_frozen BK179.out 2)|((with_reducible refine gate_callee (f:=67) rfl ?_);refine goesL_ (some 22) rfl rfl Try.func67 (by kernel_rfl) rfl #[.agg #[.int .i64 a0_0,.int .i64 a0_1,.slice Ao4 x180002_1.length co4],.int .i64 a2,.int .i64 x6_1] rfl (by (try simp only [List.map_toArray,List.map_cons,List.map_nil]);rfl) ?_;(with_reducible refine (spec_l03At.calls a0_0 a0_1 _ _ x180002_1 a2 x6_1 t181 _ ?side1 ?side2 A8.out).mono ?_);(case side1=>exact (Kd.R_reads' HO_180002.out).2.2);(case side2=>exact (Kd.R_reads' HO_180002.out).2.1);rintro e w20 ⟨rfl,hb⟩;refine ⟨_,rfl,?_⟩;replace HO_180002:=Aside0.mk (Kd.R_below HO_180002.out hb);replace BK179:=Aside0.mk (blk_below BK179.out hb);replace HK:=Aside0.mk (Kept.below (S:=(fun k_=>P0_2_ k_)) HK.out hb);replace HB:=Aside0.mk (below_step HB.out hb);(try clear hb);have hcz21_0 : w20.cell? ⟨gb179,0,none⟩ = some (.int .i64 a0_0):=(blk_cell BK179.out 0).trans rfl;have hcz21_1 : w20.cell? ⟨gb179,1,none⟩ = some (.int .i64 a0_1):=(blk_cell BK179.out 1).trans rfl;have hcz21_2 : w20.cell? ⟨gb179,2,none⟩ = some (.slice Ao4 x180002_1.length co4):=(blk_cell BK179.out 2).trans rfl;have hfz21_0:=blk_frozen BK179.out 0;have hfz21_1:=blk_frozen BK179.out 1;have hfz21_2:=blk_frozen BK179.out 2;have p12 : 0 ≤ ((ji9) : Int):=of_decide_eq_true (by with_reducible assumption);have q12 : ((ji9) : Int) < ((x180002_1.length : Int) : Int):=of_decide_eq_true (by with_reducible assumption);obtain ⟨go12,co12,eo12,gb12,gl12,cl12,HG12⟩:=Kd.R_form HO_180002.out (by omega);(cases eo12);have GB12:=Aside0.mk gb12;have GG12:=Aside0.mk HG12;clear gb12 gl12 HG12;have HMgo12:=Aside0.mk (show (P0_2_ go12 ∨ w.heap.size ≤ go12) from (HO_180002.out.1 _ rfl));obtain ⟨hx12_0,hf12_0⟩:=Kd.R_celln 0 HO_180002.out ((ji9) : Int) p12 q12;replace p12:=eq_true p12;replace q12:=eq_true q12;obtain ⟨hy22_,hz22_⟩:=Kd.R_celln 0 HO_180002.out ((ji9) : Int) (of_decide_eq_true (by with_reducible assumption)) (of_decide_eq_true (by with_reducible assumption));have HP22:=Kd.R_putg HO_180002.out ((ji9) : Int) t181)|((with_reducible refine gate_store (t:=2) (p:=32) rfl ?_);refine store_event (t:=2) (p:=32) (v:=?vo_w23) (w1:=(w20.setCell ⟨go12,((ji9) : Int).toNat,none⟩ (.int .i64 t181))) ?hg ?ho ?hn ?hr ?_;(case ho=>rfl);(case hg=>rfl);(case hn=>rfl);(case hr=>(go_simp;done));intro w23 hw;have hg : w20.grownBy w23 (some go12):=(by rw [hw];exact HP22.2);have hp_ : Kd.R (Kd.int .i64) 2 w23 w0.heap.size (fun k_=>(P0_2_ k_ ∨ w.heap.size ≤ k_)) (.slice (some ⟨go12,0,none⟩) x180002_1.length co4) y182:=(by rw [hw,Ny182.out];exact HP22.1);clear HP22;replace BK179:=Aside0.mk (blk_grown (g:=gb179) (o:=.cells #[.int .i64 a0_0,.int .i64 a0_1,.slice (some ⟨go12,0,none⟩) x180002_1.length co4] 27 (0,0)) BK179.out hg (Kd.R_ne HO_180002.out BK179.out (by decide)));replace HB:=Aside0.mk ((by rw [hw];exact below_set (HB.out) GB12.out : Below w0.heap.size w0 w23));replace HK:=Aside0.mk (Kept.of_grown (S:=(fun k_=>P0_2_ k_)) hg HK.out (fun k_ e_=>(HO_180002.out.1 k_ e_)));replace HO_180002:=Aside0.mk (hp_);clear hg hw hp_;have hcz24_0 : w23.cell? ⟨gb179,0,none⟩ = some (.int .i64 a0_0):=(blk_cell BK179.out 0).trans rfl;have hcz24_1 : w23.cell? ⟨gb179,1,none⟩ = some (.int .i64 a0_1):=(blk_cell BK179.out 1).trans rfl;have hcz24_2 : w23.cell? ⟨gb179,2,none⟩ = some (.slice (some ⟨go12,0,none⟩) x180002_1.length co4):=(blk_cell BK179.out 2).trans rfl;have hfz24_0:=blk_frozen BK179.out 0;have hfz24_1:=blk_frozen BK179.out 1;have hfz24_2:=blk_frozen BK179.out 2;have p16 : 0 ≤ ((ji13) : Int):=of_decide_eq_true (by with_reducible assumption);have q16 : ((ji13) : Int) < ((x180002_1.length : Int) : Int):=of_decide_eq_true (by with_reducible assumption);obtain ⟨hx16_0,hf16_0⟩:=Kd.R_celln 0 HO_180002.out ((ji13) : Int) p16 q16;replace p16:=eq_true p16;replace q16:=eq_true q16;obtain ⟨hy25_,hz25_⟩:=Kd.R_celln 0 HO_180002.out ((ji13) : Int) (of_decide_eq_true (by with_reducible assumption)) (of_decide_eq_true (by with_reducible assumption));have HP25:=Kd.R_putg HO_180002.out ((ji13) : Int) t180)|((with_reducible refine gate_store (t:=2) (p:=42) rfl ?_);refine store_event (t:=2) (p:=42) (v:=?vo_w26) (w1:=(w23.setCell ⟨go12,((ji13) : Int).toNat,none⟩ (.int .i64 t180))) ?hg ?ho ?hn ?hr ?_;(case ho=>rfl);(case hg=>rfl);(case hn=>rfl);(case hr=>(go_simp;done));intro w26 hw;have hg : w23.grownBy w26 (some go12):=(by rw [hw];exact HP25.2);have hp_ : Kd.R (Kd.int .i64) 2 w26 w0.heap.size (fun k_=>(P0_2_ k_ ∨ w.heap.size ≤ k_)) (.slice (some ⟨go12,0,none⟩) x180002_1.length co4) y183:=(by rw [hw,Ny183.out];exact HP25.1);clear HP25;replace BK179:=Aside0.mk (blk_grown (g:=gb179) (o:=.cells #[.int .i64 a0_0,.int .i64 a0_1,.slice (some ⟨go12,0,none⟩) x180002_1.length co4] 27 (0,0)) BK179.out hg (Kd.R_ne HO_180002.out BK179.out (by decide)));replace HB:=Aside0.mk ((by rw [hw];exact below_set (HB.out) GB12.out : Below w0.heap.size w0 w26));replace HK:=Aside0.mk (Kept.of_grown (S:=(fun k_=>P0_2_ k_)) hg HK.out (fun k_ e_=>(HO_180002.out.1 k_ e_)));replace HO_180002:=Aside0.mk (hp_);clear hg hw hp_))
    (try simp only [← hl180002_1])
    go_roundg k1
    case measure=>have:=HK1.out;omega
    case rel=>exact ⟨(wrap64 (x6_1 + 1)),(y183),(by rfl),H',⟨by have:=HK1.out;omega⟩,⟨by (try simp only [hl180002_1]);exact HO_180002.out⟩,⟨by (try simp only [hl180002_1]);exact BK179.out⟩,⟨HK.out⟩,⟨HB.out⟩⟩
   ·rw [if_neg c6] at H
    have c6b0:=decide_eq_false c6
    clear c6
    obtain rfl:=Option.some.inj H
    have hcz27_0 : wr.cell? ⟨gb179,0,none⟩ = some (.int .i64 a0_0):=(blk_cell BK179.out 0).trans rfl
    have hcz27_1 : wr.cell? ⟨gb179,1,none⟩ = some (.int .i64 a0_1):=(blk_cell BK179.out 1).trans rfl
    have hcz27_2 : wr.cell? ⟨gb179,2,none⟩ = some (.slice Ao4 x180002_1.length co4):=(blk_cell BK179.out 2).trans rfl
    have hfz27_0:=blk_frozen BK179.out 0
    have hfz27_1:=blk_frozen BK179.out 1
    have hfz27_2:=blk_frozen BK179.out 2
    go_wp2
    go_end0
    exact ⟨by rfl,HO_180002.out,HB.out,HK.out⟩

end Go.Proofs.Ytffhbpepppodeaa.PFnExactDecodeShards
