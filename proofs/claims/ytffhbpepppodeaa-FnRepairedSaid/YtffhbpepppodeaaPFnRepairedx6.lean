import Derived.Test.YtffhbpepppodeaaPFnRepairedx0
import Derived.Test.YtffhbpepppodeaaPFnRepairedx1
import Derived.Test.YtffhbpepppodeaaPFnRepairedx3
import Derived.Test.YtffhbpepppodeaaPFnRepairedx5
namespace Go.Proofs.Ytffhbpepppodeaa.PFnRepaired
private theorem nn {α : Type} {c : Prop} [Decidable c] {a : Option α} {r : α} (h : (if c then a else none) = some r) : c ∧ a = some r:=by
 split at h
 ·exact ⟨‹c›,h⟩
 ·cases h
open Go.RowKit Go.Proofs.YtffhbpepppodeaaW.PrintWords Go.Proofs.YtffhbpepppodeaaW.PrintLast Go.Proofs.YtffhbpepppodeaaW.PrintMore
attribute [local go_sem] max2_int min2_int max_two min_two max_three min_three max_four min_four   -- for this text's walks alone
set_option linter.unusedVariables false
set_option linter.unusedSimpArgs false

/-! ### spec_EncodeShards: function 37 -/
mutual
def spec_EncodeShards.j0 : Nat → List ByteArray → Bool → Int → Int → Int → Option (Int × List ByteArray)
 | 0,_,_,_,_,_=>none
 | k + 1,x1,x17,x173000,x173001,x173002=>if x17 = true then (some (1,([] : List ByteArray))) else (if 0 ≤ (x1.length : Int) then (if ((x1.length : Int) : Int).toNat ≤ 281474976710656 then (spec_EncodeShards.l0 k x1 (List.replicate ((x1.length : Int) : Int).toNat false) 0 x173000 x173001 x173002) else (none)) else (none))
def spec_EncodeShards.l0 : Nat → List ByteArray → List Bool → Int → Int → Int → Int → Option (Int × List ByteArray)
 | 0,_,_,_,_,_,_=>none
 | k + 1,x1,x5,x6,x173000,x173001,x173002=>if x6 < (x5.length : Int) then (if 0 ≤ x6 then (spec_EncodeShards.l0 k x1 (x5.set (x6 : Int).toNat true) (wrap64 (x6 + 1)) x173000 x173001 x173002) else (none)) else ((spec_l04Len.f k x1 x5).bind fun t179=>(if t179 < 0 then (some (2,([] : List ByteArray))) else ((spec_l04All.f k x173000 x173001 x173002 x1 t179).bind fun t180=>(some (0,t180)))))
end
def spec_EncodeShards.f (k : Nat) (a0_0 : Int) (a0_1 : Int) (a0_2 : Int) (l1 : List ByteArray) : Option (Int × List ByteArray):=(spec_CodeFault.f a0_0 a0_1 a0_2).bind fun t174=>(if t174 = 0 then (spec_EncodeShards.j0 k l1 ((l1.length : Int) != a0_0) a0_0 a0_1 a0_2) else (spec_EncodeShards.j0 k l1 true a0_0 a0_1 a0_2))
set_option maxHeartbeats 8000000 in
set_option maxRecDepth 100000 in
theorem spec_EncodeShards.calls (k : Nat) (a0_0 : Int) (a0_1 : Int) (a0_2 : Int) (A1 : Option Addr) (c1 : Nat) (l1 : List ByteArray) (r1 : Int) (r2 : List ByteArray) (w : World) (hr1 : Kd.C Kd.string w A1 l1.length l1) (hc1 : l1.length ≤ c1) (h : spec_EncodeShards.f k a0_0 a0_1 a0_2 l1 = some (r1,r2)) :
  Calls Try.prog 37 #[.agg #[.int .i64 a0_0,.int .i64 a0_1,.int .i64 a0_2],.slice A1 l1.length c1] w fun e w'=>∃ v1_ : Value,e = .returned (.agg #[.int .i64 r1,v1_]) ∧ Kd.R Kd.string 9 w' w.heap.size (fun _=>True) v1_ r2 ∧ Below w.heap.size w w':=by
 have HR1:=M0 hr1
 have HC1:=M0 hc1
 clear hr1 hc1
 have HB:=M0 (Below.refl w.heap.size w)
 have H : ((spec_CodeFault.f a0_0 a0_1 a0_2).bind fun t174=>(if t174 = 0 then (spec_EncodeShards.j0 k l1 ((l1.length : Int) != a0_0) a0_0 a0_1 a0_2) else (spec_EncodeShards.j0 k l1 true a0_0 a0_1 a0_2))) = some (r1,r2):=h
 clear h
 have HC3:=M0 H
 clear H
 go_enter Try.func37,Try.ntmps37
 go_upto_region 1 with (first|((try (refine gate_guard (by rfl) ?_;dsimp only));refine box_event rfl (N:=2) rfl (cs:=#[.int .i64 a0_0,.int .i64 a0_1,.int .i64 a0_2]) (t:=43) (by go_simp) ?_;intro gb172 hg w4 hbox hb;have BK172:=M0 (hbox);replace HB:=M0 (below_step HB.out hb);clear hb hbox hg)|((try (refine gate_guard (by rfl) ?_;dsimp only));refine box_event rfl (N:=4) rfl (cs:=#[.int .i64 0,.slice none 0 0]) (t:=68) (by go_simp) ?_;intro gb173 hg w5 hbox hb;have BK173:=M0 (hbox);have GW173:=M0 ((by rw [hg];exact (below_size HB.out) : w.heap.size ≤ gb173));have GE173:=GW173;replace HB:=M0 (below_step HB.out hb);have NB172_173:=M0 ((by rw [hg];exact Nat.ne_of_lt (blk_lt BK172.out) : gb172 ≠ gb173));replace BK172:=M0 (blk_below BK172.out hb);clear hb hbox hg))
 (try simp only [Act.put,List.setIfInBounds_toArray,List.set_cons_zero,List.set_cons_succ])
 go_cut [17] (fun v17 wc=>∃ (kq : Nat) (x17_2 : Bool),v17 = .bool x17_2 ∧ Aside0 (spec_EncodeShards.j0 kq l1 x17_2 a0_0 a0_1 a0_2 = some (r1,r2)) ∧ Aside0 (kq ≤ k) ∧ Aside0 (wc.heap[gb172]? = some (.cells #[.int .i64 a0_0,.int .i64 a0_1,.int .i64 a0_2] 43 (0,0))) ∧ Aside0 (wc.heap[gb173]? = some (.cells #[.int .i64 0,(.slice none 0 0)] 68 (0,0))) ∧ Aside0 (Below w.heap.size w wc))
 case first=>
  have H:=HC3.out
  clear HC3
  replace H:=Option.bind_eq_some_iff.mp H
  obtain ⟨t174,A60,H⟩:=H
  replace H : (if t174 = 0 then (spec_EncodeShards.j0 k l1 ((l1.length : Int) != a0_0) a0_0 a0_1 a0_2) else (spec_EncodeShards.j0 k l1 true a0_0 a0_1 a0_2)) = some (r1,r2):=H
  have A6:=M0 A60
  clear A60
  by_cases c7 : t174 = 0
  ·rw [if_pos c7] at H
   have c7b1 : (t174 != 0) = false:=bne_eq_false_iff_eq.mpr c7
   clear c7
   (skip)
   have H':=M0 H
   clear H
   have hcz9_0:=bcv (v:=.int .i64 a0_0) BK172.out 0 rfl
   have hcz9_1:=bcv (v:=.int .i64 a0_1) BK172.out 1 rfl
   have hcz9_2:=bcv (v:=.int .i64 a0_2) BK172.out 2 rfl
   go_wp2_with ((refine goesL_ (some 9) rfl rfl Try.func89 (by kernel_rfl) rfl #[.agg #[.int .i64 a0_0,.int .i64 a0_1,.int .i64 a0_2]] rfl (by (try simp only [List.map_toArray,List.map_cons,List.map_nil]);rfl) ?_;(with_reducible refine (spec_CodeFault.calls a0_0 a0_1 a0_2 t174 _ A6.out).mono ?_);rintro e w10 ⟨rfl,hb⟩;refine ⟨_,rfl,?_⟩;replace BK172:=M0 (blk_below BK172.out hb);replace BK173:=M0 (blk_below BK173.out hb);replace HB:=M0 (below_step HB.out hb);clear hb;have hcz11_0:=bcv (v:=.int .i64 a0_0) BK172.out 0 rfl))
   go_meet
   case rel=>exact ⟨_,(((l1.length : Int) != a0_0)),(by rfl),H',⟨by omega⟩,⟨by exact BK172.out⟩,⟨by exact BK173.out⟩,⟨HB.out⟩⟩
  ·rw [if_neg c7] at H
   have c7b1 : (t174 != 0) = true:=bne_iff_ne.mpr c7
   (skip)
   have H':=M0 H
   clear H
   have hcz13_0:=bcv (v:=.int .i64 a0_0) BK172.out 0 rfl
   have hcz13_1:=bcv (v:=.int .i64 a0_1) BK172.out 1 rfl
   have hcz13_2:=bcv (v:=.int .i64 a0_2) BK172.out 2 rfl
   go_wp2_with ((refine goesL_ (some 9) rfl rfl Try.func89 (by kernel_rfl) rfl #[.agg #[.int .i64 a0_0,.int .i64 a0_1,.int .i64 a0_2]] rfl (by (try simp only [List.map_toArray,List.map_cons,List.map_nil]);rfl) ?_;(with_reducible refine (spec_CodeFault.calls a0_0 a0_1 a0_2 t174 _ A6.out).mono ?_);rintro e w14 ⟨rfl,hb⟩;refine ⟨_,rfl,?_⟩;replace BK172:=M0 (blk_below BK172.out hb);replace BK173:=M0 (blk_below BK173.out hb);replace HB:=M0 (below_step HB.out hb);clear hb))
   go_meet
   case rel=>exact ⟨_,(true),(by rfl),H',⟨by omega⟩,⟨by exact BK172.out⟩,⟨by exact BK173.out⟩,⟨HB.out⟩⟩
 case rest=>
  clear HC3
  obtain ⟨kq,x17_2,rfl,HA,HJ2,BK172,BK173,HB⟩:=hcut
  cases kq with
  | zero=>exact absurd HA.out (by simp [spec_EncodeShards.j0])
  | succ kj2=>
   have H:=HA.out
   clear HA
   simp only [spec_EncodeShards.j0] at H
   by_cases c15 : x17_2 = true
   ·subst c15
    have H1 : (some (1,([] : List ByteArray))) = some (r1,r2):=by rw [if_pos rfl] at H;exact H
    clear H
    have H:=H1
    clear H1
    simp only [Option.some.injEq,Prod.mk.injEq] at H
    obtain ⟨rfl,rfl⟩:=H
    have hcz17_0:=bcv (v:=.int .i64 0) BK173.out 0 rfl
    have hcz17_1:=bcv (v:=.slice none 0 0) BK173.out 1 rfl
    have hfz17_0:=blk_frozen BK173.out 0
    have hfz17_1:=blk_frozen BK173.out 1
    go_wp2
    refine bodyPost_ret (results_cell_row rfl _ _ gb173 68 #[.int .i64 1,.slice none 0 0] (0,0) _ rfl (by refine blk_put (cs:=#[.int .i64 1,.slice none 0 0]) ?_ 1 _ rfl;refine blk_put (cs:=#[.int .i64 0,.slice none 0 0]) ?_ 0 _ rfl;exact BK173.out) Try.underlying68 rfl (by kernel_rfl)) rfl ?_
    exact ⟨_,by rfl,by exact Kd.R_nil _ _ _ _ _,by repeat ((with_reducible first|exact HB.out|refine below_set ?_ GE173.out))⟩
   ·replace c15:=Bool.eq_false_iff.mpr c15
    subst c15
    have H1 : (if 0 ≤ (l1.length : Int) then (if ((l1.length : Int) : Int).toNat ≤ 281474976710656 then (spec_EncodeShards.l0 kj2 l1 (List.replicate ((l1.length : Int) : Int).toNat false) 0 a0_0 a0_1 a0_2) else (none)) else (none)) = some (r1,r2):=by rw [if_neg (show ¬ (false = true) by decide)] at H;exact H
    clear H
    have H:=H1
    clear H1
    obtain ⟨c18,H⟩:=nn H
    have c18b0:=eq_true c18
    have c18b1:=decide_eq_true c18
    clear c18
    obtain ⟨c19,H⟩:=nn H
    have c19b0:=eq_true c19
    have c19b1:=decide_eq_true c19
    clear c19
    obtain ⟨y175,hy175⟩ : ∃ y_ : List Bool,y_ = (List.replicate ((l1.length : Int) : Int).toNat false):=⟨_,rfl⟩
    rw [← hy175] at H
    have Ny175:=M0 hy175
    clear hy175
    have H':=M0 H
    clear H
    go_wp2_with (((try (refine gate_guard (by rfl) ?_;dsimp only));refine Kd.R_make Kd.bool _ 4 rfl (N:=21) rfl 72 _ _ rfl (l1.length : Int) rfl rfl Try.underlying72 (.bool false) 1 info4 rfl (by decide) (by omega) false (ok:=fun _=>True) (okp:=fun _=>True) rfl (fun _ hk=>hk) trivial (of_decide_eq_true (by with_reducible assumption)) (Nat.le_trans (Nat.mul_le_mul_right _ (of_decide_eq_true (by with_reducible assumption) : (l1.length : Int).toNat ≤ 281474976710656)) (by omega)) (Below.refl _ _) (Nat.le_refl _) ?_;intro v176 w20 ho21 hb hg_ hnew_;clear hg_ hnew_;(rw [← Ny175.out] at ho21);have HO177:=M0 (Kd.R_lower ho21 (below_size HB.out));replace BK172:=M0 (blk_below BK172.out hb);replace BK173:=M0 (blk_below BK173.out hb);replace HB:=M0 (below_step HB.out hb);clear hb ho21))
    go_loopg [6] kj2 (fun kq v6 w'=>∃ (x5_2 : List Bool) (x6_2 : Int),v6 = .int .i64 x6_2 ∧ Aside0 (spec_EncodeShards.l0 kq l1 x5_2 x6_2 a0_0 a0_1 a0_2 = some (r1,r2)) ∧ Aside0 (kq ≤ kj2) ∧ Aside0 (Kd.R Kd.bool 4 w' w.heap.size (fun _=>True) v176 x5_2) ∧ Aside0 (w'.heap[gb172]? = some (.cells #[.int .i64 a0_0,.int .i64 a0_1,.int .i64 a0_2] 43 (0,0))) ∧ Aside0 (w'.heap[gb173]? = some (.cells #[.int .i64 0,(.slice none 0 0)] 68 (0,0))) ∧ Aside0 (Below w.heap.size w w'))
    case atStart=>exact ⟨(y175),(0),(by rfl),H',⟨Nat.le_refl _⟩,⟨by exact HO177.out⟩,⟨by exact BK172.out⟩,⟨by exact BK173.out⟩,⟨HB.out⟩⟩
    case round=>
     clear H'
     (try clear c18b0);(try clear c18b1);(try clear c19b0);(try clear c19b1)
     obtain ⟨x5_2,x6_2,rfl,HA,HK2,HO_5,BK172,BK173,HB⟩:=hrel
     cases gk with
     | zero=>exact absurd HA.out (by simp [spec_EncodeShards.l0])
     | succ k2=>
      have H:=HA.out
      clear HA
      simp only [spec_EncodeShards.l0] at H
      by_cases c22 : x6_2 < (x5_2.length : Int)
      ·rw [if_pos c22] at H
       have c22b0:=decide_eq_true c22
       clear c22
       obtain ⟨c23,H⟩:=nn H
       have c23b0:=decide_eq_true c23
       clear c23
       obtain ⟨y178,hy178⟩ : ∃ y_ : List Bool,y_ = (x5_2.set (x6_2 : Int).toNat true):=⟨_,rfl⟩
       rw [← hy178] at H
       have Ny178:=M0 hy178
       clear hy178
       have H':=M0 H
       clear H
       obtain ⟨Ao25,co25,eo25⟩:=Kd.R_slice HO_5.out
       subst eo25
       have p24 : 0 ≤ (x6_2 : Int):=of_decide_eq_true (by with_reducible assumption)
       have q24 : (x6_2 : Int) < ((x5_2.length : Int) : Int):=of_decide_eq_true (by with_reducible assumption)
       obtain ⟨go24,co24,eo24,gb24,gl24,cl24,HG24⟩:=Kd.R_form HO_5.out (by omega)
       (cases eo24)
       have GB24:=M0 gb24
       have GG24:=M0 HG24
       clear gb24 gl24 HG24
       obtain ⟨hx24_0,hf24_0⟩:=Kd.R_celln false HO_5.out (x6_2 : Int) p24 q24
       replace p24:=eq_true p24
       replace q24:=eq_true q24
       have HP26:=Kd.R_putg HO_5.out (x6_2 : Int) true
       go_wp2_with ((refine store_event (t:=4) (p:=30) (v:=?vo_w27) (w1:=(wr.setCell ⟨go24,(x6_2 : Int).toNat,none⟩ (.bool true))) ?hg ?ho ?hn ?hr ?_;(case ho=>rfl);(case hg=>rfl);(case hn=>rfl);(case hr=>(go_simp;done));intro w27 hw;have hg : wr.grownBy w27 (some go24):=(by rw [hw];exact HP26.2);have hp_ : Kd.R Kd.bool 4 w27 w.heap.size (fun _=>True) (.slice (some ⟨go24,0,none⟩) x5_2.length co25) y178:=(by rw [hw,Ny178.out];exact HP26.1);clear HP26;replace BK172:=M0 (blk_grown (g:=gb172) (o:=.cells #[.int .i64 a0_0,.int .i64 a0_1,.int .i64 a0_2] 43 (0,0)) BK172.out hg (Kd.R_ne HO_5.out BK172.out (by decide)));replace BK173:=M0 (blk_grown (g:=gb173) (o:=.cells #[.int .i64 0,.slice none 0 0] 68 (0,0)) BK173.out hg (Kd.R_ne HO_5.out BK173.out (by decide)));replace HO_5:=M0 (hp_);replace HB:=M0 ((by rw [hw];exact below_set (HB.out) GB24.out : Below w.heap.size w w27));clear hg hw hp_))
       go_roundg k2
       case measure=>have:=HJ2.out;have:=HK2.out;omega
       case rel=>exact ⟨(y178),(wrap64 (x6_2 + 1)),(by rfl),H',⟨by have:=HJ2.out;have:=HK2.out;omega⟩,⟨by exact HO_5.out⟩,⟨by exact BK172.out⟩,⟨by exact BK173.out⟩,⟨HB.out⟩⟩
      ·rw [if_neg c22] at H
       have c22b0:=decide_eq_false c22
       clear c22
       replace H:=Option.bind_eq_some_iff.mp H
       obtain ⟨t179,A280,H⟩:=H
       replace H : (if t179 < 0 then (some (2,([] : List ByteArray))) else ((spec_l04All.f k2 a0_0 a0_1 a0_2 l1 t179).bind fun t180=>(some (0,t180)))) = some (r1,r2):=H
       have A28:=M0 A280
       clear A280
       by_cases c29 : t179 < 0
       ·rw [if_pos c29] at H
        have c29b0:=decide_eq_true c29
        clear c29
        simp only [Option.some.injEq,Prod.mk.injEq] at H
        obtain ⟨rfl,rfl⟩:=H
        obtain ⟨Ao30,co30,eo30⟩:=Kd.R_slice HO_5.out
        subst eo30
        go_wp2_with ((refine goesL_ (some 33) rfl rfl Try.func90 (by kernel_rfl) rfl #[.slice A1 l1.length c1,.slice Ao30 x5_2.length co30] rfl (by (try simp only [List.map_toArray,List.map_cons,List.map_nil]);rfl) ?_;(with_reducible refine (spec_l04Len.calls k2 _ _ l1 _ _ x5_2 t179 _ (Kd.C_below HR1.out HB.out) HC1.out (Kd.R_reads' HO_5.out).2.2 (Kd.R_reads' HO_5.out).2.1 A28.out).mono ?_);rintro e w' ⟨rfl,⟨nd,rfl⟩⟩;refine ⟨_,rfl,?_⟩;(try (rw [drewN_self wr];generalize hq_ : World.drewN wr _ = wr;have n0_ : Aside0 (Kd.R Kd.bool 4 wr w.heap.size (fun _=>True) (.slice Ao30 x5_2.length co30) x5_2):=⟨by rw [← hq_];exact (by (with_reducible repeat (apply Kd.R_drewN));exact HO_5.out)⟩;have n1_ : Aside0 (wr.heap[gb172]? = some (.cells #[.int .i64 a0_0,.int .i64 a0_1,.int .i64 a0_2] 43 (0,0))):=⟨by rw [← hq_];exact (by (with_reducible repeat (refine blk_drewN ?_ _));exact BK172.out)⟩;have n2_ : Aside0 (wr.heap[gb173]? = some (.cells #[.int .i64 0,.slice none 0 0] 68 (0,0))):=⟨by rw [← hq_];exact (by (with_reducible repeat (refine blk_drewN ?_ _));exact BK173.out)⟩;have n3_ : Aside0 (Below w.heap.size w wr):=⟨by rw [← hq_];exact (by repeat ((with_reducible first|exact HB.out|apply pw_below_drewN)))⟩;clear HO_5 BK172 BK173 HB hq_;have HO_5:=n0_;have BK172:=n1_;have BK173:=n2_;have HB:=n3_;clear n0_ n1_ n2_ n3_));have hcz32_0:=bcv (v:=.int .i64 0) BK173.out 0 rfl;have hcz32_1:=bcv (v:=.slice none 0 0) BK173.out 1 rfl;have hfz32_0:=blk_frozen BK173.out 0;have hfz32_1:=blk_frozen BK173.out 1))
        refine bodyPost_ret (results_cell_row rfl _ _ gb173 68 #[.int .i64 2,.slice none 0 0] (0,0) _ rfl (by refine blk_put (cs:=#[.int .i64 2,.slice none 0 0]) ?_ 1 _ rfl;refine blk_put (cs:=#[.int .i64 0,.slice none 0 0]) ?_ 0 _ rfl;exact BK173.out) Try.underlying68 rfl (by kernel_rfl)) rfl ?_
        exact ⟨_,by rfl,by exact Kd.R_nil _ _ _ _ _,by repeat ((with_reducible first|exact HB.out|refine below_set ?_ GE173.out))⟩
       ·rw [if_neg c29] at H
        have c29b0:=decide_eq_false c29
        clear c29
        replace H:=Option.bind_eq_some_iff.mp H
        obtain ⟨t180,A330,H⟩:=H
        replace H : (some (0,t180)) = some (r1,r2):=H
        have A33:=M0 A330
        clear A330
        simp only [Option.some.injEq,Prod.mk.injEq] at H
        obtain ⟨rfl,rfl⟩:=H
        obtain ⟨Ao34,co34,eo34⟩:=Kd.R_slice HO_5.out
        subst eo34
        go_wp2_with (first|(refine goesL_ (some 33) rfl rfl Try.func90 (by kernel_rfl) rfl #[.slice A1 l1.length c1,.slice Ao34 x5_2.length co34] rfl (by (try simp only [List.map_toArray,List.map_cons,List.map_nil]);rfl) ?_;(with_reducible refine (spec_l04Len.calls k2 _ _ l1 _ _ x5_2 t179 _ (Kd.C_below HR1.out HB.out) HC1.out (Kd.R_reads' HO_5.out).2.2 (Kd.R_reads' HO_5.out).2.1 A28.out).mono ?_);rintro e w' ⟨rfl,⟨nd,rfl⟩⟩;refine ⟨_,rfl,?_⟩;(try (rw [drewN_self wr];generalize hq_ : World.drewN wr _ = wr;have n0_ : Aside0 (Kd.R Kd.bool 4 wr w.heap.size (fun _=>True) (.slice Ao34 x5_2.length co34) x5_2):=⟨by rw [← hq_];exact (by (with_reducible repeat (apply Kd.R_drewN));exact HO_5.out)⟩;have n1_ : Aside0 (wr.heap[gb172]? = some (.cells #[.int .i64 a0_0,.int .i64 a0_1,.int .i64 a0_2] 43 (0,0))):=⟨by rw [← hq_];exact (by (with_reducible repeat (refine blk_drewN ?_ _));exact BK172.out)⟩;have n2_ : Aside0 (wr.heap[gb173]? = some (.cells #[.int .i64 0,.slice none 0 0] 68 (0,0))):=⟨by rw [← hq_];exact (by (with_reducible repeat (refine blk_drewN ?_ _));exact BK173.out)⟩;have n3_ : Aside0 (Below w.heap.size w wr):=⟨by rw [← hq_];exact (by repeat ((with_reducible first|exact HB.out|apply pw_below_drewN)))⟩;clear HO_5 BK172 BK173 HB hq_;have HO_5:=n0_;have BK172:=n1_;have BK173:=n2_;have HB:=n3_;clear n0_ n1_ n2_ n3_));have hcz36_0:=bcv (v:=.int .i64 a0_0) BK172.out 0 rfl;have hcz36_1:=bcv (v:=.int .i64 a0_1) BK172.out 1 rfl;have hcz36_2:=bcv (v:=.int .i64 a0_2) BK172.out 2 rfl)|(refine goesL_ (some 40) rfl rfl Try.func91 (by kernel_rfl) rfl #[.agg #[.int .i64 a0_0,.int .i64 a0_1,.int .i64 a0_2],.slice A1 l1.length c1,.int .i64 t179] rfl (by (try simp only [List.map_toArray,List.map_cons,List.map_nil]);rfl) ?_;(with_reducible refine (spec_l04All.calls k2 a0_0 a0_1 a0_2 _ _ l1 t179 t180 _ (Kd.C_below HR1.out HB.out) HC1.out A33.out).mono ?_);rintro e w37 ⟨v181,rfl,ho0,hb⟩;refine ⟨_,rfl,?_⟩;replace HO_5:=M0 (Kd.R_below HO_5.out hb);have HO182:=M0 (Kd.R_lower ho0 (below_size HB.out));replace BK172:=M0 (blk_below BK172.out hb);replace BK173:=M0 (blk_below BK173.out hb);replace HB:=M0 (below_step HB.out hb);clear hb ho0;obtain ⟨Ao38,co38,eo38⟩:=Kd.R_slice HO182.out;subst eo38;have hcz39_0:=bcv (v:=.int .i64 0) BK173.out 0 rfl;have hcz39_1:=bcv (v:=.slice none 0 0) BK173.out 1 rfl;have hfz39_0:=blk_frozen BK173.out 0;have hfz39_1:=blk_frozen BK173.out 1))
        refine bodyPost_ret (results_cell_row rfl _ _ gb173 68 #[.int .i64 0,.slice Ao38 t180.length co38] (0,0) _ rfl (by refine blk_put (cs:=#[.int .i64 0,.slice none 0 0]) ?_ 1 _ rfl;refine blk_put (cs:=#[.int .i64 0,.slice none 0 0]) ?_ 0 _ rfl;exact BK173.out) Try.underlying68 rfl (by kernel_rfl)) rfl ?_
        exact ⟨_,by rfl,by exact Kd.R_mono (Kd.R_far (p:=⟨gb173,1,none⟩) (Kd.R_far (p:=⟨gb173,0,none⟩) (Kd.R_types HO182.out BK173.out (by decide)) (fun _ hk=>hk.2) (.int .i64 0)) (fun _ hk=>hk.2) (.slice Ao38 t180.length co38)) (fun _ hk=>trivial),by repeat ((with_reducible first|exact HB.out|refine below_set ?_ GE173.out))⟩

/-! ### impl_CodeSize: function 92 -/
def impl_CodeSize.f (a0_0 : Int) (a0_1 : Int) (a0_2 : Int) : Option (Int):=(impl_CodeFault.f a0_0 a0_1 a0_2).bind fun t184=>(if t184 = 0 then (some (wrap64 ((wrap64 (a0_0 + a0_1)) + a0_2))) else (some 0))
set_option maxHeartbeats 8000000 in
set_option maxRecDepth 100000 in
theorem impl_CodeSize.calls (a0_0 : Int) (a0_1 : Int) (a0_2 : Int) (r : Int) (w : World) (h : impl_CodeSize.f a0_0 a0_1 a0_2 = some r) :
  Calls Try.prog 92 #[.agg #[.int .i64 a0_0,.int .i64 a0_1,.int .i64 a0_2]] w fun e w'=>e = .returned (.int .i64 r) ∧ Below w.heap.size w w':=by
 have HB:=M0 (Below.refl w.heap.size w)
 have H : ((impl_CodeFault.f a0_0 a0_1 a0_2).bind fun t184=>(if t184 = 0 then (some (wrap64 ((wrap64 (a0_0 + a0_1)) + a0_2))) else (some 0))) = some r:=h
 clear h
 replace H:=Option.bind_eq_some_iff.mp H
 obtain ⟨t184,A20,H⟩:=H
 replace H : (if t184 = 0 then (some (wrap64 ((wrap64 (a0_0 + a0_1)) + a0_2))) else (some 0)) = some r:=H
 have A2:=M0 A20
 clear A20
 by_cases c3 : t184 = 0
 ·rw [if_pos c3] at H
  have c3b1 : (t184 != 0) = false:=bne_eq_false_iff_eq.mpr c3
  clear c3
  obtain rfl:=Option.some.inj H
  go_enter Try.func92,Try.ntmps92
  go_wp2_with (first|(refine box_event rfl (N:=1) rfl (cs:=#[.int .i64 a0_0,.int .i64 a0_1,.int .i64 a0_2]) (t:=43) (by go_simp) ?_;intro gb183 hg w4 hbox hb;have BK183:=M0 (hbox);replace HB:=M0 (below_step HB.out hb);clear hb hbox hg;have hcz5_0:=bcv (v:=.int .i64 a0_0) BK183.out 0 rfl;have hcz5_1:=bcv (v:=.int .i64 a0_1) BK183.out 1 rfl;have hcz5_2:=bcv (v:=.int .i64 a0_2) BK183.out 2 rfl)|(refine goesL_ (some 4) rfl rfl Try.func87 (by kernel_rfl) rfl #[.agg #[.int .i64 a0_0,.int .i64 a0_1,.int .i64 a0_2]] rfl (by (try simp only [List.map_toArray,List.map_cons,List.map_nil]);rfl) ?_;(with_reducible refine (impl_CodeFault.calls a0_0 a0_1 a0_2 t184 _ A2.out).mono ?_);rintro e w6 ⟨rfl,hb⟩;refine ⟨_,rfl,?_⟩;replace BK183:=M0 (blk_below BK183.out hb);replace HB:=M0 (below_step HB.out hb);clear hb;have hcz7_0:=bcv (v:=.int .i64 a0_0) BK183.out 0 rfl;have hcz7_1:=bcv (v:=.int .i64 a0_1) BK183.out 1 rfl;have hcz7_2:=bcv (v:=.int .i64 a0_2) BK183.out 2 rfl))
  go_ret
  exact ⟨by rfl,HB.out⟩
 ·rw [if_neg c3] at H
  have c3b1 : (t184 != 0) = true:=bne_iff_ne.mpr c3
  obtain rfl:=Option.some.inj H
  go_enter Try.func92,Try.ntmps92
  go_wp2_with (first|(refine box_event rfl (N:=1) rfl (cs:=#[.int .i64 a0_0,.int .i64 a0_1,.int .i64 a0_2]) (t:=43) (by go_simp) ?_;intro gb183 hg w8 hbox hb;have BK183:=M0 (hbox);replace HB:=M0 (below_step HB.out hb);clear hb hbox hg;have hcz9_0:=bcv (v:=.int .i64 a0_0) BK183.out 0 rfl;have hcz9_1:=bcv (v:=.int .i64 a0_1) BK183.out 1 rfl;have hcz9_2:=bcv (v:=.int .i64 a0_2) BK183.out 2 rfl)|(refine goesL_ (some 4) rfl rfl Try.func87 (by kernel_rfl) rfl #[.agg #[.int .i64 a0_0,.int .i64 a0_1,.int .i64 a0_2]] rfl (by (try simp only [List.map_toArray,List.map_cons,List.map_nil]);rfl) ?_;(with_reducible refine (impl_CodeFault.calls a0_0 a0_1 a0_2 t184 _ A2.out).mono ?_);rintro e w10 ⟨rfl,hb⟩;refine ⟨_,rfl,?_⟩;replace BK183:=M0 (blk_below BK183.out hb);replace HB:=M0 (below_step HB.out hb);clear hb))
  go_ret
  exact ⟨by rfl,HB.out⟩

/-! ### impl_leadOf: function 129 -/



end Go.Proofs.Ytffhbpepppodeaa.PFnRepaired
