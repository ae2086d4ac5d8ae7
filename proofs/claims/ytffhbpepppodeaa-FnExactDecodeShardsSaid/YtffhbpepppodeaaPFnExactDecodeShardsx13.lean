import Derived.Test.YtffhbpepppodeaaPFnExactDecodeShardsx0
import Derived.Test.YtffhbpepppodeaaPFnExactDecodeShardsx3
import Derived.Test.YtffhbpepppodeaaPFnExactDecodeShardsx5
import Derived.Test.YtffhbpepppodeaaPFnExactDecodeShardsx9
import Derived.Test.YtffhbpepppodeaaPFnExactDecodeShardsx10
import Derived.Test.YtffhbpepppodeaaPFnExactDecodeShardsx12
namespace Go.Proofs.Ytffhbpepppodeaa.PFnExactDecodeShards
private theorem nn {α : Type} {c : Prop} [Decidable c] {a : Option α} {r : α} (h : (if c then a else none) = some r) : c ∧ a = some r:=by
 split at h
 ·exact ⟨‹c›,h⟩
 ·cases h
open Go.RowKit Go.Proofs.YtffhbpepppodeaaW.PrintWords Go.Proofs.YtffhbpepppodeaaW.PrintLast Go.Proofs.YtffhbpepppodeaaW.PrintMore
attribute [local go_sem] max2_int min2_int max_two min_two max_three min_three max_four min_four   -- for this text's walks alone
set_option linter.unusedVariables false
set_option linter.unusedSimpArgs false

/-! ### spec_DecodeShards: function 44 -/
mutual
def spec_DecodeShards.j0 : Nat → List (S61) → Bool → Int → Int → Int → Option (Int × List ByteArray)
 | 0,_,_,_,_,_=>none
 | k + 1,x1,x20,x317000,x317001,x317002=>if x20 = true then (some (1,([] : List ByteArray))) else ((spec_l04Split.f k x1).bind fun bt320=>((spec_l04Len.f k bt320.1 bt320.2).bind fun t326=>(spec_DecodeShards.l0 k bt320.1 bt320.2 t326 false 0 x317000 x317001 x317002)))
def spec_DecodeShards.l0 : Nat → List ByteArray → List Bool → Int → Bool → Int → Int → Int → Int → Option (Int × List ByteArray)
 | 0,_,_,_,_,_,_,_,_=>none
 | k + 1,x5,x6,x7,x8,x9,x317000,x317001,x317002=>if x9 < (x6.length : Int) then (if x8 = true then (spec_DecodeShards.l0 k x5 x6 x7 true (wrap64 (x9 + 1)) x317000 x317001 x317002) else (if 0 ≤ x9 then (spec_DecodeShards.l0 k x5 x6 x7 (rdOf false x6 x9) (wrap64 (x9 + 1)) x317000 x317001 x317002) else (none))) else (if x7 < 0 then (spec_DecodeShards.j2 k x5 x6 x7 x8 x317000 x317001 x317002) else (spec_DecodeShards.j2 k x5 x6 x7 false x317000 x317001 x317002))
def spec_DecodeShards.j2 : Nat → List ByteArray → List Bool → Int → Bool → Int → Int → Int → Option (Int × List ByteArray)
 | 0,_,_,_,_,_,_,_=>none
 | k + 1,x5,x6,x7,x47,x317000,x317001,x317002=>if x47 = true then (some (2,([] : List ByteArray))) else ((spec_l04Take.f k x317000 x317001 x317002 x6).bind fun t328=>(if (t328.length : Int) = 0 then (some (8,([] : List ByteArray))) else ((spec_l04Data.f k x317000 x317001 x317002 x5 t328 x7).bind fun t331=>((spec_l04All.f k x317000 x317001 x317002 t331 x7).bind fun t334=>(some (0,t334))))))
end
def spec_DecodeShards.f (k : Nat) (a0_0 : Int) (a0_1 : Int) (a0_2 : Int) (l1 : List (S61)) : Option (Int × List ByteArray):=(spec_CodeFault.f a0_0 a0_1 a0_2).bind fun t318=>(if t318 = 0 then ((spec_CodeSize.f a0_0 a0_1 a0_2).bind fun t319=>(spec_DecodeShards.j0 k l1 ((l1.length : Int) != t319) a0_0 a0_1 a0_2)) else (spec_DecodeShards.j0 k l1 true a0_0 a0_1 a0_2))
def spec_DecodeShards.T15 : Bool × List (List Nat × List Nat):=(true,[([],[]),([],[]),([],[]),([],[]),([],[]),([1,2,3,4],[1,2,3,4]),([],[]),([0,5,6,5],[0,5,6]),([7],[7]),([8,7,0,1,2,3,4,5,6,7,8],[8])])
def spec_DecodeShards.B15 : List Nat:=[0,0,0,0,0,30,0,127,255,511]
theorem spec_DecodeShards.tab15 : rtab .any (opsOf Try.f44 15) = spec_DecodeShards.T15:=by kernel_rfl
theorem spec_DecodeShards.bits15 : waitsOk spec_DecodeShards.T15.2 spec_DecodeShards.B15 = true:=by kernel_rfl
set_option maxHeartbeats 8000000 in
set_option maxRecDepth 100000 in
theorem spec_DecodeShards.calls (k : Nat) (a0_0 : Int) (a0_1 : Int) (a0_2 : Int) (A1 : Option Addr) (c1 : Nat) (l1 : List (S61)) (r1 : Int) (r2 : List ByteArray) (w : World) (hr1 : Kd.C k61 w A1 l1.length l1) (hc1 : l1.length ≤ c1) (h : spec_DecodeShards.f k a0_0 a0_1 a0_2 l1 = some (r1,r2)) :
  Calls Try.prog 44 #[.agg #[.int .i64 a0_0,.int .i64 a0_1,.int .i64 a0_2],.slice A1 l1.length c1] w fun e w'=>∃ v1_ : Value,e = .returned (.agg #[.int .i64 r1,v1_]) ∧ Kd.R Kd.string 9 w' w.heap.size (fun _=>True) v1_ r2 ∧ Below w.heap.size w w':=by
 have hu43:=Try.underlying43
 have hu68:=Try.underlying68
 have HR1:=Aside0.mk hr1
 have HC1:=Aside0.mk hc1
 clear hr1 hc1
 have HB:=Aside0.mk (Below.refl w.heap.size w)
 have H : ((spec_CodeFault.f a0_0 a0_1 a0_2).bind fun t318=>(if t318 = 0 then ((spec_CodeSize.f a0_0 a0_1 a0_2).bind fun t319=>(spec_DecodeShards.j0 k l1 ((l1.length : Int) != t319) a0_0 a0_1 a0_2)) else (spec_DecodeShards.j0 k l1 true a0_0 a0_1 a0_2))) = some (r1,r2):=h
 clear h
 have HC3:=Aside0.mk H
 clear H
 go_enter Try.func44,Try.ntmps44
 go_upto_region 1 with (first|((with_reducible refine gate_dst (N:=2) rfl ?_);(try (refine gate_guard (by rfl) ?_;dsimp only));refine box_event ?hg (N:=2) ?hd (cs:=#[.int .i64 a0_0,.int .i64 a0_1,.int .i64 a0_2]) (t:=43) ?hr ?_;(case hd=>rfl);(case hg=>rfl);(case hr=>(go_simp;done));intro gb316 hg w4 hbox hb;have BK316:=Aside0.mk (hbox);have GW316:=Aside0.mk ((by rw [hg];exact (below_size HB.out) : w.heap.size ≤ gb316));have GE316:=Aside0.mk ((by rw [hg];exact (below_size HB.out) : w.heap.size ≤ gb316));replace HB:=Aside0.mk (below_step HB.out hb);clear hb hbox hg)|((with_reducible refine gate_dst (N:=4) rfl ?_);(try (refine gate_guard (by rfl) ?_;dsimp only));refine box_event ?hg (N:=4) ?hd (cs:=#[.int .i64 0,.slice none 0 0]) (t:=68) ?hr ?_;(case hd=>rfl);(case hg=>rfl);(case hr=>(go_simp;done));intro gb317 hg w5 hbox hb;have BK317:=Aside0.mk (hbox);have GW317:=Aside0.mk ((by rw [hg];exact (below_size HB.out) : w.heap.size ≤ gb317));have GE317:=Aside0.mk ((by rw [hg];exact (below_size HB.out) : w.heap.size ≤ gb317));replace HB:=Aside0.mk (below_step HB.out hb);have NB316_317:=Aside0.mk ((by rw [hg];exact Nat.ne_of_lt (blk_lt BK316.out) : gb316 ≠ gb317));have NB317_316:=Aside0.mk ((by rw [hg];exact Nat.ne_of_gt (blk_lt BK316.out) : gb317 ≠ gb316));replace BK316:=Aside0.mk (blk_below BK316.out hb);clear hb hbox hg))
 (try simp only [Act.put,List.setIfInBounds_toArray,List.set_cons_zero,List.set_cons_succ])
 go_cut [20] (fun v20 wc=>∃ (kq : Nat) (x20_2 : Bool),v20 = .bool x20_2 ∧ Aside0 (spec_DecodeShards.j0 kq l1 x20_2 a0_0 a0_1 a0_2 = some (r1,r2)) ∧ Aside0 (kq ≤ k) ∧ Aside0 (wc.heap[gb316]? = some (.cells #[.int .i64 a0_0,.int .i64 a0_1,.int .i64 a0_2] 43 (0,0))) ∧ Aside0 (wc.heap[gb317]? = some (.cells #[.int .i64 0,(.slice none 0 0)] 68 (0,0))) ∧ Aside0 (Below w.heap.size w wc))
 case first=>
  have H:=HC3.out
  clear HC3
  replace H:=Option.bind_eq_some_iff.mp H
  obtain ⟨t318,A60,H⟩:=H
  replace H : (if t318 = 0 then ((spec_CodeSize.f a0_0 a0_1 a0_2).bind fun t319=>(spec_DecodeShards.j0 k l1 ((l1.length : Int) != t319) a0_0 a0_1 a0_2)) else (spec_DecodeShards.j0 k l1 true a0_0 a0_1 a0_2)) = some (r1,r2):=H
  have A6:=Aside0.mk A60
  clear A60
  by_cases c7 : t318 = 0
  ·rw [if_pos c7] at H
   have c7b0 : (t318 == 0) = true:=beq_iff_eq.mpr c7
   have c7b1 : (t318 != 0) = false:=bne_eq_false_iff_eq.mpr c7
   clear c7
   (skip)
   replace H:=Option.bind_eq_some_iff.mp H
   obtain ⟨t319,A80,H⟩:=H
   replace H : (spec_DecodeShards.j0 k l1 ((l1.length : Int) != t319) a0_0 a0_1 a0_2) = some (r1,r2):=H
   have A8:=Aside0.mk A80
   clear A80
   have H':=Aside0.mk H
   clear H
   have hnb9:=NB316_317.out
   have hnc9:=NB317_316.out
   have hcz10_0 : w5.cell? ⟨gb316,0,none⟩ = some (.int .i64 a0_0):=(blk_cell BK316.out 0).trans rfl
   have hcz10_1 : w5.cell? ⟨gb316,1,none⟩ = some (.int .i64 a0_1):=(blk_cell BK316.out 1).trans rfl
   have hcz10_2 : w5.cell? ⟨gb316,2,none⟩ = some (.int .i64 a0_2):=(blk_cell BK316.out 2).trans rfl
   have hfz10_0:=blk_frozen BK316.out 0
   have hfz10_1:=blk_frozen BK316.out 1
   have hfz10_2:=blk_frozen BK316.out 2
   go_wp2_with (first|((with_reducible refine gate_callee (f:=89) rfl ?_);refine goesL_ (some 12) rfl rfl Try.func89 (by kernel_rfl) rfl #[.agg #[.int .i64 a0_0,.int .i64 a0_1,.int .i64 a0_2]] rfl (by (try simp only [List.map_toArray,List.map_cons,List.map_nil]);rfl) ?_;(with_reducible refine (spec_CodeFault.calls a0_0 a0_1 a0_2 t318 _ A6.out).mono ?_);rintro e w11 ⟨rfl,hb⟩;refine ⟨_,rfl,?_⟩;replace BK316:=Aside0.mk (blk_below BK316.out hb);replace BK317:=Aside0.mk (blk_below BK317.out hb);replace HB:=Aside0.mk (below_step HB.out hb);(try clear hb);have hcz12_0 : w11.cell? ⟨gb316,0,none⟩ = some (.int .i64 a0_0):=(blk_cell BK316.out 0).trans rfl;have hcz12_1 : w11.cell? ⟨gb316,1,none⟩ = some (.int .i64 a0_1):=(blk_cell BK316.out 1).trans rfl;have hcz12_2 : w11.cell? ⟨gb316,2,none⟩ = some (.int .i64 a0_2):=(blk_cell BK316.out 2).trans rfl;have hfz12_0:=blk_frozen BK316.out 0;have hfz12_1:=blk_frozen BK316.out 1;have hfz12_2:=blk_frozen BK316.out 2)|(go_at_call 97;(with_reducible refine (spec_CodeSize.calls a0_0 a0_1 a0_2 t319 _ A8.out).mono ?_);rintro e w13 ⟨rfl,hb⟩;replace BK316:=Aside0.mk (blk_below BK316.out hb);replace BK317:=Aside0.mk (blk_below BK317.out hb);replace HB:=Aside0.mk (below_step HB.out hb);(try clear hb)))
   go_meet
   case rel=>exact ⟨_,(((l1.length : Int) != t319)),(by rfl),H',⟨by omega⟩,⟨by exact BK316.out⟩,⟨by exact BK317.out⟩,⟨HB.out⟩⟩
  ·rw [if_neg c7] at H
   have c7b0 : (t318 == 0) = false:=beq_eq_false_iff_ne.mpr c7
   have c7b1 : (t318 != 0) = true:=bne_iff_ne.mpr c7
   (skip)
   have H':=Aside0.mk H
   clear H
   have hnb14:=NB316_317.out
   have hnc14:=NB317_316.out
   have hcz15_0 : w5.cell? ⟨gb316,0,none⟩ = some (.int .i64 a0_0):=(blk_cell BK316.out 0).trans rfl
   have hcz15_1 : w5.cell? ⟨gb316,1,none⟩ = some (.int .i64 a0_1):=(blk_cell BK316.out 1).trans rfl
   have hcz15_2 : w5.cell? ⟨gb316,2,none⟩ = some (.int .i64 a0_2):=(blk_cell BK316.out 2).trans rfl
   have hfz15_0:=blk_frozen BK316.out 0
   have hfz15_1:=blk_frozen BK316.out 1
   have hfz15_2:=blk_frozen BK316.out 2
   go_wp2_with (((with_reducible refine gate_callee (f:=89) rfl ?_);refine goesL_ (some 12) rfl rfl Try.func89 (by kernel_rfl) rfl #[.agg #[.int .i64 a0_0,.int .i64 a0_1,.int .i64 a0_2]] rfl (by (try simp only [List.map_toArray,List.map_cons,List.map_nil]);rfl) ?_;(with_reducible refine (spec_CodeFault.calls a0_0 a0_1 a0_2 t318 _ A6.out).mono ?_);rintro e w16 ⟨rfl,hb⟩;refine ⟨_,rfl,?_⟩;replace BK316:=Aside0.mk (blk_below BK316.out hb);replace BK317:=Aside0.mk (blk_below BK317.out hb);replace HB:=Aside0.mk (below_step HB.out hb);(try clear hb)))
   go_meet
   case rel=>exact ⟨_,(true),(by rfl),H',⟨by omega⟩,⟨by exact BK316.out⟩,⟨by exact BK317.out⟩,⟨HB.out⟩⟩
 case rest=>
  clear HC3
  obtain ⟨kq,x20_2,rfl,HA,HJ2,BK316,BK317,HB⟩:=hcut
  cases kq with
  | zero=>exact absurd HA.out (by simp [spec_DecodeShards.j0])
  | succ kj2=>
   have H:=HA.out
   clear HA
   simp only [spec_DecodeShards.j0] at H
   by_cases c17 : x20_2 = true
   ·subst c17
    have H1 : (some (1,([] : List ByteArray))) = some (r1,r2):=by rw [if_pos rfl] at H;exact H
    clear H
    have H:=H1
    clear H1
    simp only [Option.some.injEq,Prod.mk.injEq] at H
    obtain ⟨rfl,rfl⟩:=H
    have hnb18:=NB317_316.out
    have hnc18:=NB316_317.out
    have hcz19_0 : wc.cell? ⟨gb317,0,none⟩ = some (.int .i64 0):=(blk_cell BK317.out 0).trans rfl
    have hcz19_1 : wc.cell? ⟨gb317,1,none⟩ = some (.slice none 0 0):=(blk_cell BK317.out 1).trans rfl
    have hfz19_0:=blk_frozen BK317.out 0
    have hfz19_1:=blk_frozen BK317.out 1
    go_wp2
    refine bodyPost_ret (results_cell_row rfl _ _ gb317 68 #[.int .i64 1,.slice none 0 0] (0,0) _ rfl (by refine blk_put (cs:=#[.int .i64 1,.slice none 0 0]) ?_ 1 _ rfl;refine blk_put (cs:=#[.int .i64 0,.slice none 0 0]) ?_ 0 _ rfl;exact BK317.out) Try.underlying68 rfl (by kernel_rfl)) rfl ?_
    exact ⟨_,by rfl,by exact Kd.R_nil _ _ _ _ _,by repeat ((with_reducible first|exact HB.out|refine below_set ?_ GE317.out))⟩
   ·replace c17:=Bool.eq_false_iff.mpr c17
    subst c17
    have H1 : ((spec_l04Split.f kj2 l1).bind fun bt320=>((spec_l04Len.f kj2 bt320.1 bt320.2).bind fun t326=>(spec_DecodeShards.l0 kj2 bt320.1 bt320.2 t326 false 0 a0_0 a0_1 a0_2))) = some (r1,r2):=by rw [if_neg (show ¬ (false = true) by decide)] at H;exact H
    clear H
    have H:=H1
    clear H1
    replace H:=Option.bind_eq_some_iff.mp H
    obtain ⟨⟨t320,t321⟩,A200,H⟩:=H
    dsimp only at H
    have A20:=Aside0.mk A200
    clear A200
    replace H:=Option.bind_eq_some_iff.mp H
    obtain ⟨t326,A210,H⟩:=H
    replace H : (spec_DecodeShards.l0 kj2 t320 t321 t326 false 0 a0_0 a0_1 a0_2) = some (r1,r2):=H
    have A21:=Aside0.mk A210
    clear A210
    have H':=Aside0.mk H
    clear H
    go_wp2_with (first|((with_reducible refine gate_callee (f:=103) rfl ?_);refine goesL_ (some 24) rfl rfl Try.func103 (by kernel_rfl) rfl #[.slice A1 l1.length c1] rfl (by (try simp only [List.map_toArray,List.map_cons,List.map_nil]);rfl) ?_;(with_reducible refine (spec_l04Split.calls kj2 _ _ l1 t320 t321 _ ?side1 ?side2 A20.out).mono ?_);(case side1=>exact (Kd.C_below HR1.out HB.out));(case side2=>exact HC1.out);rintro e w22 ⟨v322,v324,rfl,ho0,ho1,hb⟩;refine ⟨_,rfl,?_⟩;have HO323:=Aside0.mk (Kd.R_lower ho0 (below_size HB.out));have HO325:=Aside0.mk (Kd.R_lower ho1 (below_size HB.out));replace BK316:=Aside0.mk (blk_below BK316.out hb);replace BK317:=Aside0.mk (blk_below BK317.out hb);replace HB:=Aside0.mk (below_step HB.out hb);(try clear hb);(try clear ho0);(try clear ho1);obtain ⟨Ao23,co23,eo23⟩:=Kd.R_slice HO323.out;subst eo23;obtain ⟨Ao24,co24,eo24⟩:=Kd.R_slice HO325.out;subst eo24)|((with_reducible refine gate_callee (f:=90) rfl ?_);refine goesL_ (some 29) rfl rfl Try.func90 (by kernel_rfl) rfl #[.slice Ao23 t320.length co23,.slice Ao24 t321.length co24] rfl (by (try simp only [List.map_toArray,List.map_cons,List.map_nil]);rfl) ?_;(with_reducible refine (spec_l04Len.calls kj2 _ _ t320 _ _ t321 t326 _ ?side1 ?side2 ?side3 ?side4 A21.out).mono ?_);(case side1=>exact (Kd.R_reads' HO323.out).2.2);(case side2=>exact (Kd.R_reads' HO323.out).2.1);(case side3=>exact (Kd.R_reads' HO325.out).2.2);(case side4=>exact (Kd.R_reads' HO325.out).2.1);rintro e w' ⟨rfl,⟨nd,rfl⟩⟩;refine ⟨_,rfl,?_⟩))
    go_loopg [8,9] kj2 (fun kq v8 v9 w'=>∃ (x8_2 : Bool) (x9_2 : Int),v8 = .bool x8_2 ∧ v9 = .int .i64 x9_2 ∧ Aside0 (spec_DecodeShards.l0 kq t320 t321 t326 x8_2 x9_2 a0_0 a0_1 a0_2 = some (r1,r2)) ∧ Aside0 (kq ≤ kj2) ∧ Aside0 (Kd.R Kd.string 9 w' w.heap.size (fun _=>True) (.slice Ao23 t320.length co23) t320) ∧ Aside0 (Kd.R Kd.bool 4 w' w.heap.size (fun _=>True) (.slice Ao24 t321.length co24) t321) ∧ Aside0 (w'.heap[gb316]? = some (.cells #[.int .i64 a0_0,.int .i64 a0_1,.int .i64 a0_2] 43 (0,0))) ∧ Aside0 (w'.heap[gb317]? = some (.cells #[.int .i64 0,(.slice none 0 0)] 68 (0,0))) ∧ Aside0 (Below w.heap.size w w'))
    case atStart=>exact ⟨(false),(0),(by rfl),(by rfl),H',⟨Nat.le_refl _⟩,⟨by (with_reducible repeat (apply Kd.R_drewN));exact HO323.out⟩,⟨by (with_reducible repeat (apply Kd.R_drewN));exact HO325.out⟩,⟨by (with_reducible repeat (refine blk_drewN ?_ _));exact BK316.out⟩,⟨by (with_reducible repeat (refine blk_drewN ?_ _));exact BK317.out⟩,⟨by repeat ((with_reducible first|exact HB.out|apply pw_below_drewN))⟩⟩
    case round=>
     clear H'
     obtain ⟨x8_2,x9_2,rfl,rfl,HA,HK2,HO_5,HO_6,BK316,BK317,HB⟩:=hrel
     cases gk with
     | zero=>exact absurd HA.out (by simp [spec_DecodeShards.l0])
     | succ k2=>
      have H:=HA.out
      clear HA
      simp only [spec_DecodeShards.l0] at H
      by_cases c25 : x9_2 < (t321.length : Int)
      ·rw [if_pos c25] at H
       have c25b0:=decide_eq_true c25
       clear c25
       by_cases c26 : x8_2 = true
       ·subst c26
        have H1 : (spec_DecodeShards.l0 k2 t320 t321 t326 true (wrap64 (x9_2 + 1)) a0_0 a0_1 a0_2) = some (r1,r2):=by rw [if_pos rfl] at H;exact H
        clear H
        have H:=H1
        clear H1
        have H':=Aside0.mk H
        clear H
        go_wp2
        go_roundg k2
        case measure=>have:=HJ2.out;have:=HK2.out;omega
        case rel=>exact ⟨(true),(wrap64 (x9_2 + 1)),(by rfl),(by rfl),H',⟨by have:=HJ2.out;have:=HK2.out;omega⟩,⟨by exact HO_5.out⟩,⟨by exact HO_6.out⟩,⟨by exact BK316.out⟩,⟨by exact BK317.out⟩,⟨HB.out⟩⟩
       ·replace c26:=Bool.eq_false_iff.mpr c26
        subst c26
        have H1 : (if 0 ≤ x9_2 then (spec_DecodeShards.l0 k2 t320 t321 t326 (rdOf false t321 x9_2) (wrap64 (x9_2 + 1)) a0_0 a0_1 a0_2) else (none)) = some (r1,r2):=by rw [if_neg (show ¬ (false = true) by decide)] at H;exact H
        clear H
        have H:=H1
        clear H1
        obtain ⟨c27,H⟩:=nn H
        have c27b0:=decide_eq_true c27
        clear c27
        have H':=Aside0.mk H
        clear H
        have p327 : 0 ≤ (x9_2 : Int):=of_decide_eq_true (by with_reducible assumption)
        have q327 : x9_2 < (t321.length : Int):=of_decide_eq_true (by with_reducible assumption)
        obtain ⟨ad327,e327,hx327_0⟩:=Kd.at_bool (Kd.R_reads' HO_6.out).2.2 x9_2 p327 q327
        cases e327
        replace p327:=eq_true p327
        replace q327:=eq_true q327
        go_wp2
        go_roundg k2
        case measure=>have:=HJ2.out;have:=HK2.out;omega
        case rel=>exact ⟨(rdOf false t321 x9_2),(wrap64 (x9_2 + 1)),(by rfl),(by rfl),H',⟨by have:=HJ2.out;have:=HK2.out;omega⟩,⟨by exact HO_5.out⟩,⟨by exact HO_6.out⟩,⟨by exact BK316.out⟩,⟨by exact BK317.out⟩,⟨HB.out⟩⟩
      ·rw [if_neg c25] at H
       have c25b0:=decide_eq_false c25
       clear c25
       have HC28:=Aside0.mk H
       clear H
       go_upto_region 10 with (fail)
       go_cut [47] (fun v47 wc=>∃ (kq : Nat) (x47_27 : Bool),v47 = .bool x47_27 ∧ Aside0 (spec_DecodeShards.j2 kq t320 t321 t326 x47_27 a0_0 a0_1 a0_2 = some (r1,r2)) ∧ Aside0 (kq ≤ k2) ∧ Aside0 (Kd.R Kd.string 9 wc w.heap.size (fun _=>True) (.slice Ao23 t320.length co23) t320) ∧ Aside0 (Kd.R Kd.bool 4 wc w.heap.size (fun _=>True) (.slice Ao24 t321.length co24) t321) ∧ Aside0 (wc.heap[gb316]? = some (.cells #[.int .i64 a0_0,.int .i64 a0_1,.int .i64 a0_2] 43 (0,0))) ∧ Aside0 (wc.heap[gb317]? = some (.cells #[.int .i64 0,(.slice none 0 0)] 68 (0,0))) ∧ Aside0 (Below w.heap.size w wc))
       case first=>
        have H:=HC28.out
        clear HC28
        by_cases c29 : t326 < 0
        ·rw [if_pos c29] at H
         have c29b0:=decide_eq_true c29
         clear c29
         (skip)
         have H':=Aside0.mk H
         clear H
         go_wp2
         go_meet
         case rel=>exact ⟨_,(x8_2),(by rfl),H',⟨by have:=HJ2.out;have:=HK2.out;omega⟩,⟨by exact HO_5.out⟩,⟨by exact HO_6.out⟩,⟨by exact BK316.out⟩,⟨by exact BK317.out⟩,⟨HB.out⟩⟩
        ·rw [if_neg c29] at H
         have c29b0:=decide_eq_false c29
         clear c29
         (skip)
         have H':=Aside0.mk H
         clear H
         go_wp2
         go_meet
         case rel=>exact ⟨_,(false),(by rfl),H',⟨by have:=HJ2.out;have:=HK2.out;omega⟩,⟨by exact HO_5.out⟩,⟨by exact HO_6.out⟩,⟨by exact BK316.out⟩,⟨by exact BK317.out⟩,⟨HB.out⟩⟩
       case rest=>
        clear HC28
        (try clear c25b0)
        obtain ⟨kq,x47_27,rfl,HA,HJ27,HO_5,HO_6,BK316,BK317,HB⟩:=hcut
        cases kq with
        | zero=>exact absurd HA.out (by simp [spec_DecodeShards.j2])
        | succ kj27=>
         have H:=HA.out
         clear HA
         simp only [spec_DecodeShards.j2] at H
         by_cases c30 : x47_27 = true
         ·subst c30
          have H1 : (some (2,([] : List ByteArray))) = some (r1,r2):=by rw [if_pos rfl] at H;exact H
          clear H
          have H:=H1
          clear H1
          simp only [Option.some.injEq,Prod.mk.injEq] at H
          obtain ⟨rfl,rfl⟩:=H
          have hnb31:=NB317_316.out
          have hnc31:=NB316_317.out
          have hcz32_0 : wc.cell? ⟨gb317,0,none⟩ = some (.int .i64 0):=(blk_cell BK317.out 0).trans rfl
          have hcz32_1 : wc.cell? ⟨gb317,1,none⟩ = some (.slice none 0 0):=(blk_cell BK317.out 1).trans rfl
          have hfz32_0:=blk_frozen BK317.out 0
          have hfz32_1:=blk_frozen BK317.out 1
          go_wp2
          refine bodyPost_ret (results_cell_row rfl _ _ gb317 68 #[.int .i64 2,.slice none 0 0] (0,0) _ rfl (by refine blk_put (cs:=#[.int .i64 2,.slice none 0 0]) ?_ 1 _ rfl;refine blk_put (cs:=#[.int .i64 0,.slice none 0 0]) ?_ 0 _ rfl;exact BK317.out) Try.underlying68 rfl (by kernel_rfl)) rfl ?_
          exact ⟨_,by rfl,by exact Kd.R_nil _ _ _ _ _,by repeat ((with_reducible first|exact HB.out|refine below_set ?_ GE317.out))⟩
         ·replace c30:=Bool.eq_false_iff.mpr c30
          subst c30
          have H1 : ((spec_l04Take.f kj27 a0_0 a0_1 a0_2 t321).bind fun t328=>(if (t328.length : Int) = 0 then (some (8,([] : List ByteArray))) else ((spec_l04Data.f kj27 a0_0 a0_1 a0_2 t320 t328 t326).bind fun t331=>((spec_l04All.f kj27 a0_0 a0_1 a0_2 t331 t326).bind fun t334=>(some (0,t334)))))) = some (r1,r2):=by rw [if_neg (show ¬ (false = true) by decide)] at H;exact H
          clear H
          have H:=H1
          clear H1
          replace H:=Option.bind_eq_some_iff.mp H
          obtain ⟨t328,A330,H⟩:=H
          replace H : (if (t328.length : Int) = 0 then (some (8,([] : List ByteArray))) else ((spec_l04Data.f kj27 a0_0 a0_1 a0_2 t320 t328 t326).bind fun t331=>((spec_l04All.f kj27 a0_0 a0_1 a0_2 t331 t326).bind fun t334=>(some (0,t334))))) = some (r1,r2):=H
          have A33:=Aside0.mk A330
          clear A330
          by_cases c34 : (t328.length : Int) = 0
          ·rw [if_pos c34] at H
           have c34b0 : ((t328.length : Int) == 0) = true:=beq_iff_eq.mpr c34
           have c34b1 : ((t328.length : Int) != 0) = false:=bne_eq_false_iff_eq.mpr c34
           clear c34
           simp only [Option.some.injEq,Prod.mk.injEq] at H
           obtain ⟨rfl,rfl⟩:=H
           have hnb35:=NB316_317.out
           have hnc35:=NB317_316.out
           have hcz36_0 : wc.cell? ⟨gb316,0,none⟩ = some (.int .i64 a0_0):=(blk_cell BK316.out 0).trans rfl
           have hcz36_1 : wc.cell? ⟨gb316,1,none⟩ = some (.int .i64 a0_1):=(blk_cell BK316.out 1).trans rfl
           have hcz36_2 : wc.cell? ⟨gb316,2,none⟩ = some (.int .i64 a0_2):=(blk_cell BK316.out 2).trans rfl
           have hfz36_0:=blk_frozen BK316.out 0
           have hfz36_1:=blk_frozen BK316.out 1
           have hfz36_2:=blk_frozen BK316.out 2
           go_wp2_with (((with_reducible refine gate_callee (f:=99) rfl ?_);refine goesL_ (some 51) rfl rfl Try.func99 (by kernel_rfl) rfl #[.agg #[.int .i64 a0_0,.int .i64 a0_1,.int .i64 a0_2],.slice Ao24 t321.length co24] rfl (by (try simp only [List.map_toArray,List.map_cons,List.map_nil]);rfl) ?_;(with_reducible refine (spec_l04Take.calls kj27 a0_0 a0_1 a0_2 _ _ t321 t328 _ ?side1 ?side2 A33.out).mono ?_);(case side1=>exact (Kd.R_reads' HO_6.out).2.2);(case side2=>exact (Kd.R_reads' HO_6.out).2.1);rintro e w37 ⟨v329,rfl,ho0,hb⟩;refine ⟨_,rfl,?_⟩;replace HO_5:=Aside0.mk (Kd.R_below HO_5.out hb);replace HO_6:=Aside0.mk (Kd.R_below HO_6.out hb);have HO330:=Aside0.mk (Kd.R_lower ho0 (below_size HB.out));replace BK316:=Aside0.mk (blk_below BK316.out hb);replace BK317:=Aside0.mk (blk_below BK317.out hb);replace HB:=Aside0.mk (below_step HB.out hb);(try clear hb);(try clear ho0);obtain ⟨Ao38,co38,eo38⟩:=Kd.R_slice HO330.out;subst eo38;have hcz39_0 : w37.cell? ⟨gb317,0,none⟩ = some (.int .i64 0):=(blk_cell BK317.out 0).trans rfl;have hcz39_1 : w37.cell? ⟨gb317,1,none⟩ = some (.slice none 0 0):=(blk_cell BK317.out 1).trans rfl;have hfz39_0:=blk_frozen BK317.out 0;have hfz39_1:=blk_frozen BK317.out 1))
           refine bodyPost_ret (results_cell_row rfl _ _ gb317 68 #[.int .i64 8,.slice none 0 0] (0,0) _ rfl (by refine blk_put (cs:=#[.int .i64 8,.slice none 0 0]) ?_ 1 _ rfl;refine blk_put (cs:=#[.int .i64 0,.slice none 0 0]) ?_ 0 _ rfl;exact BK317.out) Try.underlying68 rfl (by kernel_rfl)) rfl ?_
           exact ⟨_,by rfl,by exact Kd.R_nil _ _ _ _ _,by repeat ((with_reducible first|exact HB.out|refine below_set ?_ GE317.out))⟩
          ·rw [if_neg c34] at H
           have c34b0 : ((t328.length : Int) == 0) = false:=beq_eq_false_iff_ne.mpr c34
           have c34b1 : ((t328.length : Int) != 0) = true:=bne_iff_ne.mpr c34
           have c34b2 : ¬ (t328 = []):=fun h_=>c34 (by rw [h_];rfl)
           replace H:=Option.bind_eq_some_iff.mp H
           obtain ⟨t331,A400,H⟩:=H
           replace H : ((spec_l04All.f kj27 a0_0 a0_1 a0_2 t331 t326).bind fun t334=>(some (0,t334))) = some (r1,r2):=H
           have A40:=Aside0.mk A400
           clear A400
           replace H:=Option.bind_eq_some_iff.mp H
           obtain ⟨t334,A410,H⟩:=H
           replace H : (some (0,t334)) = some (r1,r2):=H
           have A41:=Aside0.mk A410
           clear A410
           simp only [Option.some.injEq,Prod.mk.injEq] at H
           obtain ⟨rfl,rfl⟩:=H
           have hnb42:=NB316_317.out
           have hnc42:=NB317_316.out
           have hcz43_0 : wc.cell? ⟨gb316,0,none⟩ = some (.int .i64 a0_0):=(blk_cell BK316.out 0).trans rfl
           have hcz43_1 : wc.cell? ⟨gb316,1,none⟩ = some (.int .i64 a0_1):=(blk_cell BK316.out 1).trans rfl
           have hcz43_2 : wc.cell? ⟨gb316,2,none⟩ = some (.int .i64 a0_2):=(blk_cell BK316.out 2).trans rfl
           have hfz43_0:=blk_frozen BK316.out 0
           have hfz43_1:=blk_frozen BK316.out 1
           have hfz43_2:=blk_frozen BK316.out 2
           try go_wp2_with (((with_reducible refine gate_callee (f:=99) rfl ?_);refine goesL_ (some 51) rfl rfl Try.func99 (by kernel_rfl) rfl #[.agg #[.int .i64 a0_0,.int .i64 a0_1,.int .i64 a0_2],.slice Ao24 t321.length co24] rfl (by (try simp only [List.map_toArray,List.map_cons,List.map_nil]);rfl) ?_;(with_reducible refine (spec_l04Take.calls kj27 a0_0 a0_1 a0_2 _ _ t321 t328 _ ?side1 ?side2 A33.out).mono ?_);(case side1=>exact (Kd.R_reads' HO_6.out).2.2);(case side2=>exact (Kd.R_reads' HO_6.out).2.1);rintro e w44 ⟨v329,rfl,ho0,hb⟩;refine ⟨_,rfl,?_⟩;replace HO_5:=Aside0.mk (Kd.R_below HO_5.out hb);replace HO_6:=Aside0.mk (Kd.R_below HO_6.out hb);have HO330:=Aside0.mk (Kd.R_lower ho0 (below_size HB.out));replace BK316:=Aside0.mk (blk_below BK316.out hb);replace BK317:=Aside0.mk (blk_below BK317.out hb);replace HB:=Aside0.mk (below_step HB.out hb);(try clear hb);(try clear ho0);obtain ⟨Ao45,co45,eo45⟩:=Kd.R_slice HO330.out;subst eo45))
           replace HO_5:=Aside0.mk (Kd.R_drew HO_5.out)
           replace HO_6:=Aside0.mk (Kd.R_drew HO_6.out)
           replace HO330:=Aside0.mk (Kd.R_drew HO330.out)
           replace BK316:=Aside0.mk (blk_drew BK316.out)
           replace BK317:=Aside0.mk (blk_drew BK317.out)
           replace HB:=Aside0.mk (below_drew1 HB.out)
           refine start_ (n:=10) (S:=fun w'=>w'.cell? ⟨gb316,0,none⟩ = some (.int .i64 a0_0) ∧ w'.cell? ⟨gb316,1,none⟩ = some (.int .i64 a0_1) ∧ w'.cell? ⟨gb316,2,none⟩ = some (.int .i64 a0_2)) (ds:=[]) #[false,false,false,false,false,false,false,false,false,false] (by kernel_rfl) rfl rfl ⟨(blk_cell BK316.out 0).trans rfl,(blk_cell BK316.out 1).trans rfl,(blk_cell BK316.out 2).trans rfl⟩ (fun hHeld=>?_);refine with_tabW spec_DecodeShards.tab15 spec_DecodeShards.bits15 (fun HT_ HW_=>?_)
           generalize w44.drew = w46 at HO_5 HO_6 HO330 BK316 BK317 HB hHeld ⊢
           refine pure_ (i:=2) (N:=some 58) #[false,false,true,false,false,false,false,false,false,false] rfl rfl (any_of HT_.out (by kernel_rfl)) (fun _ _ _ h=>h) (Or.inl ⟨by rfl,by intro w';go_simp;with_reducible rfl⟩) (by simp only [Act.put,List.setIfInBounds_toArray,List.set_cons_zero,List.set_cons_succ,i64_w,i32_w];rfl) ?_
           refine pure_ (i:=3) (N:=some 59) #[false,false,true,true,false,false,false,false,false,false] rfl rfl (any_of HT_.out (by kernel_rfl)) (fun _ _ _ h=>h) (Or.inl ⟨by rfl,by intro w';go_simp;with_reducible rfl⟩) (by simp only [Act.put,List.setIfInBounds_toArray,List.set_cons_zero,List.set_cons_succ,i64_w,i32_w];rfl) ?_
           refine pure_ (i:=4) (N:=some 60) #[false,false,true,true,true,false,false,false,false,false] rfl rfl (any_of HT_.out (by kernel_rfl)) (fun _ _ _ h=>h) (Or.inl ⟨by rfl,by intro w';go_simp;with_reducible rfl⟩) (by simp only [Act.put,List.setIfInBounds_toArray,List.set_cons_zero,List.set_cons_succ,i64_w,i32_w];rfl) ?_
           refine pure_ (i:=6) (N:=some 62) #[false,false,true,true,true,false,true,false,false,false] rfl rfl (any_of HT_.out (by kernel_rfl)) (fun _ _ _ h=>h) (Or.inl ⟨by rfl,by intro w';go_simp;with_reducible rfl⟩) (by simp only [Act.put,List.setIfInBounds_toArray,List.set_cons_zero,List.set_cons_succ,i64_w,i32_w];rfl) ?_
           refine take_ (i:=0) (N:=some 56) #[true,false,true,true,true,false,true,false,false,false] rfl rfl (take_ofW HT_.out HW_.out (by kernel_rfl)) (fun _ _ _ h=>h) (Or.inl ⟨by rfl,by rintro w' ⟨s0,s1,s2⟩;go_simp;with_reducible rfl⟩) hHeld (by simp only [Act.put,List.setIfInBounds_toArray,List.set_cons_zero,List.set_cons_succ,i64_w,i32_w];rfl) ?_
           refine take_ (i:=1) (N:=some 57) #[true,true,true,true,true,false,true,false,false,false] rfl rfl (take_ofW HT_.out HW_.out (by kernel_rfl)) (fun _ _ _ h=>h) (Or.inl ⟨by rfl,by rintro w' ⟨s0,s1,s2⟩;go_simp;with_reducible rfl⟩) hHeld (by simp only [Act.put,List.setIfInBounds_toArray,List.set_cons_zero,List.set_cons_succ,i64_w,i32_w];rfl) ?_
           refine one_ (i:=5) (N:=some 61) #[true,true,true,true,true,true,true,false,false,false] rfl rfl (one_of HT_.out (by kernel_rfl)) (by decide) (fun K hK=>?_)
           refine goes_ Try.func104 (by kernel_rfl) rfl #[.agg #[.int .i64 a0_0,.int .i64 a0_1,.int .i64 a0_2],.slice Ao23 t320.length co23,.slice Ao45 t328.length co45,.int .i64 t326] (by rfl) rfl rfl (by (try simp only [List.map_toArray,List.map_cons,List.map_nil]);rfl) ?_
           with_reducible refine (spec_l04Data.calls kj27 a0_0 a0_1 a0_2 _ _ t320 _ _ t328 t326 t331 _ ?side1 ?side2 ?side3 ?side4 A40.out).mono ?_
           (case side1=>exact (Kd.R_reads' HO_5.out).2.2)
           (case side2=>exact (Kd.R_reads' HO_5.out).2.1)
           (case side3=>exact (Kd.R_reads' HO330.out).2.2)
           (case side4=>exact (Kd.R_reads' HO330.out).2.1)
           rintro e w47 ⟨v332,rfl,ho0,hb⟩
           refine ⟨_,rfl,?_⟩
           replace HO_6:=Aside0.mk (Kd.R_below HO_6.out hb)
           replace HO330:=Aside0.mk (Kd.R_below HO330.out hb)
           have HO333:=Aside0.mk (Kd.R_lower (Kd.R_new' ho0 (Kd.R_lt HO_5.out)) (below_size HB.out))
           replace HO_5:=Aside0.mk (Kd.R_elder' HO_5.out (Kd.R_base ho0) hb)
           replace BK316:=Aside0.mk (blk_below BK316.out hb)
           replace BK317:=Aside0.mk (blk_below BK317.out hb)
           replace HB:=Aside0.mk (below_step HB.out hb)
           (try clear hb);(try clear ho0)
           obtain ⟨Ao48,co48,eo48⟩:=Kd.R_slice HO333.out
           (subst eo48)
           refine hK.out _ _ ⟨(blk_cell BK316.out 0).trans rfl,(blk_cell BK316.out 1).trans rfl,(blk_cell BK316.out 2).trans rfl⟩ (fun hHeld=>?_)
           clear hK K
           refine norm_ (a':=?_) ?_ ?_
           rotate_left
           ·show Act.put _ (some 61) _ = _
            simp only [Act.put,List.setIfInBounds_toArray,List.set_cons_zero,List.set_cons_succ,i64_w,i32_w]
            rfl
           refine one_ (i:=7) (N:=some 63) #[true,true,true,true,true,true,true,true,false,false] rfl rfl (one_of HT_.out (by kernel_rfl)) (by decide) (fun K hK=>?_)
           refine goes_ Try.func91 (by kernel_rfl) rfl #[.agg #[.int .i64 a0_0,.int .i64 a0_1,.int .i64 a0_2],.slice Ao48 t331.length co48,.int .i64 t326] (by rfl) rfl rfl (by (try simp only [List.map_toArray,List.map_cons,List.map_nil]);rfl) ?_
           with_reducible refine (spec_l04All.calls kj27 a0_0 a0_1 a0_2 _ _ t331 t326 t334 _ ?side1 ?side2 A41.out).mono ?_
           (case side1=>exact (Kd.R_reads' HO333.out).2.2)
           (case side2=>exact (Kd.R_reads' HO333.out).2.1)
           rintro e w49 ⟨v335,rfl,ho0,hb⟩
           refine ⟨_,rfl,?_⟩
           replace HO_6:=Aside0.mk (Kd.R_below HO_6.out hb)
           replace HO330:=Aside0.mk (Kd.R_below HO330.out hb)
           have HO336:=Aside0.mk (Kd.R_lower (Kd.R_new' (Kd.R_new' ho0 (Kd.R_lt HO_5.out)) (Kd.R_lt HO333.out)) (below_size HB.out))
           replace HO_5:=Aside0.mk (Kd.R_elder' HO_5.out (Kd.R_base ho0) hb)
           replace HO333:=Aside0.mk (Kd.R_elder' HO333.out (Kd.R_base ho0) hb)
           replace BK316:=Aside0.mk (blk_below BK316.out hb)
           replace BK317:=Aside0.mk (blk_below BK317.out hb)
           replace HB:=Aside0.mk (below_step HB.out hb)
           (try clear hb);(try clear ho0)
           obtain ⟨Ao50,co50,eo50⟩:=Kd.R_slice HO336.out
           (subst eo50)
           refine hK.out _ _ ⟨(blk_cell BK316.out 0).trans rfl,(blk_cell BK316.out 1).trans rfl,(blk_cell BK316.out 2).trans rfl⟩ (fun hHeld=>?_)
           clear hK K
           refine norm_ (a':=?_) ?_ ?_
           rotate_left
           ·show Act.put _ (some 63) _ = _
            simp only [Act.put,List.setIfInBounds_toArray,List.set_cons_zero,List.set_cons_succ,i64_w,i32_w]
            rfl
           refine pure_ (i:=8) (N:=some 64) #[true,true,true,true,true,true,true,true,true,false] rfl rfl (any_of HT_.out (by kernel_rfl)) (fun _ _ _ h=>h) (Or.inl ⟨by rfl,by intro w';go_simp;with_reducible rfl⟩) (by simp only [Act.put,List.setIfInBounds_toArray,List.set_cons_zero,List.set_cons_succ,i64_w,i32_w];rfl) ?_
           refine one_ (i:=9) (N:=none) #[true,true,true,true,true,true,true,true,true,true] rfl rfl (one_of HT_.out (by kernel_rfl)) (by decide) (fun K hK=>?_)
           have hs51 : w49.cell? ⟨gb317,0,none⟩ = some (.int .i64 0):=(blk_cell BK317.out 0).trans rfl
           have hfs51:=blk_frozen BK317.out 0
           have hns51_0:=NB316_317.out
           have hms51_0:=NB317_316.out
           have hs52 : w49.cell? ⟨gb317,1,none⟩ = some (.slice none 0 0):=(blk_cell BK317.out 1).trans rfl
           have hfs52:=blk_frozen BK317.out 1
           have hns52_0:=NB316_317.out
           have hms52_0:=NB317_316.out
           refine skip_ (w1:=?_) (by rfl) rfl ?_ ?_
           rotate_left
           ·go_simp
            rfl
           refine hK.out _ _ ⟨((cell_far (p:=⟨gb317,_,none⟩) NB316_317.out _).trans (((cell_far (p:=⟨gb317,_,none⟩) NB316_317.out _).trans (hHeld.1)))),((cell_far (p:=⟨gb317,_,none⟩) NB316_317.out _).trans (((cell_far (p:=⟨gb317,_,none⟩) NB316_317.out _).trans (hHeld.2.1)))),((cell_far (p:=⟨gb317,_,none⟩) NB316_317.out _).trans (((cell_far (p:=⟨gb317,_,none⟩) NB316_317.out _).trans (hHeld.2.2))))⟩ (fun hHeld=>?_)
           clear hK K
           refine done_ (done_of HT_.out (by kernel_rfl)) ?_
           try go_wp2
           refine bodyPost_ret (results_cell_row rfl _ _ gb317 68 #[.int .i64 0,.slice Ao50 t334.length co50] (0,0) _ rfl (by refine blk_put (cs:=#[.int .i64 0,.slice none 0 0]) ?_ 1 _ rfl;refine blk_put (cs:=#[.int .i64 0,.slice none 0 0]) ?_ 0 _ rfl;exact BK317.out) Try.underlying68 rfl (by kernel_rfl)) rfl ?_
           exact ⟨_,by rfl,by exact Kd.R_mono (Kd.R_far (p:=⟨gb317,1,none⟩) (Kd.R_far (p:=⟨gb317,0,none⟩) (Kd.R_types HO336.out BK317.out (by decide)) (fun _ hk=>hk.2) (.int .i64 0)) (fun _ hk=>hk.2) (.slice Ao50 t334.length co50)) (fun _ hk=>trivial),by repeat ((with_reducible first|exact HB.out|refine below_set ?_ GE317.out))⟩

/-! ### laws_toCode: function 45 -/
def laws_toCode.f (a0_0 : Int) (a0_1 : Int) (a0_2 : Int) : Option (Int × Int × Int):=some (a0_0,a0_1,a0_2)
set_option maxHeartbeats 8000000 in
set_option maxRecDepth 100000 in
theorem laws_toCode.calls (a0_0 : Int) (a0_1 : Int) (a0_2 : Int) (r1 : Int) (r2 : Int) (r3 : Int) (w : World) (h : laws_toCode.f a0_0 a0_1 a0_2 = some (r1,r2,r3)) :
  Calls Try.prog 45 #[.agg #[.int .i64 a0_0,.int .i64 a0_1,.int .i64 a0_2]] w fun e w'=>e = .returned (.agg #[.int .i64 r1,.int .i64 r2,.int .i64 r3]) ∧ Below w.heap.size w w':=by
 have hu78:=Try.underlying78
 have hu43:=Try.underlying43
 have HB:=Aside0.mk (Below.refl w.heap.size w)
 have H : (some (a0_0,a0_1,a0_2)) = some (r1,r2,r3):=h
 clear h
 simp only [Option.some.injEq,Prod.mk.injEq] at H
 obtain ⟨rfl,rfl,rfl⟩:=H
 go_enter Try.func45,Try.ntmps45
 go_wp2_with (first|((with_reducible refine gate_dst (N:=1) rfl ?_);refine box_event ?hg (N:=1) ?hd (cs:=#[.int .i64 a0_0,.int .i64 a0_1,.int .i64 a0_2]) (t:=78) ?hr ?_;(case hd=>rfl);(case hg=>rfl);(case hr=>(go_simp;done));intro gb337 hg w2 hbox hb;have BK337:=Aside0.mk (hbox);have GW337:=Aside0.mk ((by rw [hg];exact (below_size HB.out) : w.heap.size ≤ gb337));have GE337:=Aside0.mk ((by rw [hg];exact (below_size HB.out) : w.heap.size ≤ gb337));replace HB:=Aside0.mk (below_step HB.out hb);clear hb hbox hg)|((with_reducible refine gate_dst (N:=2) rfl ?_);refine box_event ?hg (N:=2) ?hd (cs:=#[.int .i64 0,.int .i64 0,.int .i64 0]) (t:=43) ?hr ?_;(case hd=>rfl);(case hg=>rfl);(case hr=>(go_simp;done));intro gb338 hg w3 hbox hb;have BK338:=Aside0.mk (hbox);have GW338:=Aside0.mk ((by rw [hg];exact (below_size HB.out) : w.heap.size ≤ gb338));have GE338:=Aside0.mk ((by rw [hg];exact (below_size HB.out) : w.heap.size ≤ gb338));replace HB:=Aside0.mk (below_step HB.out hb);have NB337_338:=Aside0.mk ((by rw [hg];exact Nat.ne_of_lt (blk_lt BK337.out) : gb337 ≠ gb338));have NB338_337:=Aside0.mk ((by rw [hg];exact Nat.ne_of_gt (blk_lt BK337.out) : gb338 ≠ gb337));replace BK337:=Aside0.mk (blk_below BK337.out hb);clear hb hbox hg)|((with_reducible refine gate_dst (N:=3) rfl ?_);refine box_event ?hg (N:=3) ?hd (cs:=#[.int .i64 0,.int .i64 0,.int .i64 0]) (t:=43) ?hr ?_;(case hd=>rfl);(case hg=>rfl);(case hr=>(go_simp;done));intro gb339 hg w4 hbox hb;have BK339:=Aside0.mk (hbox);have GW339:=Aside0.mk ((by rw [hg];exact (below_size HB.out) : w.heap.size ≤ gb339));have GE339:=Aside0.mk ((by rw [hg];exact (below_size HB.out) : w.heap.size ≤ gb339));replace HB:=Aside0.mk (below_step HB.out hb);have NB337_339:=Aside0.mk ((by rw [hg];exact Nat.ne_of_lt (blk_lt BK337.out) : gb337 ≠ gb339));have NB339_337:=Aside0.mk ((by rw [hg];exact Nat.ne_of_gt (blk_lt BK337.out) : gb339 ≠ gb337));replace BK337:=Aside0.mk (blk_below BK337.out hb);have NB338_339:=Aside0.mk ((by rw [hg];exact Nat.ne_of_lt (blk_lt BK338.out) : gb338 ≠ gb339));have NB339_338:=Aside0.mk ((by rw [hg];exact Nat.ne_of_gt (blk_lt BK338.out) : gb339 ≠ gb338));replace BK338:=Aside0.mk (blk_below BK338.out hb);clear hb hbox hg;have hnb5:=NB337_338.out;have hnc5:=NB338_337.out;have hnb6:=NB337_339.out;have hnc6:=NB339_337.out;have hcz7_0 : w4.cell? ⟨gb337,0,none⟩ = some (.int .i64 a0_0):=(blk_cell BK337.out 0).trans rfl;have hcz7_1 : w4.cell? ⟨gb337,1,none⟩ = some (.int .i64 a0_1):=(blk_cell BK337.out 1).trans rfl;have hcz7_2 : w4.cell? ⟨gb337,2,none⟩ = some (.int .i64 a0_2):=(blk_cell BK337.out 2).trans rfl;have hfz7_0:=blk_frozen BK337.out 0;have hfz7_1:=blk_frozen BK337.out 1;have hfz7_2:=blk_frozen BK337.out 2;have hnb8:=NB339_338.out;have hnc8:=NB338_339.out;have hcz9_0 : w4.cell? ⟨gb339,0,none⟩ = some (.int .i64 0):=(blk_cell BK339.out 0).trans rfl;have hcz9_1 : w4.cell? ⟨gb339,1,none⟩ = some (.int .i64 0):=(blk_cell BK339.out 1).trans rfl;have hcz9_2 : w4.cell? ⟨gb339,2,none⟩ = some (.int .i64 0):=(blk_cell BK339.out 2).trans rfl;have hfz9_0:=blk_frozen BK339.out 0;have hfz9_1:=blk_frozen BK339.out 1;have hfz9_2:=blk_frozen BK339.out 2;have hcz10_0 : w4.cell? ⟨gb338,0,none⟩ = some (.int .i64 0):=(blk_cell BK338.out 0).trans rfl;have hcz10_1 : w4.cell? ⟨gb338,1,none⟩ = some (.int .i64 0):=(blk_cell BK338.out 1).trans rfl;have hcz10_2 : w4.cell? ⟨gb338,2,none⟩ = some (.int .i64 0):=(blk_cell BK338.out 2).trans rfl;have hfz10_0:=blk_frozen BK338.out 0;have hfz10_1:=blk_frozen BK338.out 1;have hfz10_2:=blk_frozen BK338.out 2))
 refine bodyPost_ret (results_cell_row rfl _ _ gb338 43 #[.int .i64 a0_0,.int .i64 a0_1,.int .i64 a0_2] (0,0) _ rfl (by refine blk_put (cs:=#[.int .i64 a0_0,.int .i64 a0_1,.int .i64 0]) ?_ 2 _ rfl;refine blk_put (cs:=#[.int .i64 a0_0,.int .i64 0,.int .i64 0]) ?_ 1 _ rfl;refine blk_put (cs:=#[.int .i64 0,.int .i64 0,.int .i64 0]) ?_ 0 _ rfl;refine blk_far ?_ NB338_339.out _;refine blk_far ?_ NB338_339.out _;refine blk_far ?_ NB338_339.out _;exact BK338.out) Try.underlying43 rfl (by kernel_rfl)) rfl ?_
 exact ⟨by rfl,by repeat ((with_reducible first|exact HB.out|refine below_set ?_ GE338.out|refine below_set ?_ GE339.out))⟩

/-! ### laws_toShard: function 105 -/
def laws_toShard.f (a0_0 : Bool) (a0_1 : ByteArray) : Option (Bool × ByteArray):=some (a0_0,a0_1)
set_option maxHeartbeats 8000000 in
set_option maxRecDepth 100000 in
theorem laws_toShard.calls (a0_0 : Bool) (a0_1 : ByteArray) (r1 : Bool) (r2 : ByteArray) (w : World) (h : laws_toShard.f a0_0 a0_1 = some (r1,r2)) :
  Calls Try.prog 105 #[.agg #[.bool a0_0,.string a0_1]] w fun e w'=>e = .returned (.agg #[.bool r1,.string r2]) ∧ Below w.heap.size w w':=by
 have hu145:=Try.underlying145
 have hu61:=Try.underlying61
 have HB:=Aside0.mk (Below.refl w.heap.size w)
 have H : (some (a0_0,a0_1)) = some (r1,r2):=h
 clear h
 simp only [Option.some.injEq,Prod.mk.injEq] at H
 obtain ⟨rfl,rfl⟩:=H
 go_enter Try.func105,Try.ntmps105
 go_wp2_with (first|((with_reducible refine gate_dst (N:=1) rfl ?_);refine box_event ?hg (N:=1) ?hd (cs:=#[.bool a0_0,.string a0_1]) (t:=145) ?hr ?_;(case hd=>rfl);(case hg=>rfl);(case hr=>(go_simp;done));intro gb340 hg w2 hbox hb;have BK340:=Aside0.mk (hbox);have GW340:=Aside0.mk ((by rw [hg];exact (below_size HB.out) : w.heap.size ≤ gb340));have GE340:=Aside0.mk ((by rw [hg];exact (below_size HB.out) : w.heap.size ≤ gb340));replace HB:=Aside0.mk (below_step HB.out hb);clear hb hbox hg)|((with_reducible refine gate_dst (N:=2) rfl ?_);refine box_event ?hg (N:=2) ?hd (cs:=#[.bool false,.string (⟨#[]⟩ : ByteArray)]) (t:=61) ?hr ?_;(case hd=>rfl);(case hg=>rfl);(case hr=>(go_simp;done));intro gb341 hg w3 hbox hb;have BK341:=Aside0.mk (hbox);have GW341:=Aside0.mk ((by rw [hg];exact (below_size HB.out) : w.heap.size ≤ gb341));have GE341:=Aside0.mk ((by rw [hg];exact (below_size HB.out) : w.heap.size ≤ gb341));replace HB:=Aside0.mk (below_step HB.out hb);have NB340_341:=Aside0.mk ((by rw [hg];exact Nat.ne_of_lt (blk_lt BK340.out) : gb340 ≠ gb341));have NB341_340:=Aside0.mk ((by rw [hg];exact Nat.ne_of_gt (blk_lt BK340.out) : gb341 ≠ gb340));replace BK340:=Aside0.mk (blk_below BK340.out hb);clear hb hbox hg)|((with_reducible refine gate_dst (N:=3) rfl ?_);refine box_event ?hg (N:=3) ?hd (cs:=#[.bool false,.string (⟨#[]⟩ : ByteArray)]) (t:=61) ?hr ?_;(case hd=>rfl);(case hg=>rfl);(case hr=>(go_simp;done));intro gb342 hg w4 hbox hb;have BK342:=Aside0.mk (hbox);have GW342:=Aside0.mk ((by rw [hg];exact (below_size HB.out) : w.heap.size ≤ gb342));have GE342:=Aside0.mk ((by rw [hg];exact (below_size HB.out) : w.heap.size ≤ gb342));replace HB:=Aside0.mk (below_step HB.out hb);have NB340_342:=Aside0.mk ((by rw [hg];exact Nat.ne_of_lt (blk_lt BK340.out) : gb340 ≠ gb342));have NB342_340:=Aside0.mk ((by rw [hg];exact Nat.ne_of_gt (blk_lt BK340.out) : gb342 ≠ gb340));replace BK340:=Aside0.mk (blk_below BK340.out hb);have NB341_342:=Aside0.mk ((by rw [hg];exact Nat.ne_of_lt (blk_lt BK341.out) : gb341 ≠ gb342));have NB342_341:=Aside0.mk ((by rw [hg];exact Nat.ne_of_gt (blk_lt BK341.out) : gb342 ≠ gb341));replace BK341:=Aside0.mk (blk_below BK341.out hb);clear hb hbox hg;have hnb5:=NB340_341.out;have hnc5:=NB341_340.out;have hnb6:=NB340_342.out;have hnc6:=NB342_340.out;have hcz7_0 : w4.cell? ⟨gb340,0,none⟩ = some (.bool a0_0):=(blk_cell BK340.out 0).trans rfl;have hcz7_1 : w4.cell? ⟨gb340,1,none⟩ = some (.string a0_1):=(blk_cell BK340.out 1).trans rfl;have hfz7_0:=blk_frozen BK340.out 0;have hfz7_1:=blk_frozen BK340.out 1;have hnb8:=NB342_341.out;have hnc8:=NB341_342.out;have hcz9_0 : w4.cell? ⟨gb342,0,none⟩ = some (.bool false):=(blk_cell BK342.out 0).trans rfl;have hcz9_1 : w4.cell? ⟨gb342,1,none⟩ = some (.string (⟨#[]⟩ : ByteArray)):=(blk_cell BK342.out 1).trans rfl;have hfz9_0:=blk_frozen BK342.out 0;have hfz9_1:=blk_frozen BK342.out 1;have hcz10_0 : w4.cell? ⟨gb341,0,none⟩ = some (.bool false):=(blk_cell BK341.out 0).trans rfl;have hcz10_1 : w4.cell? ⟨gb341,1,none⟩ = some (.string (⟨#[]⟩ : ByteArray)):=(blk_cell BK341.out 1).trans rfl;have hfz10_0:=blk_frozen BK341.out 0;have hfz10_1:=blk_frozen BK341.out 1))
 refine bodyPost_ret (results_cell_row rfl _ _ gb341 61 #[.bool a0_0,.string a0_1] (0,0) _ rfl (by refine blk_put (cs:=#[.bool a0_0,.string (⟨#[]⟩ : ByteArray)]) ?_ 1 _ rfl;refine blk_put (cs:=#[.bool false,.string (⟨#[]⟩ : ByteArray)]) ?_ 0 _ rfl;refine blk_far ?_ NB341_342.out _;refine blk_far ?_ NB341_342.out _;exact BK341.out) Try.underlying61 rfl (by kernel_rfl)) rfl ?_
 exact ⟨by rfl,by repeat ((with_reducible first|exact HB.out|refine below_set ?_ GE341.out|refine below_set ?_ GE342.out))⟩

/-! ### laws_toShardS: function 46 -/
def laws_toShardS.l0 : Nat → List (S145) → List (S61) → Int → Option ((List (S61)))
 | 0,_,_,_=>none
 | k + 1,x0,x3,x4=>if x4 < (x0.length : Int) then (if 0 ≤ x4 then ((laws_toShard.f ((rd_T145 x0 x4).f0) ((rd_T145 x0 x4).f1)).bind fun bt347=>(if x4 < (x3.length : Int) then (laws_toShardS.l0 k x0 (x3.set (x4 : Int).toNat (⟨bt347.1,bt347.2⟩ : S61)) (wrap64 (x4 + 1))) else (none))) else (none)) else (some x3)
def laws_toShardS.f (k : Nat) (l0 : List (S145)) : Option ((List (S61))):=if 0 ≤ (l0.length : Int) then (if ((l0.length : Int) : Int).toNat ≤ 11728124029610 then (laws_toShardS.l0 k l0 (List.replicate ((l0.length : Int) : Int).toNat z61) 0) else (none)) else (none)
set_option maxHeartbeats 8000000 in
set_option maxRecDepth 100000 in
theorem laws_toShardS.calls (k : Nat) (A0 : Option Addr) (c0 : Nat) (l0 : List (S145)) (r : List (S61)) (w : World) (hr0 : Kd.C k145 w A0 l0.length l0) (hc0 : l0.length ≤ c0) (h : laws_toShardS.f k l0 = some r) :
  Calls Try.prog 46 #[.slice A0 l0.length c0] w fun e w'=>∃ v0_ : Value,e = .returned (v0_) ∧ Kd.R k61 61 w' w.heap.size (fun _=>True) v0_ r ∧ Below w.heap.size w w':=by
 have hu145:=Try.underlying145
 have hu61:=Try.underlying61
 have HR0:=Aside0.mk hr0
 have HC0:=Aside0.mk hc0
 clear hr0 hc0
 have HB:=Aside0.mk (Below.refl w.heap.size w)
 have H : (if 0 ≤ (l0.length : Int) then (if ((l0.length : Int) : Int).toNat ≤ 11728124029610 then (laws_toShardS.l0 k l0 (List.replicate ((l0.length : Int) : Int).toNat z61) 0) else (none)) else (none)) = some r:=h
 clear h
 obtain ⟨c2,H⟩:=nn H
 have c2b0:=eq_true c2
 have c2b1:=decide_eq_true c2
 clear c2
 obtain ⟨c3,H⟩:=nn H
 have c3b0:=eq_true c3
 have c3b1:=decide_eq_true c3
 clear c3
 obtain ⟨y343,hy343⟩ : ∃ y_ : List (S61),y_ = (List.replicate ((l0.length : Int) : Int).toNat z61):=⟨_,rfl⟩
 rw [← hy343] at H
 have Ny343:=Aside0.mk hy343
 clear hy343
 have H':=Aside0.mk H
 clear H
 go_enter Try.func46,Try.ntmps46
 go_wp2_with (((with_reducible refine gate_dst (N:=7) rfl ?_);refine Kd.R_make k61 _ 61 rfl (N:=7) rfl 53 _ _ rfl (l0.length : Int) rfl rfl Try.underlying53 (.agg #[(.bool false),(.string ⟨#[]⟩)]) 24 info61 rfl (by decide) (by omega) z61 (ok:=fun _=>True) (okp:=fun _=>True) (k61_mkM _ _ _ z61 ) (fun _ hk=>hk) trivial (of_decide_eq_true (by with_reducible assumption)) (Nat.le_trans (Nat.mul_le_mul_right _ (of_decide_eq_true (by with_reducible assumption) : (l0.length : Int).toNat ≤ 11728124029610)) (by omega)) (Below.refl _ _) (Nat.le_refl _) ?_;intro v344 w4 ho5 hb hg_ hnew_;clear hg_ hnew_;(rw [← Ny343.out] at ho5);have HO345:=Aside0.mk (Kd.R_lower ho5 (below_size HB.out));replace HB:=Aside0.mk (below_step HB.out hb);clear hb ho5))
 go_loopg [4] k (fun kq v4 w'=>∃ (x3_1 : List (S61)) (x4_1 : Int),v4 = .int .i64 x4_1 ∧ Aside0 (laws_toShardS.l0 kq l0 x3_1 x4_1 = some r) ∧ Aside0 (kq ≤ k) ∧ Aside0 (Kd.R k61 61 w' w.heap.size (fun _=>True) v344 x3_1) ∧ Aside0 (Below w.heap.size w w'))
 case atStart=>exact ⟨(y343),(0),(by rfl),H',⟨Nat.le_refl _⟩,⟨by exact HO345.out⟩,⟨HB.out⟩⟩
 case round=>
  clear H'
  (try clear c2b0);(try clear c2b1);(try clear c3b0);(try clear c3b1)
  obtain ⟨x3_1,x4_1,rfl,HA,HK1,HO_3,HB⟩:=hrel
  cases gk with
  | zero=>exact absurd HA.out (by simp [laws_toShardS.l0])
  | succ k1=>
   have H:=HA.out
   clear HA
   simp only [laws_toShardS.l0] at H
   by_cases c6 : x4_1 < (l0.length : Int)
   ·rw [if_pos c6] at H
    have c6b0:=decide_eq_true c6
    clear c6
    obtain ⟨c7,H⟩:=nn H
    have c7b0:=decide_eq_true c7
    clear c7
    replace H:=Option.bind_eq_some_iff.mp H
    obtain ⟨⟨t347,t348⟩,A80,H⟩:=H
    dsimp only at H
    have A8:=Aside0.mk A80
    clear A80
    obtain ⟨c9,H⟩:=nn H
    have c9b0:=decide_eq_true c9
    clear c9
    obtain ⟨y349,hy349⟩ : ∃ y_ : List (S61),y_ = (x3_1.set (x4_1 : Int).toNat (⟨t347,t348⟩ : S61)):=⟨_,rfl⟩
    rw [← hy349] at H
    have Ny349:=Aside0.mk hy349
    clear hy349
    have H':=Aside0.mk H
    clear H
    have p346 : 0 ≤ (x4_1 : Int):=of_decide_eq_true (by with_reducible assumption)
    have q346 : x4_1 < (l0.length : Int):=of_decide_eq_true (by with_reducible assumption)
    obtain ⟨ad346,e346,hx346_0,hx346_1⟩:=at_T145 HR0.out x4_1 p346 q346
    cases e346
    replace hx346_0:=(HB.out.cell (World.block_lt_of_cell? w _ hx346_0)).trans hx346_0
    replace hx346_1:=(HB.out.cell (World.block_lt_of_cell? w _ hx346_1)).trans hx346_1
    replace p346:=eq_true p346
    replace q346:=eq_true q346
    go_wp2_with (first|((with_reducible refine gate_callee (f:=105) rfl ?_);refine goesL_ (some 20) rfl rfl Try.func105 (by kernel_rfl) rfl #[.agg #[.bool ((rd_T145 l0 x4_1).f0),.string ((rd_T145 l0 x4_1).f1)]] rfl (by (try simp only [List.map_toArray,List.map_cons,List.map_nil]);rfl) ?_;(with_reducible refine (laws_toShard.calls ((rd_T145 l0 x4_1).f0) ((rd_T145 l0 x4_1).f1) t347 t348 _ A8.out).mono ?_);rintro e w11 ⟨rfl,hb⟩;refine ⟨_,rfl,?_⟩;replace HO_3:=Aside0.mk (Kd.R_below HO_3.out hb);replace HB:=Aside0.mk (below_step HB.out hb);(try clear hb);have p10 : 0 ≤ (x4_1 : Int):=of_decide_eq_true (by with_reducible assumption);have q10 : (x4_1 : Int) < ((x3_1.length : Int) : Int):=of_decide_eq_true (by with_reducible assumption);obtain ⟨go10,co10,eo10,gb10,gl10,cl10,HG10⟩:=Kd.R_form HO_3.out (by omega);(cases eo10);have GB10:=Aside0.mk gb10;have GG10:=Aside0.mk HG10;clear gb10 gl10 HG10;obtain ⟨ce10,hcl10,hM10,hcc10,hfr10⟩:=Kd.R_elem HO_3.out z61 (x4_1 : Int) p10 q10;obtain rfl:=k61_openM hM10;have hx10_0 : w11.cell? ⟨go10,(x4_1 : Int).toNat * 2,none⟩ = some (.bool ((rd_T61 x3_1 x4_1).f0)):=hcc10 0 _ rfl;have hx10_1 : w11.cell? ⟨go10,(x4_1 : Int).toNat * 2 + 1,none⟩ = some (.string ((rd_T61 x3_1 x4_1).f1)):=hcc10 1 _ rfl;have hf10_0 : w11.frozen? ⟨go10,(x4_1 : Int).toNat * 2,none⟩ = false:=hfr10 0;have hf10_1 : w11.frozen? ⟨go10,(x4_1 : Int).toNat * 2 + 1,none⟩ = false:=hfr10 1;clear hcl10 hcc10 hfr10 hM10;replace p10:=eq_true p10;replace q10:=eq_true q10;have HX12:=Aside0.mk (show Kd.R k61 61 w11 w.heap.size (fun _=>True) (.slice (some ⟨go10,0,none⟩) x3_1.length co10) x3_1 from HO_3.out);obtain ⟨ce12,hcl12,hM12,hcc12,hfr12⟩:=Kd.R_elem HX12.out z61 (x4_1 : Int) (of_decide_eq_true (by with_reducible assumption)) (by have h_ : (x4_1 : Int) < ((x3_1.length : Int) : Int):=of_decide_eq_true (by with_reducible assumption);exact h_);obtain rfl:=k61_openM hM12;have HP12:=Kd.R_seg HX12.out (x4_1 : Int) (of_decide_eq_true (by with_reducible assumption)) (by have h_ : (x4_1 : Int) < ((x3_1.length : Int) : Int):=of_decide_eq_true (by with_reducible assumption);exact h_) (seg:=[.bool t347,.string t348]) (j:=0) hcl12 hcc12 (show 2 ≤ 2 from by decide) (x':=(⟨t347,t348⟩ : S61)) (k61_mkM _ _ _ (⟨t347,t348⟩ : S61) ) (fun _ hk=>hk);have hx12_0:=hcc12 0 _ rfl;(try simp only [show (k61).sz = 2 from rfl,Nat.mul_one,Nat.add_zero] at hx12_0);have hf12_0:=hfr12 0;(try simp only [show (k61).sz = 2 from rfl,Nat.mul_one,Nat.add_zero] at hf12_0);have hx12_1:=hcc12 1 _ rfl;(try simp only [show (k61).sz = 2 from rfl,Nat.mul_one,Nat.add_zero] at hx12_1);have hf12_1:=hfr12 1;(try simp only [show (k61).sz = 2 from rfl,Nat.mul_one,Nat.add_zero] at hf12_1);clear hcl12 hcc12 hfr12 hM12)|((with_reducible refine gate_store (t:=61) (p:=21) rfl ?_);refine store_event (t:=61) (p:=21) (v:=?vo_w13) (w1:=((w11.setCell ⟨go10,(x4_1 : Int).toNat * 2,none⟩ (.bool t347)).setCell ⟨go10,(x4_1 : Int).toNat * 2 + 1,none⟩ (.string t348))) ?hg ?ho ?hn ?hr ?_;(case ho=>rfl);(case hg=>rfl);(case hn=>rfl);(case hr=>(go_simp;done));intro w13 hw;have hg : w11.grownBy w13 (some go10):=(by rw [hw];exact HP12.2);have hp_ : Kd.R k61 61 w13 w.heap.size (fun _=>True) (.slice (some ⟨go10,0,none⟩) x3_1.length co10) y349:=(by rw [hw,Ny349.out];exact HP12.1);clear HP12;replace HO_3:=Aside0.mk (hp_);replace HB:=Aside0.mk ((by rw [hw];exact below_set (below_set (HB.out) GB10.out) GB10.out : Below w.heap.size w w13));clear hg hw hp_))
    go_roundg k1
    case measure=>have:=HK1.out;omega
    case rel=>exact ⟨(y349),(wrap64 (x4_1 + 1)),(by rfl),H',⟨by have:=HK1.out;omega⟩,⟨by exact HO_3.out⟩,⟨HB.out⟩⟩
   ·rw [if_neg c6] at H
    have c6b0:=decide_eq_false c6
    clear c6
    obtain rfl:=Option.some.inj H
    go_wp2
    go_ret
    exact ⟨_,by rfl,by exact HO_3.out,HB.out⟩

end Go.Proofs.Ytffhbpepppodeaa.PFnExactDecodeShards
