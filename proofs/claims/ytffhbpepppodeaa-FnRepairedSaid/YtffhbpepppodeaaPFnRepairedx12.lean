import Derived.Test.YtffhbpepppodeaaPFnRepairedx0
import Derived.Test.YtffhbpepppodeaaPFnRepairedx3
import Derived.Test.YtffhbpepppodeaaPFnRepairedx8
import Derived.Test.YtffhbpepppodeaaPFnRepairedx11
namespace Go.Proofs.Ytffhbpepppodeaa.PFnRepaired
private theorem nn {α : Type} {c : Prop} [Decidable c] {a : Option α} {r : α} (h : (if c then a else none) = some r) : c ∧ a = some r:=by
 split at h
 ·exact ⟨‹c›,h⟩
 ·cases h
open Go.RowKit Go.Proofs.YtffhbpepppodeaaW.PrintWords Go.Proofs.YtffhbpepppodeaaW.PrintLast Go.Proofs.YtffhbpepppodeaaW.PrintMore
attribute [local go_sem] max2_int min2_int max_two min_two max_three min_three max_four min_four   -- for this text's walks alone
set_option linter.unusedVariables false
set_option linter.unusedSimpArgs false

/-! ### spec_RepairPlan: function 40 -/
mutual
def spec_RepairPlan.j0 : Nat → List Bool → Int → Bool → Int → Int → Int → Option (Int × List Int)
 | 0,_,_,_,_,_,_=>none
 | k + 1,x1,x2,x31,x254000,x254001,x254002=>if x31 = true then (some (1,([] : List Int))) else ((spec_l04Group.f k x254000 x254001 x254002 x2).bind fun t258=>(spec_RepairPlan.l0 k x1 x2 t258 (decide ((t258.length : Int) > 0)) 0 x254000 x254001 x254002))
def spec_RepairPlan.l0 : Nat → List Bool → Int → List Int → Bool → Int → Int → Int → Int → Option (Int × List Int)
 | 0,_,_,_,_,_,_,_,_=>none
 | k + 1,x1,x2,x7,x8,x9,x254000,x254001,x254002=>if x9 < (x7.length : Int) then (if x8 = true then (if 0 ≤ x9 then (if 0 ≤ (rd x7 x9) then (if (rd x7 x9) < (x1.length : Int) then (spec_RepairPlan.l0 k x1 x2 x7 (rdOf false x1 (rd x7 x9)) (wrap64 (x9 + 1)) x254000 x254001 x254002) else (none)) else (none)) else (none)) else (spec_RepairPlan.l0 k x1 x2 x7 false (wrap64 (x9 + 1)) x254000 x254001 x254002)) else (if x8 = true then (some (0,x7)) else ((some (([] : List Bool) : List Bool)).bind fun y263=>(if y263.length + x1.length < 140737488355328 then ((some (y263 ++ x1 : List Bool)).bind fun y266=>(if 0 ≤ x2 then (if x2 < (y266.length : Int) then ((spec_l04Take.f k x254000 x254001 x254002 (y266.set (x2 : Int).toNat false)).bind fun t270=>(if (t270.length : Int) = 0 then (some (8,([] : List Int))) else (some (0,t270)))) else (none)) else (none))) else (none))))
end
def spec_RepairPlan.f (k : Nat) (a0_0 : Int) (a0_1 : Int) (a0_2 : Int) (l1 : List Bool) (a2 : Int) : Option (Int × List Int):=(spec_CodeFault.f a0_0 a0_1 a0_2).bind fun t255=>(if t255 = 0 then ((spec_CodeSize.f a0_0 a0_1 a0_2).bind fun t256=>(if (l1.length : Int) = t256 then (if a2 < 0 then (spec_RepairPlan.j0 k l1 a2 true a0_0 a0_1 a0_2) else ((spec_CodeSize.f a0_0 a0_1 a0_2).bind fun t257=>(spec_RepairPlan.j0 k l1 a2 (decide (a2 ≥ t257)) a0_0 a0_1 a0_2))) else (spec_RepairPlan.j0 k l1 a2 true a0_0 a0_1 a0_2))) else (spec_RepairPlan.j0 k l1 a2 true a0_0 a0_1 a0_2))
set_option maxHeartbeats 8000000 in
set_option maxRecDepth 100000 in
theorem spec_RepairPlan.calls (k : Nat) (a0_0 : Int) (a0_1 : Int) (a0_2 : Int) (A1 : Option Addr) (c1 : Nat) (l1 : List Bool) (a2 : Int) (r1 : Int) (r2 : List Int) (w : World) (hr1 : Kd.C Kd.bool w A1 l1.length l1) (hc1 : l1.length ≤ c1) (h : spec_RepairPlan.f k a0_0 a0_1 a0_2 l1 a2 = some (r1,r2)) :
  Calls Try.prog 40 #[.agg #[.int .i64 a0_0,.int .i64 a0_1,.int .i64 a0_2],.slice A1 l1.length c1,.int .i64 a2] w fun e w'=>∃ v1_ : Value,e = .returned (.agg #[.int .i64 r1,v1_]) ∧ Kd.R (Kd.int .i64) 2 w' w.heap.size (fun _=>True) v1_ r2 ∧ Below w.heap.size w w':=by
 have HR1:=M0 hr1
 have HC1:=M0 hc1
 clear hr1 hc1
 have HB:=M0 (Below.refl w.heap.size w)
 have H : ((spec_CodeFault.f a0_0 a0_1 a0_2).bind fun t255=>(if t255 = 0 then ((spec_CodeSize.f a0_0 a0_1 a0_2).bind fun t256=>(if (l1.length : Int) = t256 then (if a2 < 0 then (spec_RepairPlan.j0 k l1 a2 true a0_0 a0_1 a0_2) else ((spec_CodeSize.f a0_0 a0_1 a0_2).bind fun t257=>(spec_RepairPlan.j0 k l1 a2 (decide (a2 ≥ t257)) a0_0 a0_1 a0_2))) else (spec_RepairPlan.j0 k l1 a2 true a0_0 a0_1 a0_2))) else (spec_RepairPlan.j0 k l1 a2 true a0_0 a0_1 a0_2))) = some (r1,r2):=h
 clear h
 have HC4:=M0 H
 clear H
 go_enter Try.func40,Try.ntmps40
 go_upto_region 1 with (first|((try (refine gate_guard (by rfl) ?_;dsimp only));refine box_event rfl (N:=3) rfl (cs:=#[.int .i64 a0_0,.int .i64 a0_1,.int .i64 a0_2]) (t:=43) (by go_simp) ?_;intro gb253 hg w5 hbox hb;have BK253:=M0 (hbox);replace HB:=M0 (below_step HB.out hb);clear hb hbox hg)|((try (refine gate_guard (by rfl) ?_;dsimp only));refine box_event rfl (N:=6) rfl (cs:=#[.int .i64 0,.slice none 0 0]) (t:=74) (by go_simp) ?_;intro gb254 hg w6 hbox hb;have BK254:=M0 (hbox);have GW254:=M0 ((by rw [hg];exact (below_size HB.out) : w.heap.size ≤ gb254));have GE254:=GW254;replace HB:=M0 (below_step HB.out hb);have NB253_254:=M0 ((by rw [hg];exact Nat.ne_of_lt (blk_lt BK253.out) : gb253 ≠ gb254));replace BK253:=M0 (blk_below BK253.out hb);clear hb hbox hg))
 (try simp only [Act.put,List.setIfInBounds_toArray,List.set_cons_zero,List.set_cons_succ])
 go_cut [31] (fun v31 wc=>∃ (kq : Nat) (x31_3 : Bool),v31 = .bool x31_3 ∧ Aside0 (spec_RepairPlan.j0 kq l1 a2 x31_3 a0_0 a0_1 a0_2 = some (r1,r2)) ∧ Aside0 (kq ≤ k) ∧ Aside0 (wc.heap[gb253]? = some (.cells #[.int .i64 a0_0,.int .i64 a0_1,.int .i64 a0_2] 43 (0,0))) ∧ Aside0 (wc.heap[gb254]? = some (.cells #[.int .i64 0,(.slice none 0 0)] 74 (0,0))) ∧ Aside0 (Below w.heap.size w wc))
 case first=>
  have H:=HC4.out
  clear HC4
  replace H:=Option.bind_eq_some_iff.mp H
  obtain ⟨t255,A70,H⟩:=H
  replace H : (if t255 = 0 then ((spec_CodeSize.f a0_0 a0_1 a0_2).bind fun t256=>(if (l1.length : Int) = t256 then (if a2 < 0 then (spec_RepairPlan.j0 k l1 a2 true a0_0 a0_1 a0_2) else ((spec_CodeSize.f a0_0 a0_1 a0_2).bind fun t257=>(spec_RepairPlan.j0 k l1 a2 (decide (a2 ≥ t257)) a0_0 a0_1 a0_2))) else (spec_RepairPlan.j0 k l1 a2 true a0_0 a0_1 a0_2))) else (spec_RepairPlan.j0 k l1 a2 true a0_0 a0_1 a0_2)) = some (r1,r2):=H
  have A7:=M0 A70
  clear A70
  by_cases c8 : t255 = 0
  ·rw [if_pos c8] at H
   have c8b1 : (t255 != 0) = false:=bne_eq_false_iff_eq.mpr c8
   clear c8
   (skip)
   replace H:=Option.bind_eq_some_iff.mp H
   obtain ⟨t256,A90,H⟩:=H
   replace H : (if (l1.length : Int) = t256 then (if a2 < 0 then (spec_RepairPlan.j0 k l1 a2 true a0_0 a0_1 a0_2) else ((spec_CodeSize.f a0_0 a0_1 a0_2).bind fun t257=>(spec_RepairPlan.j0 k l1 a2 (decide (a2 ≥ t257)) a0_0 a0_1 a0_2))) else (spec_RepairPlan.j0 k l1 a2 true a0_0 a0_1 a0_2)) = some (r1,r2):=H
   have A9:=M0 A90
   clear A90
   by_cases c10 : (l1.length : Int) = t256
   ·rw [if_pos c10] at H
    have c10b0 : ((l1.length : Int) == t256) = true:=beq_iff_eq.mpr c10
    have c10b1 : ((l1.length : Int) != t256) = false:=bne_eq_false_iff_eq.mpr c10
    clear c10
    by_cases c11 : a2 < 0
    ·rw [if_pos c11] at H
     have c11b0:=decide_eq_true c11
     clear c11
     have H':=M0 H
     clear H
     have hcz13_0:=bcv (v:=.int .i64 a0_0) BK253.out 0 rfl
     have hcz13_1:=bcv (v:=.int .i64 a0_1) BK253.out 1 rfl
     have hcz13_2:=bcv (v:=.int .i64 a0_2) BK253.out 2 rfl
     go_wp2_with (first|(refine goesL_ (some 13) rfl rfl Try.func89 (by kernel_rfl) rfl #[.agg #[.int .i64 a0_0,.int .i64 a0_1,.int .i64 a0_2]] rfl (by (try simp only [List.map_toArray,List.map_cons,List.map_nil]);rfl) ?_;(with_reducible refine (spec_CodeFault.calls a0_0 a0_1 a0_2 t255 _ A7.out).mono ?_);rintro e w14 ⟨rfl,hb⟩;refine ⟨_,rfl,?_⟩;replace BK253:=M0 (blk_below BK253.out hb);replace BK254:=M0 (blk_below BK254.out hb);replace HB:=M0 (below_step HB.out hb);clear hb;have hcz15_0:=bcv (v:=.int .i64 a0_0) BK253.out 0 rfl;have hcz15_1:=bcv (v:=.int .i64 a0_1) BK253.out 1 rfl;have hcz15_2:=bcv (v:=.int .i64 a0_2) BK253.out 2 rfl)|(go_at_call 97;(with_reducible refine (spec_CodeSize.calls a0_0 a0_1 a0_2 t256 _ A9.out).mono ?_);rintro e w16 ⟨rfl,hb⟩;replace BK253:=M0 (blk_below BK253.out hb);replace BK254:=M0 (blk_below BK254.out hb);replace HB:=M0 (below_step HB.out hb);clear hb))
     go_meet
     case rel=>exact ⟨_,(true),(by rfl),H',⟨by omega⟩,⟨by exact BK253.out⟩,⟨by exact BK254.out⟩,⟨HB.out⟩⟩
    ·rw [if_neg c11] at H
     have c11b0:=decide_eq_false c11
     clear c11
     replace H:=Option.bind_eq_some_iff.mp H
     obtain ⟨t257,A170,H⟩:=H
     replace H : (spec_RepairPlan.j0 k l1 a2 (decide (a2 ≥ t257)) a0_0 a0_1 a0_2) = some (r1,r2):=H
     have A17:=M0 A170
     clear A170
     obtain rfl : t256 = t257:=Option.some.inj (A9.out.symm.trans A17.out)
     have H':=M0 H
     clear H
     have hcz19_0:=bcv (v:=.int .i64 a0_0) BK253.out 0 rfl
     have hcz19_1:=bcv (v:=.int .i64 a0_1) BK253.out 1 rfl
     have hcz19_2:=bcv (v:=.int .i64 a0_2) BK253.out 2 rfl
     go_wp2_with (first|(refine goesL_ (some 13) rfl rfl Try.func89 (by kernel_rfl) rfl #[.agg #[.int .i64 a0_0,.int .i64 a0_1,.int .i64 a0_2]] rfl (by (try simp only [List.map_toArray,List.map_cons,List.map_nil]);rfl) ?_;(with_reducible refine (spec_CodeFault.calls a0_0 a0_1 a0_2 t255 _ A7.out).mono ?_);rintro e w20 ⟨rfl,hb⟩;refine ⟨_,rfl,?_⟩;replace BK253:=M0 (blk_below BK253.out hb);replace BK254:=M0 (blk_below BK254.out hb);replace HB:=M0 (below_step HB.out hb);clear hb;have hcz21_0:=bcv (v:=.int .i64 a0_0) BK253.out 0 rfl;have hcz21_1:=bcv (v:=.int .i64 a0_1) BK253.out 1 rfl;have hcz21_2:=bcv (v:=.int .i64 a0_2) BK253.out 2 rfl)|(go_at_call 97;(with_reducible refine (spec_CodeSize.calls a0_0 a0_1 a0_2 t256 _ A9.out).mono ?_);rintro e w22 ⟨rfl,hb⟩;replace BK253:=M0 (blk_below BK253.out hb);replace BK254:=M0 (blk_below BK254.out hb);replace HB:=M0 (below_step HB.out hb);clear hb;have hcz23_0:=bcv (v:=.int .i64 a0_0) BK253.out 0 rfl;have hcz23_1:=bcv (v:=.int .i64 a0_1) BK253.out 1 rfl;have hcz23_2:=bcv (v:=.int .i64 a0_2) BK253.out 2 rfl))
     go_meet
     case rel=>exact ⟨_,(decide (a2 ≥ t256)),(by rfl),H',⟨by omega⟩,⟨by exact BK253.out⟩,⟨by exact BK254.out⟩,⟨HB.out⟩⟩
   ·rw [if_neg c10] at H
    have c10b1 : ((l1.length : Int) != t256) = true:=bne_iff_ne.mpr c10
    have H':=M0 H
    clear H
    have hcz26_0:=bcv (v:=.int .i64 a0_0) BK253.out 0 rfl
    have hcz26_1:=bcv (v:=.int .i64 a0_1) BK253.out 1 rfl
    have hcz26_2:=bcv (v:=.int .i64 a0_2) BK253.out 2 rfl
    go_wp2_with (first|(refine goesL_ (some 13) rfl rfl Try.func89 (by kernel_rfl) rfl #[.agg #[.int .i64 a0_0,.int .i64 a0_1,.int .i64 a0_2]] rfl (by (try simp only [List.map_toArray,List.map_cons,List.map_nil]);rfl) ?_;(with_reducible refine (spec_CodeFault.calls a0_0 a0_1 a0_2 t255 _ A7.out).mono ?_);rintro e w27 ⟨rfl,hb⟩;refine ⟨_,rfl,?_⟩;replace BK253:=M0 (blk_below BK253.out hb);replace BK254:=M0 (blk_below BK254.out hb);replace HB:=M0 (below_step HB.out hb);clear hb;have hcz28_0:=bcv (v:=.int .i64 a0_0) BK253.out 0 rfl;have hcz28_1:=bcv (v:=.int .i64 a0_1) BK253.out 1 rfl;have hcz28_2:=bcv (v:=.int .i64 a0_2) BK253.out 2 rfl)|(go_at_call 97;(with_reducible refine (spec_CodeSize.calls a0_0 a0_1 a0_2 t256 _ A9.out).mono ?_);rintro e w29 ⟨rfl,hb⟩;replace BK253:=M0 (blk_below BK253.out hb);replace BK254:=M0 (blk_below BK254.out hb);replace HB:=M0 (below_step HB.out hb);clear hb))
    go_meet
    case rel=>exact ⟨_,(true),(by rfl),H',⟨by omega⟩,⟨by exact BK253.out⟩,⟨by exact BK254.out⟩,⟨HB.out⟩⟩
  ·rw [if_neg c8] at H
   have c8b1 : (t255 != 0) = true:=bne_iff_ne.mpr c8
   (skip)
   have H':=M0 H
   clear H
   have hcz31_0:=bcv (v:=.int .i64 a0_0) BK253.out 0 rfl
   have hcz31_1:=bcv (v:=.int .i64 a0_1) BK253.out 1 rfl
   have hcz31_2:=bcv (v:=.int .i64 a0_2) BK253.out 2 rfl
   go_wp2_with ((refine goesL_ (some 13) rfl rfl Try.func89 (by kernel_rfl) rfl #[.agg #[.int .i64 a0_0,.int .i64 a0_1,.int .i64 a0_2]] rfl (by (try simp only [List.map_toArray,List.map_cons,List.map_nil]);rfl) ?_;(with_reducible refine (spec_CodeFault.calls a0_0 a0_1 a0_2 t255 _ A7.out).mono ?_);rintro e w32 ⟨rfl,hb⟩;refine ⟨_,rfl,?_⟩;replace BK253:=M0 (blk_below BK253.out hb);replace BK254:=M0 (blk_below BK254.out hb);replace HB:=M0 (below_step HB.out hb);clear hb))
   go_meet
   case rel=>exact ⟨_,(true),(by rfl),H',⟨by omega⟩,⟨by exact BK253.out⟩,⟨by exact BK254.out⟩,⟨HB.out⟩⟩
 case rest=>
  clear HC4
  obtain ⟨kq,x31_3,rfl,HA,HJ3,BK253,BK254,HB⟩:=hcut
  cases kq with
  | zero=>exact absurd HA.out (by simp [spec_RepairPlan.j0])
  | succ kj3=>
   have H:=HA.out
   clear HA
   simp only [spec_RepairPlan.j0] at H
   by_cases c33 : x31_3 = true
   ·subst c33
    have H1 : (some (1,([] : List Int))) = some (r1,r2):=by rw [if_pos rfl] at H;exact H
    clear H
    have H:=H1
    clear H1
    simp only [Option.some.injEq,Prod.mk.injEq] at H
    obtain ⟨rfl,rfl⟩:=H
    have hcz35_0:=bcv (v:=.int .i64 0) BK254.out 0 rfl
    have hcz35_1:=bcv (v:=.slice none 0 0) BK254.out 1 rfl
    have hfz35_0:=blk_frozen BK254.out 0
    have hfz35_1:=blk_frozen BK254.out 1
    go_wp2
    refine bodyPost_ret (results_cell_row rfl _ _ gb254 74 #[.int .i64 1,.slice none 0 0] (0,0) _ rfl (by refine blk_put (cs:=#[.int .i64 1,.slice none 0 0]) ?_ 1 _ rfl;refine blk_put (cs:=#[.int .i64 0,.slice none 0 0]) ?_ 0 _ rfl;exact BK254.out) Try.underlying74 rfl (by kernel_rfl)) rfl ?_
    exact ⟨_,by rfl,by exact Kd.R_nil _ _ _ _ _,by repeat ((with_reducible first|exact HB.out|refine below_set ?_ GE254.out))⟩
   ·replace c33:=Bool.eq_false_iff.mpr c33
    subst c33
    have H1 : ((spec_l04Group.f kj3 a0_0 a0_1 a0_2 a2).bind fun t258=>(spec_RepairPlan.l0 kj3 l1 a2 t258 (decide ((t258.length : Int) > 0)) 0 a0_0 a0_1 a0_2)) = some (r1,r2):=by rw [if_neg (show ¬ (false = true) by decide)] at H;exact H
    clear H
    have H:=H1
    clear H1
    replace H:=Option.bind_eq_some_iff.mp H
    obtain ⟨t258,A360,H⟩:=H
    replace H : (spec_RepairPlan.l0 kj3 l1 a2 t258 (decide ((t258.length : Int) > 0)) 0 a0_0 a0_1 a0_2) = some (r1,r2):=H
    have A36:=M0 A360
    clear A360
    have H':=M0 H
    clear H
    have hcz38_0:=bcv (v:=.int .i64 a0_0) BK253.out 0 rfl
    have hcz38_1:=bcv (v:=.int .i64 a0_1) BK253.out 1 rfl
    have hcz38_2:=bcv (v:=.int .i64 a0_2) BK253.out 2 rfl
    have hfz38_0:=blk_frozen BK253.out 0
    have hfz38_1:=blk_frozen BK253.out 1
    have hfz38_2:=blk_frozen BK253.out 2
    go_wp2_with ((refine goesL_ (some 35) rfl rfl Try.func98 (by kernel_rfl) rfl #[.agg #[.int .i64 a0_0,.int .i64 a0_1,.int .i64 a0_2],.int .i64 a2] rfl (by (try simp only [List.map_toArray,List.map_cons,List.map_nil]);rfl) ?_;(with_reducible refine (spec_l04Group.calls kj3 a0_0 a0_1 a0_2 a2 t258 _ A36.out).mono ?_);rintro e w39 ⟨v259,rfl,ho0,hb⟩;refine ⟨_,rfl,?_⟩;have HO260:=M0 (Kd.R_lower ho0 (below_size HB.out));replace BK253:=M0 (blk_below BK253.out hb);replace BK254:=M0 (blk_below BK254.out hb);replace HB:=M0 (below_step HB.out hb);clear hb ho0;obtain ⟨Ao40,co40,eo40⟩:=Kd.R_slice HO260.out;subst eo40))
    go_loopg [8,9] kj3 (fun kq v8 v9 w'=>∃ (x8_2 : Bool) (x9_2 : Int),v8 = .bool x8_2 ∧ v9 = .int .i64 x9_2 ∧ Aside0 (spec_RepairPlan.l0 kq l1 a2 t258 x8_2 x9_2 a0_0 a0_1 a0_2 = some (r1,r2)) ∧ Aside0 (kq ≤ kj3) ∧ Aside0 (Kd.R (Kd.int .i64) 2 w' w.heap.size (fun _=>True) (.slice Ao40 t258.length co40) t258) ∧ Aside0 (w'.heap[gb253]? = some (.cells #[.int .i64 a0_0,.int .i64 a0_1,.int .i64 a0_2] 43 (0,0))) ∧ Aside0 (w'.heap[gb254]? = some (.cells #[.int .i64 0,(.slice none 0 0)] 74 (0,0))) ∧ Aside0 (Below w.heap.size w w'))
    case atStart=>exact ⟨(decide ((t258.length : Int) > 0)),(0),(by (simp;done)),(by rfl),H',⟨Nat.le_refl _⟩,⟨by exact HO260.out⟩,⟨by exact BK253.out⟩,⟨by exact BK254.out⟩,⟨HB.out⟩⟩
    case round=>
     clear H'
     (try clear hcz38_0);(try clear hcz38_1);(try clear hcz38_2);(try clear hfz38_0);(try clear hfz38_1);(try clear hfz38_2)
     obtain ⟨x8_2,x9_2,rfl,rfl,HA,HK2,HO_7,BK253,BK254,HB⟩:=hrel
     cases gk with
     | zero=>exact absurd HA.out (by simp [spec_RepairPlan.l0])
     | succ k2=>
      have H:=HA.out
      clear HA
      simp only [spec_RepairPlan.l0] at H
      by_cases c41 : x9_2 < (t258.length : Int)
      ·rw [if_pos c41] at H
       have c41b0:=decide_eq_true c41
       clear c41
       by_cases c42 : x8_2 = true
       ·subst c42
        have H1 : (if 0 ≤ x9_2 then (if 0 ≤ (rd t258 x9_2) then (if (rd t258 x9_2) < (l1.length : Int) then (spec_RepairPlan.l0 k2 l1 a2 t258 (rdOf false l1 (rd t258 x9_2)) (wrap64 (x9_2 + 1)) a0_0 a0_1 a0_2) else (none)) else (none)) else (none)) = some (r1,r2):=by rw [if_pos rfl] at H;exact H
        clear H
        have H:=H1
        clear H1
        obtain ⟨c43,H⟩:=nn H
        have c43b0:=decide_eq_true c43
        clear c43
        obtain ⟨c44,H⟩:=nn H
        have c44b0:=decide_eq_true c44
        clear c44
        obtain ⟨c45,H⟩:=nn H
        have c45b0:=decide_eq_true c45
        clear c45
        have H':=M0 H
        clear H
        have p261 : 0 ≤ (x9_2 : Int):=of_decide_eq_true (by with_reducible assumption)
        have q261 : x9_2 < (t258.length : Int):=of_decide_eq_true (by with_reducible assumption)
        obtain ⟨ad261,e261,hx261_0⟩:=Kd.at_int (Kd.R_reads' HO_7.out).2.2 x9_2 p261 q261
        cases e261
        replace p261:=eq_true p261
        replace q261:=eq_true q261
        have p262 : 0 ≤ ((rd t258 x9_2) : Int):=of_decide_eq_true (by with_reducible assumption)
        have q262 : (rd t258 x9_2) < (l1.length : Int):=of_decide_eq_true (by with_reducible assumption)
        obtain ⟨ad262,e262,hx262_0⟩:=Kd.at_bool HR1.out (rd t258 x9_2) p262 q262
        cases e262
        replace hx262_0:=(HB.out.cell (World.block_lt_of_cell? w _ hx262_0)).trans hx262_0
        replace p262:=eq_true p262
        replace q262:=eq_true q262
        go_wp2
        go_roundg k2
        case measure=>have:=HJ3.out;have:=HK2.out;omega
        case rel=>exact ⟨(rdOf false l1 (rd t258 x9_2)),(wrap64 (x9_2 + 1)),(by rfl),(by rfl),H',⟨by have:=HJ3.out;have:=HK2.out;omega⟩,⟨by exact HO_7.out⟩,⟨by exact BK253.out⟩,⟨by exact BK254.out⟩,⟨HB.out⟩⟩
       ·replace c42:=Bool.eq_false_iff.mpr c42
        subst c42
        have H1 : (spec_RepairPlan.l0 k2 l1 a2 t258 false (wrap64 (x9_2 + 1)) a0_0 a0_1 a0_2) = some (r1,r2):=by rw [if_neg (show ¬ (false = true) by decide)] at H;exact H
        clear H
        have H:=H1
        clear H1
        have H':=M0 H
        clear H
        go_wp2
        go_roundg k2
        case measure=>have:=HJ3.out;have:=HK2.out;omega
        case rel=>exact ⟨(false),(wrap64 (x9_2 + 1)),(by rfl),(by rfl),H',⟨by have:=HJ3.out;have:=HK2.out;omega⟩,⟨by exact HO_7.out⟩,⟨by exact BK253.out⟩,⟨by exact BK254.out⟩,⟨HB.out⟩⟩
      ·rw [if_neg c41] at H
       have c41b0:=decide_eq_false c41
       clear c41
       by_cases c46 : x8_2 = true
       ·subst c46
        have H1 : (some (0,t258)) = some (r1,r2):=by rw [if_pos rfl] at H;exact H
        clear H
        have H:=H1
        clear H1
        simp only [Option.some.injEq,Prod.mk.injEq] at H
        obtain ⟨rfl,rfl⟩:=H
        have hcz48_0:=bcv (v:=.int .i64 0) BK254.out 0 rfl
        have hcz48_1:=bcv (v:=.slice none 0 0) BK254.out 1 rfl
        have hfz48_0:=blk_frozen BK254.out 0
        have hfz48_1:=blk_frozen BK254.out 1
        go_wp2
        refine bodyPost_ret (results_cell_row rfl _ _ gb254 74 #[.int .i64 0,.slice Ao40 t258.length co40] (0,0) _ rfl (by refine blk_put (cs:=#[.int .i64 0,.slice none 0 0]) ?_ 1 _ rfl;refine blk_put (cs:=#[.int .i64 0,.slice none 0 0]) ?_ 0 _ rfl;exact BK254.out) Try.underlying74 rfl (by kernel_rfl)) rfl ?_
        exact ⟨_,by rfl,by exact Kd.R_mono (Kd.R_far (p:=⟨gb254,1,none⟩) (Kd.R_far (p:=⟨gb254,0,none⟩) (Kd.R_types HO_7.out BK254.out (by decide)) (fun _ hk=>hk.2) (.int .i64 0)) (fun _ hk=>hk.2) (.slice Ao40 t258.length co40)) (fun _ hk=>trivial),by repeat ((with_reducible first|exact HB.out|refine below_set ?_ GE254.out))⟩
       ·replace c46:=Bool.eq_false_iff.mpr c46
        subst c46
        have H1 : ((some (([] : List Bool) : List Bool)).bind fun y263=>(if y263.length + l1.length < 140737488355328 then ((some (y263 ++ l1 : List Bool)).bind fun y266=>(if 0 ≤ a2 then (if a2 < (y266.length : Int) then ((spec_l04Take.f k2 a0_0 a0_1 a0_2 (y266.set (a2 : Int).toNat false)).bind fun t270=>(if (t270.length : Int) = 0 then (some (8,([] : List Int))) else (some (0,t270)))) else (none)) else (none))) else (none))) = some (r1,r2):=by rw [if_neg (show ¬ (false = true) by decide)] at H;exact H
        clear H
        have H:=H1
        clear H1
        obtain ⟨y263,hy263⟩ : ∃ y_ : List Bool,y_ = (([] : List Bool)):=⟨_,rfl⟩
        replace H : (if y263.length + l1.length < 140737488355328 then ((some (y263 ++ l1 : List Bool)).bind fun y266=>(if 0 ≤ a2 then (if a2 < (y266.length : Int) then ((spec_l04Take.f k2 a0_0 a0_1 a0_2 (y266.set (a2 : Int).toNat false)).bind fun t270=>(if (t270.length : Int) = 0 then (some (8,([] : List Int))) else (some (0,t270)))) else (none)) else (none))) else (none)) = some (r1,r2):=by (have H2_:=(Option.bind_some _ _).symm.trans H;rw [hy263];with_reducible exact H2_)
        have Ny263:=M0 hy263
        clear hy263
        obtain ⟨c49,H⟩:=nn H
        have LMc49:=M0 c49
        clear c49
        obtain ⟨y266,hy266⟩ : ∃ y_ : List Bool,y_ = (y263 ++ l1):=⟨_,rfl⟩
        replace H : (if 0 ≤ a2 then (if a2 < (y266.length : Int) then ((spec_l04Take.f k2 a0_0 a0_1 a0_2 (y266.set (a2 : Int).toNat false)).bind fun t270=>(if (t270.length : Int) = 0 then (some (8,([] : List Int))) else (some (0,t270)))) else (none)) else (none)) = some (r1,r2):=by (have H2_:=(Option.bind_some _ _).symm.trans H;rw [hy266];with_reducible exact H2_)
        have Ny266:=M0 hy266
        clear hy266
        obtain ⟨c50,H⟩:=nn H
        have c50b0:=decide_eq_true c50
        clear c50
        obtain ⟨c51,H⟩:=nn H
        have c51b0:=decide_eq_true c51
        clear c51
        obtain ⟨y269,hy269⟩ : ∃ y_ : List Bool,y_ = (y266.set (a2 : Int).toNat false):=⟨_,rfl⟩
        rw [← hy269] at H
        have Ny269:=M0 hy269
        clear hy269
        replace H:=Option.bind_eq_some_iff.mp H
        obtain ⟨t270,A530,H⟩:=H
        replace H : (if (t270.length : Int) = 0 then (some (8,([] : List Int))) else (some (0,t270))) = some (r1,r2):=H
        have A53:=M0 A530
        clear A530
        by_cases c54 : (t270.length : Int) = 0
        ·rw [if_pos c54] at H
         have c54b0 : ((t270.length : Int) == 0) = true:=beq_iff_eq.mpr c54
         clear c54
         simp only [Option.some.injEq,Prod.mk.injEq] at H
         obtain ⟨rfl,rfl⟩:=H
         go_wp2_with (first|((try (refine gate_guard (by rfl) ?_;dsimp only));refine Kd.R_lit Kd.bool _ 4 ?hg (N:=58) ?hd (xs:=([] : List Bool)) (inner:=[]) (ok:=fun _=>True) (okp:=fun _=>True) ?hr ?hp (fun _ hk=>hk) trivial (Below.refl _ _) (Nat.le_refl _) (by simp) ?_;(case hd=>rfl);(case hg=>rfl);(case hr=>(go_simp;done));(case hp=>exact (Reps.none _ _));intro v264 w55 ho56 hb hg_ hnew_;clear hg_ hnew_;(rw [← Ny263.out] at ho56);replace HO_7:=M0 (Kd.R_below HO_7.out hb);have HO265:=M0 (Kd.R_lower ho56 (below_size HB.out));replace BK253:=M0 (blk_below BK253.out hb);replace BK254:=M0 (blk_below BK254.out hb);replace HB:=M0 (below_step HB.out hb);clear hb ho56)|((try (refine gate_guard (by rfl) ?_;dsimp only));at_builtin;refine Kd.R_append_rows Kd.bool (w0:=w) w.heap.size rfl (.tmp 58) (.tmp 59) 72 4 (.bool false) 1 rfl Try.underlying72 info4 rfl (by decide) (by omega) v264 y263 l1 _ _ _ (fun _=>True) (fun _=>False) rfl rfl ?aO ?aR (fun _ _ h=>h) (fun _ h=>h.elim) ?aF ?aB ?aS ?aL ?_;(case aR=>exact (Kd.C_below HR1.out HB.out));(case aB=>exact HB.out);(case aF=>exact (fun _ _=>trivial));(case aO=>exact HO265.out);(case aS=>exact (below_size HB.out));(case aL=>have:=LMc49.out;omega);intro v267 w57 ho hb hg hat;rw [← Ny266.out] at ho;have n0_:=M0 (Kd.R_over' HO_7.out (Kd.R_typed HO265.out) (by decide) hg);have n1_:=M0 (blk_grown (g:=gb253) (o:=.cells #[.int .i64 a0_0,.int .i64 a0_1,.int .i64 a0_2] 43 (0,0)) BK253.out hg (Kd.R_ne HO265.out BK253.out (by decide)));have n2_:=M0 (blk_grown (g:=gb254) (o:=.cells #[.int .i64 0,.slice none 0 0] 74 (0,0)) BK254.out hg (Kd.R_ne HO265.out BK254.out (by decide)));have n3_:=M0 (hb);have n4_:=M0 (ho);clear HO_7 BK253 BK254 HB HO265;have HO_7:=n0_;have BK253:=n1_;have BK254:=n2_;have HB:=n3_;have HO268:=n4_;clear n0_ n1_ n2_ n3_ n4_ ho hb hg hat;have p52 : 0 ≤ (a2 : Int):=of_decide_eq_true (by with_reducible assumption);have q52 : (a2 : Int) < ((y266.length : Int) : Int):=of_decide_eq_true (by with_reducible assumption);obtain ⟨go52,co52,eo52,gb52,gl52,cl52,HG52⟩:=Kd.R_form HO268.out (by omega);(cases eo52);have GB52:=M0 gb52;have GG52:=M0 HG52;clear gb52 gl52 HG52;obtain ⟨hx52_0,hf52_0⟩:=Kd.R_celln false HO268.out (a2 : Int) p52 q52;replace p52:=eq_true p52;replace q52:=eq_true q52;obtain ⟨hy58_,hz58_⟩:=Kd.R_celln false HO268.out (a2 : Int) (of_decide_eq_true (by with_reducible assumption)) (of_decide_eq_true (by with_reducible assumption));have HP58:=Kd.R_putg HO268.out (a2 : Int) false)|(refine store_event (t:=4) (p:=63) (v:=?vo_w59) (w1:=(w57.setCell ⟨go52,(a2 : Int).toNat,none⟩ (.bool false))) ?hg ?ho ?hn ?hr ?_;(case ho=>rfl);(case hg=>rfl);(case hn=>rfl);(case hr=>(go_simp;done));intro w59 hw;have hg : w57.grownBy w59 (some go52):=(by rw [hw];exact HP58.2);have hp_ : Kd.R Kd.bool 4 w59 w.heap.size (fun _=>True) (.slice (some ⟨go52,0,none⟩) y266.length co52) y269:=(by rw [hw,Ny269.out];exact HP58.1);clear HP58;replace HO_7:=M0 (Kd.R_over' (v:=(.slice (some ⟨go52,0,none⟩) y266.length co52)) HO_7.out (Kd.R_typed HO268.out) (by decide) hg);replace BK253:=M0 (blk_grown (g:=gb253) (o:=.cells #[.int .i64 a0_0,.int .i64 a0_1,.int .i64 a0_2] 43 (0,0)) BK253.out hg (Kd.R_ne HO268.out BK253.out (by decide)));replace BK254:=M0 (blk_grown (g:=gb254) (o:=.cells #[.int .i64 0,.slice none 0 0] 74 (0,0)) BK254.out hg (Kd.R_ne HO268.out BK254.out (by decide)));replace HO268:=M0 (hp_);replace HB:=M0 ((by rw [hw];exact below_set (HB.out) GB52.out : Below w.heap.size w w59));clear hg hw hp_;have hcz61_0:=bcv (v:=.int .i64 a0_0) BK253.out 0 rfl;have hcz61_1:=bcv (v:=.int .i64 a0_1) BK253.out 1 rfl;have hcz61_2:=bcv (v:=.int .i64 a0_2) BK253.out 2 rfl)|(refine goesL_ (some 66) rfl rfl Try.func99 (by kernel_rfl) rfl #[.agg #[.int .i64 a0_0,.int .i64 a0_1,.int .i64 a0_2],.slice (some ⟨go52,0,none⟩) y269.length co52] rfl (by (try simp only [List.map_toArray,List.map_cons,List.map_nil]);(rw [show y269.length = y266.length from (Kd.R_reads' HO268.out).1.symm] <;> rfl)) ?_;(with_reducible refine (spec_l04Take.calls k2 a0_0 a0_1 a0_2 _ _ y269 t270 _ ?side1 ?side2 A53.out).mono ?_);(case side1=>exact (Kd.R_reads' HO268.out).2.2);(case side2=>rw [show y269.length = y266.length from (Kd.R_reads' HO268.out).1.symm];exact (Kd.R_reads' HO268.out).2.1);rintro e w62 ⟨v271,rfl,ho0,hb⟩;refine ⟨_,rfl,?_⟩;replace HO268:=M0 (Kd.R_below HO268.out hb);have HO272:=M0 (Kd.R_lower (Kd.R_new' ho0 (Kd.R_lt HO_7.out)) (below_size HB.out));replace HO_7:=M0 (Kd.R_elder' HO_7.out (Kd.R_base ho0) hb);replace BK253:=M0 (blk_below BK253.out hb);replace BK254:=M0 (blk_below BK254.out hb);replace HB:=M0 (below_step HB.out hb);clear hb ho0;obtain ⟨Ao63,co63,eo63⟩:=Kd.R_slice HO272.out;subst eo63;have hcz64_0:=bcv (v:=.int .i64 0) BK254.out 0 rfl;have hcz64_1:=bcv (v:=.slice none 0 0) BK254.out 1 rfl;have hfz64_0:=blk_frozen BK254.out 0;have hfz64_1:=blk_frozen BK254.out 1))
         refine bodyPost_ret (results_cell_row rfl _ _ gb254 74 #[.int .i64 8,.slice none 0 0] (0,0) _ rfl (by refine blk_put (cs:=#[.int .i64 8,.slice none 0 0]) ?_ 1 _ rfl;refine blk_put (cs:=#[.int .i64 0,.slice none 0 0]) ?_ 0 _ rfl;exact BK254.out) Try.underlying74 rfl (by kernel_rfl)) rfl ?_
         exact ⟨_,by rfl,by exact Kd.R_nil _ _ _ _ _,by repeat ((with_reducible first|exact HB.out|refine below_set ?_ GE254.out))⟩
        ·rw [if_neg c54] at H
         have c54b0 : ((t270.length : Int) == 0) = false:=beq_eq_false_iff_ne.mpr c54
         simp only [Option.some.injEq,Prod.mk.injEq] at H
         obtain ⟨rfl,rfl⟩:=H
         go_wp2_with (first|((try (refine gate_guard (by rfl) ?_;dsimp only));refine Kd.R_lit Kd.bool _ 4 ?hg (N:=58) ?hd (xs:=([] : List Bool)) (inner:=[]) (ok:=fun _=>True) (okp:=fun _=>True) ?hr ?hp (fun _ hk=>hk) trivial (Below.refl _ _) (Nat.le_refl _) (by simp) ?_;(case hd=>rfl);(case hg=>rfl);(case hr=>(go_simp;done));(case hp=>exact (Reps.none _ _));intro v264 w65 ho66 hb hg_ hnew_;clear hg_ hnew_;(rw [← Ny263.out] at ho66);replace HO_7:=M0 (Kd.R_below HO_7.out hb);have HO265:=M0 (Kd.R_lower ho66 (below_size HB.out));replace BK253:=M0 (blk_below BK253.out hb);replace BK254:=M0 (blk_below BK254.out hb);replace HB:=M0 (below_step HB.out hb);clear hb ho66)|((try (refine gate_guard (by rfl) ?_;dsimp only));at_builtin;refine Kd.R_append_rows Kd.bool (w0:=w) w.heap.size rfl (.tmp 58) (.tmp 59) 72 4 (.bool false) 1 rfl Try.underlying72 info4 rfl (by decide) (by omega) v264 y263 l1 _ _ _ (fun _=>True) (fun _=>False) rfl rfl ?aO ?aR (fun _ _ h=>h) (fun _ h=>h.elim) ?aF ?aB ?aS ?aL ?_;(case aR=>exact (Kd.C_below HR1.out HB.out));(case aB=>exact HB.out);(case aF=>exact (fun _ _=>trivial));(case aO=>exact HO265.out);(case aS=>exact (below_size HB.out));(case aL=>have:=LMc49.out;omega);intro v267 w67 ho hb hg hat;rw [← Ny266.out] at ho;have n0_:=M0 (Kd.R_over' HO_7.out (Kd.R_typed HO265.out) (by decide) hg);have n1_:=M0 (blk_grown (g:=gb253) (o:=.cells #[.int .i64 a0_0,.int .i64 a0_1,.int .i64 a0_2] 43 (0,0)) BK253.out hg (Kd.R_ne HO265.out BK253.out (by decide)));have n2_:=M0 (blk_grown (g:=gb254) (o:=.cells #[.int .i64 0,.slice none 0 0] 74 (0,0)) BK254.out hg (Kd.R_ne HO265.out BK254.out (by decide)));have n3_:=M0 (hb);have n4_:=M0 (ho);clear HO_7 BK253 BK254 HB HO265;have HO_7:=n0_;have BK253:=n1_;have BK254:=n2_;have HB:=n3_;have HO268:=n4_;clear n0_ n1_ n2_ n3_ n4_ ho hb hg hat;have p52 : 0 ≤ (a2 : Int):=of_decide_eq_true (by with_reducible assumption);have q52 : (a2 : Int) < ((y266.length : Int) : Int):=of_decide_eq_true (by with_reducible assumption);obtain ⟨go52,co52,eo52,gb52,gl52,cl52,HG52⟩:=Kd.R_form HO268.out (by omega);(cases eo52);have GB52:=M0 gb52;have GG52:=M0 HG52;clear gb52 gl52 HG52;obtain ⟨hx52_0,hf52_0⟩:=Kd.R_celln false HO268.out (a2 : Int) p52 q52;replace p52:=eq_true p52;replace q52:=eq_true q52;obtain ⟨hy68_,hz68_⟩:=Kd.R_celln false HO268.out (a2 : Int) (of_decide_eq_true (by with_reducible assumption)) (of_decide_eq_true (by with_reducible assumption));have HP68:=Kd.R_putg HO268.out (a2 : Int) false)|(refine store_event (t:=4) (p:=63) (v:=?vo_w69) (w1:=(w67.setCell ⟨go52,(a2 : Int).toNat,none⟩ (.bool false))) ?hg ?ho ?hn ?hr ?_;(case ho=>rfl);(case hg=>rfl);(case hn=>rfl);(case hr=>(go_simp;done));intro w69 hw;have hg : w67.grownBy w69 (some go52):=(by rw [hw];exact HP68.2);have hp_ : Kd.R Kd.bool 4 w69 w.heap.size (fun _=>True) (.slice (some ⟨go52,0,none⟩) y266.length co52) y269:=(by rw [hw,Ny269.out];exact HP68.1);clear HP68;replace HO_7:=M0 (Kd.R_over' (v:=(.slice (some ⟨go52,0,none⟩) y266.length co52)) HO_7.out (Kd.R_typed HO268.out) (by decide) hg);replace BK253:=M0 (blk_grown (g:=gb253) (o:=.cells #[.int .i64 a0_0,.int .i64 a0_1,.int .i64 a0_2] 43 (0,0)) BK253.out hg (Kd.R_ne HO268.out BK253.out (by decide)));replace BK254:=M0 (blk_grown (g:=gb254) (o:=.cells #[.int .i64 0,.slice none 0 0] 74 (0,0)) BK254.out hg (Kd.R_ne HO268.out BK254.out (by decide)));replace HO268:=M0 (hp_);replace HB:=M0 ((by rw [hw];exact below_set (HB.out) GB52.out : Below w.heap.size w w69));clear hg hw hp_;have hcz71_0:=bcv (v:=.int .i64 a0_0) BK253.out 0 rfl;have hcz71_1:=bcv (v:=.int .i64 a0_1) BK253.out 1 rfl;have hcz71_2:=bcv (v:=.int .i64 a0_2) BK253.out 2 rfl)|(refine goesL_ (some 66) rfl rfl Try.func99 (by kernel_rfl) rfl #[.agg #[.int .i64 a0_0,.int .i64 a0_1,.int .i64 a0_2],.slice (some ⟨go52,0,none⟩) y269.length co52] rfl (by (try simp only [List.map_toArray,List.map_cons,List.map_nil]);(rw [show y269.length = y266.length from (Kd.R_reads' HO268.out).1.symm] <;> rfl)) ?_;(with_reducible refine (spec_l04Take.calls k2 a0_0 a0_1 a0_2 _ _ y269 t270 _ ?side1 ?side2 A53.out).mono ?_);(case side1=>exact (Kd.R_reads' HO268.out).2.2);(case side2=>rw [show y269.length = y266.length from (Kd.R_reads' HO268.out).1.symm];exact (Kd.R_reads' HO268.out).2.1);rintro e w72 ⟨v271,rfl,ho0,hb⟩;refine ⟨_,rfl,?_⟩;replace HO268:=M0 (Kd.R_below HO268.out hb);have HO272:=M0 (Kd.R_lower (Kd.R_new' ho0 (Kd.R_lt HO_7.out)) (below_size HB.out));replace HO_7:=M0 (Kd.R_elder' HO_7.out (Kd.R_base ho0) hb);replace BK253:=M0 (blk_below BK253.out hb);replace BK254:=M0 (blk_below BK254.out hb);replace HB:=M0 (below_step HB.out hb);clear hb ho0;obtain ⟨Ao73,co73,eo73⟩:=Kd.R_slice HO272.out;subst eo73;have hcz74_0:=bcv (v:=.int .i64 0) BK254.out 0 rfl;have hcz74_1:=bcv (v:=.slice none 0 0) BK254.out 1 rfl;have hfz74_0:=blk_frozen BK254.out 0;have hfz74_1:=blk_frozen BK254.out 1))
         refine bodyPost_ret (results_cell_row rfl _ _ gb254 74 #[.int .i64 0,.slice Ao73 t270.length co73] (0,0) _ rfl (by refine blk_put (cs:=#[.int .i64 0,.slice none 0 0]) ?_ 1 _ rfl;refine blk_put (cs:=#[.int .i64 0,.slice none 0 0]) ?_ 0 _ rfl;exact BK254.out) Try.underlying74 rfl (by kernel_rfl)) rfl ?_
         exact ⟨_,by rfl,by exact Kd.R_mono (Kd.R_far (p:=⟨gb254,1,none⟩) (Kd.R_far (p:=⟨gb254,0,none⟩) (Kd.R_types HO272.out BK254.out (by decide)) (fun _ hk=>hk.2) (.int .i64 0)) (fun _ hk=>hk.2) (.slice Ao73 t270.length co73)) (fun _ hk=>trivial),by repeat ((with_reducible first|exact HB.out|refine below_set ?_ GE254.out))⟩

/-! ### impl_heldOf: function 93 -/
def impl_heldOf.l0 : Nat → List Bool → List ByteArray → List ByteArray → List (S61) → Int → Int → Option (List Bool × List ByteArray × List ByteArray)
 | 0,_,_,_,_,_,_=>none
 | k + 1,x5,x6,x7,x17,x18,x19=>if x19 < x18 then (if 0 ≤ x19 then (if x19 < (x17.length : Int) then (if x19 < (x5.length : Int) then ((some (x5.set (x19 : Int).toNat ((rd_T61 x17 x19).f0) : List Bool)).bind fun y284=>(if (rd_T61 x17 x19).f0 = true then (if x19 < (x6.length : Int) then (if x7.length < 8796093022208 then (impl_heldOf.l0 k y284 (x6.set (x19 : Int).toNat ((rd_T61 x17 x19).f1)) (x7 ++ [(rd_T61 x17 x19).f1]) x17 x18 (wrap64 (x19 + 1))) else (none)) else (none)) else (impl_heldOf.l0 k y284 x6 x7 x17 x18 (wrap64 (x19 + 1))))) else (none)) else (none)) else (none)) else (some (x5,x6,x7))
def impl_heldOf.f (k : Nat) (l0 : List (S61)) : Option (List Bool × List ByteArray × List ByteArray):=if 0 ≤ (l0.length : Int) then (if ((l0.length : Int) : Int).toNat ≤ 281474976710656 then (if ((l0.length : Int) : Int).toNat ≤ 17592186044416 then (impl_heldOf.l0 k (List.replicate ((l0.length : Int) : Int).toNat false) (List.replicate ((l0.length : Int) : Int).toNat (⟨#[]⟩ : ByteArray)) (([] : List ByteArray)) l0 (l0.length : Int) 0) else (none)) else (none)) else (none)
set_option maxHeartbeats 8000000 in
set_option maxRecDepth 100000 in
theorem impl_heldOf.calls (k : Nat) (A0 : Option Addr) (c0 : Nat) (l0 : List (S61)) (r1 : List Bool) (r2 : List ByteArray) (r3 : List ByteArray) (w : World) (hr0 : Kd.C k61 w A0 l0.length l0) (hc0 : l0.length ≤ c0) (h : impl_heldOf.f k l0 = some (r1,r2,r3)) :
  Calls Try.prog 93 #[.slice A0 l0.length c0] w fun e w'=>∃ v0_ v1_ v2_ : Value,e = .returned (.tuple #[v0_,v1_,v2_]) ∧ Kd.R Kd.bool 4 w' w.heap.size (fun _=>True) v0_ r1 ∧ Kd.R Kd.string 9 w' w.heap.size (fun k_=>some k_ ≠ (v2_ : Value).ownBlock) v1_ r2 ∧ Kd.R Kd.string 9 w' w.heap.size (fun k_=>some k_ ≠ (v1_ : Value).ownBlock) v2_ r3 ∧ Below w.heap.size w w':=by
 have HR0:=M0 hr0
 have HC0:=M0 hc0
 clear hr0 hc0
 have HB:=M0 (Below.refl w.heap.size w)
 have H : (if 0 ≤ (l0.length : Int) then (if ((l0.length : Int) : Int).toNat ≤ 281474976710656 then (if ((l0.length : Int) : Int).toNat ≤ 17592186044416 then (impl_heldOf.l0 k (List.replicate ((l0.length : Int) : Int).toNat false) (List.replicate ((l0.length : Int) : Int).toNat (⟨#[]⟩ : ByteArray)) (([] : List ByteArray)) l0 (l0.length : Int) 0) else (none)) else (none)) else (none)) = some (r1,r2,r3):=h
 clear h
 obtain ⟨c2,H⟩:=nn H
 have c2b0:=eq_true c2
 have c2b1:=decide_eq_true c2
 clear c2
 obtain ⟨c3,H⟩:=nn H
 have c3b0:=eq_true c3
 have c3b1:=decide_eq_true c3
 clear c3
 obtain ⟨y273,hy273⟩ : ∃ y_ : List Bool,y_ = (List.replicate ((l0.length : Int) : Int).toNat false):=⟨_,rfl⟩
 rw [← hy273] at H
 have Ny273:=M0 hy273
 clear hy273
 obtain ⟨c4,H⟩:=nn H
 have c4b0:=eq_true c4
 have c4b1:=decide_eq_true c4
 clear c4
 obtain ⟨y276,hy276⟩ : ∃ y_ : List ByteArray,y_ = (List.replicate ((l0.length : Int) : Int).toNat (⟨#[]⟩ : ByteArray)):=⟨_,rfl⟩
 rw [← hy276] at H
 have Ny276:=M0 hy276
 clear hy276
 obtain ⟨y279,hy279⟩ : ∃ y_ : List ByteArray,y_ = (([] : List ByteArray)):=⟨_,rfl⟩
 rw [← hy279] at H
 have Ny279:=M0 hy279
 clear hy279
 have H':=M0 H
 clear H
 go_enter Try.func93,Try.ntmps93
 go_wp2_with (first|(refine Kd.R_make Kd.bool _ 4 rfl (N:=12) rfl 72 _ _ rfl (l0.length : Int) rfl rfl Try.underlying72 (.bool false) 1 info4 rfl (by decide) (by omega) false (ok:=fun _=>True) (okp:=fun _=>True) rfl (fun _ hk=>hk) trivial (of_decide_eq_true (by with_reducible assumption)) (Nat.le_trans (Nat.mul_le_mul_right _ (of_decide_eq_true (by with_reducible assumption) : (l0.length : Int).toNat ≤ 281474976710656)) (by omega)) (Below.refl _ _) (Nat.le_refl _) ?_;intro v274 w5 ho6 hb hg_ hnew_;clear hg_ hnew_;(rw [← Ny273.out] at ho6);have HO275:=M0 (Kd.R_lower ho6 (below_size HB.out));replace HB:=M0 (below_step HB.out hb);clear hb ho6)|(refine Kd.R_make Kd.string _ 9 rfl (N:=15) rfl 56 _ _ rfl (l0.length : Int) rfl rfl Try.underlying56 (.string ⟨#[]⟩) 16 info9 rfl (by decide) (by omega) (⟨#[]⟩ : ByteArray) (ok:=fun _=>True) (okp:=fun _=>True) rfl (fun _ hk=>hk) trivial (of_decide_eq_true (by with_reducible assumption)) (Nat.le_trans (Nat.mul_le_mul_right _ (of_decide_eq_true (by with_reducible assumption) : (l0.length : Int).toNat ≤ 17592186044416)) (by omega)) (Below.refl _ _) (Nat.le_refl _) ?_;intro v277 w7 ho8 hb hg_ hnew_;clear hg_ hnew_;(rw [← Ny276.out] at ho8);replace HO275:=M0 (Kd.R_below HO275.out hb);have HO278:=M0 (Kd.R_lower ho8 (below_size HB.out));replace HB:=M0 (below_step HB.out hb);clear hb ho8)|(refine Kd.R_lit Kd.string _ 9 ?hg (N:=16) ?hd (xs:=([] : List ByteArray)) (inner:=[]) (ok:=fun _=>True) (okp:=fun _=>True) ?hr ?hp (fun _ hk=>hk) trivial (Below.refl _ _) (Nat.le_refl _) (by simp) ?_;(case hd=>rfl);(case hg=>rfl);(case hr=>(go_simp;done));(case hp=>exact (Reps.none _ _));intro v280 w9 ho10 hb hg_ hnew_;clear hg_ hnew_;(rw [← Ny279.out] at ho10);replace HO275:=M0 (Kd.R_below HO275.out hb);have HO281:=M0 (Kd.R_lower (Kd.R_new' ho10 (Kd.R_lt HO278.out)) (below_size HB.out));replace HO278:=M0 (Kd.R_elder' HO278.out (Kd.R_base ho10) hb);replace HB:=M0 (below_step HB.out hb);clear hb ho10))
 go_loopg [7,19] k (fun kq v7 v19 w'=>∃ (x5_1 : List Bool) (x6_1 : List ByteArray) (x7_1 : List ByteArray) (x19_1 : Int),v19 = .int .i64 x19_1 ∧ Aside0 (impl_heldOf.l0 kq x5_1 x6_1 x7_1 l0 (l0.length : Int) x19_1 = some (r1,r2,r3)) ∧ Aside0 (kq ≤ k) ∧ Aside0 (Kd.R Kd.bool 4 w' w.heap.size (fun _=>True) v274 x5_1) ∧ Aside0 (Kd.R Kd.string 9 w' w.heap.size (fun k_=>some k_ ≠ (v7 : Value).ownBlock) v277 x6_1) ∧ Aside0 (Kd.R Kd.string 9 w' w.heap.size (fun k_=>some k_ ≠ (v277 : Value).ownBlock) v7 x7_1) ∧ Aside0 (Below w.heap.size w w'))
 case atStart=>exact ⟨(y273),(y276),(y279),(0),(by rfl),H',⟨Nat.le_refl _⟩,⟨by exact HO275.out⟩,⟨by exact Kd.R_mono HO278.out (fun _ hk=>hk.2)⟩,⟨by exact Kd.R_mono HO281.out (fun _ hk=>hk.2)⟩,⟨HB.out⟩⟩
 case round=>
  clear H'
  (try clear c2b0);(try clear c2b1);(try clear c3b0);(try clear c3b1);(try clear c4b0);(try clear c4b1)
  obtain ⟨x5_1,x6_1,x7_1,x19_1,rfl,HA,HK1,HO_5,HO_6,HO_7,HB⟩:=hrel
  cases gk with
  | zero=>exact absurd HA.out (by simp [impl_heldOf.l0])
  | succ k1=>
   have H:=HA.out
   clear HA
   simp only [impl_heldOf.l0] at H
   by_cases c11 : x19_1 < (l0.length : Int)
   ·rw [if_pos c11] at H
    clear c11
    obtain ⟨c12,H⟩:=nn H
    have c12b0:=decide_eq_true c12
    clear c12
    obtain ⟨c13,H⟩:=nn H
    have c13b0:=decide_eq_true c13
    clear c13
    obtain ⟨c14,H⟩:=nn H
    have c14b0:=decide_eq_true c14
    clear c14
    obtain ⟨y284,hy284⟩ : ∃ y_ : List Bool,y_ = (x5_1.set (x19_1 : Int).toNat ((rd_T61 l0 x19_1).f0)):=⟨_,rfl⟩
    replace H : (if (rd_T61 l0 x19_1).f0 = true then (if x19_1 < (x6_1.length : Int) then (if x7_1.length < 8796093022208 then (impl_heldOf.l0 k1 y284 (x6_1.set (x19_1 : Int).toNat ((rd_T61 l0 x19_1).f1)) (x7_1 ++ [(rd_T61 l0 x19_1).f1]) l0 (l0.length : Int) (wrap64 (x19_1 + 1))) else (none)) else (none)) else (impl_heldOf.l0 k1 y284 x6_1 x7_1 l0 (l0.length : Int) (wrap64 (x19_1 + 1)))) = some (r1,r2,r3):=by (have H2_:=(Option.bind_some _ _).symm.trans H;rw [hy284];with_reducible exact H2_)
    have Ny284:=M0 hy284
    clear hy284
    obtain ⟨bq16,hbq16⟩ : ∃ b_ : Bool,b_ = ((rd_T61 l0 x19_1).f0):=⟨_,rfl⟩
    replace H : (if bq16 = true then (if x19_1 < (x6_1.length : Int) then (if x7_1.length < 8796093022208 then (impl_heldOf.l0 k1 y284 (x6_1.set (x19_1 : Int).toNat ((rd_T61 l0 x19_1).f1)) (x7_1 ++ [(rd_T61 l0 x19_1).f1]) l0 (l0.length : Int) (wrap64 (x19_1 + 1))) else (none)) else (none)) else (impl_heldOf.l0 k1 y284 x6_1 x7_1 l0 (l0.length : Int) (wrap64 (x19_1 + 1)))) = some (r1,r2,r3):=by rw [← hbq16] at H;exact H
    have Nbq16:=M0 hbq16
    clear hbq16
    by_cases c17 : bq16 = true
    ·subst c17
     have H1 : (if x19_1 < (x6_1.length : Int) then (if x7_1.length < 8796093022208 then (impl_heldOf.l0 k1 y284 (x6_1.set (x19_1 : Int).toNat ((rd_T61 l0 x19_1).f1)) (x7_1 ++ [(rd_T61 l0 x19_1).f1]) l0 (l0.length : Int) (wrap64 (x19_1 + 1))) else (none)) else (none)) = some (r1,r2,r3):=by rw [if_pos rfl] at H;exact H
     clear H
     have H:=H1
     clear H1
     obtain ⟨c18,H⟩:=nn H
     have c18b0:=decide_eq_true c18
     clear c18
     obtain ⟨y285,hy285⟩ : ∃ y_ : List ByteArray,y_ = (x6_1.set (x19_1 : Int).toNat ((rd_T61 l0 x19_1).f1)):=⟨_,rfl⟩
     rw [← hy285] at H
     have Ny285:=M0 hy285
     clear hy285
     obtain ⟨c20,H⟩:=nn H
     have LMc20:=M0 c20
     clear c20
     obtain ⟨y286,hy286⟩ : ∃ y_ : List ByteArray,y_ = (x7_1 ++ [(rd_T61 l0 x19_1).f1]):=⟨_,rfl⟩
     rw [← hy286] at H
     have Ny286:=M0 hy286
     clear hy286
     have H':=M0 H
     clear H
     have p282 : 0 ≤ (x19_1 : Int):=of_decide_eq_true (by with_reducible assumption)
     have q282 : x19_1 < (l0.length : Int):=of_decide_eq_true (by with_reducible assumption)
     obtain ⟨ad282,e282,hx282_0,hx282_1⟩:=at_T61 HR0.out x19_1 p282 q282
     (try rw [← Nbq16.out] at hx282_0)
     cases e282
     replace hx282_0:=(HB.out.cell (World.block_lt_of_cell? w _ hx282_0)).trans hx282_0
     replace hx282_1:=(HB.out.cell (World.block_lt_of_cell? w _ hx282_1)).trans hx282_1
     replace p282:=eq_true p282
     replace q282:=eq_true q282
     go_wp2_with (first|(refine box_event rfl (N:=9) rfl (cs:=#[.bool false,.string (⟨#[]⟩ : ByteArray)]) (t:=61) (by go_simp) ?_;intro gb283 hg w21 hbox hb;replace HO_5:=M0 (Kd.R_below HO_5.out hb);replace HO_6:=M0 (Kd.R_below HO_6.out hb);replace HO_7:=M0 (Kd.R_below HO_7.out hb);have BK283:=M0 (hbox);have GW283:=M0 ((by rw [hg];exact (below_size HB.out) : w.heap.size ≤ gb283));have GE283:=GW283;replace HB:=M0 (below_step HB.out hb);clear hb hbox hg;have hcz22_0:=bcv (v:=.bool false) BK283.out 0 rfl;have hcz22_1:=bcv (v:=.string (⟨#[]⟩ : ByteArray)) BK283.out 1 rfl;have hfz22_0:=blk_frozen BK283.out 0;have hfz22_1:=blk_frozen BK283.out 1)|(refine store_event (t:=61) (p:=9) (v:=?vo_w23) (w1:=((w21.setCell ⟨gb283,0,none⟩ (.bool true)).setCell ⟨gb283,1,none⟩ (.string ((rd_T61 l0 x19_1).f1)))) ?hg ?ho ?hn ?hr ?_;(case ho=>rfl);(case hg=>rfl);(case hn=>rfl);(case hr=>(go_simp;done));intro w23 hw;have n0_ : Aside0 (Kd.R Kd.bool 4 w23 w.heap.size (fun _=>True) v274 x5_1):=⟨(by rw [hw];exact (by exact Kd.R_mono (Kd.R_far (p:=⟨gb283,1,none⟩) (Kd.R_far (p:=⟨gb283,0,none⟩) (Kd.R_types HO_5.out BK283.out (by decide)) (fun _ hk=>hk.2) (.bool true)) (fun _ hk=>hk.2) (.string ((rd_T61 l0 x19_1).f1))) (fun _ hk=>trivial)))⟩;have n1_ : Aside0 (Kd.R Kd.string 9 w23 w.heap.size (fun k_=>some k_ ≠ (u7 : Value).ownBlock) v277 x6_1):=⟨(by rw [hw];exact (by exact Kd.R_mono (Kd.R_far (p:=⟨gb283,1,none⟩) (Kd.R_far (p:=⟨gb283,0,none⟩) (Kd.R_types HO_6.out BK283.out (by decide)) (fun _ hk=>hk.2) (.bool true)) (fun _ hk=>hk.2) (.string ((rd_T61 l0 x19_1).f1))) (fun _ hk=>hk.1)))⟩;have n2_ : Aside0 (Kd.R Kd.string 9 w23 w.heap.size (fun k_=>some k_ ≠ (v277 : Value).ownBlock) u7 x7_1):=⟨(by rw [hw];exact (by exact Kd.R_mono (Kd.R_far (p:=⟨gb283,1,none⟩) (Kd.R_far (p:=⟨gb283,0,none⟩) (Kd.R_types HO_7.out BK283.out (by decide)) (fun _ hk=>hk.2) (.bool true)) (fun _ hk=>hk.2) (.string ((rd_T61 l0 x19_1).f1))) (fun _ hk=>hk.1)))⟩;have n3_ : Aside0 (w23.heap[gb283]? = some (.cells #[.bool true,.string ((rd_T61 l0 x19_1).f1)] 61 (0,0))):=⟨(by rw [hw];exact (by refine blk_put (cs:=#[.bool true,.string (⟨#[]⟩ : ByteArray)]) ?_ 1 _ rfl;refine blk_put (cs:=#[.bool false,.string (⟨#[]⟩ : ByteArray)]) ?_ 0 _ rfl;exact BK283.out))⟩;have n4_ : Aside0 (Below w.heap.size w w23):=⟨(by rw [hw];exact (by repeat ((with_reducible first|exact HB.out|refine below_set ?_ GE283.out))))⟩;clear hw HO_5 HO_6 HO_7 BK283 HB;have HO_5:=n0_;have HO_6:=n1_;have HO_7:=n2_;have BK283:=n3_;have HB:=n4_;clear n0_ n1_ n2_ n3_ n4_;have hcz24_0:=bcv (v:=.bool true) BK283.out 0 rfl;have p15 : 0 ≤ (x19_1 : Int):=of_decide_eq_true (by with_reducible assumption);have q15 : (x19_1 : Int) < ((x5_1.length : Int) : Int):=of_decide_eq_true (by with_reducible assumption);obtain ⟨go15,co15,eo15,gb15,gl15,cl15,HG15⟩:=Kd.R_form HO_5.out (by omega);(cases eo15);have GB15:=M0 gb15;have GG15:=M0 HG15;clear gb15 gl15 HG15;obtain ⟨hx15_0,hf15_0⟩:=Kd.R_celln false HO_5.out (x19_1 : Int) p15 q15;replace p15:=eq_true p15;replace q15:=eq_true q15;obtain ⟨hy25_,hz25_⟩:=Kd.R_celln false HO_5.out (x19_1 : Int) (of_decide_eq_true (by with_reducible assumption)) (of_decide_eq_true (by with_reducible assumption));have HP25:=Kd.R_putg HO_5.out (x19_1 : Int) true)|(refine store_event (t:=4) (p:=28) (v:=?vo_w26) (w1:=(w23.setCell ⟨go15,(x19_1 : Int).toNat,none⟩ (.bool true))) ?hg ?ho ?hn ?hr ?_;(case ho=>rfl);(case hg=>rfl);(case hn=>rfl);(case hr=>(go_simp;done));intro w26 hw;have hg : w23.grownBy w26 (some go15):=(by rw [hw];exact HP25.2);have hp_ : Kd.R Kd.bool 4 w26 w.heap.size (fun _=>True) (.slice (some ⟨go15,0,none⟩) x5_1.length co15) y284:=(by rw [hw,Ny284.out];(try rw [← Nbq16.out]);exact HP25.1);clear HP25;replace HO_6:=M0 (Kd.R_over' (v:=(.slice (some ⟨go15,0,none⟩) x5_1.length co15)) HO_6.out (Kd.R_typed HO_5.out) (by decide) hg);replace HO_7:=M0 (Kd.R_over' (v:=(.slice (some ⟨go15,0,none⟩) x5_1.length co15)) HO_7.out (Kd.R_typed HO_5.out) (by decide) hg);replace BK283:=M0 (blk_grown (g:=gb283) (o:=.cells #[.bool true,.string ((rd_T61 l0 x19_1).f1)] 61 (0,0)) BK283.out hg (Kd.R_ne HO_5.out BK283.out (by decide)));replace HO_5:=M0 (hp_);replace HB:=M0 ((by rw [hw];exact below_set (HB.out) GB15.out : Below w.heap.size w w26));clear hg hw hp_;have hcz27_0:=bcv (v:=.bool true) BK283.out 0 rfl;have hcz27_1:=bcv (v:=.string ((rd_T61 l0 x19_1).f1)) BK283.out 1 rfl;have p19 : 0 ≤ (x19_1 : Int):=of_decide_eq_true (by with_reducible assumption);have q19 : (x19_1 : Int) < ((x6_1.length : Int) : Int):=of_decide_eq_true (by with_reducible assumption);obtain ⟨go19,co19,eo19,gb19,gl19,cl19,HG19⟩:=Kd.R_form HO_6.out (by omega);(cases eo19);have GB19:=M0 gb19;have GG19:=M0 HG19;clear gb19 gl19 HG19;obtain ⟨hx19_0,hf19_0⟩:=Kd.R_celln (⟨#[]⟩ : ByteArray) HO_6.out (x19_1 : Int) p19 q19;replace p19:=eq_true p19;replace q19:=eq_true q19;obtain ⟨hy28_,hz28_⟩:=Kd.R_celln (⟨#[]⟩ : ByteArray) HO_6.out (x19_1 : Int) (of_decide_eq_true (by with_reducible assumption)) (of_decide_eq_true (by with_reducible assumption));have HP28:=Kd.R_putg HO_6.out (x19_1 : Int) ((rd_T61 l0 x19_1).f1))|(refine store_event (t:=9) (p:=35) (v:=?vo_w29) (w1:=(w26.setCell ⟨go19,(x19_1 : Int).toNat,none⟩ (.string ((rd_T61 l0 x19_1).f1)))) ?hg ?ho ?hn ?hr ?_;(case ho=>rfl);(case hg=>rfl);(case hn=>rfl);(case hr=>(go_simp;done));intro w29 hw;have hg : w26.grownBy w29 (some go19):=(by rw [hw];exact HP28.2);have hp_ : Kd.R Kd.string 9 w29 w.heap.size (fun k_=>some k_ ≠ (u7 : Value).ownBlock) (.slice (some ⟨go19,0,none⟩) x6_1.length co19) y285:=(by rw [hw,Ny285.out];exact HP28.1);clear HP28;replace HO_5:=M0 (Kd.R_over' (v:=(.slice (some ⟨go19,0,none⟩) x6_1.length co19)) HO_5.out (Kd.R_typed HO_6.out) (by decide) hg);replace HO_7:=M0 (Kd.R_after (v:=(.slice (some ⟨go19,0,none⟩) x6_1.length co19)) (v1:=(.slice (some ⟨go19,0,none⟩) x6_1.length co19)) (ok:=(fun _=>True)) (by exact Kd.R_mono HO_7.out (fun _ hk=>⟨trivial,hk⟩)) hg (.inl rfl));replace BK283:=M0 (blk_grown (g:=gb283) (o:=.cells #[.bool true,.string ((rd_T61 l0 x19_1).f1)] 61 (0,0)) BK283.out hg (Kd.R_ne HO_6.out BK283.out (by decide)));replace HO_6:=M0 (hp_);replace HB:=M0 ((by rw [hw];exact below_set (HB.out) GB19.out : Below w.heap.size w w29));clear hg hw hp_;have hcz30_1:=bcv (v:=.string ((rd_T61 l0 x19_1).f1)) BK283.out 1 rfl)|(at_builtin;refine Kd.R_append Kd.string (w0:=w) w.heap.size rfl (.tmp 36) (.tmp 39) 56 9 (.string ⟨#[]⟩) 16 rfl Try.underlying56 info9 rfl (by decide) (by omega) u7 x7_1 ((rd_T61 l0 x19_1).f1) [.string ((rd_T61 l0 x19_1).f1)] (fun k_=>some k_ ≠ (.slice (some ⟨go19,0,none⟩) x6_1.length co19 : Value).ownBlock) (fun _=>False) rfl rfl ?aP (fun _ hk=>hk.elim) ?aF ?aO ?aB ?aS ?aL ?_;(case aP=>exact rfl);(case aB=>exact HB.out);(case aF=>exact (fun k_ hk=>Kd.fresh' (Kd.R_lt HO_6.out) k_ hk));(case aO=>exact (by exact Kd.R_mono HO_7.out (fun _ hk=>hk.2)));(case aS=>exact (below_size HB.out));(case aL=>have:=LMc20.out;omega);intro v287 w31 ho hb hg hat;rw [← Ny286.out] at ho;have n0_:=M0 (Kd.R_over' HO_5.out (Kd.R_typed HO_7.out) (by decide) hg);have n1_:=M0 (Kd.R_after (ok:=(fun _=>True)) (by exact Kd.R_mono HO_6.out (fun _ hk=>⟨trivial,hk⟩)) hg hat);have n2_:=M0 (blk_grown (g:=gb283) (o:=.cells #[.bool true,.string ((rd_T61 l0 x19_1).f1)] 61 (0,0)) BK283.out hg (Kd.R_ne HO_7.out BK283.out (by decide)));have n3_:=M0 (hb);have n4_:=M0 (ho);clear HO_5 HO_6 BK283 HB HO_7;have HO_5:=n0_;have HO_6:=n1_;have BK283:=n2_;have HB:=n3_;have HO288:=n4_;clear n0_ n1_ n2_ n3_ n4_ ho hb hg hat))
     go_roundg k1
     case measure=>have:=HK1.out;omega
     case rel=>exact ⟨(y284),(y285),(y286),(wrap64 (x19_1 + 1)),(by rfl),H',⟨by have:=HK1.out;omega⟩,⟨by exact HO_5.out⟩,⟨by exact Kd.R_mono HO_6.out (fun _ hk=>hk.2)⟩,⟨by exact HO288.out⟩,⟨HB.out⟩⟩
    ·replace c17:=Bool.eq_false_iff.mpr c17
     subst c17
     have H1 : (impl_heldOf.l0 k1 y284 x6_1 x7_1 l0 (l0.length : Int) (wrap64 (x19_1 + 1))) = some (r1,r2,r3):=by rw [if_neg (show ¬ (false = true) by decide)] at H;exact H
     clear H
     have H:=H1
     clear H1
     have H':=M0 H
     clear H
     have p282 : 0 ≤ (x19_1 : Int):=of_decide_eq_true (by with_reducible assumption)
     have q282 : x19_1 < (l0.length : Int):=of_decide_eq_true (by with_reducible assumption)
     obtain ⟨ad282,e282,hx282_0,hx282_1⟩:=at_T61 HR0.out x19_1 p282 q282
     (try rw [← Nbq16.out] at hx282_0)
     cases e282
     replace hx282_0:=(HB.out.cell (World.block_lt_of_cell? w _ hx282_0)).trans hx282_0
     replace hx282_1:=(HB.out.cell (World.block_lt_of_cell? w _ hx282_1)).trans hx282_1
     replace p282:=eq_true p282
     replace q282:=eq_true q282
     go_wp2_with (first|(refine box_event rfl (N:=9) rfl (cs:=#[.bool false,.string (⟨#[]⟩ : ByteArray)]) (t:=61) (by go_simp) ?_;intro gb283 hg w32 hbox hb;replace HO_5:=M0 (Kd.R_below HO_5.out hb);replace HO_6:=M0 (Kd.R_below HO_6.out hb);replace HO_7:=M0 (Kd.R_below HO_7.out hb);have BK283:=M0 (hbox);have GW283:=M0 ((by rw [hg];exact (below_size HB.out) : w.heap.size ≤ gb283));have GE283:=GW283;replace HB:=M0 (below_step HB.out hb);clear hb hbox hg;have hcz33_0:=bcv (v:=.bool false) BK283.out 0 rfl;have hcz33_1:=bcv (v:=.string (⟨#[]⟩ : ByteArray)) BK283.out 1 rfl;have hfz33_0:=blk_frozen BK283.out 0;have hfz33_1:=blk_frozen BK283.out 1)|(refine store_event (t:=61) (p:=9) (v:=?vo_w34) (w1:=((w32.setCell ⟨gb283,0,none⟩ (.bool false)).setCell ⟨gb283,1,none⟩ (.string ((rd_T61 l0 x19_1).f1)))) ?hg ?ho ?hn ?hr ?_;(case ho=>rfl);(case hg=>rfl);(case hn=>rfl);(case hr=>(go_simp;done));intro w34 hw;have n0_ : Aside0 (Kd.R Kd.bool 4 w34 w.heap.size (fun _=>True) v274 x5_1):=⟨(by rw [hw];exact (by exact Kd.R_mono (Kd.R_far (p:=⟨gb283,1,none⟩) (Kd.R_far (p:=⟨gb283,0,none⟩) (Kd.R_types HO_5.out BK283.out (by decide)) (fun _ hk=>hk.2) (.bool false)) (fun _ hk=>hk.2) (.string ((rd_T61 l0 x19_1).f1))) (fun _ hk=>trivial)))⟩;have n1_ : Aside0 (Kd.R Kd.string 9 w34 w.heap.size (fun k_=>some k_ ≠ (u7 : Value).ownBlock) v277 x6_1):=⟨(by rw [hw];exact (by exact Kd.R_mono (Kd.R_far (p:=⟨gb283,1,none⟩) (Kd.R_far (p:=⟨gb283,0,none⟩) (Kd.R_types HO_6.out BK283.out (by decide)) (fun _ hk=>hk.2) (.bool false)) (fun _ hk=>hk.2) (.string ((rd_T61 l0 x19_1).f1))) (fun _ hk=>hk.1)))⟩;have n2_ : Aside0 (Kd.R Kd.string 9 w34 w.heap.size (fun k_=>some k_ ≠ (v277 : Value).ownBlock) u7 x7_1):=⟨(by rw [hw];exact (by exact Kd.R_mono (Kd.R_far (p:=⟨gb283,1,none⟩) (Kd.R_far (p:=⟨gb283,0,none⟩) (Kd.R_types HO_7.out BK283.out (by decide)) (fun _ hk=>hk.2) (.bool false)) (fun _ hk=>hk.2) (.string ((rd_T61 l0 x19_1).f1))) (fun _ hk=>hk.1)))⟩;have n3_ : Aside0 (w34.heap[gb283]? = some (.cells #[.bool false,.string ((rd_T61 l0 x19_1).f1)] 61 (0,0))):=⟨(by rw [hw];exact (by refine blk_put (cs:=#[.bool false,.string (⟨#[]⟩ : ByteArray)]) ?_ 1 _ rfl;refine blk_put (cs:=#[.bool false,.string (⟨#[]⟩ : ByteArray)]) ?_ 0 _ rfl;exact BK283.out))⟩;have n4_ : Aside0 (Below w.heap.size w w34):=⟨(by rw [hw];exact (by repeat ((with_reducible first|exact HB.out|refine below_set ?_ GE283.out))))⟩;clear hw HO_5 HO_6 HO_7 BK283 HB;have HO_5:=n0_;have HO_6:=n1_;have HO_7:=n2_;have BK283:=n3_;have HB:=n4_;clear n0_ n1_ n2_ n3_ n4_;have hcz35_0:=bcv (v:=.bool false) BK283.out 0 rfl;have p15 : 0 ≤ (x19_1 : Int):=of_decide_eq_true (by with_reducible assumption);have q15 : (x19_1 : Int) < ((x5_1.length : Int) : Int):=of_decide_eq_true (by with_reducible assumption);obtain ⟨go15,co15,eo15,gb15,gl15,cl15,HG15⟩:=Kd.R_form HO_5.out (by omega);(cases eo15);have GB15:=M0 gb15;have GG15:=M0 HG15;clear gb15 gl15 HG15;obtain ⟨hx15_0,hf15_0⟩:=Kd.R_celln false HO_5.out (x19_1 : Int) p15 q15;replace p15:=eq_true p15;replace q15:=eq_true q15;obtain ⟨hy36_,hz36_⟩:=Kd.R_celln false HO_5.out (x19_1 : Int) (of_decide_eq_true (by with_reducible assumption)) (of_decide_eq_true (by with_reducible assumption));have HP36:=Kd.R_putg HO_5.out (x19_1 : Int) false)|(refine store_event (t:=4) (p:=28) (v:=?vo_w37) (w1:=(w34.setCell ⟨go15,(x19_1 : Int).toNat,none⟩ (.bool false))) ?hg ?ho ?hn ?hr ?_;(case ho=>rfl);(case hg=>rfl);(case hn=>rfl);(case hr=>(go_simp;done));intro w37 hw;have hg : w34.grownBy w37 (some go15):=(by rw [hw];exact HP36.2);have hp_ : Kd.R Kd.bool 4 w37 w.heap.size (fun _=>True) (.slice (some ⟨go15,0,none⟩) x5_1.length co15) y284:=(by rw [hw,Ny284.out];(try rw [← Nbq16.out]);exact HP36.1);clear HP36;replace HO_6:=M0 (Kd.R_over' (v:=(.slice (some ⟨go15,0,none⟩) x5_1.length co15)) HO_6.out (Kd.R_typed HO_5.out) (by decide) hg);replace HO_7:=M0 (Kd.R_over' (v:=(.slice (some ⟨go15,0,none⟩) x5_1.length co15)) HO_7.out (Kd.R_typed HO_5.out) (by decide) hg);replace BK283:=M0 (blk_grown (g:=gb283) (o:=.cells #[.bool false,.string ((rd_T61 l0 x19_1).f1)] 61 (0,0)) BK283.out hg (Kd.R_ne HO_5.out BK283.out (by decide)));replace HO_5:=M0 (hp_);replace HB:=M0 ((by rw [hw];exact below_set (HB.out) GB15.out : Below w.heap.size w w37));clear hg hw hp_;have hcz38_0:=bcv (v:=.bool false) BK283.out 0 rfl))
     go_roundg k1
     case measure=>have:=HK1.out;omega
     case rel=>exact ⟨(y284),(x6_1),(x7_1),(wrap64 (x19_1 + 1)),(by rfl),H',⟨by have:=HK1.out;omega⟩,⟨by exact HO_5.out⟩,⟨by exact HO_6.out⟩,⟨by exact HO_7.out⟩,⟨HB.out⟩⟩
   ·rw [if_neg c11] at H
    have c11b0:=decide_eq_false c11
    clear c11
    simp only [Option.some.injEq,Prod.mk.injEq] at H
    obtain ⟨rfl,rfl,rfl⟩:=H
    go_wp2
    go_ret3
    exact ⟨_,_,_,by rfl,by exact HO_5.out,by exact HO_6.out,by exact HO_7.out,HB.out⟩






end Go.Proofs.Ytffhbpepppodeaa.PFnRepaired
