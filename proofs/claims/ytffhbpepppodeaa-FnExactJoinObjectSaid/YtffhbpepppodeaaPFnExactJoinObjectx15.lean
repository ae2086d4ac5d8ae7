import Derived.Test.YtffhbpepppodeaaPFnExactJoinObjectx0
import Derived.Test.YtffhbpepppodeaaPFnExactJoinObjectx5
import Derived.Test.YtffhbpepppodeaaPFnExactJoinObjectx7
import Derived.Test.YtffhbpepppodeaaPFnExactJoinObjectx11
import Derived.Test.YtffhbpepppodeaaPFnExactJoinObjectx12
import Derived.Test.YtffhbpepppodeaaPFnExactJoinObjectx14
namespace Go.Proofs.Ytffhbpepppodeaa.PFnExactJoinObject
private theorem nn {α : Type} {c : Prop} [Decidable c] {a : Option α} {r : α} (h : (if c then a else none) = some r) : c ∧ a = some r:=by
 split at h
 ·exact ⟨‹c›,h⟩
 ·cases h
open Go.RowKit Go.Proofs.YtffhbpepppodeaaW.PrintWords Go.Proofs.YtffhbpepppodeaaW.PrintLast Go.Proofs.YtffhbpepppodeaaW.PrintMore
attribute [local go_sem] cF cG cW cX cn cp cI cJ   -- for this text's walks alone
set_option linter.unusedVariables false
set_option linter.unusedSimpArgs false

/-! ### al: function 44 -/
mutual
def al.j0 : Nat → List (S61) → Bool → Int → Int → Int → Option (Int × List ByteArray)
 | 0,_,_,_,_,_=>none
 | k + 1,x1,x20,x352000,x352001,x352002=>if x20 = true then (some (1,([] : List ByteArray))) else ((bL.f k x1).bind fun bt355=>((bd.f k bt355.1 bt355.2).bind fun t361=>(al.l0 k bt355.1 bt355.2 t361 false 0 x352000 x352001 x352002)))
def al.l0 : Nat → List ByteArray → List Bool → Int → Bool → Int → Int → Int → Int → Option (Int × List ByteArray)
 | 0,_,_,_,_,_,_,_,_=>none
 | k + 1,x5,x6,x7,x8,x9,x352000,x352001,x352002=>if x9 < (x6.length : Int) then (if x8 = true then (al.l0 k x5 x6 x7 true (wrap64 (x9 + 1)) x352000 x352001 x352002) else (if 0 ≤ x9 then (al.l0 k x5 x6 x7 (rdOf false x6 x9) (wrap64 (x9 + 1)) x352000 x352001 x352002) else (none))) else (if x7 < 0 then (al.j2 k x5 x6 x7 x8 x352000 x352001 x352002) else (al.j2 k x5 x6 x7 false x352000 x352001 x352002))
def al.j2 : Nat → List ByteArray → List Bool → Int → Bool → Int → Int → Int → Option (Int × List ByteArray)
 | 0,_,_,_,_,_,_,_=>none
 | k + 1,x5,x6,x7,x47,x352000,x352001,x352002=>if x47 = true then (some (2,([] : List ByteArray))) else ((aD.f k x352000 x352001 x352002 x6).bind fun t363=>(if (t363.length : Int) = 0 then (some (8,([] : List ByteArray))) else ((aZ.f k x352000 x352001 x352002 x5 t363 x7).bind fun t366=>((bH.f k x352000 x352001 x352002 t366 x7).bind fun t369=>(some (0,t369))))))
end
def al.f (k : Nat) (a0_0 : Int) (a0_1 : Int) (a0_2 : Int) (l1 : List (S61)) : Option (Int × List ByteArray):=(aY.f a0_0 a0_1 a0_2).bind fun t353=>(if t353 = 0 then ((b8.f a0_0 a0_1 a0_2).bind fun t354=>(al.j0 k l1 ((l1.length : Int) != t354) a0_0 a0_1 a0_2)) else (al.j0 k l1 true a0_0 a0_1 a0_2))
def al.T15 : Bool × List (List Nat × List Nat):=(true,[([],[]),([],[]),([],[]),([],[]),([],[]),([1,2,3,4],[1,2,3,4]),([],[]),([0,5,6,5],[0,5,6]),([7],[7]),([8,7,0,1,2,3,4,5,6,7,8],[8])])
def al.B15 : List Nat:=[0,0,0,0,0,30,0,127,255,511]
theorem al.tab15 : rtab .any (opsOf Try.f44 15) = al.T15:=by kernel_rfl
theorem al.bits15 : cQ al.T15.2 al.B15 = true:=by kernel_rfl
set_option maxHeartbeats 8000000 in
set_option maxRecDepth 100000 in
theorem al.calls (k : Nat) (a0_0 : Int) (a0_1 : Int) (a0_2 : Int) (A1 : Option Addr) (c1 : Nat) (l1 : List (S61)) (r1 : Int) (r2 : List ByteArray) (w : World) (hr1 : Kd.C k61 w A1 l1.length l1) (hc1 : l1.length ≤ c1) (h : al.f k a0_0 a0_1 a0_2 l1 = some (r1,r2)) :
  Calls Try.prog 44 #[.agg #[.int .i64 a0_0,.int .i64 a0_1,.int .i64 a0_2],.slice A1 l1.length c1] w fun e w'=>∃ v1_ : Value,e = .returned (.agg #[.int .i64 r1,v1_]) ∧ Kd.R Kd.string 9 w' w.heap.size (fun _=>True) v1_ r2 ∧ Below w.heap.size w w':=by
 have HR1:=M0 hr1
 have HC1:=M0 hc1
 clear hr1 hc1
 have HB:=M0 (Below.refl w.heap.size w)
 have H : ((aY.f a0_0 a0_1 a0_2).bind fun t353=>(if t353 = 0 then ((b8.f a0_0 a0_1 a0_2).bind fun t354=>(al.j0 k l1 ((l1.length : Int) != t354) a0_0 a0_1 a0_2)) else (al.j0 k l1 true a0_0 a0_1 a0_2))) = some (r1,r2):=h
 clear h
 have HC3:=M0 H
 clear H
 go_enter Try.func44,Try.ntmps44
 go_upto_region 1 with (first|((with_reducible refine ak (N:=2) rfl ?_);(try (refine au (by rfl) ?_;dsimp only));refine aw rfl (N:=2) rfl (cs:=#[.int .i64 a0_0,.int .i64 a0_1,.int .i64 a0_2]) (t:=43) (by go_simp) ?_;intro gb351 hg w4 hbox hb;have BK351:=M0 (hbox);replace HB:=M0 (aa HB.out hb);clear hb hbox hg)|((with_reducible refine ak (N:=4) rfl ?_);(try (refine au (by rfl) ?_;dsimp only));refine aw rfl (N:=4) rfl (cs:=#[.int .i64 0,.slice none 0 0]) (t:=68) (by go_simp) ?_;intro gb352 hg w5 hbox hb;have BK352:=M0 (hbox);have GW352:=M0 ((by rw [hg];exact (aj HB.out) : w.heap.size ≤ gb352));have GE352:=GW352;replace HB:=M0 (aa HB.out hb);have NB351_352:=M0 ((by rw [hg];exact Nat.ne_of_lt (a7 BK351.out) : gb351 ≠ gb352));have NB352_351:=M0 NB351_352.out.symm;replace BK351:=M0 (ab BK351.out hb);clear hb hbox hg))
 (try simp only [Act.put,List.setIfInBounds_toArray,List.set_cons_zero,List.set_cons_succ])
 go_cut [20] (fun v20 wc=>∃ (kq : Nat) (x20_2 : Bool),v20 = .bool x20_2 ∧ Aside0 (al.j0 kq l1 x20_2 a0_0 a0_1 a0_2 = some (r1,r2)) ∧ Aside0 (kq ≤ k) ∧ Aside0 (wc.heap[gb351]? = some (.cells #[.int .i64 a0_0,.int .i64 a0_1,.int .i64 a0_2] 43 (0,0))) ∧ Aside0 (wc.heap[gb352]? = some (.cells #[.int .i64 0,(.slice none 0 0)] 68 (0,0))) ∧ Aside0 (Below w.heap.size w wc))
 case first=>
  have H:=HC3.out
  clear HC3
  replace H:=Option.bind_eq_some_iff.mp H
  obtain ⟨t353,A60,H⟩:=H
  replace H : (if t353 = 0 then ((b8.f a0_0 a0_1 a0_2).bind fun t354=>(al.j0 k l1 ((l1.length : Int) != t354) a0_0 a0_1 a0_2)) else (al.j0 k l1 true a0_0 a0_1 a0_2)) = some (r1,r2):=H
  have A6:=M0 A60
  clear A60
  by_cases c7 : t353 = 0
  ·rw [if_pos c7] at H
   have c7b1 : (t353 != 0) = false:=bne_eq_false_iff_eq.mpr c7
   clear c7
   (skip)
   replace H:=Option.bind_eq_some_iff.mp H
   obtain ⟨t354,A80,H⟩:=H
   replace H : (al.j0 k l1 ((l1.length : Int) != t354) a0_0 a0_1 a0_2) = some (r1,r2):=H
   have A8:=M0 A80
   clear A80
   have H':=M0 H
   clear H
   have hcz10_0:=bcv (v:=.int .i64 a0_0) BK351.out 0 rfl
   have hcz10_1:=bcv (v:=.int .i64 a0_1) BK351.out 1 rfl
   have hcz10_2:=bcv (v:=.int .i64 a0_2) BK351.out 2 rfl
   go_wp2_with (first|((with_reducible refine ah (f:=89) rfl ?_);refine aH (some 12) rfl rfl Try.func89 (by kernel_rfl) rfl #[.agg #[.int .i64 a0_0,.int .i64 a0_1,.int .i64 a0_2]] rfl (by (try simp only [List.map_toArray,List.map_cons,List.map_nil]);rfl) ?_;(with_reducible refine (aY.calls a0_0 a0_1 a0_2 t353 _ A6.out).mono ?_);rintro e w11 ⟨rfl,hb⟩;refine ⟨_,rfl,?_⟩;replace BK351:=M0 (ab BK351.out hb);replace BK352:=M0 (ab BK352.out hb);replace HB:=M0 (aa HB.out hb);clear hb;have hcz12_0:=bcv (v:=.int .i64 a0_0) BK351.out 0 rfl;have hcz12_1:=bcv (v:=.int .i64 a0_1) BK351.out 1 rfl;have hcz12_2:=bcv (v:=.int .i64 a0_2) BK351.out 2 rfl)|(go_at_call 97;(with_reducible refine (b8.calls a0_0 a0_1 a0_2 t354 _ A8.out).mono ?_);rintro e w13 ⟨rfl,hb⟩;replace BK351:=M0 (ab BK351.out hb);replace BK352:=M0 (ab BK352.out hb);replace HB:=M0 (aa HB.out hb);clear hb))
   go_meet
   case rel=>exact ⟨_,(((l1.length : Int) != t354)),(by rfl),H',⟨by omega⟩,⟨by exact BK351.out⟩,⟨by exact BK352.out⟩,⟨HB.out⟩⟩
  ·rw [if_neg c7] at H
   have c7b1 : (t353 != 0) = true:=bne_iff_ne.mpr c7
   (skip)
   have H':=M0 H
   clear H
   have hcz15_0:=bcv (v:=.int .i64 a0_0) BK351.out 0 rfl
   have hcz15_1:=bcv (v:=.int .i64 a0_1) BK351.out 1 rfl
   have hcz15_2:=bcv (v:=.int .i64 a0_2) BK351.out 2 rfl
   go_wp2_with (((with_reducible refine ah (f:=89) rfl ?_);refine aH (some 12) rfl rfl Try.func89 (by kernel_rfl) rfl #[.agg #[.int .i64 a0_0,.int .i64 a0_1,.int .i64 a0_2]] rfl (by (try simp only [List.map_toArray,List.map_cons,List.map_nil]);rfl) ?_;(with_reducible refine (aY.calls a0_0 a0_1 a0_2 t353 _ A6.out).mono ?_);rintro e w16 ⟨rfl,hb⟩;refine ⟨_,rfl,?_⟩;replace BK351:=M0 (ab BK351.out hb);replace BK352:=M0 (ab BK352.out hb);replace HB:=M0 (aa HB.out hb);clear hb))
   go_meet
   case rel=>exact ⟨_,(true),(by rfl),H',⟨by omega⟩,⟨by exact BK351.out⟩,⟨by exact BK352.out⟩,⟨HB.out⟩⟩
 case rest=>
  clear HC3
  obtain ⟨kq,x20_2,rfl,HA,HJ2,BK351,BK352,HB⟩:=hcut
  cases kq with
  | zero=>exact absurd HA.out (by simp [al.j0])
  | succ kj2=>
   have H:=HA.out
   clear HA
   simp only [al.j0] at H
   by_cases c17 : x20_2 = true
   ·subst c17
    have H1 : (some (1,([] : List ByteArray))) = some (r1,r2):=by rw [if_pos rfl] at H;exact H
    clear H
    have H:=H1
    clear H1
    simp only [Option.some.injEq,Prod.mk.injEq] at H
    obtain ⟨rfl,rfl⟩:=H
    have hcz19_0:=bcv (v:=.int .i64 0) BK352.out 0 rfl
    have hcz19_1:=bcv (v:=.slice none 0 0) BK352.out 1 rfl
    have hfz19_0:=ag BK352.out 0
    have hfz19_1:=ag BK352.out 1
    go_wp2
    refine bodyPost_ret (results_cell_row rfl _ _ gb352 68 #[.int .i64 1,.slice none 0 0] (0,0) _ rfl (by refine aW (cs:=#[.int .i64 1,.slice none 0 0]) ?_ 1 _ rfl;refine aW (cs:=#[.int .i64 0,.slice none 0 0]) ?_ 0 _ rfl;exact BK352.out) Try.underlying68 rfl (by kernel_rfl)) rfl ?_
    exact ⟨_,by rfl,by exact Kd.R_nil _ _ _ _ _,by repeat ((with_reducible first|exact HB.out|refine ax ?_ GE352.out))⟩
   ·replace c17:=Bool.eq_false_iff.mpr c17
    subst c17
    have H1 : ((bL.f kj2 l1).bind fun bt355=>((bd.f kj2 bt355.1 bt355.2).bind fun t361=>(al.l0 kj2 bt355.1 bt355.2 t361 false 0 a0_0 a0_1 a0_2))) = some (r1,r2):=by rw [if_neg (show ¬ (false = true) by decide)] at H;exact H
    clear H
    have H:=H1
    clear H1
    replace H:=Option.bind_eq_some_iff.mp H
    obtain ⟨⟨t355,t356⟩,A200,H⟩:=H
    dsimp only at H
    have A20:=M0 A200
    clear A200
    replace H:=Option.bind_eq_some_iff.mp H
    obtain ⟨t361,A210,H⟩:=H
    replace H : (al.l0 kj2 t355 t356 t361 false 0 a0_0 a0_1 a0_2) = some (r1,r2):=H
    have A21:=M0 A210
    clear A210
    have H':=M0 H
    clear H
    go_wp2_with (first|((with_reducible refine ah (f:=103) rfl ?_);refine aH (some 24) rfl rfl Try.func103 (by kernel_rfl) rfl #[.slice A1 l1.length c1] rfl (by (try simp only [List.map_toArray,List.map_cons,List.map_nil]);rfl) ?_;(with_reducible refine (bL.calls kj2 _ _ l1 t355 t356 _ (Kd.a8 HR1.out HB.out) HC1.out A20.out).mono ?_);rintro e w22 ⟨v357,v359,rfl,ho0,ho1,hb⟩;refine ⟨_,rfl,?_⟩;have HO358:=M0 (Kd.bj ho0 (aj HB.out));have HO360:=M0 (Kd.bj ho1 (aj HB.out));replace BK351:=M0 (ab BK351.out hb);replace BK352:=M0 (ab BK352.out hb);replace HB:=M0 (aa HB.out hb);clear hb ho0 ho1;obtain ⟨Ao23,co23,eo23⟩:=Kd.bc HO358.out;subst eo23;obtain ⟨Ao24,co24,eo24⟩:=Kd.bc HO360.out;subst eo24)|((with_reducible refine ah (f:=90) rfl ?_);refine aH (some 29) rfl rfl Try.func90 (by kernel_rfl) rfl #[.slice Ao23 t355.length co23,.slice Ao24 t356.length co24] rfl (by (try simp only [List.map_toArray,List.map_cons,List.map_nil]);rfl) ?_;(with_reducible refine (bd.calls kj2 _ _ t355 _ _ t356 t361 _ (Kd.aE HO358.out).2.2 (Kd.aE HO358.out).2.1 (Kd.aE HO360.out).2.2 (Kd.aE HO360.out).2.1 A21.out).mono ?_);rintro e w' ⟨rfl,⟨nd,rfl⟩⟩;refine ⟨_,rfl,?_⟩))
    go_loopg [8,9] kj2 (fun kq v8 v9 w'=>∃ (x8_2 : Bool) (x9_2 : Int),v8 = .bool x8_2 ∧ v9 = .int .i64 x9_2 ∧ Aside0 (al.l0 kq t355 t356 t361 x8_2 x9_2 a0_0 a0_1 a0_2 = some (r1,r2)) ∧ Aside0 (kq ≤ kj2) ∧ Aside0 (Kd.R Kd.string 9 w' w.heap.size (fun _=>True) (.slice Ao23 t355.length co23) t355) ∧ Aside0 (Kd.R Kd.bool 4 w' w.heap.size (fun _=>True) (.slice Ao24 t356.length co24) t356) ∧ Aside0 (w'.heap[gb351]? = some (.cells #[.int .i64 a0_0,.int .i64 a0_1,.int .i64 a0_2] 43 (0,0))) ∧ Aside0 (w'.heap[gb352]? = some (.cells #[.int .i64 0,(.slice none 0 0)] 68 (0,0))) ∧ Aside0 (Below w.heap.size w w'))
    case atStart=>exact ⟨(false),(0),(by rfl),(by rfl),H',⟨Nat.le_refl _⟩,⟨by (with_reducible repeat (apply Kd.R_drewN));exact HO358.out⟩,⟨by (with_reducible repeat (apply Kd.R_drewN));exact HO360.out⟩,⟨by (with_reducible repeat (refine bM ?_ _));exact BK351.out⟩,⟨by (with_reducible repeat (refine bM ?_ _));exact BK352.out⟩,⟨by repeat ((with_reducible first|exact HB.out|apply aN))⟩⟩
    case round=>
     clear H'
     obtain ⟨x8_2,x9_2,rfl,rfl,HA,HK2,HO_5,HO_6,BK351,BK352,HB⟩:=hrel
     cases gk with
     | zero=>exact absurd HA.out (by simp [al.l0])
     | succ k2=>
      have H:=HA.out
      clear HA
      simp only [al.l0] at H
      by_cases c25 : x9_2 < (t356.length : Int)
      ·rw [if_pos c25] at H
       have c25b0:=decide_eq_true c25
       clear c25
       by_cases c26 : x8_2 = true
       ·subst c26
        have H1 : (al.l0 k2 t355 t356 t361 true (wrap64 (x9_2 + 1)) a0_0 a0_1 a0_2) = some (r1,r2):=by rw [if_pos rfl] at H;exact H
        clear H
        have H:=H1
        clear H1
        have H':=M0 H
        clear H
        go_wp2
        go_roundg k2
        case measure=>have:=HJ2.out;have:=HK2.out;omega
        case rel=>exact ⟨(true),(wrap64 (x9_2 + 1)),(by rfl),(by rfl),H',⟨by have:=HJ2.out;have:=HK2.out;omega⟩,⟨by exact HO_5.out⟩,⟨by exact HO_6.out⟩,⟨by exact BK351.out⟩,⟨by exact BK352.out⟩,⟨HB.out⟩⟩
       ·replace c26:=Bool.eq_false_iff.mpr c26
        subst c26
        have H1 : (if 0 ≤ x9_2 then (al.l0 k2 t355 t356 t361 (rdOf false t356 x9_2) (wrap64 (x9_2 + 1)) a0_0 a0_1 a0_2) else (none)) = some (r1,r2):=by rw [if_neg (show ¬ (false = true) by decide)] at H;exact H
        clear H
        have H:=H1
        clear H1
        obtain ⟨c27,H⟩:=nn H
        have c27b0:=decide_eq_true c27
        clear c27
        have H':=M0 H
        clear H
        have p362 : 0 ≤ (x9_2 : Int):=of_decide_eq_true (by with_reducible assumption)
        have q362 : x9_2 < (t356.length : Int):=of_decide_eq_true (by with_reducible assumption)
        obtain ⟨ad362,e362,hx362_0⟩:=Kd.dH (Kd.aE HO_6.out).2.2 x9_2 p362 q362
        cases e362
        replace p362:=eq_true p362
        replace q362:=eq_true q362
        go_wp2
        go_roundg k2
        case measure=>have:=HJ2.out;have:=HK2.out;omega
        case rel=>exact ⟨(rdOf false t356 x9_2),(wrap64 (x9_2 + 1)),(by rfl),(by rfl),H',⟨by have:=HJ2.out;have:=HK2.out;omega⟩,⟨by exact HO_5.out⟩,⟨by exact HO_6.out⟩,⟨by exact BK351.out⟩,⟨by exact BK352.out⟩,⟨HB.out⟩⟩
      ·rw [if_neg c25] at H
       have c25b0:=decide_eq_false c25
       clear c25
       have HC28:=M0 H
       clear H
       go_upto_region 10 with (fail)
       go_cut [47] (fun v47 wc=>∃ (kq : Nat) (x47_27 : Bool),v47 = .bool x47_27 ∧ Aside0 (al.j2 kq t355 t356 t361 x47_27 a0_0 a0_1 a0_2 = some (r1,r2)) ∧ Aside0 (kq ≤ k2) ∧ Aside0 (Kd.R Kd.string 9 wc w.heap.size (fun _=>True) (.slice Ao23 t355.length co23) t355) ∧ Aside0 (Kd.R Kd.bool 4 wc w.heap.size (fun _=>True) (.slice Ao24 t356.length co24) t356) ∧ Aside0 (wc.heap[gb351]? = some (.cells #[.int .i64 a0_0,.int .i64 a0_1,.int .i64 a0_2] 43 (0,0))) ∧ Aside0 (wc.heap[gb352]? = some (.cells #[.int .i64 0,(.slice none 0 0)] 68 (0,0))) ∧ Aside0 (Below w.heap.size w wc))
       case first=>
        have H:=HC28.out
        clear HC28
        by_cases c29 : t361 < 0
        ·rw [if_pos c29] at H
         have c29b0:=decide_eq_true c29
         clear c29
         (skip)
         have H':=M0 H
         clear H
         go_wp2
         go_meet
         case rel=>exact ⟨_,(x8_2),(by rfl),H',⟨by have:=HJ2.out;have:=HK2.out;omega⟩,⟨by exact HO_5.out⟩,⟨by exact HO_6.out⟩,⟨by exact BK351.out⟩,⟨by exact BK352.out⟩,⟨HB.out⟩⟩
        ·rw [if_neg c29] at H
         have c29b0:=decide_eq_false c29
         clear c29
         (skip)
         have H':=M0 H
         clear H
         go_wp2
         go_meet
         case rel=>exact ⟨_,(false),(by rfl),H',⟨by have:=HJ2.out;have:=HK2.out;omega⟩,⟨by exact HO_5.out⟩,⟨by exact HO_6.out⟩,⟨by exact BK351.out⟩,⟨by exact BK352.out⟩,⟨HB.out⟩⟩
       case rest=>
        clear HC28
        (try clear c25b0)
        obtain ⟨kq,x47_27,rfl,HA,HJ27,HO_5,HO_6,BK351,BK352,HB⟩:=hcut
        cases kq with
        | zero=>exact absurd HA.out (by simp [al.j2])
        | succ kj27=>
         have H:=HA.out
         clear HA
         simp only [al.j2] at H
         by_cases c30 : x47_27 = true
         ·subst c30
          have H1 : (some (2,([] : List ByteArray))) = some (r1,r2):=by rw [if_pos rfl] at H;exact H
          clear H
          have H:=H1
          clear H1
          simp only [Option.some.injEq,Prod.mk.injEq] at H
          obtain ⟨rfl,rfl⟩:=H
          have hcz32_0:=bcv (v:=.int .i64 0) BK352.out 0 rfl
          have hcz32_1:=bcv (v:=.slice none 0 0) BK352.out 1 rfl
          have hfz32_0:=ag BK352.out 0
          have hfz32_1:=ag BK352.out 1
          go_wp2
          refine bodyPost_ret (results_cell_row rfl _ _ gb352 68 #[.int .i64 2,.slice none 0 0] (0,0) _ rfl (by refine aW (cs:=#[.int .i64 2,.slice none 0 0]) ?_ 1 _ rfl;refine aW (cs:=#[.int .i64 0,.slice none 0 0]) ?_ 0 _ rfl;exact BK352.out) Try.underlying68 rfl (by kernel_rfl)) rfl ?_
          exact ⟨_,by rfl,by exact Kd.R_nil _ _ _ _ _,by repeat ((with_reducible first|exact HB.out|refine ax ?_ GE352.out))⟩
         ·replace c30:=Bool.eq_false_iff.mpr c30
          subst c30
          have H1 : ((aD.f kj27 a0_0 a0_1 a0_2 t356).bind fun t363=>(if (t363.length : Int) = 0 then (some (8,([] : List ByteArray))) else ((aZ.f kj27 a0_0 a0_1 a0_2 t355 t363 t361).bind fun t366=>((bH.f kj27 a0_0 a0_1 a0_2 t366 t361).bind fun t369=>(some (0,t369)))))) = some (r1,r2):=by rw [if_neg (show ¬ (false = true) by decide)] at H;exact H
          clear H
          have H:=H1
          clear H1
          replace H:=Option.bind_eq_some_iff.mp H
          obtain ⟨t363,A330,H⟩:=H
          replace H : (if (t363.length : Int) = 0 then (some (8,([] : List ByteArray))) else ((aZ.f kj27 a0_0 a0_1 a0_2 t355 t363 t361).bind fun t366=>((bH.f kj27 a0_0 a0_1 a0_2 t366 t361).bind fun t369=>(some (0,t369))))) = some (r1,r2):=H
          have A33:=M0 A330
          clear A330
          by_cases c34 : (t363.length : Int) = 0
          ·rw [if_pos c34] at H
           have c34b0 : ((t363.length : Int) == 0) = true:=beq_iff_eq.mpr c34
           clear c34
           simp only [Option.some.injEq,Prod.mk.injEq] at H
           obtain ⟨rfl,rfl⟩:=H
           have hcz36_0:=bcv (v:=.int .i64 a0_0) BK351.out 0 rfl
           have hcz36_1:=bcv (v:=.int .i64 a0_1) BK351.out 1 rfl
           have hcz36_2:=bcv (v:=.int .i64 a0_2) BK351.out 2 rfl
           go_wp2_with (((with_reducible refine ah (f:=99) rfl ?_);refine aH (some 51) rfl rfl Try.func99 (by kernel_rfl) rfl #[.agg #[.int .i64 a0_0,.int .i64 a0_1,.int .i64 a0_2],.slice Ao24 t356.length co24] rfl (by (try simp only [List.map_toArray,List.map_cons,List.map_nil]);rfl) ?_;(with_reducible refine (aD.calls kj27 a0_0 a0_1 a0_2 _ _ t356 t363 _ (Kd.aE HO_6.out).2.2 (Kd.aE HO_6.out).2.1 A33.out).mono ?_);rintro e w37 ⟨v364,rfl,ho0,hb⟩;refine ⟨_,rfl,?_⟩;replace HO_5:=M0 (Kd.aK HO_5.out hb);replace HO_6:=M0 (Kd.aK HO_6.out hb);have HO365:=M0 (Kd.bj ho0 (aj HB.out));replace BK351:=M0 (ab BK351.out hb);replace BK352:=M0 (ab BK352.out hb);replace HB:=M0 (aa HB.out hb);clear hb ho0;obtain ⟨Ao38,co38,eo38⟩:=Kd.bc HO365.out;subst eo38;have hcz39_0:=bcv (v:=.int .i64 0) BK352.out 0 rfl;have hcz39_1:=bcv (v:=.slice none 0 0) BK352.out 1 rfl;have hfz39_0:=ag BK352.out 0;have hfz39_1:=ag BK352.out 1))
           refine bodyPost_ret (results_cell_row rfl _ _ gb352 68 #[.int .i64 8,.slice none 0 0] (0,0) _ rfl (by refine aW (cs:=#[.int .i64 8,.slice none 0 0]) ?_ 1 _ rfl;refine aW (cs:=#[.int .i64 0,.slice none 0 0]) ?_ 0 _ rfl;exact BK352.out) Try.underlying68 rfl (by kernel_rfl)) rfl ?_
           exact ⟨_,by rfl,by exact Kd.R_nil _ _ _ _ _,by repeat ((with_reducible first|exact HB.out|refine ax ?_ GE352.out))⟩
          ·rw [if_neg c34] at H
           have c34b0 : ((t363.length : Int) == 0) = false:=beq_eq_false_iff_ne.mpr c34
           replace H:=Option.bind_eq_some_iff.mp H
           obtain ⟨t366,A400,H⟩:=H
           replace H : ((bH.f kj27 a0_0 a0_1 a0_2 t366 t361).bind fun t369=>(some (0,t369))) = some (r1,r2):=H
           have A40:=M0 A400
           clear A400
           replace H:=Option.bind_eq_some_iff.mp H
           obtain ⟨t369,A410,H⟩:=H
           replace H : (some (0,t369)) = some (r1,r2):=H
           have A41:=M0 A410
           clear A410
           simp only [Option.some.injEq,Prod.mk.injEq] at H
           obtain ⟨rfl,rfl⟩:=H
           have hcz43_0:=bcv (v:=.int .i64 a0_0) BK351.out 0 rfl
           have hcz43_1:=bcv (v:=.int .i64 a0_1) BK351.out 1 rfl
           have hcz43_2:=bcv (v:=.int .i64 a0_2) BK351.out 2 rfl
           try go_wp2_with (((with_reducible refine ah (f:=99) rfl ?_);refine aH (some 51) rfl rfl Try.func99 (by kernel_rfl) rfl #[.agg #[.int .i64 a0_0,.int .i64 a0_1,.int .i64 a0_2],.slice Ao24 t356.length co24] rfl (by (try simp only [List.map_toArray,List.map_cons,List.map_nil]);rfl) ?_;(with_reducible refine (aD.calls kj27 a0_0 a0_1 a0_2 _ _ t356 t363 _ (Kd.aE HO_6.out).2.2 (Kd.aE HO_6.out).2.1 A33.out).mono ?_);rintro e w44 ⟨v364,rfl,ho0,hb⟩;refine ⟨_,rfl,?_⟩;replace HO_5:=M0 (Kd.aK HO_5.out hb);replace HO_6:=M0 (Kd.aK HO_6.out hb);have HO365:=M0 (Kd.bj ho0 (aj HB.out));replace BK351:=M0 (ab BK351.out hb);replace BK352:=M0 (ab BK352.out hb);replace HB:=M0 (aa HB.out hb);clear hb ho0;obtain ⟨Ao45,co45,eo45⟩:=Kd.bc HO365.out;subst eo45))
           replace HO_5:=M0 (Kd.cL HO_5.out)
           replace HO_6:=M0 (Kd.cL HO_6.out)
           replace HO365:=M0 (Kd.cL HO365.out)
           replace BK351:=M0 (bl BK351.out)
           replace BK352:=M0 (bl BK352.out)
           replace HB:=M0 (aQ HB.out)
           refine bW (n:=10) (S:=fun w'=>w'.cell? ⟨gb351,0,none⟩ = some (.int .i64 a0_0) ∧ w'.cell? ⟨gb351,1,none⟩ = some (.int .i64 a0_1) ∧ w'.cell? ⟨gb351,2,none⟩ = some (.int .i64 a0_2)) (ds:=[]) #[O,O,O,O,O,O,O,O,O,O] (by kernel_rfl) rfl rfl ⟨(ai BK351.out 0).trans rfl,(ai BK351.out 1).trans rfl,(ai BK351.out 2).trans rfl⟩ (fun hHeld=>?_);refine cr al.tab15 al.bits15 (fun HT_ HW_=>?_)
           generalize w44.drew = w46 at HO_5 HO_6 HO365 BK351 BK352 HB hHeld ⊢
           refine aq (i:=2) (N:=some 58) #[O,O,I,O,O,O,O,O,O,O] rfl rfl (aM HT_.out (by kernel_rfl)) (fun _ _ _ h=>h) (Or.inl ⟨by rfl,by intro w';go_simp;with_reducible rfl⟩) (by simp only [Act.put,List.setIfInBounds_toArray,List.set_cons_zero,List.set_cons_succ,ae,af];rfl) ?_
           refine aq (i:=3) (N:=some 59) #[O,O,I,I,O,O,O,O,O,O] rfl rfl (aM HT_.out (by kernel_rfl)) (fun _ _ _ h=>h) (Or.inl ⟨by rfl,by intro w';go_simp;with_reducible rfl⟩) (by simp only [Act.put,List.setIfInBounds_toArray,List.set_cons_zero,List.set_cons_succ,ae,af];rfl) ?_
           refine aq (i:=4) (N:=some 60) #[O,O,I,I,I,O,O,O,O,O] rfl rfl (aM HT_.out (by kernel_rfl)) (fun _ _ _ h=>h) (Or.inl ⟨by rfl,by intro w';go_simp;with_reducible rfl⟩) (by simp only [Act.put,List.setIfInBounds_toArray,List.set_cons_zero,List.set_cons_succ,ae,af];rfl) ?_
           refine aq (i:=6) (N:=some 62) #[O,O,I,I,I,O,I,O,O,O] rfl rfl (aM HT_.out (by kernel_rfl)) (fun _ _ _ h=>h) (Or.inl ⟨by rfl,by intro w';go_simp;with_reducible rfl⟩) (by simp only [Act.put,List.setIfInBounds_toArray,List.set_cons_zero,List.set_cons_succ,ae,af];rfl) ?_
           refine bn (i:=0) (N:=some 56) #[I,O,I,I,I,O,I,O,O,O] rfl rfl (bC HT_.out HW_.out (by kernel_rfl)) (fun _ _ _ h=>h) (Or.inl ⟨by rfl,by rintro w' ⟨s0,s1,s2⟩;go_simp;with_reducible rfl⟩) hHeld (by simp only [Act.put,List.setIfInBounds_toArray,List.set_cons_zero,List.set_cons_succ,ae,af];rfl) ?_
           refine bn (i:=1) (N:=some 57) #[I,I,I,I,I,O,I,O,O,O] rfl rfl (bC HT_.out HW_.out (by kernel_rfl)) (fun _ _ _ h=>h) (Or.inl ⟨by rfl,by rintro w' ⟨s0,s1,s2⟩;go_simp;with_reducible rfl⟩) hHeld (by simp only [Act.put,List.setIfInBounds_toArray,List.set_cons_zero,List.set_cons_succ,ae,af];rfl) ?_
           refine one_ (i:=5) (N:=some 61) #[I,I,I,I,I,I,I,O,O,O] rfl rfl (bR HT_.out (by kernel_rfl)) (by decide) (fun K hK=>?_)
           refine cE Try.func104 (by kernel_rfl) rfl #[.agg #[.int .i64 a0_0,.int .i64 a0_1,.int .i64 a0_2],.slice Ao23 t355.length co23,.slice Ao45 t363.length co45,.int .i64 t361] (by rfl) rfl rfl (by (try simp only [List.map_toArray,List.map_cons,List.map_nil]);rfl) ?_
           with_reducible refine (aZ.calls kj27 a0_0 a0_1 a0_2 _ _ t355 _ _ t363 t361 t366 _ ?side1 ?side2 ?side3 ?side4 A40.out).mono ?_
           (case side1=>exact (Kd.aE HO_5.out).2.2)
           (case side2=>exact (Kd.aE HO_5.out).2.1)
           (case side3=>exact (Kd.aE HO365.out).2.2)
           (case side4=>exact (Kd.aE HO365.out).2.1)
           rintro e w47 ⟨v367,rfl,ho0,hb⟩
           refine ⟨_,rfl,?_⟩
           replace HO_6:=M0 (Kd.aK HO_6.out hb)
           replace HO365:=M0 (Kd.aK HO365.out hb)
           have HO368:=M0 (Kd.bj (Kd.cZ ho0 (Kd.R_lt HO_5.out)) (aj HB.out))
           replace HO_5:=M0 (Kd.cj HO_5.out (Kd.cS ho0) hb)
           replace BK351:=M0 (ab BK351.out hb)
           replace BK352:=M0 (ab BK352.out hb)
           replace HB:=M0 (aa HB.out hb)
           clear hb ho0
           obtain ⟨Ao48,co48,eo48⟩:=Kd.bc HO368.out
           (subst eo48)
           refine hK.out _ _ ⟨(ai BK351.out 0).trans rfl,(ai BK351.out 1).trans rfl,(ai BK351.out 2).trans rfl⟩ (fun hHeld=>?_)
           clear hK K
           refine bz (a':=?_) ?_ ?_
           rotate_left
           ·show Act.put _ (some 61) _ = _
            simp only [Act.put,List.setIfInBounds_toArray,List.set_cons_zero,List.set_cons_succ,ae,af]
            rfl
           refine one_ (i:=7) (N:=some 63) #[I,I,I,I,I,I,I,I,O,O] rfl rfl (bR HT_.out (by kernel_rfl)) (by decide) (fun K hK=>?_)
           refine cE Try.func91 (by kernel_rfl) rfl #[.agg #[.int .i64 a0_0,.int .i64 a0_1,.int .i64 a0_2],.slice Ao48 t366.length co48,.int .i64 t361] (by rfl) rfl rfl (by (try simp only [List.map_toArray,List.map_cons,List.map_nil]);rfl) ?_
           with_reducible refine (bH.calls kj27 a0_0 a0_1 a0_2 _ _ t366 t361 t369 _ ?side1 ?side2 A41.out).mono ?_
           (case side1=>exact (Kd.aE HO368.out).2.2)
           (case side2=>exact (Kd.aE HO368.out).2.1)
           rintro e w49 ⟨v370,rfl,ho0,hb⟩
           refine ⟨_,rfl,?_⟩
           replace HO_6:=M0 (Kd.aK HO_6.out hb)
           replace HO365:=M0 (Kd.aK HO365.out hb)
           have HO371:=M0 (Kd.bj (Kd.cZ (Kd.cZ ho0 (Kd.R_lt HO_5.out)) (Kd.R_lt HO368.out)) (aj HB.out))
           replace HO_5:=M0 (Kd.cj HO_5.out (Kd.cS ho0) hb)
           replace HO368:=M0 (Kd.cj HO368.out (Kd.cS ho0) hb)
           replace BK351:=M0 (ab BK351.out hb)
           replace BK352:=M0 (ab BK352.out hb)
           replace HB:=M0 (aa HB.out hb)
           clear hb ho0
           obtain ⟨Ao50,co50,eo50⟩:=Kd.bc HO371.out
           (subst eo50)
           refine hK.out _ _ ⟨(ai BK351.out 0).trans rfl,(ai BK351.out 1).trans rfl,(ai BK351.out 2).trans rfl⟩ (fun hHeld=>?_)
           clear hK K
           refine bz (a':=?_) ?_ ?_
           rotate_left
           ·show Act.put _ (some 63) _ = _
            simp only [Act.put,List.setIfInBounds_toArray,List.set_cons_zero,List.set_cons_succ,ae,af]
            rfl
           refine aq (i:=8) (N:=some 64) #[I,I,I,I,I,I,I,I,I,O] rfl rfl (aM HT_.out (by kernel_rfl)) (fun _ _ _ h=>h) (Or.inl ⟨by rfl,by intro w';go_simp;with_reducible rfl⟩) (by simp only [Act.put,List.setIfInBounds_toArray,List.set_cons_zero,List.set_cons_succ,ae,af];rfl) ?_
           refine one_ (i:=9) (N:=none) #[I,I,I,I,I,I,I,I,I,I] rfl rfl (bR HT_.out (by kernel_rfl)) (by decide) (fun K hK=>?_)
           have hs51 : w49.cell? ⟨gb352,0,none⟩ = some (.int .i64 0):=(ai BK352.out 0).trans rfl
           have hfs51:=ag BK352.out 0
           have hns51_0:=NB351_352.out
           have hms51_0:=NB352_351.out
           have hs52 : w49.cell? ⟨gb352,1,none⟩ = some (.slice none 0 0):=(ai BK352.out 1).trans rfl
           have hfs52:=ag BK352.out 1
           have hns52_0:=NB351_352.out
           have hms52_0:=NB352_351.out
           refine dA (w1:=?_) (by rfl) rfl ?_ ?_
           rotate_left
           ·go_simp
            rfl
           refine hK.out _ _ ⟨((cell_far (p:=⟨gb352,_,none⟩) NB351_352.out _).trans (((cell_far (p:=⟨gb352,_,none⟩) NB351_352.out _).trans (hHeld.1)))),((cell_far (p:=⟨gb352,_,none⟩) NB351_352.out _).trans (((cell_far (p:=⟨gb352,_,none⟩) NB351_352.out _).trans (hHeld.2.1)))),((cell_far (p:=⟨gb352,_,none⟩) NB351_352.out _).trans (((cell_far (p:=⟨gb352,_,none⟩) NB351_352.out _).trans (hHeld.2.2))))⟩ (fun hHeld=>?_)
           clear hK K
           refine cD (dg HT_.out (by kernel_rfl)) ?_
           try go_wp2
           refine bodyPost_ret (results_cell_row rfl _ _ gb352 68 #[.int .i64 0,.slice Ao50 t369.length co50] (0,0) _ rfl (by refine aW (cs:=#[.int .i64 0,.slice none 0 0]) ?_ 1 _ rfl;refine aW (cs:=#[.int .i64 0,.slice none 0 0]) ?_ 0 _ rfl;exact BK352.out) Try.underlying68 rfl (by kernel_rfl)) rfl ?_
           exact ⟨_,by rfl,by exact Kd.bb (Kd.bw (p:=⟨gb352,1,none⟩) (Kd.bw (p:=⟨gb352,0,none⟩) (Kd.bP HO371.out BK352.out (by decide)) (fun _ hk=>hk.2) (.int .i64 0)) (fun _ hk=>hk.2) (.slice Ao50 t369.length co50)) (fun _ hk=>trivial),by repeat ((with_reducible first|exact HB.out|refine ax ?_ GE352.out))⟩

end Go.Proofs.Ytffhbpepppodeaa.PFnExactJoinObject
