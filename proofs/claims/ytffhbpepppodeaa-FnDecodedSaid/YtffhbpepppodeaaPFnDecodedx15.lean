import Derived.Test.YtffhbpepppodeaaPFnDecodedx0
import Derived.Test.YtffhbpepppodeaaPFnDecodedx5
import Derived.Test.YtffhbpepppodeaaPFnDecodedx7
import Derived.Test.YtffhbpepppodeaaPFnDecodedx11
import Derived.Test.YtffhbpepppodeaaPFnDecodedx12
import Derived.Test.YtffhbpepppodeaaPFnDecodedx14
namespace Go.Proofs.Ytffhbpepppodeaa.PFnDecoded
private theorem nn {α : Type} {c : Prop} [Decidable c] {a : Option α} {r : α} (h : (if c then a else none) = some r) : c ∧ a = some r:=by
 split at h
 ·exact ⟨‹c›,h⟩
 ·cases h
open Go.RowKit Go.Proofs.YtffhbpepppodeaaW.PrintWords Go.Proofs.YtffhbpepppodeaaW.PrintLast Go.Proofs.YtffhbpepppodeaaW.PrintMore
attribute [local go_sem] cJ cL dn dp cw cy cM cN   -- for this text's walks alone
set_option linter.unusedVariables false
set_option linter.unusedSimpArgs false

/-! ### aq: function 44 -/
mutual
def aq.j0 : Nat → List (S61) → Bool → Int → Int → Int → Option (Int × List ByteArray)
 | 0,_,_,_,_,_=>none
 | k + 1,x1,x20,x316000,x316001,x316002=>if x20 = true then (some (1,([] : List ByteArray))) else ((bP.f k x1).bind fun bt319=>((bc.f k bt319.1 bt319.2).bind fun t325=>(aq.l0 k bt319.1 bt319.2 t325 false 0 x316000 x316001 x316002)))
def aq.l0 : Nat → List ByteArray → List Bool → Int → Bool → Int → Int → Int → Int → Option (Int × List ByteArray)
 | 0,_,_,_,_,_,_,_,_=>none
 | k + 1,x5,x6,x7,x8,x9,x316000,x316001,x316002=>if x9 < (x6.length : Int) then (if x8 = true then (aq.l0 k x5 x6 x7 true (wrap64 (x9 + 1)) x316000 x316001 x316002) else (if 0 ≤ x9 then (aq.l0 k x5 x6 x7 (rdOf false x6 x9) (wrap64 (x9 + 1)) x316000 x316001 x316002) else (none))) else (if x7 < 0 then (aq.j2 k x5 x6 x7 x8 x316000 x316001 x316002) else (aq.j2 k x5 x6 x7 false x316000 x316001 x316002))
def aq.j2 : Nat → List ByteArray → List Bool → Int → Bool → Int → Int → Int → Option (Int × List ByteArray)
 | 0,_,_,_,_,_,_,_=>none
 | k + 1,x5,x6,x7,x47,x316000,x316001,x316002=>if x47 = true then (some (2,([] : List ByteArray))) else ((aH.f k x316000 x316001 x316002 x6).bind fun t327=>(if (t327.length : Int) = 0 then (some (8,([] : List ByteArray))) else ((a5.f k x316000 x316001 x316002 x5 t327 x7).bind fun t330=>((bF.f k x316000 x316001 x316002 t330 x7).bind fun t333=>(some (0,t333))))))
end
def aq.f (k : Nat) (a0_0 : Int) (a0_1 : Int) (a0_2 : Int) (l1 : List (S61)) : Option (Int × List ByteArray):=(bd.f a0_0 a0_1 a0_2).bind fun t317=>(if t317 = 0 then ((cn.f a0_0 a0_1 a0_2).bind fun t318=>(aq.j0 k l1 ((l1.length : Int) != t318) a0_0 a0_1 a0_2)) else (aq.j0 k l1 true a0_0 a0_1 a0_2))
def aq.T15 : Bool × List (List Nat × List Nat):=(true,[([],[]),([],[]),([],[]),([],[]),([],[]),([1,2,3,4],[1,2,3,4]),([],[]),([0,5,6,5],[0,5,6]),([7],[7]),([8,7,0,1,2,3,4,5,6,7,8],[8])])
def aq.B15 : List Nat:=[0,0,0,0,0,30,0,127,255,511]
theorem aq.tab15 : rtab .any (opsOf Try.f44 15) = aq.T15:=by kernel_rfl
theorem aq.bits15 : de aq.T15.2 aq.B15 = true:=by kernel_rfl
set_option maxHeartbeats 8000000 in
set_option maxRecDepth 100000 in
theorem aq.calls (k : Nat) (a0_0 : Int) (a0_1 : Int) (a0_2 : Int) (A1 : Option Addr) (c1 : Nat) (l1 : List (S61)) (r1 : Int) (r2 : List ByteArray) (w : World) (hr1 : Kd.C k61 w A1 l1.length l1) (hc1 : l1.length ≤ c1) (h : aq.f k a0_0 a0_1 a0_2 l1 = some (r1,r2)) :
  Calls Try.prog 44 #[.agg #[.int .i64 a0_0,.int .i64 a0_1,.int .i64 a0_2],.slice A1 l1.length c1] w fun e w'=>∃ v1_ : Value,e = .returned (.agg #[.int .i64 r1,v1_]) ∧ Kd.R Kd.string 9 w' w.heap.size (fun _=>True) v1_ r2 ∧ Below w.heap.size w w':=by
 have HR1:=M0 hr1
 have HC1:=M0 hc1
 clear hr1 hc1
 have HB:=M0 (Below.refl w.heap.size w)
 have H : ((bd.f a0_0 a0_1 a0_2).bind fun t317=>(if t317 = 0 then ((cn.f a0_0 a0_1 a0_2).bind fun t318=>(aq.j0 k l1 ((l1.length : Int) != t318) a0_0 a0_1 a0_2)) else (aq.j0 k l1 true a0_0 a0_1 a0_2))) = some (r1,r2):=h
 clear h
 have HC3:=M0 H
 clear H
 go_enter Try.func44,Try.ntmps44
 go_upto_region 1 with (first|((with_reducible refine aw (N:=2) rfl ?_);(try (refine al (by rfl) ?_;dsimp only));refine az rfl (N:=2) rfl (cs:=#[.int .i64 a0_0,.int .i64 a0_1,.int .i64 a0_2]) (t:=43) (by go_simp) ?_;intro gb315 hg w4 hbox hb;have BK315:=M0 (hbox);replace HB:=M0 (ab HB.out hb);clear hb hbox hg)|((with_reducible refine aw (N:=4) rfl ?_);(try (refine al (by rfl) ?_;dsimp only));refine az rfl (N:=4) rfl (cs:=#[.int .i64 0,.slice none 0 0]) (t:=68) (by go_simp) ?_;intro gb316 hg w5 hbox hb;have BK316:=M0 (hbox);have GW316:=M0 ((by rw [hg];exact (av HB.out) : w.heap.size ≤ gb316));have GE316:=GW316;replace HB:=M0 (ab HB.out hb);have NB315_316:=M0 ((by rw [hg];exact Nat.ne_of_lt (bS BK315.out) : gb315 ≠ gb316));have NB316_315:=M0 NB315_316.out.symm;replace BK315:=M0 (ag BK315.out hb);clear hb hbox hg))
 (try simp only [Act.put,List.setIfInBounds_toArray,List.set_cons_zero,List.set_cons_succ])
 go_cut [20] (fun v20 wc=>∃ (kq : Nat) (x20_2 : Bool),v20 = .bool x20_2 ∧ Aside0 (aq.j0 kq l1 x20_2 a0_0 a0_1 a0_2 = some (r1,r2)) ∧ Aside0 (kq ≤ k) ∧ Aside0 (wc.heap[gb315]? = some (.cells #[.int .i64 a0_0,.int .i64 a0_1,.int .i64 a0_2] 43 (0,0))) ∧ Aside0 (wc.heap[gb316]? = some (.cells #[.int .i64 0,(.slice none 0 0)] 68 (0,0))) ∧ Aside0 (Below w.heap.size w wc))
 case first=>
  have H:=HC3.out
  clear HC3
  replace H:=Option.bind_eq_some_iff.mp H
  obtain ⟨t317,A60,H⟩:=H
  replace H : (if t317 = 0 then ((cn.f a0_0 a0_1 a0_2).bind fun t318=>(aq.j0 k l1 ((l1.length : Int) != t318) a0_0 a0_1 a0_2)) else (aq.j0 k l1 true a0_0 a0_1 a0_2)) = some (r1,r2):=H
  have A6:=M0 A60
  clear A60
  by_cases c7 : t317 = 0
  ·rw [if_pos c7] at H
   have c7b1 : (t317 != 0) = false:=bne_eq_false_iff_eq.mpr c7
   clear c7
   (skip)
   replace H:=Option.bind_eq_some_iff.mp H
   obtain ⟨t318,A80,H⟩:=H
   replace H : (aq.j0 k l1 ((l1.length : Int) != t318) a0_0 a0_1 a0_2) = some (r1,r2):=H
   have A8:=M0 A80
   clear A80
   have H':=M0 H
   clear H
   have hcz10_0:=bcv (v:=.int .i64 a0_0) BK315.out 0 rfl
   have hcz10_1:=bcv (v:=.int .i64 a0_1) BK315.out 1 rfl
   have hcz10_2:=bcv (v:=.int .i64 a0_2) BK315.out 2 rfl
   go_wp2_with (first|((with_reducible refine ah (f:=89) rfl ?_);refine aG (some 12) rfl rfl Try.func89 (by kernel_rfl) rfl #[.agg #[.int .i64 a0_0,.int .i64 a0_1,.int .i64 a0_2]] rfl (by (try simp only [List.map_toArray,List.map_cons,List.map_nil]);rfl) ?_;(with_reducible refine (bd.calls a0_0 a0_1 a0_2 t317 _ A6.out).mono ?_);rintro e w11 ⟨rfl,hb⟩;refine ⟨_,rfl,?_⟩;replace BK315:=M0 (ag BK315.out hb);replace BK316:=M0 (ag BK316.out hb);replace HB:=M0 (ab HB.out hb);clear hb;have hcz12_0:=bcv (v:=.int .i64 a0_0) BK315.out 0 rfl;have hcz12_1:=bcv (v:=.int .i64 a0_1) BK315.out 1 rfl;have hcz12_2:=bcv (v:=.int .i64 a0_2) BK315.out 2 rfl)|(go_at_call 97;(with_reducible refine (cn.calls a0_0 a0_1 a0_2 t318 _ A8.out).mono ?_);rintro e w13 ⟨rfl,hb⟩;replace BK315:=M0 (ag BK315.out hb);replace BK316:=M0 (ag BK316.out hb);replace HB:=M0 (ab HB.out hb);clear hb))
   go_meet
   case rel=>exact ⟨_,(((l1.length : Int) != t318)),(by rfl),H',⟨by omega⟩,⟨by exact BK315.out⟩,⟨by exact BK316.out⟩,⟨HB.out⟩⟩
  ·rw [if_neg c7] at H
   have c7b1 : (t317 != 0) = true:=bne_iff_ne.mpr c7
   (skip)
   have H':=M0 H
   clear H
   have hcz15_0:=bcv (v:=.int .i64 a0_0) BK315.out 0 rfl
   have hcz15_1:=bcv (v:=.int .i64 a0_1) BK315.out 1 rfl
   have hcz15_2:=bcv (v:=.int .i64 a0_2) BK315.out 2 rfl
   go_wp2_with (((with_reducible refine ah (f:=89) rfl ?_);refine aG (some 12) rfl rfl Try.func89 (by kernel_rfl) rfl #[.agg #[.int .i64 a0_0,.int .i64 a0_1,.int .i64 a0_2]] rfl (by (try simp only [List.map_toArray,List.map_cons,List.map_nil]);rfl) ?_;(with_reducible refine (bd.calls a0_0 a0_1 a0_2 t317 _ A6.out).mono ?_);rintro e w16 ⟨rfl,hb⟩;refine ⟨_,rfl,?_⟩;replace BK315:=M0 (ag BK315.out hb);replace BK316:=M0 (ag BK316.out hb);replace HB:=M0 (ab HB.out hb);clear hb))
   go_meet
   case rel=>exact ⟨_,(true),(by rfl),H',⟨by omega⟩,⟨by exact BK315.out⟩,⟨by exact BK316.out⟩,⟨HB.out⟩⟩
 case rest=>
  clear HC3
  obtain ⟨kq,x20_2,rfl,HA,HJ2,BK315,BK316,HB⟩:=hcut
  cases kq with
  | zero=>exact absurd HA.out (by simp [aq.j0])
  | succ kj2=>
   have H:=HA.out
   clear HA
   simp only [aq.j0] at H
   by_cases c17 : x20_2 = true
   ·subst c17
    have H1 : (some (1,([] : List ByteArray))) = some (r1,r2):=by rw [if_pos rfl] at H;exact H
    clear H
    have H:=H1
    clear H1
    simp only [Option.some.injEq,Prod.mk.injEq] at H
    obtain ⟨rfl,rfl⟩:=H
    have hcz19_0:=bcv (v:=.int .i64 0) BK316.out 0 rfl
    have hcz19_1:=bcv (v:=.slice none 0 0) BK316.out 1 rfl
    have hfz19_0:=aa BK316.out 0
    have hfz19_1:=aa BK316.out 1
    go_wp2
    refine bodyPost_ret (results_cell_row rfl _ _ gb316 68 #[.int .i64 1,.slice none 0 0] (0,0) _ rfl (by refine aC (cs:=#[.int .i64 1,.slice none 0 0]) ?_ 1 _ rfl;refine aC (cs:=#[.int .i64 0,.slice none 0 0]) ?_ 0 _ rfl;exact BK316.out) Try.underlying68 rfl (by kernel_rfl)) rfl ?_
    exact ⟨_,by rfl,by exact Kd.R_nil _ _ _ _ _,by repeat ((with_reducible first|exact HB.out|refine ay ?_ GE316.out))⟩
   ·replace c17:=Bool.eq_false_iff.mpr c17
    subst c17
    have H1 : ((bP.f kj2 l1).bind fun bt319=>((bc.f kj2 bt319.1 bt319.2).bind fun t325=>(aq.l0 kj2 bt319.1 bt319.2 t325 false 0 a0_0 a0_1 a0_2))) = some (r1,r2):=by rw [if_neg (show ¬ (false = true) by decide)] at H;exact H
    clear H
    have H:=H1
    clear H1
    replace H:=Option.bind_eq_some_iff.mp H
    obtain ⟨⟨t319,t320⟩,A200,H⟩:=H
    dsimp only at H
    have A20:=M0 A200
    clear A200
    replace H:=Option.bind_eq_some_iff.mp H
    obtain ⟨t325,A210,H⟩:=H
    replace H : (aq.l0 kj2 t319 t320 t325 false 0 a0_0 a0_1 a0_2) = some (r1,r2):=H
    have A21:=M0 A210
    clear A210
    have H':=M0 H
    clear H
    go_wp2_with (first|((with_reducible refine ah (f:=103) rfl ?_);refine aG (some 24) rfl rfl Try.func103 (by kernel_rfl) rfl #[.slice A1 l1.length c1] rfl (by (try simp only [List.map_toArray,List.map_cons,List.map_nil]);rfl) ?_;(with_reducible refine (bP.calls kj2 _ _ l1 t319 t320 _ (Kd.bG HR1.out HB.out) HC1.out A20.out).mono ?_);rintro e w22 ⟨v321,v323,rfl,ho0,ho1,hb⟩;refine ⟨_,rfl,?_⟩;have HO322:=M0 (Kd.bh ho0 (av HB.out));have HO324:=M0 (Kd.bh ho1 (av HB.out));replace BK315:=M0 (ag BK315.out hb);replace BK316:=M0 (ag BK316.out hb);replace HB:=M0 (ab HB.out hb);clear hb ho0 ho1;obtain ⟨Ao23,co23,eo23⟩:=Kd.a9 HO322.out;subst eo23;obtain ⟨Ao24,co24,eo24⟩:=Kd.a9 HO324.out;subst eo24)|((with_reducible refine ah (f:=90) rfl ?_);refine aG (some 29) rfl rfl Try.func90 (by kernel_rfl) rfl #[.slice Ao23 t319.length co23,.slice Ao24 t320.length co24] rfl (by (try simp only [List.map_toArray,List.map_cons,List.map_nil]);rfl) ?_;(with_reducible refine (bc.calls kj2 _ _ t319 _ _ t320 t325 _ (Kd.aA HO322.out).2.2 (Kd.aA HO322.out).2.1 (Kd.aA HO324.out).2.2 (Kd.aA HO324.out).2.1 A21.out).mono ?_);rintro e w' ⟨rfl,⟨nd,rfl⟩⟩;refine ⟨_,rfl,?_⟩))
    go_loopg [8,9] kj2 (fun kq v8 v9 w'=>∃ (x8_2 : Bool) (x9_2 : Int),v8 = .bool x8_2 ∧ v9 = .int .i64 x9_2 ∧ Aside0 (aq.l0 kq t319 t320 t325 x8_2 x9_2 a0_0 a0_1 a0_2 = some (r1,r2)) ∧ Aside0 (kq ≤ kj2) ∧ Aside0 (Kd.R Kd.string 9 w' w.heap.size (fun _=>True) (.slice Ao23 t319.length co23) t319) ∧ Aside0 (Kd.R Kd.bool 4 w' w.heap.size (fun _=>True) (.slice Ao24 t320.length co24) t320) ∧ Aside0 (w'.heap[gb315]? = some (.cells #[.int .i64 a0_0,.int .i64 a0_1,.int .i64 a0_2] 43 (0,0))) ∧ Aside0 (w'.heap[gb316]? = some (.cells #[.int .i64 0,(.slice none 0 0)] 68 (0,0))) ∧ Aside0 (Below w.heap.size w w'))
    case atStart=>exact ⟨(false),(0),(by rfl),(by rfl),H',⟨Nat.le_refl _⟩,⟨by (with_reducible repeat (apply Kd.dx));exact HO322.out⟩,⟨by (with_reducible repeat (apply Kd.dx));exact HO324.out⟩,⟨by (with_reducible repeat (refine bx ?_ _));exact BK315.out⟩,⟨by (with_reducible repeat (refine bx ?_ _));exact BK316.out⟩,⟨by repeat ((with_reducible first|exact HB.out|apply aK))⟩⟩
    case round=>
     clear H'
     obtain ⟨x8_2,x9_2,rfl,rfl,HA,HK2,HO_5,HO_6,BK315,BK316,HB⟩:=hrel
     cases gk with
     | zero=>exact absurd HA.out (by simp [aq.l0])
     | succ k2=>
      have H:=HA.out
      clear HA
      simp only [aq.l0] at H
      by_cases c25 : x9_2 < (t320.length : Int)
      ·rw [if_pos c25] at H
       have c25b0:=decide_eq_true c25
       clear c25
       by_cases c26 : x8_2 = true
       ·subst c26
        have H1 : (aq.l0 k2 t319 t320 t325 true (wrap64 (x9_2 + 1)) a0_0 a0_1 a0_2) = some (r1,r2):=by rw [if_pos rfl] at H;exact H
        clear H
        have H:=H1
        clear H1
        have H':=M0 H
        clear H
        go_wp2
        go_roundg k2
        case measure=>have:=HJ2.out;have:=HK2.out;omega
        case rel=>exact ⟨(true),(wrap64 (x9_2 + 1)),(by rfl),(by rfl),H',⟨by have:=HJ2.out;have:=HK2.out;omega⟩,⟨by exact HO_5.out⟩,⟨by exact HO_6.out⟩,⟨by exact BK315.out⟩,⟨by exact BK316.out⟩,⟨HB.out⟩⟩
       ·replace c26:=Bool.eq_false_iff.mpr c26
        subst c26
        have H1 : (if 0 ≤ x9_2 then (aq.l0 k2 t319 t320 t325 (rdOf false t320 x9_2) (wrap64 (x9_2 + 1)) a0_0 a0_1 a0_2) else (none)) = some (r1,r2):=by rw [if_neg (show ¬ (false = true) by decide)] at H;exact H
        clear H
        have H:=H1
        clear H1
        obtain ⟨c27,H⟩:=nn H
        have c27b0:=decide_eq_true c27
        clear c27
        have H':=M0 H
        clear H
        have p326 : 0 ≤ (x9_2 : Int):=of_decide_eq_true (by with_reducible assumption)
        have q326 : x9_2 < (t320.length : Int):=of_decide_eq_true (by with_reducible assumption)
        obtain ⟨ad326,e326,hx326_0⟩:=Kd.dK (Kd.aA HO_6.out).2.2 x9_2 p326 q326
        cases e326
        replace p326:=eq_true p326
        replace q326:=eq_true q326
        go_wp2
        go_roundg k2
        case measure=>have:=HJ2.out;have:=HK2.out;omega
        case rel=>exact ⟨(rdOf false t320 x9_2),(wrap64 (x9_2 + 1)),(by rfl),(by rfl),H',⟨by have:=HJ2.out;have:=HK2.out;omega⟩,⟨by exact HO_5.out⟩,⟨by exact HO_6.out⟩,⟨by exact BK315.out⟩,⟨by exact BK316.out⟩,⟨HB.out⟩⟩
      ·rw [if_neg c25] at H
       have c25b0:=decide_eq_false c25
       clear c25
       have HC28:=M0 H
       clear H
       go_upto_region 10 with (fail)
       go_cut [47] (fun v47 wc=>∃ (kq : Nat) (x47_27 : Bool),v47 = .bool x47_27 ∧ Aside0 (aq.j2 kq t319 t320 t325 x47_27 a0_0 a0_1 a0_2 = some (r1,r2)) ∧ Aside0 (kq ≤ k2) ∧ Aside0 (Kd.R Kd.string 9 wc w.heap.size (fun _=>True) (.slice Ao23 t319.length co23) t319) ∧ Aside0 (Kd.R Kd.bool 4 wc w.heap.size (fun _=>True) (.slice Ao24 t320.length co24) t320) ∧ Aside0 (wc.heap[gb315]? = some (.cells #[.int .i64 a0_0,.int .i64 a0_1,.int .i64 a0_2] 43 (0,0))) ∧ Aside0 (wc.heap[gb316]? = some (.cells #[.int .i64 0,(.slice none 0 0)] 68 (0,0))) ∧ Aside0 (Below w.heap.size w wc))
       case first=>
        have H:=HC28.out
        clear HC28
        by_cases c29 : t325 < 0
        ·rw [if_pos c29] at H
         have c29b0:=decide_eq_true c29
         clear c29
         (skip)
         have H':=M0 H
         clear H
         go_wp2
         go_meet
         case rel=>exact ⟨_,(x8_2),(by rfl),H',⟨by have:=HJ2.out;have:=HK2.out;omega⟩,⟨by exact HO_5.out⟩,⟨by exact HO_6.out⟩,⟨by exact BK315.out⟩,⟨by exact BK316.out⟩,⟨HB.out⟩⟩
        ·rw [if_neg c29] at H
         have c29b0:=decide_eq_false c29
         clear c29
         (skip)
         have H':=M0 H
         clear H
         go_wp2
         go_meet
         case rel=>exact ⟨_,(false),(by rfl),H',⟨by have:=HJ2.out;have:=HK2.out;omega⟩,⟨by exact HO_5.out⟩,⟨by exact HO_6.out⟩,⟨by exact BK315.out⟩,⟨by exact BK316.out⟩,⟨HB.out⟩⟩
       case rest=>
        clear HC28
        (try clear c25b0)
        obtain ⟨kq,x47_27,rfl,HA,HJ27,HO_5,HO_6,BK315,BK316,HB⟩:=hcut
        cases kq with
        | zero=>exact absurd HA.out (by simp [aq.j2])
        | succ kj27=>
         have H:=HA.out
         clear HA
         simp only [aq.j2] at H
         by_cases c30 : x47_27 = true
         ·subst c30
          have H1 : (some (2,([] : List ByteArray))) = some (r1,r2):=by rw [if_pos rfl] at H;exact H
          clear H
          have H:=H1
          clear H1
          simp only [Option.some.injEq,Prod.mk.injEq] at H
          obtain ⟨rfl,rfl⟩:=H
          have hcz32_0:=bcv (v:=.int .i64 0) BK316.out 0 rfl
          have hcz32_1:=bcv (v:=.slice none 0 0) BK316.out 1 rfl
          have hfz32_0:=aa BK316.out 0
          have hfz32_1:=aa BK316.out 1
          go_wp2
          refine bodyPost_ret (results_cell_row rfl _ _ gb316 68 #[.int .i64 2,.slice none 0 0] (0,0) _ rfl (by refine aC (cs:=#[.int .i64 2,.slice none 0 0]) ?_ 1 _ rfl;refine aC (cs:=#[.int .i64 0,.slice none 0 0]) ?_ 0 _ rfl;exact BK316.out) Try.underlying68 rfl (by kernel_rfl)) rfl ?_
          exact ⟨_,by rfl,by exact Kd.R_nil _ _ _ _ _,by repeat ((with_reducible first|exact HB.out|refine ay ?_ GE316.out))⟩
         ·replace c30:=Bool.eq_false_iff.mpr c30
          subst c30
          have H1 : ((aH.f kj27 a0_0 a0_1 a0_2 t320).bind fun t327=>(if (t327.length : Int) = 0 then (some (8,([] : List ByteArray))) else ((a5.f kj27 a0_0 a0_1 a0_2 t319 t327 t325).bind fun t330=>((bF.f kj27 a0_0 a0_1 a0_2 t330 t325).bind fun t333=>(some (0,t333)))))) = some (r1,r2):=by rw [if_neg (show ¬ (false = true) by decide)] at H;exact H
          clear H
          have H:=H1
          clear H1
          replace H:=Option.bind_eq_some_iff.mp H
          obtain ⟨t327,A330,H⟩:=H
          replace H : (if (t327.length : Int) = 0 then (some (8,([] : List ByteArray))) else ((a5.f kj27 a0_0 a0_1 a0_2 t319 t327 t325).bind fun t330=>((bF.f kj27 a0_0 a0_1 a0_2 t330 t325).bind fun t333=>(some (0,t333))))) = some (r1,r2):=H
          have A33:=M0 A330
          clear A330
          by_cases c34 : (t327.length : Int) = 0
          ·rw [if_pos c34] at H
           have c34b0 : ((t327.length : Int) == 0) = true:=beq_iff_eq.mpr c34
           clear c34
           simp only [Option.some.injEq,Prod.mk.injEq] at H
           obtain ⟨rfl,rfl⟩:=H
           have hcz36_0:=bcv (v:=.int .i64 a0_0) BK315.out 0 rfl
           have hcz36_1:=bcv (v:=.int .i64 a0_1) BK315.out 1 rfl
           have hcz36_2:=bcv (v:=.int .i64 a0_2) BK315.out 2 rfl
           go_wp2_with (((with_reducible refine ah (f:=99) rfl ?_);refine aG (some 51) rfl rfl Try.func99 (by kernel_rfl) rfl #[.agg #[.int .i64 a0_0,.int .i64 a0_1,.int .i64 a0_2],.slice Ao24 t320.length co24] rfl (by (try simp only [List.map_toArray,List.map_cons,List.map_nil]);rfl) ?_;(with_reducible refine (aH.calls kj27 a0_0 a0_1 a0_2 _ _ t320 t327 _ (Kd.aA HO_6.out).2.2 (Kd.aA HO_6.out).2.1 A33.out).mono ?_);rintro e w37 ⟨v328,rfl,ho0,hb⟩;refine ⟨_,rfl,?_⟩;replace HO_5:=M0 (Kd.aX HO_5.out hb);replace HO_6:=M0 (Kd.aX HO_6.out hb);have HO329:=M0 (Kd.bh ho0 (av HB.out));replace BK315:=M0 (ag BK315.out hb);replace BK316:=M0 (ag BK316.out hb);replace HB:=M0 (ab HB.out hb);clear hb ho0;obtain ⟨Ao38,co38,eo38⟩:=Kd.a9 HO329.out;subst eo38;have hcz39_0:=bcv (v:=.int .i64 0) BK316.out 0 rfl;have hcz39_1:=bcv (v:=.slice none 0 0) BK316.out 1 rfl;have hfz39_0:=aa BK316.out 0;have hfz39_1:=aa BK316.out 1))
           refine bodyPost_ret (results_cell_row rfl _ _ gb316 68 #[.int .i64 8,.slice none 0 0] (0,0) _ rfl (by refine aC (cs:=#[.int .i64 8,.slice none 0 0]) ?_ 1 _ rfl;refine aC (cs:=#[.int .i64 0,.slice none 0 0]) ?_ 0 _ rfl;exact BK316.out) Try.underlying68 rfl (by kernel_rfl)) rfl ?_
           exact ⟨_,by rfl,by exact Kd.R_nil _ _ _ _ _,by repeat ((with_reducible first|exact HB.out|refine ay ?_ GE316.out))⟩
          ·rw [if_neg c34] at H
           have c34b0 : ((t327.length : Int) == 0) = false:=beq_eq_false_iff_ne.mpr c34
           replace H:=Option.bind_eq_some_iff.mp H
           obtain ⟨t330,A400,H⟩:=H
           replace H : ((bF.f kj27 a0_0 a0_1 a0_2 t330 t325).bind fun t333=>(some (0,t333))) = some (r1,r2):=H
           have A40:=M0 A400
           clear A400
           replace H:=Option.bind_eq_some_iff.mp H
           obtain ⟨t333,A410,H⟩:=H
           replace H : (some (0,t333)) = some (r1,r2):=H
           have A41:=M0 A410
           clear A410
           simp only [Option.some.injEq,Prod.mk.injEq] at H
           obtain ⟨rfl,rfl⟩:=H
           have hcz43_0:=bcv (v:=.int .i64 a0_0) BK315.out 0 rfl
           have hcz43_1:=bcv (v:=.int .i64 a0_1) BK315.out 1 rfl
           have hcz43_2:=bcv (v:=.int .i64 a0_2) BK315.out 2 rfl
           try go_wp2_with (((with_reducible refine ah (f:=99) rfl ?_);refine aG (some 51) rfl rfl Try.func99 (by kernel_rfl) rfl #[.agg #[.int .i64 a0_0,.int .i64 a0_1,.int .i64 a0_2],.slice Ao24 t320.length co24] rfl (by (try simp only [List.map_toArray,List.map_cons,List.map_nil]);rfl) ?_;(with_reducible refine (aH.calls kj27 a0_0 a0_1 a0_2 _ _ t320 t327 _ (Kd.aA HO_6.out).2.2 (Kd.aA HO_6.out).2.1 A33.out).mono ?_);rintro e w44 ⟨v328,rfl,ho0,hb⟩;refine ⟨_,rfl,?_⟩;replace HO_5:=M0 (Kd.aX HO_5.out hb);replace HO_6:=M0 (Kd.aX HO_6.out hb);have HO329:=M0 (Kd.bh ho0 (av HB.out));replace BK315:=M0 (ag BK315.out hb);replace BK316:=M0 (ag BK316.out hb);replace HB:=M0 (ab HB.out hb);clear hb ho0;obtain ⟨Ao45,co45,eo45⟩:=Kd.a9 HO329.out;subst eo45))
           replace HO_5:=M0 (Kd.cS HO_5.out)
           replace HO_6:=M0 (Kd.cS HO_6.out)
           replace HO329:=M0 (Kd.cS HO329.out)
           replace BK315:=M0 (bn BK315.out)
           replace BK316:=M0 (bn BK316.out)
           replace HB:=M0 (a7 HB.out)
           refine cr (n:=10) (S:=fun w'=>w'.cell? ⟨gb315,0,none⟩ = some (.int .i64 a0_0) ∧ w'.cell? ⟨gb315,1,none⟩ = some (.int .i64 a0_1) ∧ w'.cell? ⟨gb315,2,none⟩ = some (.int .i64 a0_2)) (ds:=[]) #[O,O,O,O,O,O,O,O,O,O] (by kernel_rfl) rfl rfl ⟨(ai BK315.out 0).trans rfl,(ai BK315.out 1).trans rfl,(ai BK315.out 2).trans rfl⟩ (fun hHeld=>?_);refine dg aq.tab15 aq.bits15 (fun HT_ HW_=>?_)
           generalize w44.drew = w46 at HO_5 HO_6 HO329 BK315 BK316 HB hHeld ⊢
           refine au (i:=2) (N:=some 58) #[O,O,I,O,O,O,O,O,O,O] rfl rfl (a6 HT_.out (by kernel_rfl)) (fun _ _ _ h=>h) (Or.inl ⟨by rfl,by intro w';go_simp;with_reducible rfl⟩) (by simp only [Act.put,List.setIfInBounds_toArray,List.set_cons_zero,List.set_cons_succ,ae,af];rfl) ?_
           refine au (i:=3) (N:=some 59) #[O,O,I,I,O,O,O,O,O,O] rfl rfl (a6 HT_.out (by kernel_rfl)) (fun _ _ _ h=>h) (Or.inl ⟨by rfl,by intro w';go_simp;with_reducible rfl⟩) (by simp only [Act.put,List.setIfInBounds_toArray,List.set_cons_zero,List.set_cons_succ,ae,af];rfl) ?_
           refine au (i:=4) (N:=some 60) #[O,O,I,I,I,O,O,O,O,O] rfl rfl (a6 HT_.out (by kernel_rfl)) (fun _ _ _ h=>h) (Or.inl ⟨by rfl,by intro w';go_simp;with_reducible rfl⟩) (by simp only [Act.put,List.setIfInBounds_toArray,List.set_cons_zero,List.set_cons_succ,ae,af];rfl) ?_
           refine au (i:=6) (N:=some 62) #[O,O,I,I,I,O,I,O,O,O] rfl rfl (a6 HT_.out (by kernel_rfl)) (fun _ _ _ h=>h) (Or.inl ⟨by rfl,by intro w';go_simp;with_reducible rfl⟩) (by simp only [Act.put,List.setIfInBounds_toArray,List.set_cons_zero,List.set_cons_succ,ae,af];rfl) ?_
           refine bu (i:=0) (N:=some 56) #[I,O,I,I,I,O,I,O,O,O] rfl rfl (bL HT_.out HW_.out (by kernel_rfl)) (fun _ _ _ h=>h) (Or.inl ⟨by rfl,by rintro w' ⟨s0,s1,s2⟩;go_simp;with_reducible rfl⟩) hHeld (by simp only [Act.put,List.setIfInBounds_toArray,List.set_cons_zero,List.set_cons_succ,ae,af];rfl) ?_
           refine bu (i:=1) (N:=some 57) #[I,I,I,I,I,O,I,O,O,O] rfl rfl (bL HT_.out HW_.out (by kernel_rfl)) (fun _ _ _ h=>h) (Or.inl ⟨by rfl,by rintro w' ⟨s0,s1,s2⟩;go_simp;with_reducible rfl⟩) hHeld (by simp only [Act.put,List.setIfInBounds_toArray,List.set_cons_zero,List.set_cons_succ,ae,af];rfl) ?_
           refine one_ (i:=5) (N:=some 61) #[I,I,I,I,I,I,I,O,O,O] rfl rfl (bX HT_.out (by kernel_rfl)) (by decide) (fun K hK=>?_)
           refine cT Try.func104 (by kernel_rfl) rfl #[.agg #[.int .i64 a0_0,.int .i64 a0_1,.int .i64 a0_2],.slice Ao23 t319.length co23,.slice Ao45 t327.length co45,.int .i64 t325] (by rfl) rfl rfl (by (try simp only [List.map_toArray,List.map_cons,List.map_nil]);rfl) ?_
           with_reducible refine (a5.calls kj27 a0_0 a0_1 a0_2 _ _ t319 _ _ t327 t325 t330 _ ?side1 ?side2 ?side3 ?side4 A40.out).mono ?_
           (case side1=>exact (Kd.aA HO_5.out).2.2)
           (case side2=>exact (Kd.aA HO_5.out).2.1)
           (case side3=>exact (Kd.aA HO329.out).2.2)
           (case side4=>exact (Kd.aA HO329.out).2.1)
           rintro e w47 ⟨v331,rfl,ho0,hb⟩
           refine ⟨_,rfl,?_⟩
           replace HO_6:=M0 (Kd.aX HO_6.out hb)
           replace HO329:=M0 (Kd.aX HO329.out hb)
           have HO332:=M0 (Kd.bh (Kd.cE ho0 (Kd.R_lt HO_5.out)) (av HB.out))
           replace HO_5:=M0 (Kd.bU HO_5.out (Kd.cD ho0) hb)
           replace BK315:=M0 (ag BK315.out hb)
           replace BK316:=M0 (ag BK316.out hb)
           replace HB:=M0 (ab HB.out hb)
           clear hb ho0
           obtain ⟨Ao48,co48,eo48⟩:=Kd.a9 HO332.out
           (subst eo48)
           refine hK.out _ _ ⟨(ai BK315.out 0).trans rfl,(ai BK315.out 1).trans rfl,(ai BK315.out 2).trans rfl⟩ (fun hHeld=>?_)
           clear hK K
           refine bK (a':=?_) ?_ ?_
           rotate_left
           ·show Act.put _ (some 61) _ = _
            simp only [Act.put,List.setIfInBounds_toArray,List.set_cons_zero,List.set_cons_succ,ae,af]
            rfl
           refine one_ (i:=7) (N:=some 63) #[I,I,I,I,I,I,I,I,O,O] rfl rfl (bX HT_.out (by kernel_rfl)) (by decide) (fun K hK=>?_)
           refine cT Try.func91 (by kernel_rfl) rfl #[.agg #[.int .i64 a0_0,.int .i64 a0_1,.int .i64 a0_2],.slice Ao48 t330.length co48,.int .i64 t325] (by rfl) rfl rfl (by (try simp only [List.map_toArray,List.map_cons,List.map_nil]);rfl) ?_
           with_reducible refine (bF.calls kj27 a0_0 a0_1 a0_2 _ _ t330 t325 t333 _ ?side1 ?side2 A41.out).mono ?_
           (case side1=>exact (Kd.aA HO332.out).2.2)
           (case side2=>exact (Kd.aA HO332.out).2.1)
           rintro e w49 ⟨v334,rfl,ho0,hb⟩
           refine ⟨_,rfl,?_⟩
           replace HO_6:=M0 (Kd.aX HO_6.out hb)
           replace HO329:=M0 (Kd.aX HO329.out hb)
           have HO335:=M0 (Kd.bh (Kd.cE (Kd.cE ho0 (Kd.R_lt HO_5.out)) (Kd.R_lt HO332.out)) (av HB.out))
           replace HO_5:=M0 (Kd.bU HO_5.out (Kd.cD ho0) hb)
           replace HO332:=M0 (Kd.bU HO332.out (Kd.cD ho0) hb)
           replace BK315:=M0 (ag BK315.out hb)
           replace BK316:=M0 (ag BK316.out hb)
           replace HB:=M0 (ab HB.out hb)
           clear hb ho0
           obtain ⟨Ao50,co50,eo50⟩:=Kd.a9 HO335.out
           (subst eo50)
           refine hK.out _ _ ⟨(ai BK315.out 0).trans rfl,(ai BK315.out 1).trans rfl,(ai BK315.out 2).trans rfl⟩ (fun hHeld=>?_)
           clear hK K
           refine bK (a':=?_) ?_ ?_
           rotate_left
           ·show Act.put _ (some 63) _ = _
            simp only [Act.put,List.setIfInBounds_toArray,List.set_cons_zero,List.set_cons_succ,ae,af]
            rfl
           refine au (i:=8) (N:=some 64) #[I,I,I,I,I,I,I,I,I,O] rfl rfl (a6 HT_.out (by kernel_rfl)) (fun _ _ _ h=>h) (Or.inl ⟨by rfl,by intro w';go_simp;with_reducible rfl⟩) (by simp only [Act.put,List.setIfInBounds_toArray,List.set_cons_zero,List.set_cons_succ,ae,af];rfl) ?_
           refine one_ (i:=9) (N:=none) #[I,I,I,I,I,I,I,I,I,I] rfl rfl (bX HT_.out (by kernel_rfl)) (by decide) (fun K hK=>?_)
           have hs51 : w49.cell? ⟨gb316,0,none⟩ = some (.int .i64 0):=(ai BK316.out 0).trans rfl
           have hfs51:=aa BK316.out 0
           have hns51_0:=NB315_316.out
           have hms51_0:=NB316_315.out
           have hs52 : w49.cell? ⟨gb316,1,none⟩ = some (.slice none 0 0):=(ai BK316.out 1).trans rfl
           have hfs52:=aa BK316.out 1
           have hns52_0:=NB315_316.out
           have hms52_0:=NB316_315.out
           refine dN (w1:=?_) (by rfl) rfl ?_ ?_
           rotate_left
           ·go_simp
            rfl
           refine hK.out _ _ ⟨((cell_far (p:=⟨gb316,_,none⟩) NB315_316.out _).trans (((cell_far (p:=⟨gb316,_,none⟩) NB315_316.out _).trans (hHeld.1)))),((cell_far (p:=⟨gb316,_,none⟩) NB315_316.out _).trans (((cell_far (p:=⟨gb316,_,none⟩) NB315_316.out _).trans (hHeld.2.1)))),((cell_far (p:=⟨gb316,_,none⟩) NB315_316.out _).trans (((cell_far (p:=⟨gb316,_,none⟩) NB315_316.out _).trans (hHeld.2.2))))⟩ (fun hHeld=>?_)
           clear hK K
           refine cZ (dL HT_.out (by kernel_rfl)) ?_
           try go_wp2
           refine bodyPost_ret (results_cell_row rfl _ _ gb316 68 #[.int .i64 0,.slice Ao50 t333.length co50] (0,0) _ rfl (by refine aC (cs:=#[.int .i64 0,.slice none 0 0]) ?_ 1 _ rfl;refine aC (cs:=#[.int .i64 0,.slice none 0 0]) ?_ 0 _ rfl;exact BK316.out) Try.underlying68 rfl (by kernel_rfl)) rfl ?_
           exact ⟨_,by rfl,by exact Kd.aI (Kd.bb (p:=⟨gb316,1,none⟩) (Kd.bb (p:=⟨gb316,0,none⟩) (Kd.bE HO335.out BK316.out (by decide)) (fun _ hk=>hk.2) (.int .i64 0)) (fun _ hk=>hk.2) (.slice Ao50 t333.length co50)) (fun _ hk=>trivial),by repeat ((with_reducible first|exact HB.out|refine ay ?_ GE316.out))⟩

def ak (w0 W : World) (g : Nat) (f0 : List Int) (f1 : Int) (f2 : Int) : Prop:=∃ A0 c0,W.heap[g]? = some (.cells #[.slice A0 f0.length c0,.int .i64 f1,.int .i64 f2] 171 (0,0)) ∧ w0.heap.size ≤ g ∧ Kd.C (Kd.int .u8) w0 A0 f0.length f0
theorem ak.grown {w0 W : World} {g : Nat} {f0 : List Int} {f1 : Int} {f2 : Int} {W1 : World} {row : Option Nat} (h : ak w0 W g f0 f1 f2) (hw : W.grownBy W1 row) (hne : some g ≠ row) : ak w0 W1 g f0 f1 f2:=by
 obtain ⟨A0,c0,hb,hg,hr0⟩:=h
 exact ⟨A0,c0,bf hb hw hne,hg,hr0⟩
theorem ak.below {w0 W : World} {g : Nat} {f0 : List Int} {f1 : Int} {f2 : Int} {W1 : World} (h : ak w0 W g f0 f1 f2) (hw : Below W.heap.size W W1) : ak w0 W1 g f0 f1 f2:=h.grown (grown_of_below hw none) (by simp)
theorem ak.drewN {w0 W : World} {g : Nat} {f0 : List Int} {f1 : Int} {f2 : Int} (h : ak w0 W g f0 f1 f2) (m : Nat) : ak w0 (W.drewN m) g f0 f1 f2:=h
theorem ak.drew {w0 W : World} {g : Nat} {f0 : List Int} {f1 : Int} {f2 : Int} (h : ak w0 W g f0 f1 f2) : ak w0 W.drew g f0 f1 f2:=h
theorem ak.apart {w0 W : World} {g : Nat} {f0 : List Int} {f1 : Int} {f2 : Int} {α : Type} {d : Kd α} {e : Nat} {base : Nat} {ok : Nat → Prop} {v : Value} {xs : List α} (h : ak w0 W g f0 f1 f2) (ho : d.R e W base ok v xs) (ht : ∀ q,q ∈ e :: d.E → q ≠ 171) : d.R e W base (fun k=>ok k ∧ k ≠ g) v xs:=by
 obtain ⟨A0,c0,hb,hg,hr0⟩:=h
 exact Kd.bE ho hb ht
theorem ak.dZ {w0 W : World} {g : Nat} {f0 : List Int} {f1 : Int} {f2 : Int} {α : Type} {d : Kd α} {e : Nat} {base : Nat} {ok : Nat → Prop} {v : Value} {xs : List α} (h : ak w0 W g f0 f1 f2) (ho : d.R e W base ok v xs) (ht : e ≠ 171) : some g ≠ v.ownBlock:=by
 obtain ⟨A0,c0,hb,hg,hr0⟩:=h
 exact Kd.R_ne ho hb ht
theorem ak.lt {w0 W : World} {g : Nat} {f0 : List Int} {f1 : Int} {f2 : Int} (h : ak w0 W g f0 f1 f2) : g < W.heap.size:=by
 obtain ⟨A0,c0,hb,hg,hr0⟩:=h
 exact bS hb
theorem ak.ge {w0 W : World} {g : Nat} {f0 : List Int} {f1 : Int} {f2 : Int} (h : ak w0 W g f0 f1 f2) : w0.heap.size ≤ g:=by
 obtain ⟨A0,c0,hb,hg,hr0⟩:=h
 exact hg
theorem ak.ne_blk {w0 W : World} {g : Nat} {f0 : List Int} {f1 : Int} {f2 : Int} {a : Nat} {cs : Array Value} {t : TypeId} {fr : Nat × Nat} (h : ak w0 W g f0 f1 f2) (hb2 : W.heap[a]? = some (.cells cs t fr)) (ht : t ≠ 171) : g ≠ a:=by
 obtain ⟨A0,c0,hb,hg,hr0⟩:=h
 rintro rfl
 rw [hb] at hb2
 injection hb2 with hb2
 injection hb2 with _ ht2
 exact ht ht2.symm
theorem ak.far {w0 W : World} {g : Nat} {f0 : List Int} {f1 : Int} {f2 : Int} {p : Addr} (h : ak w0 W g f0 f1 f2) (hne : g ≠ p.block) (u : Value) : ak w0 (W.setCell p u) g f0 f1 f2:=by
 obtain ⟨A0,c0,hb,hg,hr0⟩:=h
 exact ⟨A0,c0,aU hb hne u,hg,hr0⟩
theorem cellS171_0 {W : World} {g : Nat} {A0 : Option Addr} {c0 : Nat} {f0 : List Int} {f1 : Int} {f2 : Int} (h : W.heap[g]? = some (.cells #[.slice A0 f0.length c0,.int .i64 f1,.int .i64 f2] 171 (0,0))) : W.cell? ⟨g,0,none⟩ = some (.slice A0 f0.length c0):=(ai h 0).trans rfl
theorem cellS171_1 {W : World} {g : Nat} {A0 : Option Addr} {c0 : Nat} {f0 : List Int} {f1 : Int} {f2 : Int} (h : W.heap[g]? = some (.cells #[.slice A0 f0.length c0,.int .i64 f1,.int .i64 f2] 171 (0,0))) : W.cell? ⟨g,1,none⟩ = some (.int .i64 f1):=(ai h 1).trans rfl
theorem ak.set_1 {w0 W : World} {g : Nat} {f0 : List Int} {f1 : Int} {f2 : Int} (h : ak w0 W g f0 f1 f2) (x : Int) : ak w0 (W.setCell ⟨g,1,none⟩ (.int .i64 x)) g f0 x f2:=by
 obtain ⟨A0,c0,hb,hg,hr0⟩:=h
 exact ⟨A0,c0,by simpa using blk_set hb 1 (.int .i64 x),hg,hr0⟩
/-! ### cj: function 74 -/
def cj.f (l0 : List Int) : Option (List Int × Int × Int):=if (wrap64 ((l0.length : Int) / 16)) > 12 then (some (l0,0,12)) else (some (l0,0,wrap64 ((l0.length : Int) / 16)))
set_option maxHeartbeats 8000000 in
set_option maxRecDepth 100000 in
theorem cj.calls (A0 : Option Addr) (c0 : Nat) (l0 : List Int) (r1 : List Int) (r2 : Int) (r3 : Int) (w0 w : World) (hB : Below w0.heap.size w0 w) (hr0 : Kd.C (Kd.int .u8) w0 A0 l0.length l0) (hc0 : l0.length ≤ c0) (h : cj.f l0 = some (r1,r2,r3)) :
  Calls Try.prog 74 #[.slice A0 l0.length c0] w fun e w'=>∃ g_ : Nat,e = .returned (.pointer (some ⟨g_,0,none⟩)) ∧ ak w0 w' g_ r1 r2 r3 ∧ Below w0.heap.size w0 w' ∧ Below w.heap.size w w':=by
 have HR0:=M0 hr0
 have HC0:=M0 hc0
 clear hr0 hc0
 have HBW:=M0 (Below.refl w.heap.size w)
 have HW0:=M0 hB.size
 have HB:=M0 hB
 clear hB
 have H : (if (wrap64 ((l0.length : Int) / 16)) > 12 then (some (l0,0,12)) else (some (l0,0,wrap64 ((l0.length : Int) / 16)))) = some (r1,r2,r3):=h
 clear h
 by_cases c2 : (wrap64 ((l0.length : Int) / 16)) > 12
 ·rw [if_pos c2] at H
  have c2b0:=decide_eq_true c2
  clear c2
  simp only [Option.some.injEq,Prod.mk.injEq] at H
  obtain ⟨rfl,rfl,rfl⟩:=H
  go_enter Try.func74,Try.ntmps74
  go_wp2_with (((with_reducible refine aw (N:=12) rfl ?_);refine az rfl (N:=12) rfl (cs:=#[.slice A0 l0.length c0,.int .i64 0,.int .i64 12]) (t:=171) (by go_simp) ?_;intro gb336 hg w3 hbox hb;replace HB:=M0 (ab HB.out hb);have BK336:=M0 (hbox);have GE336:=M0 ((Nat.le_trans HW0.out (by rw [hg];exact (av HBW.out) : w.heap.size ≤ gb336) : w0.heap.size ≤ gb336));replace HBW:=M0 (ab HBW.out hb);clear hb hbox hg))
  go_ret
  exact ⟨_,rfl,(show ak w0 _ gb336 l0 0 12 from ⟨_,_,by exact BK336.out,GE336.out,HR0.out⟩),HB.out,HBW.out⟩
 ·rw [if_neg c2] at H
  have c2b0:=decide_eq_false c2
  clear c2
  simp only [Option.some.injEq,Prod.mk.injEq] at H
  obtain ⟨rfl,rfl,rfl⟩:=H
  go_enter Try.func74,Try.ntmps74
  go_wp2_with (((with_reducible refine aw (N:=12) rfl ?_);refine az rfl (N:=12) rfl (cs:=#[.slice A0 l0.length c0,.int .i64 0,.int .i64 (wrap64 ((l0.length : Int) / 16))]) (t:=171) (by go_simp) ?_;intro gb337 hg w4 hbox hb;replace HB:=M0 (ab HB.out hb);have BK337:=M0 (hbox);have GE337:=M0 ((Nat.le_trans HW0.out (by rw [hg];exact (av HBW.out) : w.heap.size ≤ gb337) : w0.heap.size ≤ gb337));replace HBW:=M0 (ab HBW.out hb);clear hb hbox hg))
  go_ret
  exact ⟨_,rfl,(show ak w0 _ gb337 l0 0 (wrap64 ((l0.length : Int) / 16)) from ⟨_,_,by exact BK337.out,GE337.out,HR0.out⟩),HB.out,HBW.out⟩

end Go.Proofs.Ytffhbpepppodeaa.PFnDecoded
