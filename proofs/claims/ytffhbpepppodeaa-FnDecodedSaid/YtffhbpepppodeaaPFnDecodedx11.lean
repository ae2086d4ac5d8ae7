import Derived.Test.YtffhbpepppodeaaPFnDecodedx0
import Derived.Test.YtffhbpepppodeaaPFnDecodedx7
import Derived.Test.YtffhbpepppodeaaPFnDecodedx10
namespace Go.Proofs.Ytffhbpepppodeaa.PFnDecoded
private theorem nn {α : Type} {c : Prop} [Decidable c] {a : Option α} {r : α} (h : (if c then a else none) = some r) : c ∧ a = some r:=by
 split at h
 ·exact ⟨‹c›,h⟩
 ·cases h
open Go.RowKit Go.Proofs.YtffhbpepppodeaaW.PrintWords Go.Proofs.YtffhbpepppodeaaW.PrintLast Go.Proofs.YtffhbpepppodeaaW.PrintMore
attribute [local go_sem] cJ cL dn dp cw cy cM cN   -- for this text's walks alone
set_option linter.unusedVariables false
set_option linter.unusedSimpArgs false

/-! ### aH: function 99 -/
mutual
def aH.l0 : Nat → List Bool → List Int → List Int → Int → Int → Int → Int → Option (List Int)
 | 0,_,_,_,_,_,_,_=>none
 | k + 1,x1,x5,x6,x7,x206000,x206001,x206002=>if x7 < (x1.length : Int) then (aH.j1 k x1 x5 x6 x7 (decide ((x5.length : Int) < x206000)) x206000 x206001 x206002) else (aH.j1 k x1 x5 x6 x7 false x206000 x206001 x206002)
def aH.j1 : Nat → List Bool → List Int → List Int → Int → Bool → Int → Int → Int → Option (List Int)
 | 0,_,_,_,_,_,_,_,_=>none
 | k + 1,x1,x5,x6,x7,x22,x206000,x206001,x206002=>if x22 = true then (if 0 ≤ x7 then (if x7 < (x1.length : Int) then (if rdOf false x1 x7 = true then ((some (([] : List Int) : List Int)).bind fun y216=>(if y216.length + x6.length < 17592186044416 then ((some (y216 ++ x6 : List Int)).bind fun y219=>((aM.f k x206000 x206001 x206002 x7).bind fun t222=>(if y219.length + t222.length < 17592186044416 then ((some (y219 ++ t222 : List Int)).bind fun y225=>((aD.f k (wrap64 ((x5.length : Int) + 1)) x206000 y225).bind fun t229=>(if t229 = (wrap64 ((x5.length : Int) + 1)) then (if x5.length < 17592186044416 then (aH.l0 k x1 (x5 ++ [x7]) y225 (wrap64 (x7 + 1)) x206000 x206001 x206002) else (none)) else (aH.l0 k x1 x5 x6 (wrap64 (x7 + 1)) x206000 x206001 x206002)))) else (none)))) else (none))) else (aH.l0 k x1 x5 x6 (wrap64 (x7 + 1)) x206000 x206001 x206002)) else (none)) else (none)) else (if (x5.length : Int) < x206000 then (some (([] : List Int))) else (some x5))
end
def aH.f (k : Nat) (a0_0 : Int) (a0_1 : Int) (a0_2 : Int) (l1 : List Bool) : Option (List Int):=aH.l0 k l1 (([] : List Int)) (([] : List Int)) 0 a0_0 a0_1 a0_2
def aH.T7 : Bool × List (List Nat × List Nat):=(true,[([],[]),([],[]),([0,1],[0,1]),([],[]),([],[]),([3,4,2],[3,4]),([2,5,5],[2,5]),([6,6,0,1,2,3,4,5,6],[6])])
def aH.B7 : List Nat:=[0,0,3,0,0,31,63,127]
theorem aH.tab7 : rtab .any (opsOf Try.f99 7) = aH.T7:=by kernel_rfl
theorem aH.bits7 : de aH.T7.2 aH.B7 = true:=by kernel_rfl
set_option maxHeartbeats 8000000 in
set_option maxRecDepth 100000 in
theorem aH.calls (k : Nat) (a0_0 : Int) (a0_1 : Int) (a0_2 : Int) (A1 : Option Addr) (c1 : Nat) (l1 : List Bool) (r : List Int) (w : World) (hr1 : Kd.C Kd.bool w A1 l1.length l1) (hc1 : l1.length ≤ c1) (h : aH.f k a0_0 a0_1 a0_2 l1 = some r) :
  Calls Try.prog 99 #[.agg #[.int .i64 a0_0,.int .i64 a0_1,.int .i64 a0_2],.slice A1 l1.length c1] w fun e w'=>∃ v0_ : Value,e = .returned (v0_) ∧ Kd.R (Kd.int .i64) 2 w' w.heap.size (fun _=>True) v0_ r ∧ Below w.heap.size w w':=by
 have HR1:=M0 hr1
 have HC1:=M0 hc1
 clear hr1 hc1
 have HB:=M0 (Below.refl w.heap.size w)
 have H : (aH.l0 k l1 (([] : List Int)) (([] : List Int)) 0 a0_0 a0_1 a0_2) = some r:=h
 clear h
 obtain ⟨y206,hy206⟩ : ∃ y_ : List Int,y_ = (([] : List Int)):=⟨_,rfl⟩
 replace H : (aH.l0 k l1 y206 (([] : List Int)) 0 a0_0 a0_1 a0_2) = some r:=by rw [hy206];exact H
 have Ny206:=M0 hy206
 clear hy206
 obtain ⟨y209,hy209⟩ : ∃ y_ : List Int,y_ = (([] : List Int)):=⟨_,rfl⟩
 rw [← hy209] at H
 have Ny209:=M0 hy209
 clear hy209
 have H':=M0 H
 clear H
 go_enter Try.func99,Try.ntmps99
 go_wp2_with (first|((with_reducible refine aw (N:=2) rfl ?_);(try (refine al (by rfl) ?_;dsimp only));refine az rfl (N:=2) rfl (cs:=#[.int .i64 a0_0,.int .i64 a0_1,.int .i64 a0_2]) (t:=43) (by go_simp) ?_;intro gb205 hg w3 hbox hb;have BK205:=M0 (hbox);replace HB:=M0 (ab HB.out hb);clear hb hbox hg)|((with_reducible refine aw (N:=10) rfl ?_);(try (refine al (by rfl) ?_;dsimp only));refine Kd.dR (Kd.int .i64) _ 2 ?hg (N:=10) ?hd (xs:=([] : List Int)) (inner:=[]) (ok:=fun _=>True) (okp:=fun _=>True) ?hr ?hp (fun _ hk=>hk) trivial (Below.refl _ _) (Nat.le_refl _) (by simp) ?_;(case hd=>rfl);(case hg=>rfl);(case hr=>(go_simp;done));(case hp=>exact (Reps.none _ _));intro v207 w4 ho5 hb hg_ hnew_;clear hg_ hnew_;(rw [← Ny206.out] at ho5);have HO208:=M0 (Kd.bh ho5 (av HB.out));replace BK205:=M0 (ag BK205.out hb);replace HB:=M0 (ab HB.out hb);clear hb ho5)|((with_reducible refine aw (N:=11) rfl ?_);(try (refine al (by rfl) ?_;dsimp only));refine Kd.dR (Kd.int .i64) _ 2 ?hg (N:=11) ?hd (xs:=([] : List Int)) (inner:=[]) (ok:=fun _=>True) (okp:=fun _=>True) ?hr ?hp (fun _ hk=>hk) trivial (Below.refl _ _) (Nat.le_refl _) (by simp) ?_;(case hd=>rfl);(case hg=>rfl);(case hr=>(go_simp;done));(case hp=>exact (Reps.none _ _));intro v210 w6 ho7 hb hg_ hnew_;clear hg_ hnew_;(rw [← Ny209.out] at ho7);have HO211:=M0 (Kd.bh (Kd.cE ho7 (Kd.R_lt HO208.out)) (av HB.out));replace HO208:=M0 (Kd.bU HO208.out (Kd.cD ho7) hb);replace BK205:=M0 (ag BK205.out hb);replace HB:=M0 (ab HB.out hb);clear hb ho7))
 go_loopg [5,6,7] k (fun kq v5 v6 v7 w'=>∃ (x5_1 : List Int) (x6_1 : List Int) (x7_1 : Int),v7 = .int .i64 x7_1 ∧ Aside0 (aH.l0 kq l1 x5_1 x6_1 x7_1 a0_0 a0_1 a0_2 = some r) ∧ Aside0 (kq ≤ k) ∧ Aside0 (Kd.R (Kd.int .i64) 2 w' w.heap.size (fun k_=>some k_ ≠ (v6 : Value).ownBlock) v5 x5_1) ∧ Aside0 (Kd.R (Kd.int .i64) 2 w' w.heap.size (fun k_=>some k_ ≠ (v5 : Value).ownBlock) v6 x6_1) ∧ Aside0 (w'.heap[gb205]? = some (.cells #[.int .i64 a0_0,.int .i64 a0_1,.int .i64 a0_2] 43 (0,0))) ∧ Aside0 (Below w.heap.size w w'))
 case atStart=>exact ⟨(y206),(y209),(0),(by rfl),H',⟨Nat.le_refl _⟩,⟨by exact Kd.aI HO208.out (fun _ hk=>hk.2)⟩,⟨by exact Kd.aI HO211.out (fun _ hk=>hk.2)⟩,⟨by exact BK205.out⟩,⟨HB.out⟩⟩
 case round=>
  clear H'
  obtain ⟨x5_1,x6_1,x7_1,rfl,HA,HK1,HO_5,HO_6,BK205,HB⟩:=hrel
  cases gk with
  | zero=>exact absurd HA.out (by simp [aH.l0])
  | succ k1=>
   have H:=HA.out
   clear HA
   simp only [aH.l0] at H
   have HC8:=M0 H
   clear H
   go_upto_region 4 with (fail)
   go_cut [22] (fun v22 wc=>∃ (kq : Nat) (x22_7 : Bool),v22 = .bool x22_7 ∧ Aside0 (aH.j1 kq l1 x5_1 x6_1 x7_1 x22_7 a0_0 a0_1 a0_2 = some r) ∧ Aside0 (kq ≤ k1) ∧ Aside0 (Kd.R (Kd.int .i64) 2 wc w.heap.size (fun k_=>some k_ ≠ (u6 : Value).ownBlock) u5 x5_1) ∧ Aside0 (Kd.R (Kd.int .i64) 2 wc w.heap.size (fun k_=>some k_ ≠ (u5 : Value).ownBlock) u6 x6_1) ∧ Aside0 (wc.heap[gb205]? = some (.cells #[.int .i64 a0_0,.int .i64 a0_1,.int .i64 a0_2] 43 (0,0))) ∧ Aside0 (Below w.heap.size w wc))
   case first=>
    have H:=HC8.out
    clear HC8
    by_cases c9 : x7_1 < (l1.length : Int)
    ·rw [if_pos c9] at H
     have c9b0:=decide_eq_true c9
     clear c9
     (skip)
     have H':=M0 H
     clear H
     obtain ⟨Ao10,co10,eo10⟩:=Kd.a9 HO_5.out
     subst eo10
     have hcz11_0:=bcv (v:=.int .i64 a0_0) BK205.out 0 rfl
     go_wp2
     go_meet
     case rel=>exact ⟨_,(decide ((x5_1.length : Int) < a0_0)),(by rfl),H',⟨by have:=HK1.out;omega⟩,⟨by exact HO_5.out⟩,⟨by exact HO_6.out⟩,⟨by exact BK205.out⟩,⟨HB.out⟩⟩
    ·rw [if_neg c9] at H
     have c9b0:=decide_eq_false c9
     clear c9
     (skip)
     have H':=M0 H
     clear H
     go_wp2
     go_meet
     case rel=>exact ⟨_,(false),(by rfl),H',⟨by have:=HK1.out;omega⟩,⟨by exact HO_5.out⟩,⟨by exact HO_6.out⟩,⟨by exact BK205.out⟩,⟨HB.out⟩⟩
   case rest=>
    clear HC8
    obtain ⟨kq,x22_7,rfl,HA,HJ7,HO_5,HO_6,BK205,HB⟩:=hcut
    cases kq with
    | zero=>exact absurd HA.out (by simp [aH.j1])
    | succ kj7=>
     have H:=HA.out
     clear HA
     simp only [aH.j1] at H
     by_cases c12 : x22_7 = true
     ·subst c12
      have H1 : (if 0 ≤ x7_1 then (if x7_1 < (l1.length : Int) then (if rdOf false l1 x7_1 = true then ((some (([] : List Int) : List Int)).bind fun y216=>(if y216.length + x6_1.length < 17592186044416 then ((some (y216 ++ x6_1 : List Int)).bind fun y219=>((aM.f kj7 a0_0 a0_1 a0_2 x7_1).bind fun t222=>(if y219.length + t222.length < 17592186044416 then ((some (y219 ++ t222 : List Int)).bind fun y225=>((aD.f kj7 (wrap64 ((x5_1.length : Int) + 1)) a0_0 y225).bind fun t229=>(if t229 = (wrap64 ((x5_1.length : Int) + 1)) then (if x5_1.length < 17592186044416 then (aH.l0 kj7 l1 (x5_1 ++ [x7_1]) y225 (wrap64 (x7_1 + 1)) a0_0 a0_1 a0_2) else (none)) else (aH.l0 kj7 l1 x5_1 x6_1 (wrap64 (x7_1 + 1)) a0_0 a0_1 a0_2)))) else (none)))) else (none))) else (aH.l0 kj7 l1 x5_1 x6_1 (wrap64 (x7_1 + 1)) a0_0 a0_1 a0_2)) else (none)) else (none)) = some r:=by rw [if_pos rfl] at H;exact H
      clear H
      have H:=H1
      clear H1
      obtain ⟨c13,H⟩:=nn H
      have c13b0:=decide_eq_true c13
      clear c13
      obtain ⟨c14,H⟩:=nn H
      have c14b0:=decide_eq_true c14
      clear c14
      obtain ⟨bq15,hbq15⟩ : ∃ b_ : Bool,b_ = (rdOf false l1 x7_1):=⟨_,rfl⟩
      replace H : (if bq15 = true then ((some (([] : List Int) : List Int)).bind fun y216=>(if y216.length + x6_1.length < 17592186044416 then ((some (y216 ++ x6_1 : List Int)).bind fun y219=>((aM.f kj7 a0_0 a0_1 a0_2 x7_1).bind fun t222=>(if y219.length + t222.length < 17592186044416 then ((some (y219 ++ t222 : List Int)).bind fun y225=>((aD.f kj7 (wrap64 ((x5_1.length : Int) + 1)) a0_0 y225).bind fun t229=>(if t229 = (wrap64 ((x5_1.length : Int) + 1)) then (if x5_1.length < 17592186044416 then (aH.l0 kj7 l1 (x5_1 ++ [x7_1]) y225 (wrap64 (x7_1 + 1)) a0_0 a0_1 a0_2) else (none)) else (aH.l0 kj7 l1 x5_1 x6_1 (wrap64 (x7_1 + 1)) a0_0 a0_1 a0_2)))) else (none)))) else (none))) else (aH.l0 kj7 l1 x5_1 x6_1 (wrap64 (x7_1 + 1)) a0_0 a0_1 a0_2)) = some r:=by rw [← hbq15] at H;exact H
      have Nbq15:=M0 hbq15
      clear hbq15
      by_cases c16 : bq15 = true
      ·subst c16
       have H1 : ((some (([] : List Int) : List Int)).bind fun y216=>(if y216.length + x6_1.length < 17592186044416 then ((some (y216 ++ x6_1 : List Int)).bind fun y219=>((aM.f kj7 a0_0 a0_1 a0_2 x7_1).bind fun t222=>(if y219.length + t222.length < 17592186044416 then ((some (y219 ++ t222 : List Int)).bind fun y225=>((aD.f kj7 (wrap64 ((x5_1.length : Int) + 1)) a0_0 y225).bind fun t229=>(if t229 = (wrap64 ((x5_1.length : Int) + 1)) then (if x5_1.length < 17592186044416 then (aH.l0 kj7 l1 (x5_1 ++ [x7_1]) y225 (wrap64 (x7_1 + 1)) a0_0 a0_1 a0_2) else (none)) else (aH.l0 kj7 l1 x5_1 x6_1 (wrap64 (x7_1 + 1)) a0_0 a0_1 a0_2)))) else (none)))) else (none))) = some r:=by rw [if_pos rfl] at H;exact H
       clear H
       have H:=H1
       clear H1
       obtain ⟨y216,hy216⟩ : ∃ y_ : List Int,y_ = (([] : List Int)):=⟨_,rfl⟩
       replace H : (if y216.length + x6_1.length < 17592186044416 then ((some (y216 ++ x6_1 : List Int)).bind fun y219=>((aM.f kj7 a0_0 a0_1 a0_2 x7_1).bind fun t222=>(if y219.length + t222.length < 17592186044416 then ((some (y219 ++ t222 : List Int)).bind fun y225=>((aD.f kj7 (wrap64 ((x5_1.length : Int) + 1)) a0_0 y225).bind fun t229=>(if t229 = (wrap64 ((x5_1.length : Int) + 1)) then (if x5_1.length < 17592186044416 then (aH.l0 kj7 l1 (x5_1 ++ [x7_1]) y225 (wrap64 (x7_1 + 1)) a0_0 a0_1 a0_2) else (none)) else (aH.l0 kj7 l1 x5_1 x6_1 (wrap64 (x7_1 + 1)) a0_0 a0_1 a0_2)))) else (none)))) else (none)) = some r:=by (have H2_:=(Option.bind_some _ _).symm.trans H;rw [hy216];with_reducible exact H2_)
       have Ny216:=M0 hy216
       clear hy216
       obtain ⟨c17,H⟩:=nn H
       have LMc17:=M0 c17
       clear c17
       obtain ⟨y219,hy219⟩ : ∃ y_ : List Int,y_ = (y216 ++ x6_1):=⟨_,rfl⟩
       replace H : ((aM.f kj7 a0_0 a0_1 a0_2 x7_1).bind fun t222=>(if y219.length + t222.length < 17592186044416 then ((some (y219 ++ t222 : List Int)).bind fun y225=>((aD.f kj7 (wrap64 ((x5_1.length : Int) + 1)) a0_0 y225).bind fun t229=>(if t229 = (wrap64 ((x5_1.length : Int) + 1)) then (if x5_1.length < 17592186044416 then (aH.l0 kj7 l1 (x5_1 ++ [x7_1]) y225 (wrap64 (x7_1 + 1)) a0_0 a0_1 a0_2) else (none)) else (aH.l0 kj7 l1 x5_1 x6_1 (wrap64 (x7_1 + 1)) a0_0 a0_1 a0_2)))) else (none))) = some r:=by (have H2_:=(Option.bind_some _ _).symm.trans H;rw [hy219];with_reducible exact H2_)
       have Ny219:=M0 hy219
       clear hy219
       replace H:=Option.bind_eq_some_iff.mp H
       obtain ⟨t222,A180,H⟩:=H
       replace H : (if y219.length + t222.length < 17592186044416 then ((some (y219 ++ t222 : List Int)).bind fun y225=>((aD.f kj7 (wrap64 ((x5_1.length : Int) + 1)) a0_0 y225).bind fun t229=>(if t229 = (wrap64 ((x5_1.length : Int) + 1)) then (if x5_1.length < 17592186044416 then (aH.l0 kj7 l1 (x5_1 ++ [x7_1]) y225 (wrap64 (x7_1 + 1)) a0_0 a0_1 a0_2) else (none)) else (aH.l0 kj7 l1 x5_1 x6_1 (wrap64 (x7_1 + 1)) a0_0 a0_1 a0_2)))) else (none)) = some r:=H
       have A18:=M0 A180
       clear A180
       obtain ⟨c19,H⟩:=nn H
       have LMc19:=M0 c19
       clear c19
       obtain ⟨y225,hy225⟩ : ∃ y_ : List Int,y_ = (y219 ++ t222):=⟨_,rfl⟩
       replace H : ((aD.f kj7 (wrap64 ((x5_1.length : Int) + 1)) a0_0 y225).bind fun t229=>(if t229 = (wrap64 ((x5_1.length : Int) + 1)) then (if x5_1.length < 17592186044416 then (aH.l0 kj7 l1 (x5_1 ++ [x7_1]) y225 (wrap64 (x7_1 + 1)) a0_0 a0_1 a0_2) else (none)) else (aH.l0 kj7 l1 x5_1 x6_1 (wrap64 (x7_1 + 1)) a0_0 a0_1 a0_2))) = some r:=by (have H2_:=(Option.bind_some _ _).symm.trans H;rw [hy225];with_reducible exact H2_)
       have Ny225:=M0 hy225
       clear hy225
       replace H:=Option.bind_eq_some_iff.mp H
       obtain ⟨t229,A200,H⟩:=H
       replace H : (if t229 = (wrap64 ((x5_1.length : Int) + 1)) then (if x5_1.length < 17592186044416 then (aH.l0 kj7 l1 (x5_1 ++ [x7_1]) y225 (wrap64 (x7_1 + 1)) a0_0 a0_1 a0_2) else (none)) else (aH.l0 kj7 l1 x5_1 x6_1 (wrap64 (x7_1 + 1)) a0_0 a0_1 a0_2)) = some r:=H
       have A20:=M0 A200
       clear A200
       by_cases c21 : t229 = (wrap64 ((x5_1.length : Int) + 1))
       ·rw [if_pos c21] at H
        have c21b0 : (t229 == (wrap64 ((x5_1.length : Int) + 1))) = true:=beq_iff_eq.mpr c21
        clear c21
        obtain ⟨c22,H⟩:=nn H
        have LMc22:=M0 c22
        clear c22
        obtain ⟨y230,hy230⟩ : ∃ y_ : List Int,y_ = (x5_1 ++ [x7_1]):=⟨_,rfl⟩
        rw [← hy230] at H
        have Ny230:=M0 hy230
        clear hy230
        have H':=M0 H
        clear H
        have p215 : 0 ≤ (x7_1 : Int):=of_decide_eq_true (by with_reducible assumption)
        have q215 : x7_1 < (l1.length : Int):=of_decide_eq_true (by with_reducible assumption)
        obtain ⟨ad215,e215,hx215_0⟩:=Kd.dK HR1.out x7_1 p215 q215
        (try rw [← Nbq15.out] at hx215_0)
        cases e215
        replace hx215_0:=(HB.out.cell (World.block_lt_of_cell? w _ hx215_0)).trans hx215_0
        replace p215:=eq_true p215
        replace q215:=eq_true q215
        try go_wp2
        replace HO_5:=M0 (Kd.cS HO_5.out)
        replace HO_6:=M0 (Kd.cS HO_6.out)
        replace BK205:=M0 (bn BK205.out)
        replace HB:=M0 (a7 HB.out)
        refine cr (n:=8) (S:=fun w'=>w'.cell? ⟨gb205,0,none⟩ = some (.int .i64 a0_0) ∧ w'.cell? ⟨gb205,1,none⟩ = some (.int .i64 a0_1) ∧ w'.cell? ⟨gb205,2,none⟩ = some (.int .i64 a0_2)) (ds:=[]) #[O,O,O,O,O,O,O,O] (by kernel_rfl) rfl rfl ⟨(ai BK205.out 0).trans rfl,(ai BK205.out 1).trans rfl,(ai BK205.out 2).trans rfl⟩ (fun hHeld=>?_);refine dg aH.tab7 aH.bits7 (fun HT_ HW_=>?_)
        generalize wc.drew = w23 at HO_5 HO_6 BK205 HB hHeld ⊢
        refine au (i:=1) (N:=some 31) #[O,I,O,O,O,O,O,O] rfl rfl (a6 HT_.out (by kernel_rfl)) (fun _ _ _ h=>h) (Or.inl ⟨by rfl,by intro w';go_simp;with_reducible rfl⟩) (by simp only [Act.put,List.setIfInBounds_toArray,List.set_cons_zero,List.set_cons_succ,ae,af];rfl) ?_
        refine au (i:=4) (N:=some 34) #[O,I,O,O,I,O,O,O] rfl rfl (a6 HT_.out (by kernel_rfl)) (fun _ _ _ h=>h) (Or.inl ⟨by rfl,by intro w';go_simp;with_reducible rfl⟩) (by simp only [Act.put,List.setIfInBounds_toArray,List.set_cons_zero,List.set_cons_succ,ae,af];rfl) ?_
        refine bu (i:=3) (N:=some 33) #[O,I,O,I,I,O,O,O] rfl rfl (bL HT_.out HW_.out (by kernel_rfl)) (fun _ _ _ h=>h) (Or.inl ⟨by rfl,by rintro w' ⟨s0,s1,s2⟩;go_simp;with_reducible rfl⟩) hHeld (by simp only [Act.put,List.setIfInBounds_toArray,List.set_cons_zero,List.set_cons_succ,ae,af];rfl) ?_
        refine one_ (i:=0) (N:=some 30) #[I,I,O,I,I,O,O,O] rfl rfl (bX HT_.out (by kernel_rfl)) (by decide) (fun K hK=>?_)
        refine Kd.R_lit_step (Kd.int .i64) _ 2 ?hg (N:=30) ?hd (xs:=([] : List Int)) (inner:=[]) (ok:=fun _=>True) (okp:=fun _=>True) ?hr ?hp (fun _ hk=>hk) trivial (Below.refl _ _) (Nat.le_refl _) (by simp) ?_;(case hd=>rfl);(case hg=>rfl);(case hr=>(go_simp;done));(case hp=>exact (Reps.none _ _))
        intro v217 w24 ho25 hb hg_ hnew_
        clear hg_ hnew_
        (rw [← Ny216.out] at ho25)
        have HO218:=M0 (Kd.bh (Kd.cE (Kd.cE ho25 (Kd.R_lt HO_5.out)) (Kd.R_lt HO_6.out)) (av HB.out))
        replace HO_5:=M0 (Kd.bU HO_5.out (Kd.cD ho25) hb)
        replace HO_6:=M0 (Kd.bU HO_6.out (Kd.cD ho25) hb)
        replace BK205:=M0 (ag BK205.out hb)
        replace HB:=M0 (ab HB.out hb)
        clear hb ho25
        obtain ⟨Ao27,co27,eo27⟩:=Kd.a9 HO_6.out
        (subst eo27)
        refine hK.out _ _ ⟨(ai BK205.out 0).trans rfl,(ai BK205.out 1).trans rfl,(ai BK205.out 2).trans rfl⟩ (fun hHeld=>?_)
        clear hK K
        refine bK (a':=?_) ?_ ?_
        rotate_left
        ·show Act.put _ (some 30) _ = _
         simp only [Act.put,List.setIfInBounds_toArray,List.set_cons_zero,List.set_cons_succ,ae,af]
         rfl
        refine one_ (i:=2) (N:=some 32) #[I,I,I,I,I,O,O,O] rfl rfl (bX HT_.out (by kernel_rfl)) (by decide) (fun K hK=>?_)
        refine Kd.cm (Kd.int .i64) (w0:=w) w.heap.size (by rfl) (.tmp 30) (.tmp 31) 22 2 (.int .i64 0) 8 rfl Try.underlying22 dY rfl (by decide) (by omega) v217 y216 x6_1 _ _ _ (fun k_=>some k_ ≠ (u5 : Value).ownBlock ∧ some k_ ≠ (.slice Ao27 x6_1.length co27 : Value).ownBlock) (fun _=>False) rfl rfl ?aO ?aR (fun _ _ h=>h) (fun _ h=>h.elim) ?aF ?aB ?aS ?aL ?_
        (case aR=>exact (Kd.aA HO_6.out).2.2)
        (case aB=>exact HB.out)
        (case aF=>exact (fun k_ hk=>⟨Kd.dH (Kd.R_lt HO_5.out) k_ hk,Kd.dH (Kd.R_lt HO_6.out) k_ hk⟩))
        (case aO=>exact (by exact Kd.aI HO218.out (fun _ hk=>⟨hk.1.2,hk.2⟩)))
        (case aS=>exact (av HB.out))
        (case aL=>have:=LMc17.out;omega)
        intro v220 w26 ho hb hg hat
        rw [← Ny219.out] at ho
        have n0_:=M0 (Kd.db (ok:=(fun k_=>some k_ ≠ (.slice Ao27 x6_1.length co27 : Value).ownBlock)) HO_5.out hg hat)
        have n1_:=M0 (Kd.db (ok:=(fun k_=>some k_ ≠ (u5 : Value).ownBlock)) HO_6.out hg hat)
        have n2_:=M0 (bf (g:=gb205) (o:=.cells #[.int .i64 a0_0,.int .i64 a0_1,.int .i64 a0_2] 43 (0,0)) BK205.out hg (Kd.R_ne HO218.out BK205.out (by decide)))
        have n3_:=M0 (hb)
        have n4_:=M0 (ho)
        clear HO_5 HO_6 BK205 HB HO218
        have HO_5:=n0_
        have HO_6:=n1_
        have BK205:=n2_
        have HB:=n3_
        have HO221:=n4_
        clear n0_ n1_ n2_ n3_ n4_ ho hb hg hat
        refine hK.out _ _ ⟨(ai BK205.out 0).trans rfl,(ai BK205.out 1).trans rfl,(ai BK205.out 2).trans rfl⟩ (fun hHeld=>?_)
        clear hK K
        refine bK (a':=?_) ?_ ?_
        rotate_left
        ·show Act.put _ (some 32) _ = _
         simp only [Act.put,List.setIfInBounds_toArray,List.set_cons_zero,List.set_cons_succ,ae,af]
         rfl
        refine one_ (i:=5) (N:=some 35) #[I,I,I,I,I,I,O,O] rfl rfl (bX HT_.out (by kernel_rfl)) (by decide) (fun K hK=>?_)
        refine cT Try.func128 (by kernel_rfl) rfl #[.agg #[.int .i64 a0_0,.int .i64 a0_1,.int .i64 a0_2],.int .i64 x7_1] (by rfl) rfl rfl (by (try simp only [List.map_toArray,List.map_cons,List.map_nil]);rfl) ?_
        with_reducible refine (aM.calls kj7 a0_0 a0_1 a0_2 x7_1 t222 _ A18.out).mono ?_
        rintro e w28 ⟨v223,rfl,ho0,hb⟩
        refine ⟨_,rfl,?_⟩
        have HO224:=M0 (Kd.bh (Kd.cE (Kd.cE (Kd.cE ho0 (Kd.R_lt HO_5.out)) (Kd.R_lt HO_6.out)) (Kd.R_lt HO221.out)) (av HB.out))
        replace HO_5:=M0 (Kd.bU HO_5.out (Kd.cD ho0) hb)
        replace HO_6:=M0 (Kd.bU HO_6.out (Kd.cD ho0) hb)
        replace HO221:=M0 (Kd.bU HO221.out (Kd.cD ho0) hb)
        replace BK205:=M0 (ag BK205.out hb)
        replace HB:=M0 (ab HB.out hb)
        clear hb ho0
        obtain ⟨Ao30,co30,eo30⟩:=Kd.a9 HO224.out
        (subst eo30)
        refine hK.out _ _ ⟨(ai BK205.out 0).trans rfl,(ai BK205.out 1).trans rfl,(ai BK205.out 2).trans rfl⟩ (fun hHeld=>?_)
        clear hK K
        refine bK (a':=?_) ?_ ?_
        rotate_left
        ·show Act.put _ (some 35) _ = _
         simp only [Act.put,List.setIfInBounds_toArray,List.set_cons_zero,List.set_cons_succ,ae,af]
         rfl
        refine one_ (i:=6) (N:=some 36) #[I,I,I,I,I,I,I,O] rfl rfl (bX HT_.out (by kernel_rfl)) (by decide) (fun K hK=>?_)
        refine Kd.cm (Kd.int .i64) (w0:=w) w.heap.size (by rfl) (.tmp 32) (.tmp 35) 22 2 (.int .i64 0) 8 rfl Try.underlying22 dY rfl (by decide) (by omega) v220 y219 t222 _ _ _ (fun k_=>some k_ ≠ (u5 : Value).ownBlock ∧ some k_ ≠ (.slice Ao27 x6_1.length co27 : Value).ownBlock ∧ some k_ ≠ (.slice Ao30 t222.length co30 : Value).ownBlock) (fun _=>False) rfl rfl ?aO ?aR (fun _ _ h=>h) (fun _ h=>h.elim) ?aF ?aB ?aS ?aL ?_
        (case aR=>exact (Kd.aA HO224.out).2.2)
        (case aB=>exact HB.out)
        (case aF=>exact (fun k_ hk=>⟨Kd.dH (Kd.R_lt HO_5.out) k_ hk,Kd.dH (Kd.R_lt HO_6.out) k_ hk,Kd.dH (Kd.R_lt HO224.out) k_ hk⟩))
        (case aO=>exact (by exact Kd.aI HO221.out (fun _ hk=>⟨hk.1.1,⟨hk.1.2,hk.2⟩⟩)))
        (case aS=>exact (av HB.out))
        (case aL=>have:=LMc19.out;omega)
        intro v226 w29 ho hb hg hat
        rw [← Ny225.out] at ho
        have n0_:=M0 (Kd.db (ok:=(fun k_=>some k_ ≠ (.slice Ao27 x6_1.length co27 : Value).ownBlock ∧ some k_ ≠ (.slice Ao30 t222.length co30 : Value).ownBlock)) (by exact Kd.aI HO_5.out (fun _ hk=>⟨⟨hk.1.1,hk.2⟩,hk.1.2⟩)) hg hat)
        have n1_:=M0 (Kd.db (ok:=(fun k_=>some k_ ≠ (u5 : Value).ownBlock ∧ some k_ ≠ (.slice Ao30 t222.length co30 : Value).ownBlock)) (by exact Kd.aI HO_6.out (fun _ hk=>⟨⟨hk.1.1,hk.2⟩,hk.1.2⟩)) hg hat)
        have n2_:=M0 (bf (g:=gb205) (o:=.cells #[.int .i64 a0_0,.int .i64 a0_1,.int .i64 a0_2] 43 (0,0)) BK205.out hg (Kd.R_ne HO221.out BK205.out (by decide)))
        have n3_:=M0 (Kd.db (ok:=(fun k_=>some k_ ≠ (u5 : Value).ownBlock ∧ some k_ ≠ (.slice Ao27 x6_1.length co27 : Value).ownBlock)) (by exact Kd.aI HO224.out (fun _ hk=>⟨⟨hk.1.1.2,hk.1.2⟩,hk.2⟩)) hg hat)
        have n4_:=M0 (hb)
        have n5_:=M0 (ho)
        clear HO_5 HO_6 BK205 HO224 HB HO221
        have HO_5:=n0_
        have HO_6:=n1_
        have BK205:=n2_
        have HO224:=n3_
        have HB:=n4_
        have HO227:=n5_
        clear n0_ n1_ n2_ n3_ n4_ n5_ ho hb hg hat
        refine hK.out _ _ ⟨(ai BK205.out 0).trans rfl,(ai BK205.out 1).trans rfl,(ai BK205.out 2).trans rfl⟩ (fun hHeld=>?_)
        clear hK K
        refine bK (a':=?_) ?_ ?_
        rotate_left
        ·show Act.put _ (some 36) _ = _
         simp only [Act.put,List.setIfInBounds_toArray,List.set_cons_zero,List.set_cons_succ,ae,af]
         rfl
        refine au (i:=7) (N:=some 8) #[I,I,I,I,I,I,I,I] rfl rfl (a6 HT_.out (by kernel_rfl)) (fun _ _ _ h=>h) (Or.inl ⟨by rfl,by intro w';go_simp;with_reducible rfl⟩) (by simp only [Act.put,List.setIfInBounds_toArray,List.set_cons_zero,List.set_cons_succ,ae,af];rfl) ?_
        refine cZ (dL HT_.out (by kernel_rfl)) ?_
        obtain ⟨Ao31,co31,eo31⟩:=Kd.a9 HO_5.out
        subst eo31
        obtain ⟨Ao33,co33,eo33⟩:=Kd.a9 HO227.out
        subst eo33
        try go_wp2_with (((with_reducible refine aw (N:=9) rfl ?_);(try (refine al (by rfl) ?_;dsimp only));refine az rfl (N:=9) rfl (cs:=#[.int .i64 0,.int .i64 0,.slice none 0 0]) (t:=27) (by go_simp) ?_;intro gb228 hg w34 hbox hb;replace HO_5:=M0 (Kd.aX HO_5.out hb);replace HO_6:=M0 (Kd.aX HO_6.out hb);replace HO224:=M0 (Kd.aX HO224.out hb);replace HO227:=M0 (Kd.aX HO227.out hb);have BK228:=M0 (hbox);have GW228:=M0 ((by rw [hg];exact (av HB.out) : w.heap.size ≤ gb228));have GE228:=GW228;replace HB:=M0 (ab HB.out hb);have NB205_228:=M0 ((by rw [hg];exact Nat.ne_of_lt (bS BK205.out) : gb205 ≠ gb228));replace BK205:=M0 (ag BK205.out hb);clear hb hbox hg;have hcz36_0:=bcv (v:=.int .i64 0) BK228.out 0 rfl;have hcz36_1:=bcv (v:=.int .i64 0) BK228.out 1 rfl;have hcz36_2:=bcv (v:=.slice none 0 0) BK228.out 2 rfl;have hfz36_0:=aa BK228.out 0;have hfz36_1:=aa BK228.out 1;have hfz36_2:=aa BK228.out 2))
        have n0_ : Aside0 (Kd.R (Kd.int .i64) 2 (((w34.setCell ⟨gb228,0,none⟩ (.int .i64 (wrap64 ((x5_1.length : Int) + 1)))).setCell ⟨gb228,1,none⟩ (.int .i64 a0_0)).setCell ⟨gb228,2,none⟩ (.slice Ao33 y225.length co33)) w.heap.size (fun k_=>some k_ ≠ (.slice Ao27 x6_1.length co27 : Value).ownBlock ∧ some k_ ≠ (.slice Ao30 t222.length co30 : Value).ownBlock ∧ some k_ ≠ (.slice Ao33 y225.length co33 : Value).ownBlock) (.slice Ao31 x5_1.length co31) x5_1):=⟨by exact Kd.aI (Kd.bb (p:=⟨gb228,2,none⟩) (Kd.bb (p:=⟨gb228,1,none⟩) (Kd.bb (p:=⟨gb228,0,none⟩) (Kd.bE HO_5.out BK228.out (by decide)) (fun _ hk=>hk.2) (.int .i64 (wrap64 ((x5_1.length : Int) + 1)))) (fun _ hk=>hk.2) (.int .i64 a0_0)) (fun _ hk=>hk.2) (.slice Ao33 y225.length co33)) (fun _ hk=>⟨hk.1.1.1,⟨hk.1.1.2,hk.1.2⟩⟩)⟩
        have n1_ : Aside0 (Kd.R (Kd.int .i64) 2 (((w34.setCell ⟨gb228,0,none⟩ (.int .i64 (wrap64 ((x5_1.length : Int) + 1)))).setCell ⟨gb228,1,none⟩ (.int .i64 a0_0)).setCell ⟨gb228,2,none⟩ (.slice Ao33 y225.length co33)) w.heap.size (fun k_=>some k_ ≠ (.slice Ao31 x5_1.length co31 : Value).ownBlock ∧ some k_ ≠ (.slice Ao30 t222.length co30 : Value).ownBlock ∧ some k_ ≠ (.slice Ao33 y225.length co33 : Value).ownBlock) (.slice Ao27 x6_1.length co27) x6_1):=⟨by exact Kd.aI (Kd.bb (p:=⟨gb228,2,none⟩) (Kd.bb (p:=⟨gb228,1,none⟩) (Kd.bb (p:=⟨gb228,0,none⟩) (Kd.bE HO_6.out BK228.out (by decide)) (fun _ hk=>hk.2) (.int .i64 (wrap64 ((x5_1.length : Int) + 1)))) (fun _ hk=>hk.2) (.int .i64 a0_0)) (fun _ hk=>hk.2) (.slice Ao33 y225.length co33)) (fun _ hk=>⟨hk.1.1.1,⟨hk.1.1.2,hk.1.2⟩⟩)⟩
        have n2_ : Aside0 (Kd.R (Kd.int .i64) 2 (((w34.setCell ⟨gb228,0,none⟩ (.int .i64 (wrap64 ((x5_1.length : Int) + 1)))).setCell ⟨gb228,1,none⟩ (.int .i64 a0_0)).setCell ⟨gb228,2,none⟩ (.slice Ao33 y225.length co33)) w.heap.size (fun k_=>some k_ ≠ (.slice Ao31 x5_1.length co31 : Value).ownBlock ∧ some k_ ≠ (.slice Ao27 x6_1.length co27 : Value).ownBlock ∧ some k_ ≠ (.slice Ao33 y225.length co33 : Value).ownBlock) (.slice Ao30 t222.length co30) t222):=⟨by exact Kd.aI (Kd.bb (p:=⟨gb228,2,none⟩) (Kd.bb (p:=⟨gb228,1,none⟩) (Kd.bb (p:=⟨gb228,0,none⟩) (Kd.bE HO224.out BK228.out (by decide)) (fun _ hk=>hk.2) (.int .i64 (wrap64 ((x5_1.length : Int) + 1)))) (fun _ hk=>hk.2) (.int .i64 a0_0)) (fun _ hk=>hk.2) (.slice Ao33 y225.length co33)) (fun _ hk=>⟨hk.1.1.1,⟨hk.1.1.2,hk.1.2⟩⟩)⟩
        have n3_ : Aside0 (Kd.R (Kd.int .i64) 2 (((w34.setCell ⟨gb228,0,none⟩ (.int .i64 (wrap64 ((x5_1.length : Int) + 1)))).setCell ⟨gb228,1,none⟩ (.int .i64 a0_0)).setCell ⟨gb228,2,none⟩ (.slice Ao33 y225.length co33)) w.heap.size (fun k_=>some k_ ≠ (.slice Ao31 x5_1.length co31 : Value).ownBlock ∧ some k_ ≠ (.slice Ao27 x6_1.length co27 : Value).ownBlock ∧ some k_ ≠ (.slice Ao30 t222.length co30 : Value).ownBlock) (.slice Ao33 y225.length co33) y225):=⟨by exact Kd.aI (Kd.bb (p:=⟨gb228,2,none⟩) (Kd.bb (p:=⟨gb228,1,none⟩) (Kd.bb (p:=⟨gb228,0,none⟩) (Kd.bE HO227.out BK228.out (by decide)) (fun _ hk=>hk.2) (.int .i64 (wrap64 ((x5_1.length : Int) + 1)))) (fun _ hk=>hk.2) (.int .i64 a0_0)) (fun _ hk=>hk.2) (.slice Ao33 y225.length co33)) (fun _ hk=>⟨hk.1.1,⟨hk.1.2.1,hk.1.2.2⟩⟩)⟩
        have n4_ : Aside0 ((((w34.setCell ⟨gb228,0,none⟩ (.int .i64 (wrap64 ((x5_1.length : Int) + 1)))).setCell ⟨gb228,1,none⟩ (.int .i64 a0_0)).setCell ⟨gb228,2,none⟩ (.slice Ao33 y225.length co33)).heap[gb205]? = some (.cells #[.int .i64 a0_0,.int .i64 a0_1,.int .i64 a0_2] 43 (0,0))):=⟨by refine aU ?_ NB205_228.out _;refine aU ?_ NB205_228.out _;refine aU ?_ NB205_228.out _;exact BK205.out⟩
        have n5_ : Aside0 ((((w34.setCell ⟨gb228,0,none⟩ (.int .i64 (wrap64 ((x5_1.length : Int) + 1)))).setCell ⟨gb228,1,none⟩ (.int .i64 a0_0)).setCell ⟨gb228,2,none⟩ (.slice Ao33 y225.length co33)).heap[gb228]? = some (.cells #[.int .i64 (wrap64 ((x5_1.length : Int) + 1)),.int .i64 a0_0,.slice Ao33 y225.length co33] 27 (0,0))):=⟨by refine aC (cs:=#[.int .i64 (wrap64 ((x5_1.length : Int) + 1)),.int .i64 a0_0,.slice none 0 0]) ?_ 2 _ rfl;refine aC (cs:=#[.int .i64 (wrap64 ((x5_1.length : Int) + 1)),.int .i64 0,.slice none 0 0]) ?_ 1 _ rfl;refine aC (cs:=#[.int .i64 0,.int .i64 0,.slice none 0 0]) ?_ 0 _ rfl;exact BK228.out⟩
        have n6_ : Aside0 (Below w.heap.size w (((w34.setCell ⟨gb228,0,none⟩ (.int .i64 (wrap64 ((x5_1.length : Int) + 1)))).setCell ⟨gb228,1,none⟩ (.int .i64 a0_0)).setCell ⟨gb228,2,none⟩ (.slice Ao33 y225.length co33))):=⟨by repeat ((with_reducible first|exact HB.out|refine ay ?_ GE228.out))⟩
        clear HO_5 HO_6 HO224 HO227 BK205 BK228 HB
        generalize (((w34.setCell ⟨gb228,0,none⟩ (.int .i64 (wrap64 ((x5_1.length : Int) + 1)))).setCell ⟨gb228,1,none⟩ (.int .i64 a0_0)).setCell ⟨gb228,2,none⟩ (.slice Ao33 y225.length co33)) = w37 at n0_ n1_ n2_ n3_ n4_ n5_ n6_ ⊢
        have HO_5:=n0_
        have HO_6:=n1_
        have HO224:=n2_
        have HO227:=n3_
        have BK205:=n4_
        have BK228:=n5_
        have HB:=n6_
        clear n0_ n1_ n2_ n3_ n4_ n5_ n6_
        replace HO_5:=M0 (Kd.cS HO_5.out)
        replace HO_6:=M0 (Kd.cS HO_6.out)
        replace HO224:=M0 (Kd.cS HO224.out)
        replace HO227:=M0 (Kd.cS HO227.out)
        replace BK205:=M0 (bn BK205.out)
        replace BK228:=M0 (bn BK228.out)
        replace HB:=M0 (a7 HB.out)
        refine cr (n:=5) (S:=fun w'=>w'.cell? ⟨gb228,0,none⟩ = some (.int .i64 (wrap64 ((x5_1.length : Int) + 1))) ∧ w'.cell? ⟨gb228,1,none⟩ = some (.int .i64 a0_0) ∧ w'.cell? ⟨gb228,2,none⟩ = some (.slice Ao33 y225.length co33)) (ds:=[]) #[O,O,O,O,O] (by kernel_rfl) rfl rfl ⟨(ai BK228.out 0).trans rfl,(ai BK228.out 1).trans rfl,(ai BK228.out 2).trans rfl⟩ (fun hHeld=>?_)
        generalize w37.drew = w38 at HO_5 HO_6 HO224 HO227 BK205 BK228 HB hHeld ⊢
        refine au (i:=2) (N:=some 46) #[O,O,I,O,O] rfl rfl (by kernel_rfl) (fun _ _ _ h=>h) (Or.inl ⟨by rfl,by intro w';go_simp;with_reducible rfl⟩) (by simp only [Act.put,List.setIfInBounds_toArray,List.set_cons_zero,List.set_cons_succ,ae,af];rfl) ?_
        refine bu (i:=0) (N:=some 44) #[I,O,I,O,O] rfl rfl (by kernel_rfl) (fun _ _ _ h=>h) (Or.inl ⟨by rfl,by rintro w' ⟨s0,s1,s2⟩;go_simp;with_reducible rfl⟩) hHeld (by simp only [Act.put,List.setIfInBounds_toArray,List.set_cons_zero,List.set_cons_succ,ae,af];rfl) ?_
        refine bu (i:=3) (N:=some 47) #[I,O,I,I,O] rfl rfl (by kernel_rfl) (fun _ _ _ h=>h) (Or.inl ⟨by rfl,by rintro w' ⟨s0,s1,s2⟩;go_simp;with_reducible rfl⟩) hHeld (by simp only [Act.put,List.setIfInBounds_toArray,List.set_cons_zero,List.set_cons_succ,ae,af];rfl) ?_
        refine one_ (i:=1) (N:=some 45) #[I,I,I,I,O] rfl rfl (by kernel_rfl) (by decide) (fun K hK=>?_)
        refine cT Try.func59 (by kernel_rfl) rfl #[.agg #[.int .i64 (wrap64 ((x5_1.length : Int) + 1)),.int .i64 a0_0,.slice Ao33 y225.length co33]] (by rfl) rfl rfl (by (try simp only [List.map_toArray,List.map_cons,List.map_nil]);rfl) ?_
        with_reducible refine (aD.calls kj7 (wrap64 ((x5_1.length : Int) + 1)) a0_0 _ _ y225 t229 _ ?side1 ?side2 A20.out).mono ?_
        (case side1=>exact (Kd.aA HO227.out).2.2)
        (case side2=>exact (Kd.aA HO227.out).2.1)
        rintro e w39 ⟨rfl,hb⟩
        refine ⟨_,rfl,?_⟩
        replace HO_5:=M0 (Kd.aX HO_5.out hb)
        replace HO_6:=M0 (Kd.aX HO_6.out hb)
        replace HO224:=M0 (Kd.aX HO224.out hb)
        replace HO227:=M0 (Kd.aX HO227.out hb)
        replace BK205:=M0 (ag BK205.out hb)
        replace BK228:=M0 (ag BK228.out hb)
        replace HB:=M0 (ab HB.out hb)
        clear hb
        refine hK.out _ _ ⟨(ai BK228.out 0).trans rfl,(ai BK228.out 1).trans rfl,(ai BK228.out 2).trans rfl⟩ (fun hHeld=>?_)
        clear hK K
        refine bK (a':=?_) ?_ ?_
        rotate_left
        ·show Act.put _ (some 45) _ = _
         simp only [Act.put,List.setIfInBounds_toArray,List.set_cons_zero,List.set_cons_succ,ae,af]
         rfl
        refine au (i:=4) (N:=some 48) #[I,I,I,I,I] rfl rfl (by kernel_rfl) (fun _ _ _ h=>h) (Or.inl ⟨by rfl,by intro w';go_simp;with_reducible rfl⟩) (by simp only [Act.put,List.setIfInBounds_toArray,List.set_cons_zero,List.set_cons_succ,ae,af];rfl) ?_
        refine cZ (by kernel_rfl) ?_
        try go_wp2_with (((with_reducible refine bV (b:=.append) (xs:=#[.tmp 49,.tmp 51]) rfl ?_);(try (refine al (by rfl) ?_;dsimp only));at_builtin;refine Kd.cQ (Kd.int .i64) (w0:=w) w.heap.size rfl (.tmp 49) (.tmp 51) 22 2 (.int .i64 0) 8 rfl Try.underlying22 dY rfl (by decide) (by omega) (.slice Ao31 x5_1.length co31) x5_1 x7_1 [.int .i64 x7_1] (fun k_=>some k_ ≠ (.slice Ao27 x6_1.length co27 : Value).ownBlock ∧ some k_ ≠ (.slice Ao30 t222.length co30 : Value).ownBlock ∧ some k_ ≠ (.slice Ao33 y225.length co33 : Value).ownBlock) (fun _=>False) rfl rfl ?aP (fun _ hk=>hk.elim) ?aF ?aO ?aB ?aS ?aL ?_;(case aP=>exact rfl);(case aB=>exact HB.out);(case aF=>exact (fun k_ hk=>⟨Kd.dH (Kd.R_lt HO_6.out) k_ hk,Kd.dH (Kd.R_lt HO224.out) k_ hk,Kd.dH (Kd.R_lt HO227.out) k_ hk⟩));(case aO=>exact HO_5.out);(case aS=>exact (av HB.out));(case aL=>have:=LMc22.out;omega);intro v231 w40 ho hb hg hat;rw [← Ny230.out] at ho;have n0_:=M0 (Kd.db (ok:=(fun k_=>some k_ ≠ (.slice Ao30 t222.length co30 : Value).ownBlock ∧ some k_ ≠ (.slice Ao33 y225.length co33 : Value).ownBlock)) (by exact Kd.aI HO_6.out (fun _ hk=>⟨⟨hk.2.1,hk.2.2⟩,hk.1⟩)) hg hat);have n1_:=M0 (bf (g:=gb205) (o:=.cells #[.int .i64 a0_0,.int .i64 a0_1,.int .i64 a0_2] 43 (0,0)) BK205.out hg (Kd.R_ne HO_5.out BK205.out (by decide)));have n2_:=M0 (Kd.db (ok:=(fun k_=>some k_ ≠ (.slice Ao27 x6_1.length co27 : Value).ownBlock ∧ some k_ ≠ (.slice Ao33 y225.length co33 : Value).ownBlock)) (by exact Kd.aI HO224.out (fun _ hk=>⟨⟨hk.2.1,hk.2.2⟩,hk.1⟩)) hg hat);have n3_:=M0 (Kd.db (ok:=(fun k_=>some k_ ≠ (.slice Ao27 x6_1.length co27 : Value).ownBlock ∧ some k_ ≠ (.slice Ao30 t222.length co30 : Value).ownBlock)) (by exact Kd.aI HO227.out (fun _ hk=>⟨⟨hk.2.1,hk.2.2⟩,hk.1⟩)) hg hat);have n4_:=M0 (bf (g:=gb228) (o:=.cells #[.int .i64 (wrap64 ((x5_1.length : Int) + 1)),.int .i64 a0_0,.slice Ao33 y225.length co33] 27 (0,0)) BK228.out hg (Kd.R_ne HO_5.out BK228.out (by decide)));have n5_:=M0 (hb);have n6_:=M0 (ho);clear HO_6 BK205 HO224 HO227 BK228 HB HO_5;have HO_6:=n0_;have BK205:=n1_;have HO224:=n2_;have HO227:=n3_;have BK228:=n4_;have HB:=n5_;have HO232:=n6_;clear n0_ n1_ n2_ n3_ n4_ n5_ n6_ ho hb hg hat))
        go_roundg kj7
        case measure=>have:=HK1.out;have:=HJ7.out;omega
        case rel=>exact ⟨(y230),(y225),(wrap64 (x7_1 + 1)),(by rfl),H',⟨by have:=HK1.out;have:=HJ7.out;omega⟩,⟨by exact Kd.aI HO232.out (fun _ hk=>hk.2.2)⟩,⟨by exact Kd.aI HO227.out (fun _ hk=>hk.2)⟩,⟨by exact BK205.out⟩,⟨HB.out⟩⟩
       ·rw [if_neg c21] at H
        have c21b0 : (t229 == (wrap64 ((x5_1.length : Int) + 1))) = false:=beq_eq_false_iff_ne.mpr c21
        have H':=M0 H
        clear H
        have p215 : 0 ≤ (x7_1 : Int):=of_decide_eq_true (by with_reducible assumption)
        have q215 : x7_1 < (l1.length : Int):=of_decide_eq_true (by with_reducible assumption)
        obtain ⟨ad215,e215,hx215_0⟩:=Kd.dK HR1.out x7_1 p215 q215
        (try rw [← Nbq15.out] at hx215_0)
        cases e215
        replace hx215_0:=(HB.out.cell (World.block_lt_of_cell? w _ hx215_0)).trans hx215_0
        replace p215:=eq_true p215
        replace q215:=eq_true q215
        try go_wp2
        replace HO_5:=M0 (Kd.cS HO_5.out)
        replace HO_6:=M0 (Kd.cS HO_6.out)
        replace BK205:=M0 (bn BK205.out)
        replace HB:=M0 (a7 HB.out)
        refine cr (n:=8) (S:=fun w'=>w'.cell? ⟨gb205,0,none⟩ = some (.int .i64 a0_0) ∧ w'.cell? ⟨gb205,1,none⟩ = some (.int .i64 a0_1) ∧ w'.cell? ⟨gb205,2,none⟩ = some (.int .i64 a0_2)) (ds:=[]) #[O,O,O,O,O,O,O,O] (by kernel_rfl) rfl rfl ⟨(ai BK205.out 0).trans rfl,(ai BK205.out 1).trans rfl,(ai BK205.out 2).trans rfl⟩ (fun hHeld=>?_);refine dg aH.tab7 aH.bits7 (fun HT_ HW_=>?_)
        generalize wc.drew = w41 at HO_5 HO_6 BK205 HB hHeld ⊢
        refine au (i:=1) (N:=some 31) #[O,I,O,O,O,O,O,O] rfl rfl (a6 HT_.out (by kernel_rfl)) (fun _ _ _ h=>h) (Or.inl ⟨by rfl,by intro w';go_simp;with_reducible rfl⟩) (by simp only [Act.put,List.setIfInBounds_toArray,List.set_cons_zero,List.set_cons_succ,ae,af];rfl) ?_
        refine au (i:=4) (N:=some 34) #[O,I,O,O,I,O,O,O] rfl rfl (a6 HT_.out (by kernel_rfl)) (fun _ _ _ h=>h) (Or.inl ⟨by rfl,by intro w';go_simp;with_reducible rfl⟩) (by simp only [Act.put,List.setIfInBounds_toArray,List.set_cons_zero,List.set_cons_succ,ae,af];rfl) ?_
        refine bu (i:=3) (N:=some 33) #[O,I,O,I,I,O,O,O] rfl rfl (bL HT_.out HW_.out (by kernel_rfl)) (fun _ _ _ h=>h) (Or.inl ⟨by rfl,by rintro w' ⟨s0,s1,s2⟩;go_simp;with_reducible rfl⟩) hHeld (by simp only [Act.put,List.setIfInBounds_toArray,List.set_cons_zero,List.set_cons_succ,ae,af];rfl) ?_
        refine one_ (i:=0) (N:=some 30) #[I,I,O,I,I,O,O,O] rfl rfl (bX HT_.out (by kernel_rfl)) (by decide) (fun K hK=>?_)
        refine Kd.R_lit_step (Kd.int .i64) _ 2 ?hg (N:=30) ?hd (xs:=([] : List Int)) (inner:=[]) (ok:=fun _=>True) (okp:=fun _=>True) ?hr ?hp (fun _ hk=>hk) trivial (Below.refl _ _) (Nat.le_refl _) (by simp) ?_;(case hd=>rfl);(case hg=>rfl);(case hr=>(go_simp;done));(case hp=>exact (Reps.none _ _))
        intro v217 w42 ho43 hb hg_ hnew_
        clear hg_ hnew_
        (rw [← Ny216.out] at ho43)
        have HO218:=M0 (Kd.bh (Kd.cE (Kd.cE ho43 (Kd.R_lt HO_5.out)) (Kd.R_lt HO_6.out)) (av HB.out))
        replace HO_5:=M0 (Kd.bU HO_5.out (Kd.cD ho43) hb)
        replace HO_6:=M0 (Kd.bU HO_6.out (Kd.cD ho43) hb)
        replace BK205:=M0 (ag BK205.out hb)
        replace HB:=M0 (ab HB.out hb)
        clear hb ho43
        obtain ⟨Ao45,co45,eo45⟩:=Kd.a9 HO_6.out
        (subst eo45)
        refine hK.out _ _ ⟨(ai BK205.out 0).trans rfl,(ai BK205.out 1).trans rfl,(ai BK205.out 2).trans rfl⟩ (fun hHeld=>?_)
        clear hK K
        refine bK (a':=?_) ?_ ?_
        rotate_left
        ·show Act.put _ (some 30) _ = _
         simp only [Act.put,List.setIfInBounds_toArray,List.set_cons_zero,List.set_cons_succ,ae,af]
         rfl
        refine one_ (i:=2) (N:=some 32) #[I,I,I,I,I,O,O,O] rfl rfl (bX HT_.out (by kernel_rfl)) (by decide) (fun K hK=>?_)
        refine Kd.cm (Kd.int .i64) (w0:=w) w.heap.size (by rfl) (.tmp 30) (.tmp 31) 22 2 (.int .i64 0) 8 rfl Try.underlying22 dY rfl (by decide) (by omega) v217 y216 x6_1 _ _ _ (fun k_=>some k_ ≠ (u5 : Value).ownBlock ∧ some k_ ≠ (.slice Ao45 x6_1.length co45 : Value).ownBlock) (fun _=>False) rfl rfl ?aO ?aR (fun _ _ h=>h) (fun _ h=>h.elim) ?aF ?aB ?aS ?aL ?_
        (case aR=>exact (Kd.aA HO_6.out).2.2)
        (case aB=>exact HB.out)
        (case aF=>exact (fun k_ hk=>⟨Kd.dH (Kd.R_lt HO_5.out) k_ hk,Kd.dH (Kd.R_lt HO_6.out) k_ hk⟩))
        (case aO=>exact (by exact Kd.aI HO218.out (fun _ hk=>⟨hk.1.2,hk.2⟩)))
        (case aS=>exact (av HB.out))
        (case aL=>have:=LMc17.out;omega)
        intro v220 w44 ho hb hg hat
        rw [← Ny219.out] at ho
        have n0_:=M0 (Kd.db (ok:=(fun k_=>some k_ ≠ (.slice Ao45 x6_1.length co45 : Value).ownBlock)) HO_5.out hg hat)
        have n1_:=M0 (Kd.db (ok:=(fun k_=>some k_ ≠ (u5 : Value).ownBlock)) HO_6.out hg hat)
        have n2_:=M0 (bf (g:=gb205) (o:=.cells #[.int .i64 a0_0,.int .i64 a0_1,.int .i64 a0_2] 43 (0,0)) BK205.out hg (Kd.R_ne HO218.out BK205.out (by decide)))
        have n3_:=M0 (hb)
        have n4_:=M0 (ho)
        clear HO_5 HO_6 BK205 HB HO218
        have HO_5:=n0_
        have HO_6:=n1_
        have BK205:=n2_
        have HB:=n3_
        have HO221:=n4_
        clear n0_ n1_ n2_ n3_ n4_ ho hb hg hat
        refine hK.out _ _ ⟨(ai BK205.out 0).trans rfl,(ai BK205.out 1).trans rfl,(ai BK205.out 2).trans rfl⟩ (fun hHeld=>?_)
        clear hK K
        refine bK (a':=?_) ?_ ?_
        rotate_left
        ·show Act.put _ (some 32) _ = _
         simp only [Act.put,List.setIfInBounds_toArray,List.set_cons_zero,List.set_cons_succ,ae,af]
         rfl
        refine one_ (i:=5) (N:=some 35) #[I,I,I,I,I,I,O,O] rfl rfl (bX HT_.out (by kernel_rfl)) (by decide) (fun K hK=>?_)
        refine cT Try.func128 (by kernel_rfl) rfl #[.agg #[.int .i64 a0_0,.int .i64 a0_1,.int .i64 a0_2],.int .i64 x7_1] (by rfl) rfl rfl (by (try simp only [List.map_toArray,List.map_cons,List.map_nil]);rfl) ?_
        with_reducible refine (aM.calls kj7 a0_0 a0_1 a0_2 x7_1 t222 _ A18.out).mono ?_
        rintro e w46 ⟨v223,rfl,ho0,hb⟩
        refine ⟨_,rfl,?_⟩
        have HO224:=M0 (Kd.bh (Kd.cE (Kd.cE (Kd.cE ho0 (Kd.R_lt HO_5.out)) (Kd.R_lt HO_6.out)) (Kd.R_lt HO221.out)) (av HB.out))
        replace HO_5:=M0 (Kd.bU HO_5.out (Kd.cD ho0) hb)
        replace HO_6:=M0 (Kd.bU HO_6.out (Kd.cD ho0) hb)
        replace HO221:=M0 (Kd.bU HO221.out (Kd.cD ho0) hb)
        replace BK205:=M0 (ag BK205.out hb)
        replace HB:=M0 (ab HB.out hb)
        clear hb ho0
        obtain ⟨Ao48,co48,eo48⟩:=Kd.a9 HO224.out
        (subst eo48)
        refine hK.out _ _ ⟨(ai BK205.out 0).trans rfl,(ai BK205.out 1).trans rfl,(ai BK205.out 2).trans rfl⟩ (fun hHeld=>?_)
        clear hK K
        refine bK (a':=?_) ?_ ?_
        rotate_left
        ·show Act.put _ (some 35) _ = _
         simp only [Act.put,List.setIfInBounds_toArray,List.set_cons_zero,List.set_cons_succ,ae,af]
         rfl
        refine one_ (i:=6) (N:=some 36) #[I,I,I,I,I,I,I,O] rfl rfl (bX HT_.out (by kernel_rfl)) (by decide) (fun K hK=>?_)
        refine Kd.cm (Kd.int .i64) (w0:=w) w.heap.size (by rfl) (.tmp 32) (.tmp 35) 22 2 (.int .i64 0) 8 rfl Try.underlying22 dY rfl (by decide) (by omega) v220 y219 t222 _ _ _ (fun k_=>some k_ ≠ (u5 : Value).ownBlock ∧ some k_ ≠ (.slice Ao45 x6_1.length co45 : Value).ownBlock ∧ some k_ ≠ (.slice Ao48 t222.length co48 : Value).ownBlock) (fun _=>False) rfl rfl ?aO ?aR (fun _ _ h=>h) (fun _ h=>h.elim) ?aF ?aB ?aS ?aL ?_
        (case aR=>exact (Kd.aA HO224.out).2.2)
        (case aB=>exact HB.out)
        (case aF=>exact (fun k_ hk=>⟨Kd.dH (Kd.R_lt HO_5.out) k_ hk,Kd.dH (Kd.R_lt HO_6.out) k_ hk,Kd.dH (Kd.R_lt HO224.out) k_ hk⟩))
        (case aO=>exact (by exact Kd.aI HO221.out (fun _ hk=>⟨hk.1.1,⟨hk.1.2,hk.2⟩⟩)))
        (case aS=>exact (av HB.out))
        (case aL=>have:=LMc19.out;omega)
        intro v226 w47 ho hb hg hat
        rw [← Ny225.out] at ho
        have n0_:=M0 (Kd.db (ok:=(fun k_=>some k_ ≠ (.slice Ao45 x6_1.length co45 : Value).ownBlock ∧ some k_ ≠ (.slice Ao48 t222.length co48 : Value).ownBlock)) (by exact Kd.aI HO_5.out (fun _ hk=>⟨⟨hk.1.1,hk.2⟩,hk.1.2⟩)) hg hat)
        have n1_:=M0 (Kd.db (ok:=(fun k_=>some k_ ≠ (u5 : Value).ownBlock ∧ some k_ ≠ (.slice Ao48 t222.length co48 : Value).ownBlock)) (by exact Kd.aI HO_6.out (fun _ hk=>⟨⟨hk.1.1,hk.2⟩,hk.1.2⟩)) hg hat)
        have n2_:=M0 (bf (g:=gb205) (o:=.cells #[.int .i64 a0_0,.int .i64 a0_1,.int .i64 a0_2] 43 (0,0)) BK205.out hg (Kd.R_ne HO221.out BK205.out (by decide)))
        have n3_:=M0 (Kd.db (ok:=(fun k_=>some k_ ≠ (u5 : Value).ownBlock ∧ some k_ ≠ (.slice Ao45 x6_1.length co45 : Value).ownBlock)) (by exact Kd.aI HO224.out (fun _ hk=>⟨⟨hk.1.1.2,hk.1.2⟩,hk.2⟩)) hg hat)
        have n4_:=M0 (hb)
        have n5_:=M0 (ho)
        clear HO_5 HO_6 BK205 HO224 HB HO221
        have HO_5:=n0_
        have HO_6:=n1_
        have BK205:=n2_
        have HO224:=n3_
        have HB:=n4_
        have HO227:=n5_
        clear n0_ n1_ n2_ n3_ n4_ n5_ ho hb hg hat
        refine hK.out _ _ ⟨(ai BK205.out 0).trans rfl,(ai BK205.out 1).trans rfl,(ai BK205.out 2).trans rfl⟩ (fun hHeld=>?_)
        clear hK K
        refine bK (a':=?_) ?_ ?_
        rotate_left
        ·show Act.put _ (some 36) _ = _
         simp only [Act.put,List.setIfInBounds_toArray,List.set_cons_zero,List.set_cons_succ,ae,af]
         rfl
        refine au (i:=7) (N:=some 8) #[I,I,I,I,I,I,I,I] rfl rfl (a6 HT_.out (by kernel_rfl)) (fun _ _ _ h=>h) (Or.inl ⟨by rfl,by intro w';go_simp;with_reducible rfl⟩) (by simp only [Act.put,List.setIfInBounds_toArray,List.set_cons_zero,List.set_cons_succ,ae,af];rfl) ?_
        refine cZ (dL HT_.out (by kernel_rfl)) ?_
        obtain ⟨Ao49,co49,eo49⟩:=Kd.a9 HO_5.out
        subst eo49
        obtain ⟨Ao51,co51,eo51⟩:=Kd.a9 HO227.out
        subst eo51
        try go_wp2_with (((with_reducible refine aw (N:=9) rfl ?_);(try (refine al (by rfl) ?_;dsimp only));refine az rfl (N:=9) rfl (cs:=#[.int .i64 0,.int .i64 0,.slice none 0 0]) (t:=27) (by go_simp) ?_;intro gb228 hg w52 hbox hb;replace HO_5:=M0 (Kd.aX HO_5.out hb);replace HO_6:=M0 (Kd.aX HO_6.out hb);replace HO224:=M0 (Kd.aX HO224.out hb);replace HO227:=M0 (Kd.aX HO227.out hb);have BK228:=M0 (hbox);have GW228:=M0 ((by rw [hg];exact (av HB.out) : w.heap.size ≤ gb228));have GE228:=GW228;replace HB:=M0 (ab HB.out hb);have NB205_228:=M0 ((by rw [hg];exact Nat.ne_of_lt (bS BK205.out) : gb205 ≠ gb228));replace BK205:=M0 (ag BK205.out hb);clear hb hbox hg;have hcz54_0:=bcv (v:=.int .i64 0) BK228.out 0 rfl;have hcz54_1:=bcv (v:=.int .i64 0) BK228.out 1 rfl;have hcz54_2:=bcv (v:=.slice none 0 0) BK228.out 2 rfl;have hfz54_0:=aa BK228.out 0;have hfz54_1:=aa BK228.out 1;have hfz54_2:=aa BK228.out 2))
        have n0_ : Aside0 (Kd.R (Kd.int .i64) 2 (((w52.setCell ⟨gb228,0,none⟩ (.int .i64 (wrap64 ((x5_1.length : Int) + 1)))).setCell ⟨gb228,1,none⟩ (.int .i64 a0_0)).setCell ⟨gb228,2,none⟩ (.slice Ao51 y225.length co51)) w.heap.size (fun k_=>some k_ ≠ (.slice Ao45 x6_1.length co45 : Value).ownBlock ∧ some k_ ≠ (.slice Ao48 t222.length co48 : Value).ownBlock ∧ some k_ ≠ (.slice Ao51 y225.length co51 : Value).ownBlock) (.slice Ao49 x5_1.length co49) x5_1):=⟨by exact Kd.aI (Kd.bb (p:=⟨gb228,2,none⟩) (Kd.bb (p:=⟨gb228,1,none⟩) (Kd.bb (p:=⟨gb228,0,none⟩) (Kd.bE HO_5.out BK228.out (by decide)) (fun _ hk=>hk.2) (.int .i64 (wrap64 ((x5_1.length : Int) + 1)))) (fun _ hk=>hk.2) (.int .i64 a0_0)) (fun _ hk=>hk.2) (.slice Ao51 y225.length co51)) (fun _ hk=>⟨hk.1.1.1,⟨hk.1.1.2,hk.1.2⟩⟩)⟩
        have n1_ : Aside0 (Kd.R (Kd.int .i64) 2 (((w52.setCell ⟨gb228,0,none⟩ (.int .i64 (wrap64 ((x5_1.length : Int) + 1)))).setCell ⟨gb228,1,none⟩ (.int .i64 a0_0)).setCell ⟨gb228,2,none⟩ (.slice Ao51 y225.length co51)) w.heap.size (fun k_=>some k_ ≠ (.slice Ao49 x5_1.length co49 : Value).ownBlock ∧ some k_ ≠ (.slice Ao48 t222.length co48 : Value).ownBlock ∧ some k_ ≠ (.slice Ao51 y225.length co51 : Value).ownBlock) (.slice Ao45 x6_1.length co45) x6_1):=⟨by exact Kd.aI (Kd.bb (p:=⟨gb228,2,none⟩) (Kd.bb (p:=⟨gb228,1,none⟩) (Kd.bb (p:=⟨gb228,0,none⟩) (Kd.bE HO_6.out BK228.out (by decide)) (fun _ hk=>hk.2) (.int .i64 (wrap64 ((x5_1.length : Int) + 1)))) (fun _ hk=>hk.2) (.int .i64 a0_0)) (fun _ hk=>hk.2) (.slice Ao51 y225.length co51)) (fun _ hk=>⟨hk.1.1.1,⟨hk.1.1.2,hk.1.2⟩⟩)⟩
        have n2_ : Aside0 (Kd.R (Kd.int .i64) 2 (((w52.setCell ⟨gb228,0,none⟩ (.int .i64 (wrap64 ((x5_1.length : Int) + 1)))).setCell ⟨gb228,1,none⟩ (.int .i64 a0_0)).setCell ⟨gb228,2,none⟩ (.slice Ao51 y225.length co51)) w.heap.size (fun k_=>some k_ ≠ (.slice Ao49 x5_1.length co49 : Value).ownBlock ∧ some k_ ≠ (.slice Ao45 x6_1.length co45 : Value).ownBlock ∧ some k_ ≠ (.slice Ao51 y225.length co51 : Value).ownBlock) (.slice Ao48 t222.length co48) t222):=⟨by exact Kd.aI (Kd.bb (p:=⟨gb228,2,none⟩) (Kd.bb (p:=⟨gb228,1,none⟩) (Kd.bb (p:=⟨gb228,0,none⟩) (Kd.bE HO224.out BK228.out (by decide)) (fun _ hk=>hk.2) (.int .i64 (wrap64 ((x5_1.length : Int) + 1)))) (fun _ hk=>hk.2) (.int .i64 a0_0)) (fun _ hk=>hk.2) (.slice Ao51 y225.length co51)) (fun _ hk=>⟨hk.1.1.1,⟨hk.1.1.2,hk.1.2⟩⟩)⟩
        have n3_ : Aside0 (Kd.R (Kd.int .i64) 2 (((w52.setCell ⟨gb228,0,none⟩ (.int .i64 (wrap64 ((x5_1.length : Int) + 1)))).setCell ⟨gb228,1,none⟩ (.int .i64 a0_0)).setCell ⟨gb228,2,none⟩ (.slice Ao51 y225.length co51)) w.heap.size (fun k_=>some k_ ≠ (.slice Ao49 x5_1.length co49 : Value).ownBlock ∧ some k_ ≠ (.slice Ao45 x6_1.length co45 : Value).ownBlock ∧ some k_ ≠ (.slice Ao48 t222.length co48 : Value).ownBlock) (.slice Ao51 y225.length co51) y225):=⟨by exact Kd.aI (Kd.bb (p:=⟨gb228,2,none⟩) (Kd.bb (p:=⟨gb228,1,none⟩) (Kd.bb (p:=⟨gb228,0,none⟩) (Kd.bE HO227.out BK228.out (by decide)) (fun _ hk=>hk.2) (.int .i64 (wrap64 ((x5_1.length : Int) + 1)))) (fun _ hk=>hk.2) (.int .i64 a0_0)) (fun _ hk=>hk.2) (.slice Ao51 y225.length co51)) (fun _ hk=>⟨hk.1.1,⟨hk.1.2.1,hk.1.2.2⟩⟩)⟩
        have n4_ : Aside0 ((((w52.setCell ⟨gb228,0,none⟩ (.int .i64 (wrap64 ((x5_1.length : Int) + 1)))).setCell ⟨gb228,1,none⟩ (.int .i64 a0_0)).setCell ⟨gb228,2,none⟩ (.slice Ao51 y225.length co51)).heap[gb205]? = some (.cells #[.int .i64 a0_0,.int .i64 a0_1,.int .i64 a0_2] 43 (0,0))):=⟨by refine aU ?_ NB205_228.out _;refine aU ?_ NB205_228.out _;refine aU ?_ NB205_228.out _;exact BK205.out⟩
        have n5_ : Aside0 ((((w52.setCell ⟨gb228,0,none⟩ (.int .i64 (wrap64 ((x5_1.length : Int) + 1)))).setCell ⟨gb228,1,none⟩ (.int .i64 a0_0)).setCell ⟨gb228,2,none⟩ (.slice Ao51 y225.length co51)).heap[gb228]? = some (.cells #[.int .i64 (wrap64 ((x5_1.length : Int) + 1)),.int .i64 a0_0,.slice Ao51 y225.length co51] 27 (0,0))):=⟨by refine aC (cs:=#[.int .i64 (wrap64 ((x5_1.length : Int) + 1)),.int .i64 a0_0,.slice none 0 0]) ?_ 2 _ rfl;refine aC (cs:=#[.int .i64 (wrap64 ((x5_1.length : Int) + 1)),.int .i64 0,.slice none 0 0]) ?_ 1 _ rfl;refine aC (cs:=#[.int .i64 0,.int .i64 0,.slice none 0 0]) ?_ 0 _ rfl;exact BK228.out⟩
        have n6_ : Aside0 (Below w.heap.size w (((w52.setCell ⟨gb228,0,none⟩ (.int .i64 (wrap64 ((x5_1.length : Int) + 1)))).setCell ⟨gb228,1,none⟩ (.int .i64 a0_0)).setCell ⟨gb228,2,none⟩ (.slice Ao51 y225.length co51))):=⟨by repeat ((with_reducible first|exact HB.out|refine ay ?_ GE228.out))⟩
        clear HO_5 HO_6 HO224 HO227 BK205 BK228 HB
        generalize (((w52.setCell ⟨gb228,0,none⟩ (.int .i64 (wrap64 ((x5_1.length : Int) + 1)))).setCell ⟨gb228,1,none⟩ (.int .i64 a0_0)).setCell ⟨gb228,2,none⟩ (.slice Ao51 y225.length co51)) = w55 at n0_ n1_ n2_ n3_ n4_ n5_ n6_ ⊢
        have HO_5:=n0_
        have HO_6:=n1_
        have HO224:=n2_
        have HO227:=n3_
        have BK205:=n4_
        have BK228:=n5_
        have HB:=n6_
        clear n0_ n1_ n2_ n3_ n4_ n5_ n6_
        replace HO_5:=M0 (Kd.cS HO_5.out)
        replace HO_6:=M0 (Kd.cS HO_6.out)
        replace HO224:=M0 (Kd.cS HO224.out)
        replace HO227:=M0 (Kd.cS HO227.out)
        replace BK205:=M0 (bn BK205.out)
        replace BK228:=M0 (bn BK228.out)
        replace HB:=M0 (a7 HB.out)
        refine cr (n:=5) (S:=fun w'=>w'.cell? ⟨gb228,0,none⟩ = some (.int .i64 (wrap64 ((x5_1.length : Int) + 1))) ∧ w'.cell? ⟨gb228,1,none⟩ = some (.int .i64 a0_0) ∧ w'.cell? ⟨gb228,2,none⟩ = some (.slice Ao51 y225.length co51)) (ds:=[]) #[O,O,O,O,O] (by kernel_rfl) rfl rfl ⟨(ai BK228.out 0).trans rfl,(ai BK228.out 1).trans rfl,(ai BK228.out 2).trans rfl⟩ (fun hHeld=>?_)
        generalize w55.drew = w56 at HO_5 HO_6 HO224 HO227 BK205 BK228 HB hHeld ⊢
        refine au (i:=2) (N:=some 46) #[O,O,I,O,O] rfl rfl (by kernel_rfl) (fun _ _ _ h=>h) (Or.inl ⟨by rfl,by intro w';go_simp;with_reducible rfl⟩) (by simp only [Act.put,List.setIfInBounds_toArray,List.set_cons_zero,List.set_cons_succ,ae,af];rfl) ?_
        refine bu (i:=0) (N:=some 44) #[I,O,I,O,O] rfl rfl (by kernel_rfl) (fun _ _ _ h=>h) (Or.inl ⟨by rfl,by rintro w' ⟨s0,s1,s2⟩;go_simp;with_reducible rfl⟩) hHeld (by simp only [Act.put,List.setIfInBounds_toArray,List.set_cons_zero,List.set_cons_succ,ae,af];rfl) ?_
        refine bu (i:=3) (N:=some 47) #[I,O,I,I,O] rfl rfl (by kernel_rfl) (fun _ _ _ h=>h) (Or.inl ⟨by rfl,by rintro w' ⟨s0,s1,s2⟩;go_simp;with_reducible rfl⟩) hHeld (by simp only [Act.put,List.setIfInBounds_toArray,List.set_cons_zero,List.set_cons_succ,ae,af];rfl) ?_
        refine one_ (i:=1) (N:=some 45) #[I,I,I,I,O] rfl rfl (by kernel_rfl) (by decide) (fun K hK=>?_)
        refine cT Try.func59 (by kernel_rfl) rfl #[.agg #[.int .i64 (wrap64 ((x5_1.length : Int) + 1)),.int .i64 a0_0,.slice Ao51 y225.length co51]] (by rfl) rfl rfl (by (try simp only [List.map_toArray,List.map_cons,List.map_nil]);rfl) ?_
        with_reducible refine (aD.calls kj7 (wrap64 ((x5_1.length : Int) + 1)) a0_0 _ _ y225 t229 _ ?side1 ?side2 A20.out).mono ?_
        (case side1=>exact (Kd.aA HO227.out).2.2)
        (case side2=>exact (Kd.aA HO227.out).2.1)
        rintro e w57 ⟨rfl,hb⟩
        refine ⟨_,rfl,?_⟩
        replace HO_5:=M0 (Kd.aX HO_5.out hb)
        replace HO_6:=M0 (Kd.aX HO_6.out hb)
        replace HO224:=M0 (Kd.aX HO224.out hb)
        replace HO227:=M0 (Kd.aX HO227.out hb)
        replace BK205:=M0 (ag BK205.out hb)
        replace BK228:=M0 (ag BK228.out hb)
        replace HB:=M0 (ab HB.out hb)
        clear hb
        refine hK.out _ _ ⟨(ai BK228.out 0).trans rfl,(ai BK228.out 1).trans rfl,(ai BK228.out 2).trans rfl⟩ (fun hHeld=>?_)
        clear hK K
        refine bK (a':=?_) ?_ ?_
        rotate_left
        ·show Act.put _ (some 45) _ = _
         simp only [Act.put,List.setIfInBounds_toArray,List.set_cons_zero,List.set_cons_succ,ae,af]
         rfl
        refine au (i:=4) (N:=some 48) #[I,I,I,I,I] rfl rfl (by kernel_rfl) (fun _ _ _ h=>h) (Or.inl ⟨by rfl,by intro w';go_simp;with_reducible rfl⟩) (by simp only [Act.put,List.setIfInBounds_toArray,List.set_cons_zero,List.set_cons_succ,ae,af];rfl) ?_
        refine cZ (by kernel_rfl) ?_
        try go_wp2
        go_roundg kj7
        case measure=>have:=HK1.out;have:=HJ7.out;omega
        case rel=>exact ⟨(x5_1),(x6_1),(wrap64 (x7_1 + 1)),(by rfl),H',⟨by have:=HK1.out;have:=HJ7.out;omega⟩,⟨by exact Kd.aI HO_5.out (fun _ hk=>hk.1)⟩,⟨by exact Kd.aI HO_6.out (fun _ hk=>hk.1)⟩,⟨by exact BK205.out⟩,⟨HB.out⟩⟩
      ·replace c16:=Bool.eq_false_iff.mpr c16
       subst c16
       have H1 : (aH.l0 kj7 l1 x5_1 x6_1 (wrap64 (x7_1 + 1)) a0_0 a0_1 a0_2) = some r:=by rw [if_neg (show ¬ (false = true) by decide)] at H;exact H
       clear H
       have H:=H1
       clear H1
       have H':=M0 H
       clear H
       have p215 : 0 ≤ (x7_1 : Int):=of_decide_eq_true (by with_reducible assumption)
       have q215 : x7_1 < (l1.length : Int):=of_decide_eq_true (by with_reducible assumption)
       obtain ⟨ad215,e215,hx215_0⟩:=Kd.dK HR1.out x7_1 p215 q215
       (try rw [← Nbq15.out] at hx215_0)
       cases e215
       replace hx215_0:=(HB.out.cell (World.block_lt_of_cell? w _ hx215_0)).trans hx215_0
       replace p215:=eq_true p215
       replace q215:=eq_true q215
       go_wp2
       go_roundg kj7
       case measure=>have:=HK1.out;have:=HJ7.out;omega
       case rel=>exact ⟨(x5_1),(x6_1),(wrap64 (x7_1 + 1)),(by rfl),H',⟨by have:=HK1.out;have:=HJ7.out;omega⟩,⟨by exact HO_5.out⟩,⟨by exact HO_6.out⟩,⟨by exact BK205.out⟩,⟨HB.out⟩⟩
     ·replace c12:=Bool.eq_false_iff.mpr c12
      subst c12
      have H1 : (if (x5_1.length : Int) < a0_0 then (some (([] : List Int))) else (some x5_1)) = some r:=by rw [if_neg (show ¬ (false = true) by decide)] at H;exact H
      clear H
      have H:=H1
      clear H1
      by_cases c58 : (x5_1.length : Int) < a0_0
      ·rw [if_pos c58] at H
       have c58b0:=decide_eq_true c58
       clear c58
       obtain ⟨y212,hy212⟩ : ∃ y_ : List Int,y_ = (([] : List Int)):=⟨_,rfl⟩
       rw [← hy212] at H
       have Ny212:=M0 hy212
       clear hy212
       obtain rfl:=Option.some.inj H
       obtain ⟨Ao59,co59,eo59⟩:=Kd.a9 HO_5.out
       subst eo59
       have hcz60_0:=bcv (v:=.int .i64 a0_0) BK205.out 0 rfl
       go_wp2_with (((with_reducible refine aw (N:=59) rfl ?_);(try (refine al (by rfl) ?_;dsimp only));refine Kd.dR (Kd.int .i64) _ 2 ?hg (N:=59) ?hd (xs:=([] : List Int)) (inner:=[]) (ok:=fun _=>True) (okp:=fun _=>True) ?hr ?hp (fun _ hk=>hk) trivial (Below.refl _ _) (Nat.le_refl _) (by simp) ?_;(case hd=>rfl);(case hg=>rfl);(case hr=>(go_simp;done));(case hp=>exact (Reps.none _ _));intro v213 w61 ho62 hb hg_ hnew_;clear hg_ hnew_;(rw [← Ny212.out] at ho62);have HO214:=M0 (Kd.bh (Kd.cE (Kd.cE ho62 (Kd.R_lt HO_5.out)) (Kd.R_lt HO_6.out)) (av HB.out));replace HO_5:=M0 (Kd.bU HO_5.out (Kd.cD ho62) hb);replace HO_6:=M0 (Kd.bU HO_6.out (Kd.cD ho62) hb);replace BK205:=M0 (ag BK205.out hb);replace HB:=M0 (ab HB.out hb);clear hb ho62))
       go_ret
       exact ⟨_,by rfl,by exact Kd.aI HO214.out (fun _ hk=>trivial),HB.out⟩
      ·rw [if_neg c58] at H
       have c58b0:=decide_eq_false c58
       clear c58
       obtain rfl:=Option.some.inj H
       obtain ⟨Ao63,co63,eo63⟩:=Kd.a9 HO_5.out
       subst eo63
       have hcz64_0:=bcv (v:=.int .i64 a0_0) BK205.out 0 rfl
       go_wp2
       go_ret
       exact ⟨_,by rfl,by exact Kd.aI HO_5.out (fun _ hk=>trivial),HB.out⟩

end Go.Proofs.Ytffhbpepppodeaa.PFnDecoded
