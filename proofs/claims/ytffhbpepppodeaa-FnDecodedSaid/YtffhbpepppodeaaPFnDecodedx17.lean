import Derived.Test.YtffhbpepppodeaaPFnDecodedx0
import Derived.Test.YtffhbpepppodeaaPFnDecodedx5
import Derived.Test.YtffhbpepppodeaaPFnDecodedx7
import Derived.Test.YtffhbpepppodeaaPFnDecodedx15
import Derived.Test.YtffhbpepppodeaaPFnDecodedx16
namespace Go.Proofs.Ytffhbpepppodeaa.PFnDecoded
private theorem nn {α : Type} {c : Prop} [Decidable c] {a : Option α} {r : α} (h : (if c then a else none) = some r) : c ∧ a = some r:=by
 split at h
 ·exact ⟨‹c›,h⟩
 ·cases h
open Go.RowKit Go.Proofs.YtffhbpepppodeaaW.PrintWords Go.Proofs.YtffhbpepppodeaaW.PrintLast Go.Proofs.YtffhbpepppodeaaW.PrintMore
attribute [local go_sem] cJ cL dn dp cw cy cM cN   -- for this text's walks alone
set_option linter.unusedVariables false
set_option linter.unusedSimpArgs false

/-! ### aW: function 37 -/
mutual
def aW.j0 : Nat → List ByteArray → Bool → Int → Int → Int → Option (Int × List ByteArray)
 | 0,_,_,_,_,_=>none
 | k + 1,x1,x17,x406000,x406001,x406002=>if x17 = true then (some (1,([] : List ByteArray))) else (if 0 ≤ (x1.length : Int) then (if ((x1.length : Int) : Int).toNat ≤ 281474976710656 then (aW.l0 k x1 (List.replicate ((x1.length : Int) : Int).toNat false) 0 x406000 x406001 x406002) else (none)) else (none))
def aW.l0 : Nat → List ByteArray → List Bool → Int → Int → Int → Int → Option (Int × List ByteArray)
 | 0,_,_,_,_,_,_=>none
 | k + 1,x1,x5,x6,x406000,x406001,x406002=>if x6 < (x5.length : Int) then (if 0 ≤ x6 then (aW.l0 k x1 (x5.set (x6 : Int).toNat true) (wrap64 (x6 + 1)) x406000 x406001 x406002) else (none)) else ((bc.f k x1 x5).bind fun t412=>(if t412 < 0 then (some (2,([] : List ByteArray))) else ((bF.f k x406000 x406001 x406002 x1 t412).bind fun t413=>(some (0,t413)))))
end
def aW.f (k : Nat) (a0_0 : Int) (a0_1 : Int) (a0_2 : Int) (l1 : List ByteArray) : Option (Int × List ByteArray):=(bd.f a0_0 a0_1 a0_2).bind fun t407=>(if t407 = 0 then (aW.j0 k l1 ((l1.length : Int) != a0_0) a0_0 a0_1 a0_2) else (aW.j0 k l1 true a0_0 a0_1 a0_2))
set_option maxHeartbeats 8000000 in
set_option maxRecDepth 100000 in
theorem aW.calls (k : Nat) (a0_0 : Int) (a0_1 : Int) (a0_2 : Int) (A1 : Option Addr) (c1 : Nat) (l1 : List ByteArray) (r1 : Int) (r2 : List ByteArray) (w : World) (hr1 : Kd.C Kd.string w A1 l1.length l1) (hc1 : l1.length ≤ c1) (h : aW.f k a0_0 a0_1 a0_2 l1 = some (r1,r2)) :
  Calls Try.prog 37 #[.agg #[.int .i64 a0_0,.int .i64 a0_1,.int .i64 a0_2],.slice A1 l1.length c1] w fun e w'=>∃ v1_ : Value,e = .returned (.agg #[.int .i64 r1,v1_]) ∧ Kd.R Kd.string 9 w' w.heap.size (fun _=>True) v1_ r2 ∧ Below w.heap.size w w':=by
 have HR1:=M0 hr1
 have HC1:=M0 hc1
 clear hr1 hc1
 have HB:=M0 (Below.refl w.heap.size w)
 have H : ((bd.f a0_0 a0_1 a0_2).bind fun t407=>(if t407 = 0 then (aW.j0 k l1 ((l1.length : Int) != a0_0) a0_0 a0_1 a0_2) else (aW.j0 k l1 true a0_0 a0_1 a0_2))) = some (r1,r2):=h
 clear h
 have HC3:=M0 H
 clear H
 go_enter Try.func37,Try.ntmps37
 go_upto_region 1 with (first|((with_reducible refine aw (N:=2) rfl ?_);(try (refine al (by rfl) ?_;dsimp only));refine az rfl (N:=2) rfl (cs:=#[.int .i64 a0_0,.int .i64 a0_1,.int .i64 a0_2]) (t:=43) (by go_simp) ?_;intro gb405 hg w4 hbox hb;have BK405:=M0 (hbox);replace HB:=M0 (ab HB.out hb);clear hb hbox hg)|((with_reducible refine aw (N:=4) rfl ?_);(try (refine al (by rfl) ?_;dsimp only));refine az rfl (N:=4) rfl (cs:=#[.int .i64 0,.slice none 0 0]) (t:=68) (by go_simp) ?_;intro gb406 hg w5 hbox hb;have BK406:=M0 (hbox);have GW406:=M0 ((by rw [hg];exact (av HB.out) : w.heap.size ≤ gb406));have GE406:=GW406;replace HB:=M0 (ab HB.out hb);have NB405_406:=M0 ((by rw [hg];exact Nat.ne_of_lt (bS BK405.out) : gb405 ≠ gb406));replace BK405:=M0 (ag BK405.out hb);clear hb hbox hg))
 (try simp only [Act.put,List.setIfInBounds_toArray,List.set_cons_zero,List.set_cons_succ])
 go_cut [17] (fun v17 wc=>∃ (kq : Nat) (x17_2 : Bool),v17 = .bool x17_2 ∧ Aside0 (aW.j0 kq l1 x17_2 a0_0 a0_1 a0_2 = some (r1,r2)) ∧ Aside0 (kq ≤ k) ∧ Aside0 (wc.heap[gb405]? = some (.cells #[.int .i64 a0_0,.int .i64 a0_1,.int .i64 a0_2] 43 (0,0))) ∧ Aside0 (wc.heap[gb406]? = some (.cells #[.int .i64 0,(.slice none 0 0)] 68 (0,0))) ∧ Aside0 (Below w.heap.size w wc))
 case first=>
  have H:=HC3.out
  clear HC3
  replace H:=Option.bind_eq_some_iff.mp H
  obtain ⟨t407,A60,H⟩:=H
  replace H : (if t407 = 0 then (aW.j0 k l1 ((l1.length : Int) != a0_0) a0_0 a0_1 a0_2) else (aW.j0 k l1 true a0_0 a0_1 a0_2)) = some (r1,r2):=H
  have A6:=M0 A60
  clear A60
  by_cases c7 : t407 = 0
  ·rw [if_pos c7] at H
   have c7b1 : (t407 != 0) = false:=bne_eq_false_iff_eq.mpr c7
   clear c7
   (skip)
   have H':=M0 H
   clear H
   have hcz9_0:=bcv (v:=.int .i64 a0_0) BK405.out 0 rfl
   have hcz9_1:=bcv (v:=.int .i64 a0_1) BK405.out 1 rfl
   have hcz9_2:=bcv (v:=.int .i64 a0_2) BK405.out 2 rfl
   go_wp2_with (((with_reducible refine ah (f:=89) rfl ?_);refine aG (some 9) rfl rfl Try.func89 (by kernel_rfl) rfl #[.agg #[.int .i64 a0_0,.int .i64 a0_1,.int .i64 a0_2]] rfl (by (try simp only [List.map_toArray,List.map_cons,List.map_nil]);rfl) ?_;(with_reducible refine (bd.calls a0_0 a0_1 a0_2 t407 _ A6.out).mono ?_);rintro e w10 ⟨rfl,hb⟩;refine ⟨_,rfl,?_⟩;replace BK405:=M0 (ag BK405.out hb);replace BK406:=M0 (ag BK406.out hb);replace HB:=M0 (ab HB.out hb);clear hb;have hcz11_0:=bcv (v:=.int .i64 a0_0) BK405.out 0 rfl))
   go_meet
   case rel=>exact ⟨_,(((l1.length : Int) != a0_0)),(by rfl),H',⟨by omega⟩,⟨by exact BK405.out⟩,⟨by exact BK406.out⟩,⟨HB.out⟩⟩
  ·rw [if_neg c7] at H
   have c7b1 : (t407 != 0) = true:=bne_iff_ne.mpr c7
   (skip)
   have H':=M0 H
   clear H
   have hcz13_0:=bcv (v:=.int .i64 a0_0) BK405.out 0 rfl
   have hcz13_1:=bcv (v:=.int .i64 a0_1) BK405.out 1 rfl
   have hcz13_2:=bcv (v:=.int .i64 a0_2) BK405.out 2 rfl
   go_wp2_with (((with_reducible refine ah (f:=89) rfl ?_);refine aG (some 9) rfl rfl Try.func89 (by kernel_rfl) rfl #[.agg #[.int .i64 a0_0,.int .i64 a0_1,.int .i64 a0_2]] rfl (by (try simp only [List.map_toArray,List.map_cons,List.map_nil]);rfl) ?_;(with_reducible refine (bd.calls a0_0 a0_1 a0_2 t407 _ A6.out).mono ?_);rintro e w14 ⟨rfl,hb⟩;refine ⟨_,rfl,?_⟩;replace BK405:=M0 (ag BK405.out hb);replace BK406:=M0 (ag BK406.out hb);replace HB:=M0 (ab HB.out hb);clear hb))
   go_meet
   case rel=>exact ⟨_,(true),(by rfl),H',⟨by omega⟩,⟨by exact BK405.out⟩,⟨by exact BK406.out⟩,⟨HB.out⟩⟩
 case rest=>
  clear HC3
  obtain ⟨kq,x17_2,rfl,HA,HJ2,BK405,BK406,HB⟩:=hcut
  cases kq with
  | zero=>exact absurd HA.out (by simp [aW.j0])
  | succ kj2=>
   have H:=HA.out
   clear HA
   simp only [aW.j0] at H
   by_cases c15 : x17_2 = true
   ·subst c15
    have H1 : (some (1,([] : List ByteArray))) = some (r1,r2):=by rw [if_pos rfl] at H;exact H
    clear H
    have H:=H1
    clear H1
    simp only [Option.some.injEq,Prod.mk.injEq] at H
    obtain ⟨rfl,rfl⟩:=H
    have hcz17_0:=bcv (v:=.int .i64 0) BK406.out 0 rfl
    have hcz17_1:=bcv (v:=.slice none 0 0) BK406.out 1 rfl
    have hfz17_0:=aa BK406.out 0
    have hfz17_1:=aa BK406.out 1
    go_wp2
    refine bodyPost_ret (results_cell_row rfl _ _ gb406 68 #[.int .i64 1,.slice none 0 0] (0,0) _ rfl (by refine aC (cs:=#[.int .i64 1,.slice none 0 0]) ?_ 1 _ rfl;refine aC (cs:=#[.int .i64 0,.slice none 0 0]) ?_ 0 _ rfl;exact BK406.out) Try.underlying68 rfl (by kernel_rfl)) rfl ?_
    exact ⟨_,by rfl,by exact Kd.R_nil _ _ _ _ _,by repeat ((with_reducible first|exact HB.out|refine ay ?_ GE406.out))⟩
   ·replace c15:=Bool.eq_false_iff.mpr c15
    subst c15
    have H1 : (if 0 ≤ (l1.length : Int) then (if ((l1.length : Int) : Int).toNat ≤ 281474976710656 then (aW.l0 kj2 l1 (List.replicate ((l1.length : Int) : Int).toNat false) 0 a0_0 a0_1 a0_2) else (none)) else (none)) = some (r1,r2):=by rw [if_neg (show ¬ (false = true) by decide)] at H;exact H
    clear H
    have H:=H1
    clear H1
    obtain ⟨c18,H⟩:=nn H
    have c18b0:=eq_true c18
    have c18b1:=decide_eq_true c18
    clear c18
    obtain ⟨c19,H⟩:=nn H
    have c19b0:=eq_true c19
    have c19b1:=decide_eq_true c19
    clear c19
    obtain ⟨y408,hy408⟩ : ∃ y_ : List Bool,y_ = (List.replicate ((l1.length : Int) : Int).toNat false):=⟨_,rfl⟩
    rw [← hy408] at H
    have Ny408:=M0 hy408
    clear hy408
    have H':=M0 H
    clear H
    go_wp2_with (((with_reducible refine aw (N:=21) rfl ?_);(try (refine al (by rfl) ?_;dsimp only));refine Kd.ec Kd.bool _ 4 rfl (N:=21) rfl 72 _ _ rfl (l1.length : Int) rfl rfl Try.underlying72 (.bool false) 1 info4 rfl (by decide) (by omega) false (ok:=fun _=>True) (okp:=fun _=>True) rfl (fun _ hk=>hk) trivial (of_decide_eq_true (by with_reducible assumption)) (Nat.le_trans (Nat.mul_le_mul_right _ (of_decide_eq_true (by with_reducible assumption) : (l1.length : Int).toNat ≤ 281474976710656)) (by omega)) (Below.refl _ _) (Nat.le_refl _) ?_;intro v409 w20 ho21 hb hg_ hnew_;clear hg_ hnew_;(rw [← Ny408.out] at ho21);have HO410:=M0 (Kd.bh ho21 (av HB.out));replace BK405:=M0 (ag BK405.out hb);replace BK406:=M0 (ag BK406.out hb);replace HB:=M0 (ab HB.out hb);clear hb ho21))
    go_loopg [6] kj2 (fun kq v6 w'=>∃ (x5_2 : List Bool) (x6_2 : Int),v6 = .int .i64 x6_2 ∧ Aside0 (aW.l0 kq l1 x5_2 x6_2 a0_0 a0_1 a0_2 = some (r1,r2)) ∧ Aside0 (kq ≤ kj2) ∧ Aside0 (Kd.R Kd.bool 4 w' w.heap.size (fun _=>True) v409 x5_2) ∧ Aside0 (w'.heap[gb405]? = some (.cells #[.int .i64 a0_0,.int .i64 a0_1,.int .i64 a0_2] 43 (0,0))) ∧ Aside0 (w'.heap[gb406]? = some (.cells #[.int .i64 0,(.slice none 0 0)] 68 (0,0))) ∧ Aside0 (Below w.heap.size w w'))
    case atStart=>exact ⟨(y408),(0),(by rfl),H',⟨Nat.le_refl _⟩,⟨by exact HO410.out⟩,⟨by exact BK405.out⟩,⟨by exact BK406.out⟩,⟨HB.out⟩⟩
    case round=>
     clear H'
     (try clear c18b0);(try clear c18b1);(try clear c19b0);(try clear c19b1)
     obtain ⟨x5_2,x6_2,rfl,HA,HK2,HO_5,BK405,BK406,HB⟩:=hrel
     cases gk with
     | zero=>exact absurd HA.out (by simp [aW.l0])
     | succ k2=>
      have H:=HA.out
      clear HA
      simp only [aW.l0] at H
      by_cases c22 : x6_2 < (x5_2.length : Int)
      ·rw [if_pos c22] at H
       have c22b0:=decide_eq_true c22
       clear c22
       obtain ⟨c23,H⟩:=nn H
       have c23b0:=decide_eq_true c23
       clear c23
       obtain ⟨y411,hy411⟩ : ∃ y_ : List Bool,y_ = (x5_2.set (x6_2 : Int).toNat true):=⟨_,rfl⟩
       rw [← hy411] at H
       have Ny411:=M0 hy411
       clear hy411
       have H':=M0 H
       clear H
       obtain ⟨Ao25,co25,eo25⟩:=Kd.a9 HO_5.out
       subst eo25
       have p24 : 0 ≤ (x6_2 : Int):=of_decide_eq_true (by with_reducible assumption)
       have q24 : (x6_2 : Int) < ((x5_2.length : Int) : Int):=of_decide_eq_true (by with_reducible assumption)
       obtain ⟨go24,co24,eo24,gb24,gl24,cl24,HG24⟩:=Kd.dA HO_5.out (by omega)
       (cases eo24)
       have GB24:=M0 gb24
       have GG24:=M0 HG24
       clear gb24 gl24 HG24
       obtain ⟨hx24_0,hf24_0⟩:=Kd.bR false HO_5.out (x6_2 : Int) p24 q24
       replace p24:=eq_true p24
       replace q24:=eq_true q24
       have HP26:=Kd.du HO_5.out (x6_2 : Int) true
       go_wp2_with (((with_reducible refine bJ (t:=4) (p:=30) rfl ?_);refine bO (t:=4) (p:=30) (v:=?vo_w27) (w1:=(wr.setCell ⟨go24,(x6_2 : Int).toNat,none⟩ (.bool true))) ?hg ?ho ?hn ?hr ?_;(case ho=>rfl);(case hg=>rfl);(case hn=>rfl);(case hr=>(go_simp;done));intro w27 hw;have hg : wr.grownBy w27 (some go24):=(by rw [hw];exact HP26.2);have hp_ : Kd.R Kd.bool 4 w27 w.heap.size (fun _=>True) (.slice (some ⟨go24,0,none⟩) x5_2.length co25) y411:=(by rw [hw,Ny411.out];exact HP26.1);clear HP26;replace BK405:=M0 (bf (g:=gb405) (o:=.cells #[.int .i64 a0_0,.int .i64 a0_1,.int .i64 a0_2] 43 (0,0)) BK405.out hg (Kd.R_ne HO_5.out BK405.out (by decide)));replace BK406:=M0 (bf (g:=gb406) (o:=.cells #[.int .i64 0,.slice none 0 0] 68 (0,0)) BK406.out hg (Kd.R_ne HO_5.out BK406.out (by decide)));replace HO_5:=M0 (hp_);replace HB:=M0 ((by rw [hw];exact ay (HB.out) GB24.out : Below w.heap.size w w27));clear hg hw hp_))
       go_roundg k2
       case measure=>have:=HJ2.out;have:=HK2.out;omega
       case rel=>exact ⟨(y411),(wrap64 (x6_2 + 1)),(by rfl),H',⟨by have:=HJ2.out;have:=HK2.out;omega⟩,⟨by exact HO_5.out⟩,⟨by exact BK405.out⟩,⟨by exact BK406.out⟩,⟨HB.out⟩⟩
      ·rw [if_neg c22] at H
       have c22b0:=decide_eq_false c22
       clear c22
       replace H:=Option.bind_eq_some_iff.mp H
       obtain ⟨t412,A280,H⟩:=H
       replace H : (if t412 < 0 then (some (2,([] : List ByteArray))) else ((bF.f k2 a0_0 a0_1 a0_2 l1 t412).bind fun t413=>(some (0,t413)))) = some (r1,r2):=H
       have A28:=M0 A280
       clear A280
       by_cases c29 : t412 < 0
       ·rw [if_pos c29] at H
        have c29b0:=decide_eq_true c29
        clear c29
        simp only [Option.some.injEq,Prod.mk.injEq] at H
        obtain ⟨rfl,rfl⟩:=H
        obtain ⟨Ao30,co30,eo30⟩:=Kd.a9 HO_5.out
        subst eo30
        go_wp2_with (((with_reducible refine ah (f:=90) rfl ?_);refine aG (some 33) rfl rfl Try.func90 (by kernel_rfl) rfl #[.slice A1 l1.length c1,.slice Ao30 x5_2.length co30] rfl (by (try simp only [List.map_toArray,List.map_cons,List.map_nil]);rfl) ?_;(with_reducible refine (bc.calls k2 _ _ l1 _ _ x5_2 t412 _ (Kd.bG HR1.out HB.out) HC1.out (Kd.aA HO_5.out).2.2 (Kd.aA HO_5.out).2.1 A28.out).mono ?_);rintro e w' ⟨rfl,⟨nd,rfl⟩⟩;refine ⟨_,rfl,?_⟩;(try (rw [dw wr];generalize hq_ : World.drewN wr _ = wr;have n0_ : Aside0 (Kd.R Kd.bool 4 wr w.heap.size (fun _=>True) (.slice Ao30 x5_2.length co30) x5_2):=⟨by rw [← hq_];exact (by (with_reducible repeat (apply Kd.dx));exact HO_5.out)⟩;have n1_ : Aside0 (wr.heap[gb405]? = some (.cells #[.int .i64 a0_0,.int .i64 a0_1,.int .i64 a0_2] 43 (0,0))):=⟨by rw [← hq_];exact (by (with_reducible repeat (refine bx ?_ _));exact BK405.out)⟩;have n2_ : Aside0 (wr.heap[gb406]? = some (.cells #[.int .i64 0,.slice none 0 0] 68 (0,0))):=⟨by rw [← hq_];exact (by (with_reducible repeat (refine bx ?_ _));exact BK406.out)⟩;have n3_ : Aside0 (Below w.heap.size w wr):=⟨by rw [← hq_];exact (by repeat ((with_reducible first|exact HB.out|apply aK)))⟩;clear HO_5 BK405 BK406 HB hq_;have HO_5:=n0_;have BK405:=n1_;have BK406:=n2_;have HB:=n3_;clear n0_ n1_ n2_ n3_));have hcz32_0:=bcv (v:=.int .i64 0) BK406.out 0 rfl;have hcz32_1:=bcv (v:=.slice none 0 0) BK406.out 1 rfl;have hfz32_0:=aa BK406.out 0;have hfz32_1:=aa BK406.out 1))
        refine bodyPost_ret (results_cell_row rfl _ _ gb406 68 #[.int .i64 2,.slice none 0 0] (0,0) _ rfl (by refine aC (cs:=#[.int .i64 2,.slice none 0 0]) ?_ 1 _ rfl;refine aC (cs:=#[.int .i64 0,.slice none 0 0]) ?_ 0 _ rfl;exact BK406.out) Try.underlying68 rfl (by kernel_rfl)) rfl ?_
        exact ⟨_,by rfl,by exact Kd.R_nil _ _ _ _ _,by repeat ((with_reducible first|exact HB.out|refine ay ?_ GE406.out))⟩
       ·rw [if_neg c29] at H
        have c29b0:=decide_eq_false c29
        clear c29
        replace H:=Option.bind_eq_some_iff.mp H
        obtain ⟨t413,A330,H⟩:=H
        replace H : (some (0,t413)) = some (r1,r2):=H
        have A33:=M0 A330
        clear A330
        simp only [Option.some.injEq,Prod.mk.injEq] at H
        obtain ⟨rfl,rfl⟩:=H
        obtain ⟨Ao34,co34,eo34⟩:=Kd.a9 HO_5.out
        subst eo34
        go_wp2_with (first|((with_reducible refine ah (f:=90) rfl ?_);refine aG (some 33) rfl rfl Try.func90 (by kernel_rfl) rfl #[.slice A1 l1.length c1,.slice Ao34 x5_2.length co34] rfl (by (try simp only [List.map_toArray,List.map_cons,List.map_nil]);rfl) ?_;(with_reducible refine (bc.calls k2 _ _ l1 _ _ x5_2 t412 _ (Kd.bG HR1.out HB.out) HC1.out (Kd.aA HO_5.out).2.2 (Kd.aA HO_5.out).2.1 A28.out).mono ?_);rintro e w' ⟨rfl,⟨nd,rfl⟩⟩;refine ⟨_,rfl,?_⟩;(try (rw [dw wr];generalize hq_ : World.drewN wr _ = wr;have n0_ : Aside0 (Kd.R Kd.bool 4 wr w.heap.size (fun _=>True) (.slice Ao34 x5_2.length co34) x5_2):=⟨by rw [← hq_];exact (by (with_reducible repeat (apply Kd.dx));exact HO_5.out)⟩;have n1_ : Aside0 (wr.heap[gb405]? = some (.cells #[.int .i64 a0_0,.int .i64 a0_1,.int .i64 a0_2] 43 (0,0))):=⟨by rw [← hq_];exact (by (with_reducible repeat (refine bx ?_ _));exact BK405.out)⟩;have n2_ : Aside0 (wr.heap[gb406]? = some (.cells #[.int .i64 0,.slice none 0 0] 68 (0,0))):=⟨by rw [← hq_];exact (by (with_reducible repeat (refine bx ?_ _));exact BK406.out)⟩;have n3_ : Aside0 (Below w.heap.size w wr):=⟨by rw [← hq_];exact (by repeat ((with_reducible first|exact HB.out|apply aK)))⟩;clear HO_5 BK405 BK406 HB hq_;have HO_5:=n0_;have BK405:=n1_;have BK406:=n2_;have HB:=n3_;clear n0_ n1_ n2_ n3_));have hcz36_0:=bcv (v:=.int .i64 a0_0) BK405.out 0 rfl;have hcz36_1:=bcv (v:=.int .i64 a0_1) BK405.out 1 rfl;have hcz36_2:=bcv (v:=.int .i64 a0_2) BK405.out 2 rfl)|((with_reducible refine ah (f:=91) rfl ?_);refine aG (some 40) rfl rfl Try.func91 (by kernel_rfl) rfl #[.agg #[.int .i64 a0_0,.int .i64 a0_1,.int .i64 a0_2],.slice A1 l1.length c1,.int .i64 t412] rfl (by (try simp only [List.map_toArray,List.map_cons,List.map_nil]);rfl) ?_;(with_reducible refine (bF.calls k2 a0_0 a0_1 a0_2 _ _ l1 t412 t413 _ (Kd.bG HR1.out HB.out) HC1.out A33.out).mono ?_);rintro e w37 ⟨v414,rfl,ho0,hb⟩;refine ⟨_,rfl,?_⟩;replace HO_5:=M0 (Kd.aX HO_5.out hb);have HO415:=M0 (Kd.bh ho0 (av HB.out));replace BK405:=M0 (ag BK405.out hb);replace BK406:=M0 (ag BK406.out hb);replace HB:=M0 (ab HB.out hb);clear hb ho0;obtain ⟨Ao38,co38,eo38⟩:=Kd.a9 HO415.out;subst eo38;have hcz39_0:=bcv (v:=.int .i64 0) BK406.out 0 rfl;have hcz39_1:=bcv (v:=.slice none 0 0) BK406.out 1 rfl;have hfz39_0:=aa BK406.out 0;have hfz39_1:=aa BK406.out 1))
        refine bodyPost_ret (results_cell_row rfl _ _ gb406 68 #[.int .i64 0,.slice Ao38 t413.length co38] (0,0) _ rfl (by refine aC (cs:=#[.int .i64 0,.slice none 0 0]) ?_ 1 _ rfl;refine aC (cs:=#[.int .i64 0,.slice none 0 0]) ?_ 0 _ rfl;exact BK406.out) Try.underlying68 rfl (by kernel_rfl)) rfl ?_
        exact ⟨_,by rfl,by exact Kd.aI (Kd.bb (p:=⟨gb406,1,none⟩) (Kd.bb (p:=⟨gb406,0,none⟩) (Kd.bE HO415.out BK406.out (by decide)) (fun _ hk=>hk.2) (.int .i64 0)) (fun _ hk=>hk.2) (.slice Ao38 t413.length co38)) (fun _ hk=>trivial),by repeat ((with_reducible first|exact HB.out|refine ay ?_ GE406.out))⟩

/-! ### bz: function 131 -/
def bz.l0 : Nat → Int → Int → List ByteArray → Int → List Int → Int → Int → Option (List ByteArray × Int × Int)
 | 0,_,_,_,_,_,_,_=>none
 | k + 1,x1,x5,x6,x7,x1000,x1001,x1002=>if x7 < x1 then ((aN.f k x1000 x1001 x1002 x5).bind fun bt422=>(if x6.length < 8796093022208 then (bz.l0 k x1 x5 (x6 ++ [bt422.1]) (wrap64 (x7 + 1)) x1000 bt422.2.1 bt422.2.2) else (none))) else (some (x6,x1001,x1002))
def bz.f (k : Nat) (s0_0 : List Int) (s0_1 : Int) (s0_2 : Int) (a1 : Int) : Option (List ByteArray × Int × Int):=(ax.f s0_0 s0_1 s0_2 6).bind fun bt416=>(bz.l0 k a1 (wrap64 (1 + bt416.1)) (([] : List ByteArray)) 0 s0_0 bt416.2.1 bt416.2.2)
set_option maxHeartbeats 8000000 in
set_option maxRecDepth 100000 in
theorem bz.calls (k : Nat) (g : Nat) (s0_0 : List Int) (s0_1 : Int) (s0_2 : Int) (a1 : Int) (r1 : List ByteArray) (r2 : Int) (r3 : Int) (w0 w : World) (hI : ak w0 w g s0_0 s0_1 s0_2) (hB : Below w0.heap.size w0 w) (h : bz.f k s0_0 s0_1 s0_2 a1 = some (r1,r2,r3)) :
  Calls Try.prog 131 #[.pointer (some ⟨g,0,none⟩),.int .i64 a1] w fun e w'=>∃ v0_ : Value,e = .returned (v0_) ∧ Kd.R Kd.string 9 w' w.heap.size (fun _=>True) v0_ r1 ∧ ak w0 w' g s0_0 r2 r3 ∧ Below w0.heap.size w0 w' ∧ aj w w' g none:=by
 have HI0:=M0 hI
 have HK:=M0 (aj.refl w g none)
 have HL:=M0 hB.size
 clear hI
 have HB:=M0 hB
 clear hB
 have H : ((ax.f s0_0 s0_1 s0_2 6).bind fun bt416=>(bz.l0 k a1 (wrap64 (1 + bt416.1)) (([] : List ByteArray)) 0 s0_0 bt416.2.1 bt416.2.2)) = some (r1,r2,r3):=h
 clear h
 replace H:=Option.bind_eq_some_iff.mp H
 obtain ⟨⟨t416,t417,t418⟩,A30,H⟩:=H
 dsimp only at H
 have A3:=M0 A30
 clear A30
 obtain ⟨y419,hy419⟩ : ∃ y_ : List ByteArray,y_ = (([] : List ByteArray)):=⟨_,rfl⟩
 rw [← hy419] at H
 have Ny419:=M0 hy419
 clear hy419
 have H':=M0 H
 clear H
 go_enter Try.func131,Try.ntmps131
 go_wp2_with (first|((with_reducible refine ah (f:=75) rfl ?_);refine aG (some 9) rfl rfl Try.func75 (by kernel_rfl) rfl #[.pointer (some ⟨g,0,none⟩),.int .i64 6] rfl (by (try simp only [List.map_toArray,List.map_cons,List.map_nil]);rfl) ?_;(with_reducible refine (ax.calls g s0_0 s0_1 s0_2 6 t416 t417 t418 w0 _ HI0.out HB.out A3.out).mono ?_);rintro e w4 ⟨rfl,hi,hb,hk⟩;refine ⟨_,rfl,?_⟩;replace HK:=M0 (aj.trans HK.out hk (.inl rfl));replace HB:=M0 (hb);replace HI0:=M0 (hi);clear hb hk hi)|((with_reducible refine aw (N:=11) rfl ?_);refine Kd.dR Kd.string _ 9 ?hg (N:=11) ?hd (xs:=([] : List ByteArray)) (inner:=[]) (ok:=fun _=>True) (okp:=fun _=>True) ?hr ?hp (fun _ hk=>hk) trivial (Below.refl _ _) (Nat.le_refl _) (by simp) ?_;(case hd=>rfl);(case hg=>rfl);(case hr=>(go_simp;done));(case hp=>exact (Reps.none _ _));intro v420 w5 ho6 hb hg_ hnew_;clear hg_ hnew_;(rw [← Ny419.out] at ho6);have HO421:=M0 (Kd.bh ho6 (ba (w:=w) (g:=g) (row:=none) HK.out));replace HI0:=M0 (ak.below HI0.out hb);replace HK:=M0 (aj.trans HK.out (aj.bT hb g none) (.inl rfl));replace HB:=M0 (ab HB.out hb);clear hb ho6))
 go_loopg [6,7] k (fun kq v6 v7 w'=>∃ (x6_1 : List ByteArray) (x7_1 : Int) (x1001_1 : Int) (x1002_1 : Int),v7 = .int .i64 x7_1 ∧ Aside0 (bz.l0 kq a1 (wrap64 (1 + t416)) x6_1 x7_1 s0_0 x1001_1 x1002_1 = some (r1,r2,r3)) ∧ Aside0 (kq ≤ k) ∧ Aside0 (Kd.R Kd.string 9 w' w.heap.size (fun _=>True) v6 x6_1) ∧ Aside0 (ak w0 w' g s0_0 x1001_1 x1002_1) ∧ Aside0 (aj w w' g none) ∧ Aside0 (Below w0.heap.size w0 w'))
 case atStart=>exact ⟨(y419),(0),(t417),(t418),(by rfl),H',⟨Nat.le_refl _⟩,⟨by exact HO421.out⟩,⟨HI0.out⟩,⟨HK.out⟩,⟨HB.out⟩⟩
 case round=>
  clear H'
  obtain ⟨x6_1,x7_1,x1001_1,x1002_1,rfl,HA,HK1,HO_6,HI0,HK,HB⟩:=hrel
  cases gk with
  | zero=>exact absurd HA.out (by simp [bz.l0])
  | succ k1=>
   have H:=HA.out
   clear HA
   simp only [bz.l0] at H
   by_cases c7 : x7_1 < a1
   ·rw [if_pos c7] at H
    have c7b0:=decide_eq_true c7
    clear c7
    replace H:=Option.bind_eq_some_iff.mp H
    obtain ⟨⟨t422,t423,t424⟩,A80,H⟩:=H
    dsimp only at H
    have A8:=M0 A80
    clear A80
    obtain ⟨c9,H⟩:=nn H
    have LMc9:=M0 c9
    clear c9
    obtain ⟨y425,hy425⟩ : ∃ y_ : List ByteArray,y_ = (x6_1 ++ [t422]):=⟨_,rfl⟩
    rw [← hy425] at H
    have Ny425:=M0 hy425
    clear hy425
    have H':=M0 H
    clear H
    go_wp2_with (first|((with_reducible refine ah (f:=83) rfl ?_);refine aG (some 20) rfl rfl Try.func83 (by kernel_rfl) rfl #[.pointer (some ⟨g,0,none⟩),.int .i64 (wrap64 (1 + t416))] rfl (by (try simp only [List.map_toArray,List.map_cons,List.map_nil]);rfl) ?_;(with_reducible refine (aN.calls k1 g s0_0 x1001_1 x1002_1 (wrap64 (1 + t416)) t422 t423 t424 w0 _ HI0.out HB.out A8.out).mono ?_);rintro e w10 ⟨rfl,hi,hb,hk⟩;refine ⟨_,rfl,?_⟩;replace HO_6:=M0 (Kd.aI (Kd.cp (ak.apart (show ak w0 _ g s0_0 x1001_1 x1002_1 from HI0.out) HO_6.out (by decide)) hk (fun _ h=>h.2)) (fun _ h=>h.1));replace HK:=M0 (aj.trans HK.out hk (.inl rfl));replace HB:=M0 (hb);replace HI0:=M0 (hi);clear hb hk hi)|((with_reducible refine bV (b:=.append) (xs:=#[.tmp 17,.tmp 21]) rfl ?_);at_builtin;refine Kd.cQ Kd.string w.heap.size rfl (.tmp 17) (.tmp 21) 56 9 (.string ⟨#[]⟩) 16 rfl Try.underlying56 info9 rfl (by decide) (by omega) u6 x6_1 t422 [.string t422] (fun _=>True) (fun _=>False) rfl rfl ?aP (fun _ hk=>hk.elim) ?aF ?aO (Below.refl _ _) ?aS ?aL ?_;(case aP=>exact rfl);(case aF=>exact (fun _ _=>trivial));(case aO=>exact HO_6.out);(case aS=>exact (ba (w:=w) (g:=g) (row:=none) HK.out));(case aL=>have:=LMc9.out;omega);intro v426 w11 ho hb hg hat;rw [← Ny425.out] at ho;have n0_:=M0 (ak.grown HI0.out hg (ak.dZ HI0.out HO_6.out (by decide)));have n1_:=M0 (cP HB.out HL.out hb);have n2_:=M0 (aj.trans HK.out (aj.dz hg g) (Kd.R_base2 HO_6.out));have n3_:=M0 (ho);clear HI0 HB HK HO_6;have HI0:=n0_;have HB:=n1_;have HK:=n2_;have HO427:=n3_;clear n0_ n1_ n2_ n3_ ho hb hg hat))
    go_roundg k1
    case measure=>have:=HK1.out;omega
    case rel=>exact ⟨(y425),(wrap64 (x7_1 + 1)),(t423),(t424),(by rfl),H',⟨by have:=HK1.out;omega⟩,⟨by exact HO427.out⟩,⟨HI0.out⟩,⟨HK.out⟩,⟨HB.out⟩⟩
   ·rw [if_neg c7] at H
    have c7b0:=decide_eq_false c7
    clear c7
    simp only [Option.some.injEq,Prod.mk.injEq] at H
    obtain ⟨rfl,rfl,rfl⟩:=H
    go_wp2
    go_ret
    exact ⟨_,by rfl,by exact HO_6.out,HI0.out,HB.out,HK.out⟩

/-! ### aE: function 111 -/
def aE.l0 : Nat → List ByteArray → List (S61) → Int → List Int → Int → Int → Option ((List (S61)) × Int × Int)
 | 0,_,_,_,_,_,_=>none
 | k + 1,x5,x6,x7,x1000,x1001,x1002=>if x7 < (x5.length : Int) then (if 0 ≤ x7 then ((bw.f x1000 x1001 x1002 3).bind fun bt443=>(if bt443.1 = true then ((bw.f x1000 bt443.2.1 bt443.2.2 2).bind fun bt446=>(if bt446.1 = true then ((ax.f x1000 bt446.2.1 bt446.2.2 4).bind fun bt449=>((aN.f k x1000 bt449.2.1 bt449.2.2 bt449.1).bind fun bt452=>(if x6.length < 5864062014805 then (aE.l0 k x5 (x6 ++ [(⟨false,bt452.1⟩ : S61)]) (wrap64 (x7 + 1)) x1000 bt452.2.1 bt452.2.2) else (none)))) else (if x6.length < 5864062014805 then (aE.l0 k x5 (x6 ++ [(⟨false,rdOf ByteArray.empty x5 x7⟩ : S61)]) (wrap64 (x7 + 1)) x1000 bt446.2.1 bt446.2.2) else (none)))) else (if x6.length < 5864062014805 then (aE.l0 k x5 (x6 ++ [(⟨true,rdOf ByteArray.empty x5 x7⟩ : S61)]) (wrap64 (x7 + 1)) x1000 bt443.2.1 bt443.2.2) else (none)))) else (none)) else (some (x6,x1001,x1002))
def aE.f (k : Nat) (s0_0 : List Int) (s0_1 : Int) (s0_2 : Int) (a1_0 : Int) (a1_1 : Int) (a1_2 : Int) : Option ((List (S61)) × Int × Int):=(bz.f k s0_0 s0_1 s0_2 a1_0).bind fun bt429=>((aW.f k a1_0 a1_1 a1_2 bt429.1).bind fun bt434=>(aE.l0 k bt434.2 (([] : List (S61))) 0 s0_0 bt429.2.1 bt429.2.2))
def aE.T1 : Bool × List (List Nat × List Nat):=(true,[([],[]),([],[]),([],[]),([2],[2]),([1,3],[1,3]),([0,4,4],[0,4]),([5],[5]),([6,5,0,1,2,3,4,5,6],[6])])
def aE.B1 : List Nat:=[0,0,0,4,14,31,63,127]
theorem aE.tab1 : rtab .any (opsOf Try.f111 1) = aE.T1:=by kernel_rfl
theorem aE.bits1 : de aE.T1.2 aE.B1 = true:=by kernel_rfl
set_option maxHeartbeats 8000000 in
set_option maxRecDepth 100000 in
theorem aE.calls (k : Nat) (g : Nat) (s0_0 : List Int) (s0_1 : Int) (s0_2 : Int) (a1_0 : Int) (a1_1 : Int) (a1_2 : Int) (r1 : List (S61)) (r2 : Int) (r3 : Int) (w0 w : World) (hI : ak w0 w g s0_0 s0_1 s0_2) (hB : Below w0.heap.size w0 w) (h : aE.f k s0_0 s0_1 s0_2 a1_0 a1_1 a1_2 = some (r1,r2,r3)) :
  Calls Try.prog 111 #[.pointer (some ⟨g,0,none⟩),.agg #[.int .i64 a1_0,.int .i64 a1_1,.int .i64 a1_2]] w fun e w'=>∃ v0_ : Value,e = .returned (v0_) ∧ Kd.R k61 61 w' w.heap.size (fun _=>True) v0_ r1 ∧ ak w0 w' g s0_0 r2 r3 ∧ Below w0.heap.size w0 w' ∧ aj w w' g none:=by
 have hfd0 : ∀ (a : Int) (v : Value) (w : World),(Instr.field 68 (.agg #[.int .i64 a,v]) 1).run Try.prog w = .ok v w:=fun _ _ _=>by kernel_rfl
 have HI0:=M0 hI
 have HK:=M0 (aj.refl w g none)
 have HL:=M0 hB.size
 clear hI
 have HW0:=M0 hB.size
 have HB:=M0 hB
 clear hB
 have H : ((bz.f k s0_0 s0_1 s0_2 a1_0).bind fun bt429=>((aW.f k a1_0 a1_1 a1_2 bt429.1).bind fun bt434=>(aE.l0 k bt434.2 (([] : List (S61))) 0 s0_0 bt429.2.1 bt429.2.2))) = some (r1,r2,r3):=h
 clear h
 replace H:=Option.bind_eq_some_iff.mp H
 obtain ⟨⟨t429,t432,t433⟩,A30,H⟩:=H
 dsimp only at H
 have A3:=M0 A30
 clear A30
 replace H:=Option.bind_eq_some_iff.mp H
 obtain ⟨⟨t434,t435⟩,A40,H⟩:=H
 dsimp only at H
 have A4:=M0 A40
 clear A40
 obtain ⟨y438,hy438⟩ : ∃ y_ : List (S61),y_ = (([] : List (S61))):=⟨_,rfl⟩
 rw [← hy438] at H
 have Ny438:=M0 hy438
 clear hy438
 have H':=M0 H
 clear H
 go_enter Try.func111,Try.ntmps111
 try go_wp2_with (((with_reducible refine aw (N:=3) rfl ?_);refine az rfl (N:=3) rfl (cs:=#[.int .i64 a1_0,.int .i64 a1_1,.int .i64 a1_2]) (t:=43) (by go_simp) ?_;intro gb428 hg w5 hbox hb;replace HB:=M0 (ab HB.out hb);have BK428:=M0 (hbox);replace HK:=M0 (aj.trans HK.out (aj.bT hb g none) (.inl rfl));have NB0_428:=M0 ((by rw [hg];exact Nat.ne_of_lt (ak.lt (show ak w0 _ g s0_0 s0_1 s0_2 from HI0.out)) : g ≠ gb428));have NB428_0:=M0 NB0_428.out.symm;replace HI0:=M0 (ak.below HI0.out hb);clear hb hbox hg))
 replace BK428:=M0 (bn BK428.out)
 replace HI0:=M0 (ak.drew HI0.out)
 replace HK:=M0 (keep_drew HK.out)
 replace HB:=M0 (a7 HB.out)
 refine cr (n:=8) (S:=fun w'=>w'.cell? ⟨gb428,0,none⟩ = some (.int .i64 a1_0) ∧ w'.cell? ⟨gb428,1,none⟩ = some (.int .i64 a1_1) ∧ w'.cell? ⟨gb428,2,none⟩ = some (.int .i64 a1_2)) (ds:=[]) #[O,O,O,O,O,O,O,O] (by kernel_rfl) rfl rfl ⟨(ai BK428.out 0).trans rfl,(ai BK428.out 1).trans rfl,(ai BK428.out 2).trans rfl⟩ (fun hHeld=>?_);refine dg aE.tab1 aE.bits1 (fun HT_ HW_=>?_)
 generalize w5.drew = w6 at BK428 HI0 HK HB hHeld ⊢
 refine au (i:=1) (N:=some 10) #[O,I,O,O,O,O,O,O] rfl rfl (a6 HT_.out (by kernel_rfl)) (fun _ _ _ h=>h) (Or.inl ⟨by rfl,by intro w';go_simp;with_reducible rfl⟩) (by simp only [Act.put,List.setIfInBounds_toArray,List.set_cons_zero,List.set_cons_succ,ae,af];rfl) ?_
 refine au (i:=2) (N:=some 11) #[O,I,I,O,O,O,O,O] rfl rfl (a6 HT_.out (by kernel_rfl)) (fun _ _ _ h=>h) (Or.inl ⟨by rfl,by intro w';go_simp;with_reducible rfl⟩) (by simp only [Act.put,List.setIfInBounds_toArray,List.set_cons_zero,List.set_cons_succ,ae,af];rfl) ?_
 refine bu (i:=0) (N:=some 9) #[I,I,I,O,O,O,O,O] rfl rfl (bL HT_.out HW_.out (by kernel_rfl)) (fun _ _ _ h=>h) (Or.inl ⟨by rfl,by rintro w' ⟨s0,s1,s2⟩;go_simp;with_reducible rfl⟩) hHeld (by simp only [Act.put,List.setIfInBounds_toArray,List.set_cons_zero,List.set_cons_succ,ae,af];rfl) ?_
 refine bu (i:=3) (N:=some 12) #[I,I,I,I,O,O,O,O] rfl rfl (bL HT_.out HW_.out (by kernel_rfl)) (fun _ _ _ h=>h) (Or.inl ⟨by rfl,by rintro w' ⟨s0,s1,s2⟩;go_simp;with_reducible rfl⟩) hHeld (by simp only [Act.put,List.setIfInBounds_toArray,List.set_cons_zero,List.set_cons_succ,ae,af];rfl) ?_
 refine one_ (i:=4) (N:=some 13) #[I,I,I,I,I,O,O,O] rfl rfl (bX HT_.out (by kernel_rfl)) (by decide) (fun K hK=>?_)
 refine cT Try.func131 (by kernel_rfl) rfl #[.pointer (some ⟨g,0,none⟩),.int .i64 a1_0] (by rfl) rfl rfl (by (try simp only [List.map_toArray,List.map_cons,List.map_nil]);rfl) ?_
 with_reducible refine (bz.calls k g s0_0 s0_1 s0_2 a1_0 t429 t432 t433 w0 _ ?side1 ?side2 A3.out).mono ?_
 (case side1=>exact HI0.out)
 (case side2=>exact HB.out)
 rintro e w7 ⟨v430,rfl,ho0,hi,hb,hk⟩
 refine ⟨_,rfl,?_⟩
 replace BK428:=M0 (aj.blk hk BK428.out NB428_0.out (by simp))
 have HO431:=M0 (Kd.bh ho0 (ba (w:=w) (g:=g) (row:=none) HK.out))
 replace HK:=M0 (aj.trans HK.out hk (.inl rfl))
 replace HB:=M0 (hb)
 replace HI0:=M0 (hi)
 clear hb hk hi ho0
 obtain ⟨Ao8,co8,eo8⟩:=Kd.a9 HO431.out
 (subst eo8)
 refine hK.out _ _ ⟨(ai BK428.out 0).trans rfl,(ai BK428.out 1).trans rfl,(ai BK428.out 2).trans rfl⟩ (fun hHeld=>?_)
 clear hK K
 refine bK (a':=?_) ?_ ?_
 rotate_left
 ·show Act.put _ (some 13) _ = _
  simp only [Act.put,List.setIfInBounds_toArray,List.set_cons_zero,List.set_cons_succ,ae,af]
  rfl
 refine one_ (i:=5) (N:=some 14) #[I,I,I,I,I,I,O,O] rfl rfl (bX HT_.out (by kernel_rfl)) (by decide) (fun K hK=>?_)
 refine cT Try.func37 (by kernel_rfl) rfl #[.agg #[.int .i64 a1_0,.int .i64 a1_1,.int .i64 a1_2],.slice Ao8 t429.length co8] (by rfl) rfl rfl (by (try simp only [List.map_toArray,List.map_cons,List.map_nil]);rfl) ?_
 with_reducible refine (aW.calls k a1_0 a1_1 a1_2 _ _ t429 t434 t435 _ ?side1 ?side2 A4.out).mono ?_
 (case side1=>exact (Kd.aA HO431.out).2.2)
 (case side2=>exact (Kd.aA HO431.out).2.1)
 rintro e w9 ⟨v436,rfl,ho0,hb⟩
 refine ⟨_,rfl,?_⟩
 have HO437:=M0 (Kd.bh (Kd.cE ho0 (Kd.R_lt HO431.out)) (ba (w:=w) (g:=g) (row:=none) HK.out))
 replace HO431:=M0 (Kd.bU HO431.out (Kd.cD ho0) hb)
 replace HI0:=M0 (ak.below HI0.out hb)
 replace BK428:=M0 (ag BK428.out hb)
 replace HK:=M0 (aj.trans HK.out (aj.bT hb g none) (.inl rfl))
 replace HB:=M0 (ab HB.out hb)
 clear hb ho0
 refine hK.out _ _ ⟨(ai BK428.out 0).trans rfl,(ai BK428.out 1).trans rfl,(ai BK428.out 2).trans rfl⟩ (fun hHeld=>?_)
 clear hK K
 refine bK (a':=?_) ?_ ?_
 rotate_left
 ·show Act.put _ (some 14) _ = _
  simp only [Act.put,List.setIfInBounds_toArray,List.set_cons_zero,List.set_cons_succ,ae,af]
  rfl
 refine au (i:=6) (N:=some 15) #[I,I,I,I,I,I,I,O] rfl rfl (a6 HT_.out (by kernel_rfl)) (fun _ _ _ h=>h) (Or.inl ⟨by rfl,by intro w';go_simp;with_reducible rfl⟩) (by simp only [Act.put,List.setIfInBounds_toArray,List.set_cons_zero,List.set_cons_succ,ae,af];rfl) ?_
 refine au (i:=7) (N:=some 5) #[I,I,I,I,I,I,I,I] rfl rfl (a6 HT_.out (by kernel_rfl)) (fun _ _ _ h=>h) (Or.inl ⟨by rfl,by intro w';go_simp;with_reducible rfl⟩) (by simp only [Act.put,List.setIfInBounds_toArray,List.set_cons_zero,List.set_cons_succ,ae,af];rfl) ?_
 refine cZ (dL HT_.out (by kernel_rfl)) ?_
 try go_wp2_with (((with_reducible refine aw (N:=16) rfl ?_);refine Kd.dR k61 _ 61 ?hg (N:=16) ?hd (xs:=([] : List (S61))) (inner:=[]) (ok:=fun _=>True) (okp:=fun _=>True) ?hr ?hp (fun _ hk=>hk) trivial (Below.refl _ _) (Nat.le_refl _) (by simp) ?_;(case hd=>rfl);(case hg=>rfl);(case hr=>(go_simp;done));(case hp=>exact (Reps.none _ _));intro v439 w10 ho11 hb hg_ hnew_;clear hg_ hnew_;(rw [← Ny438.out] at ho11);replace HO431:=M0 (Kd.aX HO431.out hb);replace HO437:=M0 (Kd.aX HO437.out hb);have HO440:=M0 (Kd.bh ho11 (ba (w:=w) (g:=g) (row:=none) HK.out));replace HI0:=M0 (ak.below HI0.out hb);replace BK428:=M0 (ag BK428.out hb);replace HK:=M0 (aj.trans HK.out (aj.bT hb g none) (.inl rfl));replace HB:=M0 (ab HB.out hb);clear hb ho11))
 go_loopg [6,7] k (fun kq v6 v7 w'=>∃ (x6_1 : List (S61)) (x7_1 : Int) (x1001_1 : Int) (x1002_1 : Int),v7 = .int .i64 x7_1 ∧ Aside0 (aE.l0 kq t435 x6_1 x7_1 s0_0 x1001_1 x1002_1 = some (r1,r2,r3)) ∧ Aside0 (kq ≤ k) ∧ Aside0 (Kd.R Kd.string 9 w' w.heap.size (fun _=>True) v436 t435) ∧ Aside0 (Kd.R k61 61 w' w.heap.size (fun _=>True) v6 x6_1) ∧ Aside0 (w'.heap[gb428]? = some (.cells #[.int .i64 a1_0,.int .i64 a1_1,.int .i64 a1_2] 43 (0,0))) ∧ Aside0 (ak w0 w' g s0_0 x1001_1 x1002_1) ∧ Aside0 (aj w w' g none) ∧ Aside0 (Below w0.heap.size w0 w'))
 case atStart=>exact ⟨(y438),(0),(t432),(t433),(by rfl),H',⟨Nat.le_refl _⟩,⟨by exact Kd.aI HO437.out (fun _ hk=>trivial)⟩,⟨by exact HO440.out⟩,⟨by exact BK428.out⟩,⟨HI0.out⟩,⟨HK.out⟩,⟨HB.out⟩⟩
 case round=>
  clear H'
  obtain ⟨x6_1,x7_1,x1001_1,x1002_1,rfl,HA,HK1,HO_5,HO_6,BK428,HI0,HK,HB⟩:=hrel
  cases gk with
  | zero=>exact absurd HA.out (by simp [aE.l0])
  | succ k1=>
   have H:=HA.out
   clear HA
   simp only [aE.l0] at H
   by_cases c12 : x7_1 < (t435.length : Int)
   ·rw [if_pos c12] at H
    have c12b0:=decide_eq_true c12
    clear c12
    obtain ⟨c13,H⟩:=nn H
    have c13b0:=decide_eq_true c13
    clear c13
    replace H:=Option.bind_eq_some_iff.mp H
    obtain ⟨⟨t443,t444,t445⟩,A140,H⟩:=H
    dsimp only at H
    have A14:=M0 A140
    clear A140
    by_cases c15 : t443 = true
    ·subst c15
     have H1 : ((bw.f s0_0 t444 t445 2).bind fun bt446=>(if bt446.1 = true then ((ax.f s0_0 bt446.2.1 bt446.2.2 4).bind fun bt449=>((aN.f k1 s0_0 bt449.2.1 bt449.2.2 bt449.1).bind fun bt452=>(if x6_1.length < 5864062014805 then (aE.l0 k1 t435 (x6_1 ++ [(⟨false,bt452.1⟩ : S61)]) (wrap64 (x7_1 + 1)) s0_0 bt452.2.1 bt452.2.2) else (none)))) else (if x6_1.length < 5864062014805 then (aE.l0 k1 t435 (x6_1 ++ [(⟨false,rdOf ByteArray.empty t435 x7_1⟩ : S61)]) (wrap64 (x7_1 + 1)) s0_0 bt446.2.1 bt446.2.2) else (none)))) = some (r1,r2,r3):=by rw [if_pos rfl] at H;exact H
     clear H
     have H:=H1
     clear H1
     replace H:=Option.bind_eq_some_iff.mp H
     obtain ⟨⟨t446,t447,t448⟩,A160,H⟩:=H
     dsimp only at H
     have A16:=M0 A160
     clear A160
     by_cases c17 : t446 = true
     ·subst c17
      have H1 : ((ax.f s0_0 t447 t448 4).bind fun bt449=>((aN.f k1 s0_0 bt449.2.1 bt449.2.2 bt449.1).bind fun bt452=>(if x6_1.length < 5864062014805 then (aE.l0 k1 t435 (x6_1 ++ [(⟨false,bt452.1⟩ : S61)]) (wrap64 (x7_1 + 1)) s0_0 bt452.2.1 bt452.2.2) else (none)))) = some (r1,r2,r3):=by rw [if_pos rfl] at H;exact H
      clear H
      have H:=H1
      clear H1
      replace H:=Option.bind_eq_some_iff.mp H
      obtain ⟨⟨t449,t450,t451⟩,A180,H⟩:=H
      dsimp only at H
      have A18:=M0 A180
      clear A180
      replace H:=Option.bind_eq_some_iff.mp H
      obtain ⟨⟨t452,t453,t454⟩,A190,H⟩:=H
      dsimp only at H
      have A19:=M0 A190
      clear A190
      obtain ⟨c20,H⟩:=nn H
      have LMc20:=M0 c20
      clear c20
      obtain ⟨y455,hy455⟩ : ∃ y_ : List (S61),y_ = (x6_1 ++ [(⟨false,t452⟩ : S61)]):=⟨_,rfl⟩
      rw [← hy455] at H
      have Ny455:=M0 hy455
      clear hy455
      have H':=M0 H
      clear H
      obtain ⟨Ao21,co21,eo21⟩:=Kd.a9 HO_5.out
      subst eo21
      have p441 : 0 ≤ (x7_1 : Int):=of_decide_eq_true (by with_reducible assumption)
      have q441 : x7_1 < (t435.length : Int):=of_decide_eq_true (by with_reducible assumption)
      obtain ⟨ad441,e441,hx441_0⟩:=Kd.br (Kd.aA HO_5.out).2.2 x7_1 p441 q441
      cases e441
      replace p441:=eq_true p441
      replace q441:=eq_true q441
      go_wp2_with (first|((with_reducible refine aw (N:=8) rfl ?_);refine az rfl (N:=8) rfl (cs:=#[.bool false,.string (⟨#[]⟩ : ByteArray)]) (t:=61) (by go_simp) ?_;intro gb442 hg w22 hbox hb;replace HO_5:=M0 (Kd.aX HO_5.out hb);replace HO_6:=M0 (Kd.aX (Kd.R_elderB HO_6.out gb442 (Nat.le_of_eq hg.symm)) hb);replace HB:=M0 (ab HB.out hb);have BK442:=M0 (hbox);have GW442:=M0 ((by rw [hg];exact (ba (w:=w) (g:=g) (row:=none) HK.out) : w.heap.size ≤ gb442));have GE442:=M0 ((Nat.le_trans HW0.out (by rw [hg];exact (ba (w:=w) (g:=g) (row:=none) HK.out) : w.heap.size ≤ gb442) : w0.heap.size ≤ gb442));replace HK:=M0 (aj.trans HK.out (aj.bT hb g none) (.inl rfl));have NB428_442:=M0 ((by rw [hg];exact Nat.ne_of_lt (bS BK428.out) : gb428 ≠ gb442));replace BK428:=M0 (ag BK428.out hb);have NB0_442:=M0 ((by rw [hg];exact Nat.ne_of_lt (ak.lt (show ak w0 _ g s0_0 x1001_1 x1002_1 from HI0.out)) : g ≠ gb442));have NB442_0:=M0 NB0_442.out.symm;replace HI0:=M0 (ak.below HI0.out hb);clear hb hbox hg;have hcz25_0:=bcv (v:=.bool false) BK442.out 0 rfl;have hcz25_1:=bcv (v:=.string (⟨#[]⟩ : ByteArray)) BK442.out 1 rfl;have hfz25_0:=aa BK442.out 0;have hfz25_1:=aa BK442.out 1)|((with_reducible refine ah (f:=77) rfl ?_);refine aG (some 29) rfl rfl Try.func77 (by kernel_rfl) rfl #[.pointer (some ⟨g,0,none⟩),.int .i64 3] rfl (by (try simp only [List.map_toArray,List.map_cons,List.map_nil]);rfl) ?_;(with_reducible refine (bw.calls g s0_0 x1001_1 x1002_1 3 true t444 t445 w0 _ ?side1 ?side2 A14.out).mono ?_);(case side1=>repeat ((with_reducible first|exact HI0.out|refine ak.far ?_ NB0_442.out _)));(case side2=>repeat ((with_reducible first|exact HB.out|refine ay ?_ GE442.out)));rintro e w26 ⟨rfl,hi,hb,hk⟩;refine ⟨_,rfl,?_⟩;replace HO_5:=M0 (Kd.aI (Kd.cp (ak.apart (show ak w0 _ g s0_0 x1001_1 x1002_1 from by repeat ((with_reducible first|exact HI0.out|refine ak.far ?_ NB0_442.out _))) (by exact (Kd.aI (Kd.bb (p:=⟨gb442,1,none⟩) (Kd.bb (p:=⟨gb442,0,none⟩) (Kd.bE HO_5.out BK442.out (by decide)) (fun _ hk=>hk.2) (.bool true)) (fun _ hk=>hk.2) (.string (rdOf ByteArray.empty t435 x7_1))) (fun _ h_=>h_.1))) (by decide)) hk (fun _ h=>h.2)) (fun _ h=>h.1));replace HO_6:=M0 (Kd.aI (Kd.cp (ak.apart (show ak w0 _ g s0_0 x1001_1 x1002_1 from by repeat ((with_reducible first|exact HI0.out|refine ak.far ?_ NB0_442.out _))) (by exact (Kd.aI (Kd.bb (p:=⟨gb442,1,none⟩) (Kd.bb (p:=⟨gb442,0,none⟩) (Kd.aI HO_6.out (fun k_ hk=>(⟨hk,hk.2⟩ : _ ∧ k_ ≠ gb442))) (fun _ hk=>hk.2) (.bool true)) (fun _ hk=>hk.2) (.string (rdOf ByteArray.empty t435 x7_1))) (fun _ h_=>h_.1))) (by decide)) hk (fun _ h=>h.2)) (fun _ h=>h.1));replace BK428:=M0 (aj.blk hk (g':=gb428) (o:=.cells #[.int .i64 a1_0,.int .i64 a1_1,.int .i64 a1_2] 43 (0,0)) (by refine aU ?_ NB428_442.out _;refine aU ?_ NB428_442.out _;exact BK428.out) NB428_0.out (by simp));replace BK442:=M0 (aj.blk hk (g':=gb442) (o:=.cells #[.bool true,.string (rdOf ByteArray.empty t435 x7_1)] 61 (0,0)) (by refine aC (cs:=#[.bool true,.string (⟨#[]⟩ : ByteArray)]) ?_ 1 _ rfl;refine aC (cs:=#[.bool false,.string (⟨#[]⟩ : ByteArray)]) ?_ 0 _ rfl;exact BK442.out) NB442_0.out (by simp));replace HK:=M0 (aj.trans (by repeat ((with_reducible first|exact HK.out|refine b8 ?_ GW442.out _))) hk (.inl rfl));replace HB:=M0 (hb);replace HI0:=M0 (hi);clear hb hk hi;have hcz27_0:=bcv (v:=.bool true) BK442.out 0 rfl;have hfz27_0:=aa BK442.out 0)|((with_reducible refine ah (f:=77) rfl ?_);refine aG (some 32) rfl rfl Try.func77 (by kernel_rfl) rfl #[.pointer (some ⟨g,0,none⟩),.int .i64 2] rfl (by (try simp only [List.map_toArray,List.map_cons,List.map_nil]);rfl) ?_;(with_reducible refine (bw.calls g s0_0 t444 t445 2 true t447 t448 w0 _ ?side1 ?side2 A16.out).mono ?_);(case side1=>repeat ((with_reducible first|exact HI0.out|refine ak.far ?_ NB0_442.out _)));(case side2=>repeat ((with_reducible first|exact HB.out|refine ay ?_ GE442.out)));rintro e w28 ⟨rfl,hi,hb,hk⟩;refine ⟨_,rfl,?_⟩;replace HO_5:=M0 (Kd.aI (Kd.cp (ak.apart (show ak w0 _ g s0_0 t444 t445 from by repeat ((with_reducible first|exact HI0.out|refine ak.far ?_ NB0_442.out _))) (by exact (Kd.aI (Kd.bb (p:=⟨gb442,0,none⟩) (Kd.bE HO_5.out BK442.out (by decide)) (fun _ hk=>hk.2) (.bool false)) (fun _ h_=>h_.1))) (by decide)) hk (fun _ h=>h.2)) (fun _ h=>h.1));replace HO_6:=M0 (Kd.aI (Kd.cp (ak.apart (show ak w0 _ g s0_0 t444 t445 from by repeat ((with_reducible first|exact HI0.out|refine ak.far ?_ NB0_442.out _))) (by exact (Kd.aI (Kd.bb (p:=⟨gb442,0,none⟩) (Kd.aI HO_6.out (fun k_ hk=>(⟨hk,hk.2⟩ : _ ∧ k_ ≠ gb442))) (fun _ hk=>hk.2) (.bool false)) (fun _ h_=>h_.1))) (by decide)) hk (fun _ h=>h.2)) (fun _ h=>h.1));replace BK428:=M0 (aj.blk hk (g':=gb428) (o:=.cells #[.int .i64 a1_0,.int .i64 a1_1,.int .i64 a1_2] 43 (0,0)) (by refine aU ?_ NB428_442.out _;exact BK428.out) NB428_0.out (by simp));replace BK442:=M0 (aj.blk hk (g':=gb442) (o:=.cells #[.bool false,.string (rdOf ByteArray.empty t435 x7_1)] 61 (0,0)) (by refine aC (cs:=#[.bool true,.string (rdOf ByteArray.empty t435 x7_1)]) ?_ 0 _ rfl;exact BK442.out) NB442_0.out (by simp));replace HK:=M0 (aj.trans (by repeat ((with_reducible first|exact HK.out|refine b8 ?_ GW442.out _))) hk (.inl rfl));replace HB:=M0 (hb);replace HI0:=M0 (hi);clear hb hk hi)|((with_reducible refine ah (f:=75) rfl ?_);refine aG (some 35) rfl rfl Try.func75 (by kernel_rfl) rfl #[.pointer (some ⟨g,0,none⟩),.int .i64 4] rfl (by (try simp only [List.map_toArray,List.map_cons,List.map_nil]);rfl) ?_;(with_reducible refine (ax.calls g s0_0 t447 t448 4 t449 t450 t451 w0 _ HI0.out HB.out A18.out).mono ?_);rintro e w29 ⟨rfl,hi,hb,hk⟩;refine ⟨_,rfl,?_⟩;replace HO_5:=M0 (Kd.aI (Kd.cp (ak.apart (show ak w0 _ g s0_0 t447 t448 from HI0.out) HO_5.out (by decide)) hk (fun _ h=>h.2)) (fun _ h=>h.1));replace HO_6:=M0 (Kd.aI (Kd.cp (ak.apart (show ak w0 _ g s0_0 t447 t448 from HI0.out) HO_6.out (by decide)) hk (fun _ h=>h.2)) (fun _ h=>h.1));replace BK428:=M0 (aj.blk hk BK428.out NB428_0.out (by simp));replace BK442:=M0 (aj.blk hk BK442.out NB442_0.out (by simp));replace HK:=M0 (aj.trans HK.out hk (.inl rfl));replace HB:=M0 (hb);replace HI0:=M0 (hi);clear hb hk hi)|((with_reducible refine ah (f:=83) rfl ?_);refine aG (some 36) rfl rfl Try.func83 (by kernel_rfl) rfl #[.pointer (some ⟨g,0,none⟩),.int .i64 t449] rfl (by (try simp only [List.map_toArray,List.map_cons,List.map_nil]);rfl) ?_;(with_reducible refine (aN.calls k1 g s0_0 t450 t451 t449 t452 t453 t454 w0 _ HI0.out HB.out A19.out).mono ?_);rintro e w30 ⟨rfl,hi,hb,hk⟩;refine ⟨_,rfl,?_⟩;replace HO_5:=M0 (Kd.aI (Kd.cp (ak.apart (show ak w0 _ g s0_0 t450 t451 from HI0.out) HO_5.out (by decide)) hk (fun _ h=>h.2)) (fun _ h=>h.1));replace HO_6:=M0 (Kd.aI (Kd.cp (ak.apart (show ak w0 _ g s0_0 t450 t451 from HI0.out) HO_6.out (by decide)) hk (fun _ h=>h.2)) (fun _ h=>h.1));replace BK428:=M0 (aj.blk hk BK428.out NB428_0.out (by simp));replace BK442:=M0 (aj.blk hk BK442.out NB442_0.out (by simp));replace HK:=M0 (aj.trans HK.out hk (.inl rfl));replace HB:=M0 (hb);replace HI0:=M0 (hi);clear hb hk hi;have hcz31_0:=bcv (v:=.bool false) BK442.out 0 rfl;have hcz31_1:=bcv (v:=.string (rdOf ByteArray.empty t435 x7_1)) BK442.out 1 rfl;have hfz31_1:=aa BK442.out 1)|((with_reducible refine bV (b:=.append) (xs:=#[.tmp 38,.tmp 40]) rfl ?_);at_builtin;refine Kd.cQ k61 w.heap.size rfl (.tmp 38) (.tmp 40) 53 61 (.agg #[(.bool false),(.string ⟨#[]⟩)]) 24 rfl Try.underlying53 info61 rfl (by decide) (by omega) u6 x6_1 (⟨false,t452⟩ : S61) [.bool false,.string t452] (fun k_=>k_ ≠ gb442) (fun _=>False) rfl (by (go_simp;done)) ?aP (fun _ hk=>hk.elim) ?aF ?aO (Below.refl _ _) ?aS ?aL ?_;(case aP=>exact k61_mkM _ _ _ (⟨false,t452⟩ : S61));(case aF=>exact (fun k_ hk=>Kd.freshB (g:=gb442) (o:=.cells #[.bool false,.string t452] 61 (0,0)) (by refine aC (cs:=#[.bool false,.string (rdOf ByteArray.empty t435 x7_1)]) ?_ 1 _ rfl;exact BK442.out) k_ hk));(case aO=>exact (by exact Kd.aI (Kd.bb (p:=⟨gb442,1,none⟩) (Kd.aI HO_6.out (fun k_ hk=>(⟨hk,hk.2⟩ : _ ∧ k_ ≠ gb442))) (fun _ hk=>hk.2) (.string t452)) (fun _ hk=>hk.1.2)));(case aS=>exact (ba (w:=w) (g:=g) (row:=none) (by repeat ((with_reducible first|exact HK.out|refine b8 ?_ GW442.out _)))));(case aL=>have:=LMc20.out;omega);intro v456 w32 ho hb hg hat;rw [← Ny455.out] at ho;have n0_:=M0 (Kd.cW (by exact (Kd.aI (Kd.bb (p:=⟨gb442,1,none⟩) (Kd.bE HO_5.out BK442.out (by decide)) (fun _ hk=>hk.2) (.string t452)) (fun _ h_=>h_.1))) (Kd.cV (by exact (Kd.aI (Kd.bb (p:=⟨gb442,1,none⟩) (Kd.aI HO_6.out (fun k_ hk=>(⟨hk,hk.2⟩ : _ ∧ k_ ≠ gb442))) (fun _ hk=>hk.2) (.string t452)) (fun _ h_=>h_.1)))) (by decide) hg);have n1_:=M0 (bf (g:=gb428) (o:=.cells #[.int .i64 a1_0,.int .i64 a1_1,.int .i64 a1_2] 43 (0,0)) (by refine aU ?_ NB428_442.out _;exact BK428.out) hg (Kd.R_ne HO_6.out BK428.out (by decide)));have n2_:=M0 (ak.grown (by exact ak.far HI0.out NB0_442.out _) hg (ak.dZ HI0.out HO_6.out (by decide)));have n3_:=M0 (bf (g:=gb442) (o:=.cells #[.bool false,.string t452] 61 (0,0)) (by refine aC (cs:=#[.bool false,.string (rdOf ByteArray.empty t435 x7_1)]) ?_ 1 _ rfl;exact BK442.out) hg (Kd.R_away HO_6.out (fun _ hk=>hk.2)));have n4_:=M0 (cP (by repeat ((with_reducible first|exact HB.out|refine ay ?_ GE442.out))) HL.out hb);have n5_:=M0 (aj.trans (by repeat ((with_reducible first|exact HK.out|refine b8 ?_ GW442.out _))) (aj.dz hg g) (Kd.R_base2 HO_6.out));have n6_:=M0 (ho);clear HO_5 BK428 HI0 BK442 HB HK HO_6;have HO_5:=n0_;have BK428:=n1_;have HI0:=n2_;have BK442:=n3_;have HB:=n4_;have HK:=n5_;have HO457:=n6_;clear n0_ n1_ n2_ n3_ n4_ n5_ n6_ ho hb hg hat))
      go_roundg k1
      case measure=>have:=HK1.out;omega
      case rel=>exact ⟨(y455),(wrap64 (x7_1 + 1)),(t453),(t454),(by rfl),H',⟨by have:=HK1.out;omega⟩,⟨by exact HO_5.out⟩,⟨by exact Kd.aI HO457.out (fun _ hk=>trivial)⟩,⟨by exact BK428.out⟩,⟨HI0.out⟩,⟨HK.out⟩,⟨HB.out⟩⟩
     ·replace c17:=Bool.eq_false_iff.mpr c17
      subst c17
      have H1 : (if x6_1.length < 5864062014805 then (aE.l0 k1 t435 (x6_1 ++ [(⟨false,rdOf ByteArray.empty t435 x7_1⟩ : S61)]) (wrap64 (x7_1 + 1)) s0_0 t447 t448) else (none)) = some (r1,r2,r3):=by rw [if_neg (show ¬ (false = true) by decide)] at H;exact H
      clear H
      have H:=H1
      clear H1
      obtain ⟨c33,H⟩:=nn H
      have LMc33:=M0 c33
      clear c33
      obtain ⟨y458,hy458⟩ : ∃ y_ : List (S61),y_ = (x6_1 ++ [(⟨false,rdOf ByteArray.empty t435 x7_1⟩ : S61)]):=⟨_,rfl⟩
      rw [← hy458] at H
      have Ny458:=M0 hy458
      clear hy458
      have H':=M0 H
      clear H
      obtain ⟨Ao34,co34,eo34⟩:=Kd.a9 HO_5.out
      subst eo34
      have p441 : 0 ≤ (x7_1 : Int):=of_decide_eq_true (by with_reducible assumption)
      have q441 : x7_1 < (t435.length : Int):=of_decide_eq_true (by with_reducible assumption)
      obtain ⟨ad441,e441,hx441_0⟩:=Kd.br (Kd.aA HO_5.out).2.2 x7_1 p441 q441
      cases e441
      replace p441:=eq_true p441
      replace q441:=eq_true q441
      go_wp2_with (first|((with_reducible refine aw (N:=8) rfl ?_);refine az rfl (N:=8) rfl (cs:=#[.bool false,.string (⟨#[]⟩ : ByteArray)]) (t:=61) (by go_simp) ?_;intro gb442 hg w35 hbox hb;replace HO_5:=M0 (Kd.aX HO_5.out hb);replace HO_6:=M0 (Kd.aX (Kd.R_elderB HO_6.out gb442 (Nat.le_of_eq hg.symm)) hb);replace HB:=M0 (ab HB.out hb);have BK442:=M0 (hbox);have GW442:=M0 ((by rw [hg];exact (ba (w:=w) (g:=g) (row:=none) HK.out) : w.heap.size ≤ gb442));have GE442:=M0 ((Nat.le_trans HW0.out (by rw [hg];exact (ba (w:=w) (g:=g) (row:=none) HK.out) : w.heap.size ≤ gb442) : w0.heap.size ≤ gb442));replace HK:=M0 (aj.trans HK.out (aj.bT hb g none) (.inl rfl));have NB428_442:=M0 ((by rw [hg];exact Nat.ne_of_lt (bS BK428.out) : gb428 ≠ gb442));replace BK428:=M0 (ag BK428.out hb);have NB0_442:=M0 ((by rw [hg];exact Nat.ne_of_lt (ak.lt (show ak w0 _ g s0_0 x1001_1 x1002_1 from HI0.out)) : g ≠ gb442));have NB442_0:=M0 NB0_442.out.symm;replace HI0:=M0 (ak.below HI0.out hb);clear hb hbox hg;have hcz38_0:=bcv (v:=.bool false) BK442.out 0 rfl;have hcz38_1:=bcv (v:=.string (⟨#[]⟩ : ByteArray)) BK442.out 1 rfl;have hfz38_0:=aa BK442.out 0;have hfz38_1:=aa BK442.out 1)|((with_reducible refine ah (f:=77) rfl ?_);refine aG (some 29) rfl rfl Try.func77 (by kernel_rfl) rfl #[.pointer (some ⟨g,0,none⟩),.int .i64 3] rfl (by (try simp only [List.map_toArray,List.map_cons,List.map_nil]);rfl) ?_;(with_reducible refine (bw.calls g s0_0 x1001_1 x1002_1 3 true t444 t445 w0 _ ?side1 ?side2 A14.out).mono ?_);(case side1=>repeat ((with_reducible first|exact HI0.out|refine ak.far ?_ NB0_442.out _)));(case side2=>repeat ((with_reducible first|exact HB.out|refine ay ?_ GE442.out)));rintro e w39 ⟨rfl,hi,hb,hk⟩;refine ⟨_,rfl,?_⟩;replace HO_5:=M0 (Kd.aI (Kd.cp (ak.apart (show ak w0 _ g s0_0 x1001_1 x1002_1 from by repeat ((with_reducible first|exact HI0.out|refine ak.far ?_ NB0_442.out _))) (by exact (Kd.aI (Kd.bb (p:=⟨gb442,1,none⟩) (Kd.bb (p:=⟨gb442,0,none⟩) (Kd.bE HO_5.out BK442.out (by decide)) (fun _ hk=>hk.2) (.bool true)) (fun _ hk=>hk.2) (.string (rdOf ByteArray.empty t435 x7_1))) (fun _ h_=>h_.1))) (by decide)) hk (fun _ h=>h.2)) (fun _ h=>h.1));replace HO_6:=M0 (Kd.aI (Kd.cp (ak.apart (show ak w0 _ g s0_0 x1001_1 x1002_1 from by repeat ((with_reducible first|exact HI0.out|refine ak.far ?_ NB0_442.out _))) (by exact (Kd.aI (Kd.bb (p:=⟨gb442,1,none⟩) (Kd.bb (p:=⟨gb442,0,none⟩) (Kd.aI HO_6.out (fun k_ hk=>(⟨hk,hk.2⟩ : _ ∧ k_ ≠ gb442))) (fun _ hk=>hk.2) (.bool true)) (fun _ hk=>hk.2) (.string (rdOf ByteArray.empty t435 x7_1))) (fun _ h_=>h_.1))) (by decide)) hk (fun _ h=>h.2)) (fun _ h=>h.1));replace BK428:=M0 (aj.blk hk (g':=gb428) (o:=.cells #[.int .i64 a1_0,.int .i64 a1_1,.int .i64 a1_2] 43 (0,0)) (by refine aU ?_ NB428_442.out _;refine aU ?_ NB428_442.out _;exact BK428.out) NB428_0.out (by simp));replace BK442:=M0 (aj.blk hk (g':=gb442) (o:=.cells #[.bool true,.string (rdOf ByteArray.empty t435 x7_1)] 61 (0,0)) (by refine aC (cs:=#[.bool true,.string (⟨#[]⟩ : ByteArray)]) ?_ 1 _ rfl;refine aC (cs:=#[.bool false,.string (⟨#[]⟩ : ByteArray)]) ?_ 0 _ rfl;exact BK442.out) NB442_0.out (by simp));replace HK:=M0 (aj.trans (by repeat ((with_reducible first|exact HK.out|refine b8 ?_ GW442.out _))) hk (.inl rfl));replace HB:=M0 (hb);replace HI0:=M0 (hi);clear hb hk hi;have hcz40_0:=bcv (v:=.bool true) BK442.out 0 rfl;have hfz40_0:=aa BK442.out 0)|((with_reducible refine ah (f:=77) rfl ?_);refine aG (some 32) rfl rfl Try.func77 (by kernel_rfl) rfl #[.pointer (some ⟨g,0,none⟩),.int .i64 2] rfl (by (try simp only [List.map_toArray,List.map_cons,List.map_nil]);rfl) ?_;(with_reducible refine (bw.calls g s0_0 t444 t445 2 false t447 t448 w0 _ ?side1 ?side2 A16.out).mono ?_);(case side1=>repeat ((with_reducible first|exact HI0.out|refine ak.far ?_ NB0_442.out _)));(case side2=>repeat ((with_reducible first|exact HB.out|refine ay ?_ GE442.out)));rintro e w41 ⟨rfl,hi,hb,hk⟩;refine ⟨_,rfl,?_⟩;replace HO_5:=M0 (Kd.aI (Kd.cp (ak.apart (show ak w0 _ g s0_0 t444 t445 from by repeat ((with_reducible first|exact HI0.out|refine ak.far ?_ NB0_442.out _))) (by exact (Kd.aI (Kd.bb (p:=⟨gb442,0,none⟩) (Kd.bE HO_5.out BK442.out (by decide)) (fun _ hk=>hk.2) (.bool false)) (fun _ h_=>h_.1))) (by decide)) hk (fun _ h=>h.2)) (fun _ h=>h.1));replace HO_6:=M0 (Kd.aI (Kd.cp (ak.apart (show ak w0 _ g s0_0 t444 t445 from by repeat ((with_reducible first|exact HI0.out|refine ak.far ?_ NB0_442.out _))) (by exact (Kd.aI (Kd.bb (p:=⟨gb442,0,none⟩) (Kd.aI HO_6.out (fun k_ hk=>(⟨hk,hk.2⟩ : _ ∧ k_ ≠ gb442))) (fun _ hk=>hk.2) (.bool false)) (fun _ h_=>h_.1))) (by decide)) hk (fun _ h=>h.2)) (fun _ h=>h.1));replace BK428:=M0 (aj.blk hk (g':=gb428) (o:=.cells #[.int .i64 a1_0,.int .i64 a1_1,.int .i64 a1_2] 43 (0,0)) (by refine aU ?_ NB428_442.out _;exact BK428.out) NB428_0.out (by simp));replace BK442:=M0 (aj.blk hk (g':=gb442) (o:=.cells #[.bool false,.string (rdOf ByteArray.empty t435 x7_1)] 61 (0,0)) (by refine aC (cs:=#[.bool true,.string (rdOf ByteArray.empty t435 x7_1)]) ?_ 0 _ rfl;exact BK442.out) NB442_0.out (by simp));replace HK:=M0 (aj.trans (by repeat ((with_reducible first|exact HK.out|refine b8 ?_ GW442.out _))) hk (.inl rfl));replace HB:=M0 (hb);replace HI0:=M0 (hi);clear hb hk hi;have hcz42_0:=bcv (v:=.bool false) BK442.out 0 rfl;have hcz42_1:=bcv (v:=.string (rdOf ByteArray.empty t435 x7_1)) BK442.out 1 rfl)|((with_reducible refine bV (b:=.append) (xs:=#[.tmp 38,.tmp 40]) rfl ?_);at_builtin;refine Kd.cQ k61 w.heap.size rfl (.tmp 38) (.tmp 40) 53 61 (.agg #[(.bool false),(.string ⟨#[]⟩)]) 24 rfl Try.underlying53 info61 rfl (by decide) (by omega) u6 x6_1 (⟨false,rdOf ByteArray.empty t435 x7_1⟩ : S61) [.bool false,.string (rdOf ByteArray.empty t435 x7_1)] (fun k_=>k_ ≠ gb442) (fun _=>False) rfl rfl ?aP (fun _ hk=>hk.elim) ?aF ?aO (Below.refl _ _) ?aS ?aL ?_;(case aP=>exact k61_mkM _ _ _ (⟨false,rdOf ByteArray.empty t435 x7_1⟩ : S61));(case aF=>exact (fun k_ hk=>Kd.freshB (g:=gb442) (o:=.cells #[.bool false,.string (rdOf ByteArray.empty t435 x7_1)] 61 (0,0)) BK442.out k_ hk));(case aO=>exact (by exact Kd.aI HO_6.out (fun _ hk=>hk.2)));(case aS=>exact (ba (w:=w) (g:=g) (row:=none) HK.out));(case aL=>have:=LMc33.out;omega);intro v459 w43 ho hb hg hat;rw [← Ny458.out] at ho;have n0_:=M0 (Kd.cW HO_5.out (Kd.cV HO_6.out) (by decide) hg);have n1_:=M0 (bf (g:=gb428) (o:=.cells #[.int .i64 a1_0,.int .i64 a1_1,.int .i64 a1_2] 43 (0,0)) BK428.out hg (Kd.R_ne HO_6.out BK428.out (by decide)));have n2_:=M0 (ak.grown (by (repeat ((with_reducible exact HI0.out)))) hg (ak.dZ HI0.out HO_6.out (by decide)));have n3_:=M0 (bf (g:=gb442) (o:=.cells #[.bool false,.string (rdOf ByteArray.empty t435 x7_1)] 61 (0,0)) BK442.out hg (Kd.R_away HO_6.out (fun _ hk=>hk.2)));have n4_:=M0 (cP HB.out HL.out hb);have n5_:=M0 (aj.trans HK.out (aj.dz hg g) (Kd.R_base2 HO_6.out));have n6_:=M0 (ho);clear HO_5 BK428 HI0 BK442 HB HK HO_6;have HO_5:=n0_;have BK428:=n1_;have HI0:=n2_;have BK442:=n3_;have HB:=n4_;have HK:=n5_;have HO460:=n6_;clear n0_ n1_ n2_ n3_ n4_ n5_ n6_ ho hb hg hat))
      go_roundg k1
      case measure=>have:=HK1.out;omega
      case rel=>exact ⟨(y458),(wrap64 (x7_1 + 1)),(t447),(t448),(by rfl),H',⟨by have:=HK1.out;omega⟩,⟨by exact HO_5.out⟩,⟨by exact Kd.aI HO460.out (fun _ hk=>trivial)⟩,⟨by exact BK428.out⟩,⟨HI0.out⟩,⟨HK.out⟩,⟨HB.out⟩⟩
    ·replace c15:=Bool.eq_false_iff.mpr c15
     subst c15
     have H1 : (if x6_1.length < 5864062014805 then (aE.l0 k1 t435 (x6_1 ++ [(⟨true,rdOf ByteArray.empty t435 x7_1⟩ : S61)]) (wrap64 (x7_1 + 1)) s0_0 t444 t445) else (none)) = some (r1,r2,r3):=by rw [if_neg (show ¬ (false = true) by decide)] at H;exact H
     clear H
     have H:=H1
     clear H1
     obtain ⟨c44,H⟩:=nn H
     have LMc44:=M0 c44
     clear c44
     obtain ⟨y461,hy461⟩ : ∃ y_ : List (S61),y_ = (x6_1 ++ [(⟨true,rdOf ByteArray.empty t435 x7_1⟩ : S61)]):=⟨_,rfl⟩
     rw [← hy461] at H
     have Ny461:=M0 hy461
     clear hy461
     have H':=M0 H
     clear H
     obtain ⟨Ao45,co45,eo45⟩:=Kd.a9 HO_5.out
     subst eo45
     have p441 : 0 ≤ (x7_1 : Int):=of_decide_eq_true (by with_reducible assumption)
     have q441 : x7_1 < (t435.length : Int):=of_decide_eq_true (by with_reducible assumption)
     obtain ⟨ad441,e441,hx441_0⟩:=Kd.br (Kd.aA HO_5.out).2.2 x7_1 p441 q441
     cases e441
     replace p441:=eq_true p441
     replace q441:=eq_true q441
     go_wp2_with (first|((with_reducible refine aw (N:=8) rfl ?_);refine az rfl (N:=8) rfl (cs:=#[.bool false,.string (⟨#[]⟩ : ByteArray)]) (t:=61) (by go_simp) ?_;intro gb442 hg w46 hbox hb;replace HO_5:=M0 (Kd.aX HO_5.out hb);replace HO_6:=M0 (Kd.aX (Kd.R_elderB HO_6.out gb442 (Nat.le_of_eq hg.symm)) hb);replace HB:=M0 (ab HB.out hb);have BK442:=M0 (hbox);have GW442:=M0 ((by rw [hg];exact (ba (w:=w) (g:=g) (row:=none) HK.out) : w.heap.size ≤ gb442));have GE442:=M0 ((Nat.le_trans HW0.out (by rw [hg];exact (ba (w:=w) (g:=g) (row:=none) HK.out) : w.heap.size ≤ gb442) : w0.heap.size ≤ gb442));replace HK:=M0 (aj.trans HK.out (aj.bT hb g none) (.inl rfl));have NB428_442:=M0 ((by rw [hg];exact Nat.ne_of_lt (bS BK428.out) : gb428 ≠ gb442));replace BK428:=M0 (ag BK428.out hb);have NB0_442:=M0 ((by rw [hg];exact Nat.ne_of_lt (ak.lt (show ak w0 _ g s0_0 x1001_1 x1002_1 from HI0.out)) : g ≠ gb442));have NB442_0:=M0 NB0_442.out.symm;replace HI0:=M0 (ak.below HI0.out hb);clear hb hbox hg;have hcz49_0:=bcv (v:=.bool false) BK442.out 0 rfl;have hcz49_1:=bcv (v:=.string (⟨#[]⟩ : ByteArray)) BK442.out 1 rfl;have hfz49_0:=aa BK442.out 0;have hfz49_1:=aa BK442.out 1)|((with_reducible refine ah (f:=77) rfl ?_);refine aG (some 29) rfl rfl Try.func77 (by kernel_rfl) rfl #[.pointer (some ⟨g,0,none⟩),.int .i64 3] rfl (by (try simp only [List.map_toArray,List.map_cons,List.map_nil]);rfl) ?_;(with_reducible refine (bw.calls g s0_0 x1001_1 x1002_1 3 false t444 t445 w0 _ ?side1 ?side2 A14.out).mono ?_);(case side1=>repeat ((with_reducible first|exact HI0.out|refine ak.far ?_ NB0_442.out _)));(case side2=>repeat ((with_reducible first|exact HB.out|refine ay ?_ GE442.out)));rintro e w50 ⟨rfl,hi,hb,hk⟩;refine ⟨_,rfl,?_⟩;replace HO_5:=M0 (Kd.aI (Kd.cp (ak.apart (show ak w0 _ g s0_0 x1001_1 x1002_1 from by repeat ((with_reducible first|exact HI0.out|refine ak.far ?_ NB0_442.out _))) (by exact (Kd.aI (Kd.bb (p:=⟨gb442,1,none⟩) (Kd.bb (p:=⟨gb442,0,none⟩) (Kd.bE HO_5.out BK442.out (by decide)) (fun _ hk=>hk.2) (.bool true)) (fun _ hk=>hk.2) (.string (rdOf ByteArray.empty t435 x7_1))) (fun _ h_=>h_.1))) (by decide)) hk (fun _ h=>h.2)) (fun _ h=>h.1));replace HO_6:=M0 (Kd.aI (Kd.cp (ak.apart (show ak w0 _ g s0_0 x1001_1 x1002_1 from by repeat ((with_reducible first|exact HI0.out|refine ak.far ?_ NB0_442.out _))) (by exact (Kd.aI (Kd.bb (p:=⟨gb442,1,none⟩) (Kd.bb (p:=⟨gb442,0,none⟩) (Kd.aI HO_6.out (fun k_ hk=>(⟨hk,hk.2⟩ : _ ∧ k_ ≠ gb442))) (fun _ hk=>hk.2) (.bool true)) (fun _ hk=>hk.2) (.string (rdOf ByteArray.empty t435 x7_1))) (fun _ h_=>h_.1))) (by decide)) hk (fun _ h=>h.2)) (fun _ h=>h.1));replace BK428:=M0 (aj.blk hk (g':=gb428) (o:=.cells #[.int .i64 a1_0,.int .i64 a1_1,.int .i64 a1_2] 43 (0,0)) (by refine aU ?_ NB428_442.out _;refine aU ?_ NB428_442.out _;exact BK428.out) NB428_0.out (by simp));replace BK442:=M0 (aj.blk hk (g':=gb442) (o:=.cells #[.bool true,.string (rdOf ByteArray.empty t435 x7_1)] 61 (0,0)) (by refine aC (cs:=#[.bool true,.string (⟨#[]⟩ : ByteArray)]) ?_ 1 _ rfl;refine aC (cs:=#[.bool false,.string (⟨#[]⟩ : ByteArray)]) ?_ 0 _ rfl;exact BK442.out) NB442_0.out (by simp));replace HK:=M0 (aj.trans (by repeat ((with_reducible first|exact HK.out|refine b8 ?_ GW442.out _))) hk (.inl rfl));replace HB:=M0 (hb);replace HI0:=M0 (hi);clear hb hk hi;have hcz51_0:=bcv (v:=.bool true) BK442.out 0 rfl;have hcz51_1:=bcv (v:=.string (rdOf ByteArray.empty t435 x7_1)) BK442.out 1 rfl)|((with_reducible refine bV (b:=.append) (xs:=#[.tmp 38,.tmp 40]) rfl ?_);at_builtin;refine Kd.cQ k61 w.heap.size rfl (.tmp 38) (.tmp 40) 53 61 (.agg #[(.bool false),(.string ⟨#[]⟩)]) 24 rfl Try.underlying53 info61 rfl (by decide) (by omega) u6 x6_1 (⟨true,rdOf ByteArray.empty t435 x7_1⟩ : S61) [.bool true,.string (rdOf ByteArray.empty t435 x7_1)] (fun k_=>k_ ≠ gb442) (fun _=>False) rfl rfl ?aP (fun _ hk=>hk.elim) ?aF ?aO (Below.refl _ _) ?aS ?aL ?_;(case aP=>exact k61_mkM _ _ _ (⟨true,rdOf ByteArray.empty t435 x7_1⟩ : S61));(case aF=>exact (fun k_ hk=>Kd.freshB (g:=gb442) (o:=.cells #[.bool true,.string (rdOf ByteArray.empty t435 x7_1)] 61 (0,0)) BK442.out k_ hk));(case aO=>exact (by exact Kd.aI HO_6.out (fun _ hk=>hk.2)));(case aS=>exact (ba (w:=w) (g:=g) (row:=none) HK.out));(case aL=>have:=LMc44.out;omega);intro v462 w52 ho hb hg hat;rw [← Ny461.out] at ho;have n0_:=M0 (Kd.cW HO_5.out (Kd.cV HO_6.out) (by decide) hg);have n1_:=M0 (bf (g:=gb428) (o:=.cells #[.int .i64 a1_0,.int .i64 a1_1,.int .i64 a1_2] 43 (0,0)) BK428.out hg (Kd.R_ne HO_6.out BK428.out (by decide)));have n2_:=M0 (ak.grown (by (repeat ((with_reducible exact HI0.out)))) hg (ak.dZ HI0.out HO_6.out (by decide)));have n3_:=M0 (bf (g:=gb442) (o:=.cells #[.bool true,.string (rdOf ByteArray.empty t435 x7_1)] 61 (0,0)) BK442.out hg (Kd.R_away HO_6.out (fun _ hk=>hk.2)));have n4_:=M0 (cP HB.out HL.out hb);have n5_:=M0 (aj.trans HK.out (aj.dz hg g) (Kd.R_base2 HO_6.out));have n6_:=M0 (ho);clear HO_5 BK428 HI0 BK442 HB HK HO_6;have HO_5:=n0_;have BK428:=n1_;have HI0:=n2_;have BK442:=n3_;have HB:=n4_;have HK:=n5_;have HO463:=n6_;clear n0_ n1_ n2_ n3_ n4_ n5_ n6_ ho hb hg hat))
     go_roundg k1
     case measure=>have:=HK1.out;omega
     case rel=>exact ⟨(y461),(wrap64 (x7_1 + 1)),(t444),(t445),(by rfl),H',⟨by have:=HK1.out;omega⟩,⟨by exact HO_5.out⟩,⟨by exact Kd.aI HO463.out (fun _ hk=>trivial)⟩,⟨by exact BK428.out⟩,⟨HI0.out⟩,⟨HK.out⟩,⟨HB.out⟩⟩
   ·rw [if_neg c12] at H
    have c12b0:=decide_eq_false c12
    clear c12
    simp only [Option.some.injEq,Prod.mk.injEq] at H
    obtain ⟨rfl,rfl,rfl⟩:=H
    obtain ⟨Ao53,co53,eo53⟩:=Kd.a9 HO_5.out
    subst eo53
    go_wp2
    go_ret
    exact ⟨_,by rfl,by exact HO_6.out,HI0.out,HB.out,HK.out⟩

end Go.Proofs.Ytffhbpepppodeaa.PFnDecoded
