import Derived.Test.YtffhbpepppodeaaPFnDecodedx0
import Derived.Test.YtffhbpepppodeaaPFnDecodedx5
namespace Go.Proofs.Ytffhbpepppodeaa.PFnDecoded
private theorem nn {α : Type} {c : Prop} [Decidable c] {a : Option α} {r : α} (h : (if c then a else none) = some r) : c ∧ a = some r:=by
 split at h
 ·exact ⟨‹c›,h⟩
 ·cases h
open Go.RowKit Go.Proofs.YtffhbpepppodeaaW.PrintWords Go.Proofs.YtffhbpepppodeaaW.PrintLast Go.Proofs.YtffhbpepppodeaaW.PrintMore
attribute [local go_sem] cJ cL dn dp cw cy cM cN   -- for this text's walks alone
set_option linter.unusedVariables false
set_option linter.unusedSimpArgs false

/-! ### bP: function 103 -/
def bP.l0 : Nat → List (S61) → List ByteArray → List Bool → Int → Option (List ByteArray × List Bool)
 | 0,_,_,_,_=>none
 | k + 1,x0,x4,x5,x6=>if x6 < (x0.length : Int) then (if 0 ≤ x6 then (if x4.length < 8796093022208 then (if x5.length < 140737488355328 then (bP.l0 k x0 (x4 ++ [(bj x0 x6).f1]) (x5 ++ [(bj x0 x6).f0]) (wrap64 (x6 + 1))) else (none)) else (none)) else (none)) else (some (x4,x5))
def bP.f (k : Nat) (l0 : List (S61)) : Option (List ByteArray × List Bool):=bP.l0 k l0 (([] : List ByteArray)) (([] : List Bool)) 0
set_option maxHeartbeats 8000000 in
set_option maxRecDepth 100000 in
theorem bP.calls (k : Nat) (A0 : Option Addr) (c0 : Nat) (l0 : List (S61)) (r1 : List ByteArray) (r2 : List Bool) (w : World) (hr0 : Kd.C k61 w A0 l0.length l0) (hc0 : l0.length ≤ c0) (h : bP.f k l0 = some (r1,r2)) :
  Calls Try.prog 103 #[.slice A0 l0.length c0] w fun e w'=>∃ v0_ v1_ : Value,e = .returned (.tuple #[v0_,v1_]) ∧ Kd.R Kd.string 9 w' w.heap.size (fun _=>True) v0_ r1 ∧ Kd.R Kd.bool 4 w' w.heap.size (fun _=>True) v1_ r2 ∧ Below w.heap.size w w':=by
 have HR0:=M0 hr0
 have HC0:=M0 hc0
 clear hr0 hc0
 have HB:=M0 (Below.refl w.heap.size w)
 have H : (bP.l0 k l0 (([] : List ByteArray)) (([] : List Bool)) 0) = some (r1,r2):=h
 clear h
 obtain ⟨y233,hy233⟩ : ∃ y_ : List ByteArray,y_ = (([] : List ByteArray)):=⟨_,rfl⟩
 rw [← hy233] at H
 have Ny233:=M0 hy233
 clear hy233
 obtain ⟨y236,hy236⟩ : ∃ y_ : List Bool,y_ = (([] : List Bool)):=⟨_,rfl⟩
 rw [← hy236] at H
 have Ny236:=M0 hy236
 clear hy236
 have H':=M0 H
 clear H
 go_enter Try.func103,Try.ntmps103
 go_wp2_with (first|((with_reducible refine aw (N:=7) rfl ?_);refine Kd.dR Kd.string _ 9 ?hg (N:=7) ?hd (xs:=([] : List ByteArray)) (inner:=[]) (ok:=fun _=>True) (okp:=fun _=>True) ?hr ?hp (fun _ hk=>hk) trivial (Below.refl _ _) (Nat.le_refl _) (by simp) ?_;(case hd=>rfl);(case hg=>rfl);(case hr=>(go_simp;done));(case hp=>exact (Reps.none _ _));intro v234 w2 ho3 hb hg_ hnew_;clear hg_ hnew_;(rw [← Ny233.out] at ho3);have HO235:=M0 (Kd.bh ho3 (av HB.out));replace HB:=M0 (ab HB.out hb);clear hb ho3)|((with_reducible refine aw (N:=8) rfl ?_);refine Kd.dR Kd.bool _ 4 ?hg (N:=8) ?hd (xs:=([] : List Bool)) (inner:=[]) (ok:=fun _=>True) (okp:=fun _=>True) ?hr ?hp (fun _ hk=>hk) trivial (Below.refl _ _) (Nat.le_refl _) (by simp) ?_;(case hd=>rfl);(case hg=>rfl);(case hr=>(go_simp;done));(case hp=>exact (Reps.none _ _));intro v237 w4 ho5 hb hg_ hnew_;clear hg_ hnew_;(rw [← Ny236.out] at ho5);replace HO235:=M0 (Kd.aX HO235.out hb);have HO238:=M0 (Kd.bh ho5 (av HB.out));replace HB:=M0 (ab HB.out hb);clear hb ho5))
 go_loopg [4,5,6] k (fun kq v4 v5 v6 w'=>∃ (x4_1 : List ByteArray) (x5_1 : List Bool) (x6_1 : Int),v6 = .int .i64 x6_1 ∧ Aside0 (bP.l0 kq l0 x4_1 x5_1 x6_1 = some (r1,r2)) ∧ Aside0 (kq ≤ k) ∧ Aside0 (Kd.R Kd.string 9 w' w.heap.size (fun _=>True) v4 x4_1) ∧ Aside0 (Kd.R Kd.bool 4 w' w.heap.size (fun _=>True) v5 x5_1) ∧ Aside0 (Below w.heap.size w w'))
 case atStart=>exact ⟨(y233),(y236),(0),(by rfl),H',⟨Nat.le_refl _⟩,⟨by exact HO235.out⟩,⟨by exact HO238.out⟩,⟨HB.out⟩⟩
 case round=>
  clear H'
  obtain ⟨x4_1,x5_1,x6_1,rfl,HA,HK1,HO_4,HO_5,HB⟩:=hrel
  cases gk with
  | zero=>exact absurd HA.out (by simp [bP.l0])
  | succ k1=>
   have H:=HA.out
   clear HA
   simp only [bP.l0] at H
   by_cases c6 : x6_1 < (l0.length : Int)
   ·rw [if_pos c6] at H
    have c6b0:=decide_eq_true c6
    clear c6
    obtain ⟨c7,H⟩:=nn H
    have c7b0:=decide_eq_true c7
    clear c7
    obtain ⟨c8,H⟩:=nn H
    have LMc8:=M0 c8
    clear c8
    obtain ⟨y240,hy240⟩ : ∃ y_ : List ByteArray,y_ = (x4_1 ++ [(bj l0 x6_1).f1]):=⟨_,rfl⟩
    rw [← hy240] at H
    have Ny240:=M0 hy240
    clear hy240
    obtain ⟨c9,H⟩:=nn H
    have LMc9:=M0 c9
    clear c9
    obtain ⟨y244,hy244⟩ : ∃ y_ : List Bool,y_ = (x5_1 ++ [(bj l0 x6_1).f0]):=⟨_,rfl⟩
    rw [← hy244] at H
    have Ny244:=M0 hy244
    clear hy244
    have H':=M0 H
    clear H
    have p239 : 0 ≤ (x6_1 : Int):=of_decide_eq_true (by with_reducible assumption)
    have q239 : x6_1 < (l0.length : Int):=of_decide_eq_true (by with_reducible assumption)
    obtain ⟨ad239,e239,hx239_0,hx239_1⟩:=at_T61 HR0.out x6_1 p239 q239
    cases e239
    replace hx239_0:=(HB.out.cell (World.block_lt_of_cell? w _ hx239_0)).trans hx239_0
    replace hx239_1:=(HB.out.cell (World.block_lt_of_cell? w _ hx239_1)).trans hx239_1
    replace p239:=eq_true p239
    replace q239:=eq_true q239
    go_wp2_with (first|((with_reducible refine bV (b:=.append) (xs:=#[.tmp 15,.tmp 21]) rfl ?_);at_builtin;refine Kd.cQ Kd.string (w0:=w) w.heap.size rfl (.tmp 15) (.tmp 21) 56 9 (.string ⟨#[]⟩) 16 rfl Try.underlying56 info9 rfl (by decide) (by omega) u4 x4_1 ((bj l0 x6_1).f1) [.string ((bj l0 x6_1).f1)] (fun _=>True) (fun _=>False) rfl rfl ?aP (fun _ hk=>hk.elim) ?aF ?aO ?aB ?aS ?aL ?_;(case aP=>exact rfl);(case aB=>exact HB.out);(case aF=>exact (fun _ _=>trivial));(case aO=>exact HO_4.out);(case aS=>exact (av HB.out));(case aL=>have:=LMc8.out;omega);intro v241 w10 ho hb hg hat;rw [← Ny240.out] at ho;have n0_:=M0 (Kd.cW HO_5.out (Kd.cV HO_4.out) (by decide) hg);have n1_:=M0 (hb);have n2_:=M0 (ho);clear HO_5 HB HO_4;have HO_5:=n0_;have HB:=n1_;have HO242:=n2_;clear n0_ n1_ n2_ ho hb hg hat;have p243 : 0 ≤ (x6_1 : Int):=of_decide_eq_true (by with_reducible assumption);have q243 : x6_1 < (l0.length : Int):=of_decide_eq_true (by with_reducible assumption);obtain ⟨ad243,e243,hx243_0,hx243_1⟩:=at_T61 HR0.out x6_1 p243 q243;obtain rfl : ad239 = ad243:=(by injection e243);replace hx243_0:=(HB.out.cell (World.block_lt_of_cell? w _ hx243_0)).trans hx243_0;replace hx243_1:=(HB.out.cell (World.block_lt_of_cell? w _ hx243_1)).trans hx243_1;replace p243:=eq_true p243;replace q243:=eq_true q243)|((with_reducible refine bV (b:=.append) (xs:=#[.tmp 23,.tmp 29]) rfl ?_);at_builtin;refine Kd.cQ Kd.bool (w0:=w) w.heap.size rfl (.tmp 23) (.tmp 29) 72 4 (.bool false) 1 rfl Try.underlying72 info4 rfl (by decide) (by omega) u5 x5_1 ((bj l0 x6_1).f0) [.bool ((bj l0 x6_1).f0)] (fun _=>True) (fun _=>False) rfl rfl ?aP (fun _ hk=>hk.elim) ?aF ?aO ?aB ?aS ?aL ?_;(case aP=>exact rfl);(case aB=>exact HB.out);(case aF=>exact (fun _ _=>trivial));(case aO=>exact HO_5.out);(case aS=>exact (av HB.out));(case aL=>have:=LMc9.out;omega);intro v245 w11 ho hb hg hat;rw [← Ny244.out] at ho;have n0_:=M0 (Kd.cW HO242.out (Kd.cV HO_5.out) (by decide) hg);have n1_:=M0 (hb);have n2_:=M0 (ho);clear HO242 HB HO_5;have HO242:=n0_;have HB:=n1_;have HO246:=n2_;clear n0_ n1_ n2_ ho hb hg hat))
    go_roundg k1
    case measure=>have:=HK1.out;omega
    case rel=>exact ⟨(y240),(y244),(wrap64 (x6_1 + 1)),(by rfl),H',⟨by have:=HK1.out;omega⟩,⟨by exact HO242.out⟩,⟨by exact HO246.out⟩,⟨HB.out⟩⟩
   ·rw [if_neg c6] at H
    have c6b0:=decide_eq_false c6
    clear c6
    simp only [Option.some.injEq,Prod.mk.injEq] at H
    obtain ⟨rfl,rfl⟩:=H
    go_wp2
    go_ret2
    exact ⟨_,_,by rfl,by exact HO_4.out,by exact HO_5.out,HB.out⟩

/-! ### aQ: function 24 -/
mutual
def aQ.j0 : Nat → Bool → Int → Int → List Int → Option (Int)
 | 0,_,_,_,_=>none
 | k + 1,x32,x248000,x248001,x248002=>if x32 = true then (some 1) else (aQ.l0 k 0 x248000 x248001 x248002)
def aQ.l0 : Nat → Int → Int → Int → List Int → Option (Int)
 | 0,_,_,_,_=>none
 | k + 1,x3,x248000,x248001,x248002=>if x3 < (x248002.length : Int) then (if 0 ≤ x3 then ((bI.f (rd x248002 x3) 256).bind fun t249=>(if t249 = true then (aQ.l0 k (wrap64 (x3 + 1)) x248000 x248001 x248002) else (some 1))) else (none)) else (some 0)
end
def aQ.f (k : Nat) (a0_0 : Int) (a0_1 : Int) (l0_2 : List Int) : Option (Int):=if a0_0 < 1 then (aQ.j0 k true a0_0 a0_1 l0_2) else (if a0_0 > 64 then (aQ.j0 k true a0_0 a0_1 l0_2) else (if a0_1 < 1 then (aQ.j0 k true a0_0 a0_1 l0_2) else (if a0_1 > 64 then (aQ.j0 k true a0_0 a0_1 l0_2) else (aQ.j0 k ((l0_2.length : Int) != (wrap64 (a0_0 * a0_1))) a0_0 a0_1 l0_2))))
set_option maxHeartbeats 8000000 in
set_option maxRecDepth 100000 in
theorem aQ.calls (k : Nat) (a0_0 : Int) (a0_1 : Int) (A0_2 : Option Addr) (c0_2 : Nat) (l0_2 : List Int) (r : Int) (w : World) (hr0_2 : Kd.C (Kd.int .i64) w A0_2 l0_2.length l0_2) (hc0_2 : l0_2.length ≤ c0_2) (h : aQ.f k a0_0 a0_1 l0_2 = some r) :
  Calls Try.prog 24 #[.agg #[.int .i64 a0_0,.int .i64 a0_1,.slice A0_2 l0_2.length c0_2]] w fun e w'=>e = .returned (.int .i64 r) ∧ Below w.heap.size w w':=by
 have HR0_2:=M0 hr0_2
 have HC0_2:=M0 hc0_2
 clear hr0_2 hc0_2
 have HB:=M0 (Below.refl w.heap.size w)
 have H : (if a0_0 < 1 then (aQ.j0 k true a0_0 a0_1 l0_2) else (if a0_0 > 64 then (aQ.j0 k true a0_0 a0_1 l0_2) else (if a0_1 < 1 then (aQ.j0 k true a0_0 a0_1 l0_2) else (if a0_1 > 64 then (aQ.j0 k true a0_0 a0_1 l0_2) else (aQ.j0 k ((l0_2.length : Int) != (wrap64 (a0_0 * a0_1))) a0_0 a0_1 l0_2))))) = some r:=h
 clear h
 have HC2:=M0 H
 clear H
 go_enter Try.func24,Try.ntmps24
 go_upto_region 1 with (((with_reducible refine aw (N:=1) rfl ?_);(try (refine al (by rfl) ?_;dsimp only));refine az rfl (N:=1) rfl (cs:=#[.int .i64 a0_0,.int .i64 a0_1,.slice A0_2 l0_2.length c0_2]) (t:=27) (by go_simp) ?_;intro gb247 hg w3 hbox hb;have BK247:=M0 (hbox);replace HB:=M0 (ab HB.out hb);clear hb hbox hg))
 go_cut [32] (fun v32 wc=>∃ (kq : Nat) (x32_1 : Bool),v32 = .bool x32_1 ∧ Aside0 (aQ.j0 kq x32_1 a0_0 a0_1 l0_2 = some r) ∧ Aside0 (kq ≤ k) ∧ Aside0 (wc.heap[gb247]? = some (.cells #[.int .i64 a0_0,.int .i64 a0_1,(.slice A0_2 l0_2.length c0_2)] 27 (0,0))) ∧ Aside0 (Below w.heap.size w wc))
 case first=>
  have H:=HC2.out
  clear HC2
  by_cases c4 : a0_0 < 1
  ·rw [if_pos c4] at H
   have c4b0:=decide_eq_true c4
   clear c4
   (skip)
   have H':=M0 H
   clear H
   have hcz5_0:=bcv (v:=.int .i64 a0_0) BK247.out 0 rfl
   go_wp2
   go_meet
   case rel=>exact ⟨_,(true),(by rfl),H',⟨by omega⟩,⟨by exact BK247.out⟩,⟨HB.out⟩⟩
  ·rw [if_neg c4] at H
   have c4b0:=decide_eq_false c4
   clear c4
   (skip)
   by_cases c6 : a0_0 > 64
   ·rw [if_pos c6] at H
    have c6b0:=decide_eq_true c6
    clear c6
    have H':=M0 H
    clear H
    have hcz7_0:=bcv (v:=.int .i64 a0_0) BK247.out 0 rfl
    go_wp2
    go_meet
    case rel=>exact ⟨_,(true),(by rfl),H',⟨by omega⟩,⟨by exact BK247.out⟩,⟨HB.out⟩⟩
   ·rw [if_neg c6] at H
    have c6b0:=decide_eq_false c6
    clear c6
    by_cases c8 : a0_1 < 1
    ·rw [if_pos c8] at H
     have c8b0:=decide_eq_true c8
     clear c8
     have H':=M0 H
     clear H
     have hcz9_0:=bcv (v:=.int .i64 a0_0) BK247.out 0 rfl
     have hcz9_1:=bcv (v:=.int .i64 a0_1) BK247.out 1 rfl
     go_wp2
     go_meet
     case rel=>exact ⟨_,(true),(by rfl),H',⟨by omega⟩,⟨by exact BK247.out⟩,⟨HB.out⟩⟩
    ·rw [if_neg c8] at H
     have c8b0:=decide_eq_false c8
     clear c8
     by_cases c10 : a0_1 > 64
     ·rw [if_pos c10] at H
      have c10b0:=decide_eq_true c10
      clear c10
      have H':=M0 H
      clear H
      have hcz11_0:=bcv (v:=.int .i64 a0_0) BK247.out 0 rfl
      have hcz11_1:=bcv (v:=.int .i64 a0_1) BK247.out 1 rfl
      go_wp2
      go_meet
      case rel=>exact ⟨_,(true),(by rfl),H',⟨by omega⟩,⟨by exact BK247.out⟩,⟨HB.out⟩⟩
     ·rw [if_neg c10] at H
      have c10b0:=decide_eq_false c10
      clear c10
      have H':=M0 H
      clear H
      have hcz12_0:=bcv (v:=.int .i64 a0_0) BK247.out 0 rfl
      have hcz12_1:=bcv (v:=.int .i64 a0_1) BK247.out 1 rfl
      have hcz12_2:=bcv (v:=.slice A0_2 l0_2.length c0_2) BK247.out 2 rfl
      go_wp2
      go_meet
      case rel=>exact ⟨_,(((l0_2.length : Int) != (wrap64 (a0_0 * a0_1)))),(by rfl),H',⟨by omega⟩,⟨by exact BK247.out⟩,⟨HB.out⟩⟩
 case rest=>
  clear HC2
  obtain ⟨kq,x32_1,rfl,HA,HJ1,BK247,HB⟩:=hcut
  cases kq with
  | zero=>exact absurd HA.out (by simp [aQ.j0])
  | succ kj1=>
   have H:=HA.out
   clear HA
   simp only [aQ.j0] at H
   by_cases c13 : x32_1 = true
   ·subst c13
    have H1 : (some 1) = some r:=by rw [if_pos rfl] at H;exact H
    clear H
    have H:=H1
    clear H1
    obtain rfl:=Option.some.inj H
    go_wp2
    go_ret
    exact ⟨by rfl,HB.out⟩
   ·replace c13:=Bool.eq_false_iff.mpr c13
    subst c13
    have H1 : (aQ.l0 kj1 0 a0_0 a0_1 l0_2) = some r:=by rw [if_neg (show ¬ (false = true) by decide)] at H;exact H
    clear H
    have H:=H1
    clear H1
    have H':=M0 H
    clear H
    go_wp2
    go_loopg [3] kj1 (fun kq v3 w'=>∃ (x3_2 : Int),v3 = .int .i64 x3_2 ∧ Aside0 (aQ.l0 kq x3_2 a0_0 a0_1 l0_2 = some r) ∧ Aside0 (kq ≤ kj1) ∧ Aside0 (w'.heap[gb247]? = some (.cells #[.int .i64 a0_0,.int .i64 a0_1,(.slice A0_2 l0_2.length c0_2)] 27 (0,0))) ∧ Aside0 (Below w.heap.size w w'))
    case atStart=>exact ⟨(0),(by rfl),H',⟨Nat.le_refl _⟩,⟨by exact BK247.out⟩,⟨HB.out⟩⟩
    case round=>
     clear H'
     obtain ⟨x3_2,rfl,HA,HK2,BK247,HB⟩:=hrel
     cases gk with
     | zero=>exact absurd HA.out (by simp [aQ.l0])
     | succ k2=>
      have H:=HA.out
      clear HA
      simp only [aQ.l0] at H
      by_cases c14 : x3_2 < (l0_2.length : Int)
      ·rw [if_pos c14] at H
       have c14b0:=decide_eq_true c14
       clear c14
       obtain ⟨c15,H⟩:=nn H
       have c15b0:=decide_eq_true c15
       clear c15
       replace H:=Option.bind_eq_some_iff.mp H
       obtain ⟨t249,A160,H⟩:=H
       replace H : (if t249 = true then (aQ.l0 k2 (wrap64 (x3_2 + 1)) a0_0 a0_1 l0_2) else (some 1)) = some r:=H
       have A16:=M0 A160
       clear A160
       by_cases c17 : t249 = true
       ·subst c17
        have H1 : (aQ.l0 k2 (wrap64 (x3_2 + 1)) a0_0 a0_1 l0_2) = some r:=by rw [if_pos rfl] at H;exact H
        clear H
        have H:=H1
        clear H1
        have H':=M0 H
        clear H
        have hcz18_2:=bcv (v:=.slice A0_2 l0_2.length c0_2) BK247.out 2 rfl
        have p248 : 0 ≤ (x3_2 : Int):=of_decide_eq_true (by with_reducible assumption)
        have q248 : x3_2 < (l0_2.length : Int):=of_decide_eq_true (by with_reducible assumption)
        obtain ⟨ad248,e248,hx248_0⟩:=Kd.dB HR0_2.out x3_2 p248 q248
        cases e248
        replace hx248_0:=(HB.out.cell (World.block_lt_of_cell? w _ hx248_0)).trans hx248_0
        replace p248:=eq_true p248
        replace q248:=eq_true q248
        go_wp2_with (((with_reducible refine ah (f:=79) rfl ?_);refine aG (some 45) rfl rfl Try.func79 (by kernel_rfl) rfl #[.int .i64 (rd l0_2 x3_2),.int .i64 256] rfl (by (try simp only [List.map_toArray,List.map_cons,List.map_nil]);rfl) ?_;(with_reducible refine (bI.calls (rd l0_2 x3_2) 256 true _ A16.out).mono ?_);rintro e w' ⟨rfl,⟨nd,rfl⟩⟩;refine ⟨_,rfl,?_⟩))
        go_roundg k2
        case measure=>have:=HJ1.out;have:=HK2.out;omega
        case rel=>exact ⟨(wrap64 (x3_2 + 1)),(by rfl),H',⟨by have:=HJ1.out;have:=HK2.out;omega⟩,⟨by (with_reducible repeat (refine bx ?_ _));exact BK247.out⟩,⟨by repeat ((with_reducible first|exact HB.out|apply aK))⟩⟩
       ·replace c17:=Bool.eq_false_iff.mpr c17
        subst c17
        have H1 : (some 1) = some r:=by rw [if_neg (show ¬ (false = true) by decide)] at H;exact H
        clear H
        have H:=H1
        clear H1
        obtain rfl:=Option.some.inj H
        have hcz19_2:=bcv (v:=.slice A0_2 l0_2.length c0_2) BK247.out 2 rfl
        have p248 : 0 ≤ (x3_2 : Int):=of_decide_eq_true (by with_reducible assumption)
        have q248 : x3_2 < (l0_2.length : Int):=of_decide_eq_true (by with_reducible assumption)
        obtain ⟨ad248,e248,hx248_0⟩:=Kd.dB HR0_2.out x3_2 p248 q248
        cases e248
        replace hx248_0:=(HB.out.cell (World.block_lt_of_cell? w _ hx248_0)).trans hx248_0
        replace p248:=eq_true p248
        replace q248:=eq_true q248
        go_wp2_with (((with_reducible refine ah (f:=79) rfl ?_);refine aG (some 45) rfl rfl Try.func79 (by kernel_rfl) rfl #[.int .i64 (rd l0_2 x3_2),.int .i64 256] rfl (by (try simp only [List.map_toArray,List.map_cons,List.map_nil]);rfl) ?_;(with_reducible refine (bI.calls (rd l0_2 x3_2) 256 false _ A16.out).mono ?_);rintro e w' ⟨rfl,⟨nd,rfl⟩⟩;refine ⟨_,rfl,?_⟩))
        go_ret
        exact ⟨by rfl,by repeat ((with_reducible first|exact HB.out|apply aK))⟩
      ·rw [if_neg c14] at H
       have c14b0:=decide_eq_false c14
       clear c14
       obtain rfl:=Option.some.inj H
       have hcz20_2:=bcv (v:=.slice A0_2 l0_2.length c0_2) BK247.out 2 rfl
       go_wp2
       go_ret
       exact ⟨by rfl,HB.out⟩

/-! ### cG: function 66 -/
def cG.f (a0 : Int) (a1 : Int) : Option (Int × Int × List Int):=if 0 ≤ (wrap64 (a0 * a1)) then (if (wrap64 (a0 * a1) : Int).toNat ≤ 35184372088832 then (some (a0,a1,(List.replicate (wrap64 (a0 * a1) : Int).toNat 0))) else (none)) else (none)
set_option maxHeartbeats 8000000 in
set_option maxRecDepth 100000 in
theorem cG.calls (a0 : Int) (a1 : Int) (r1 : Int) (r2 : Int) (r3 : List Int) (w : World) (h : cG.f a0 a1 = some (r1,r2,r3)) :
  Calls Try.prog 66 #[.int .i64 a0,.int .i64 a1] w fun e w'=>∃ v2_ : Value,e = .returned (.agg #[.int .i64 r1,.int .i64 r2,v2_]) ∧ Kd.R (Kd.int .i64) 2 w' w.heap.size (fun _=>True) v2_ r3 ∧ Below w.heap.size w w':=by
 have HB:=M0 (Below.refl w.heap.size w)
 have H : (if 0 ≤ (wrap64 (a0 * a1)) then (if (wrap64 (a0 * a1) : Int).toNat ≤ 35184372088832 then (some (a0,a1,(List.replicate (wrap64 (a0 * a1) : Int).toNat 0))) else (none)) else (none)) = some (r1,r2,r3):=h
 clear h
 obtain ⟨ji3,hji3⟩ : ∃ j_ : Int,(wrap64 (a0 * a1)) = j_:=⟨_,rfl⟩
 replace H : (if 0 ≤ (ji3) then (if (ji3 : Int).toNat ≤ 35184372088832 then (some (a0,a1,(List.replicate (ji3 : Int).toNat 0))) else (none)) else (none)) = some (r1,r2,r3):=by (rw [hji3] at H;exact H)
 have hji3w : (IntKind.i64.wrap (a0 * a1)) = ji3:=(ae _).trans hji3
 obtain ⟨c4,H⟩:=nn H
 have c4b1:=decide_eq_true c4
 clear c4
 obtain ⟨c5,H⟩:=nn H
 have c5b1:=decide_eq_true c5
 clear c5
 obtain ⟨y251,hy251⟩ : ∃ y_ : List Int,y_ = (List.replicate (ji3 : Int).toNat 0):=⟨_,rfl⟩
 rw [← hy251] at H
 have Ny251:=M0 hy251
 clear hy251
 simp only [Option.some.injEq,Prod.mk.injEq] at H
 obtain ⟨rfl,rfl,rfl⟩:=H
 go_enter Try.func66,Try.ntmps66
 go_wp2_with (first|((with_reducible refine aw (N:=4) rfl ?_);refine az rfl (N:=4) rfl (cs:=#[.int .i64 0,.int .i64 0,.slice none 0 0]) (t:=27) (by go_simp) ?_;intro gb250 hg w6 hbox hb;have BK250:=M0 (hbox);have GW250:=M0 ((by rw [hg];exact (av HB.out) : w.heap.size ≤ gb250));have GE250:=GW250;replace HB:=M0 (ab HB.out hb);clear hb hbox hg)|((with_reducible refine aw (N:=10) rfl ?_);refine Kd.ec (Kd.int .i64) _ 2 rfl (N:=10) rfl 22 _ _ rfl ji3 rfl rfl Try.underlying22 (.int .i64 0) 8 dY rfl (by decide) (by omega) 0 (ok:=fun _=>True) (okp:=fun _=>True) rfl (fun _ hk=>hk) trivial (of_decide_eq_true (by with_reducible assumption)) (Nat.le_trans (Nat.mul_le_mul_right _ (of_decide_eq_true (by with_reducible assumption) : ji3.toNat ≤ 35184372088832)) (by omega)) (Below.refl _ _) (Nat.le_refl _) ?_;intro v252 w7 ho8 hb hg_ hnew_;clear hg_ hnew_;(rw [← Ny251.out] at ho8);have HO253:=M0 (Kd.bh ho8 (av HB.out));replace BK250:=M0 (ag BK250.out hb);replace HB:=M0 (ab HB.out hb);clear hb ho8;obtain ⟨Ao9,co9,eo9⟩:=Kd.a9 HO253.out;subst eo9;have hcz10_0:=bcv (v:=.int .i64 0) BK250.out 0 rfl;have hcz10_1:=bcv (v:=.int .i64 0) BK250.out 1 rfl;have hcz10_2:=bcv (v:=.slice none 0 0) BK250.out 2 rfl;have hfz10_0:=aa BK250.out 0;have hfz10_1:=aa BK250.out 1;have hfz10_2:=aa BK250.out 2))
 refine bodyPost_ret (results_cell_row rfl _ _ gb250 27 #[.int .i64 a0,.int .i64 a1,.slice Ao9 y251.length co9] (0,0) _ rfl (by refine aC (cs:=#[.int .i64 a0,.int .i64 a1,.slice none 0 0]) ?_ 2 _ rfl;refine aC (cs:=#[.int .i64 a0,.int .i64 0,.slice none 0 0]) ?_ 1 _ rfl;refine aC (cs:=#[.int .i64 0,.int .i64 0,.slice none 0 0]) ?_ 0 _ rfl;exact BK250.out) Try.underlying27 rfl (by kernel_rfl)) rfl ?_
 exact ⟨_,by rfl,by exact Kd.aI (Kd.bb (p:=⟨gb250,2,none⟩) (Kd.bb (p:=⟨gb250,1,none⟩) (Kd.bb (p:=⟨gb250,0,none⟩) (Kd.bE HO253.out BK250.out (by decide)) (fun _ hk=>hk.2) (.int .i64 a0)) (fun _ hk=>hk.2) (.int .i64 a1)) (fun _ hk=>hk.2) (.slice Ao9 y251.length co9)) (fun _ hk=>trivial),by repeat ((with_reducible first|exact HB.out|refine ay ?_ GE250.out))⟩

end Go.Proofs.Ytffhbpepppodeaa.PFnDecoded
