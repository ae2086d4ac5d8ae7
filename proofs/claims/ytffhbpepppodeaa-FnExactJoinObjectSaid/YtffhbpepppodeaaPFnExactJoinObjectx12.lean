import Derived.Test.YtffhbpepppodeaaPFnExactJoinObjectx0
import Derived.Test.YtffhbpepppodeaaPFnExactJoinObjectx5
namespace Go.Proofs.Ytffhbpepppodeaa.PFnExactJoinObject
private theorem nn {α : Type} {c : Prop} [Decidable c] {a : Option α} {r : α} (h : (if c then a else none) = some r) : c ∧ a = some r:=by
 split at h
 ·exact ⟨‹c›,h⟩
 ·cases h
open Go.RowKit Go.Proofs.YtffhbpepppodeaaW.PrintWords Go.Proofs.YtffhbpepppodeaaW.PrintLast Go.Proofs.YtffhbpepppodeaaW.PrintMore
attribute [local go_sem] cF cG cW cX cn cp cI cJ   -- for this text's walks alone
set_option linter.unusedVariables false
set_option linter.unusedSimpArgs false

/-! ### bL: function 103 -/
def bL.l0 : Nat → List (S61) → List ByteArray → List Bool → Int → Option (List ByteArray × List Bool)
 | 0,_,_,_,_=>none
 | k + 1,x0,x4,x5,x6=>if x6 < (x0.length : Int) then (if 0 ≤ x6 then (if x4.length < 8796093022208 then (if x5.length < 140737488355328 then (bL.l0 k x0 (x4 ++ [(bf x0 x6).f1]) (x5 ++ [(bf x0 x6).f0]) (wrap64 (x6 + 1))) else (none)) else (none)) else (none)) else (some (x4,x5))
def bL.f (k : Nat) (l0 : List (S61)) : Option (List ByteArray × List Bool):=bL.l0 k l0 (([] : List ByteArray)) (([] : List Bool)) 0
set_option maxHeartbeats 8000000 in
set_option maxRecDepth 100000 in
theorem bL.calls (k : Nat) (A0 : Option Addr) (c0 : Nat) (l0 : List (S61)) (r1 : List ByteArray) (r2 : List Bool) (w : World) (hr0 : Kd.C k61 w A0 l0.length l0) (hc0 : l0.length ≤ c0) (h : bL.f k l0 = some (r1,r2)) :
  Calls Try.prog 103 #[.slice A0 l0.length c0] w fun e w'=>∃ v0_ v1_ : Value,e = .returned (.tuple #[v0_,v1_]) ∧ Kd.R Kd.string 9 w' w.heap.size (fun _=>True) v0_ r1 ∧ Kd.R Kd.bool 4 w' w.heap.size (fun _=>True) v1_ r2 ∧ Below w.heap.size w w':=by
 have HR0:=M0 hr0
 have HC0:=M0 hc0
 clear hr0 hc0
 have HB:=M0 (Below.refl w.heap.size w)
 have H : (bL.l0 k l0 (([] : List ByteArray)) (([] : List Bool)) 0) = some (r1,r2):=h
 clear h
 obtain ⟨y269,hy269⟩ : ∃ y_ : List ByteArray,y_ = (([] : List ByteArray)):=⟨_,rfl⟩
 rw [← hy269] at H
 have Ny269:=M0 hy269
 clear hy269
 obtain ⟨y272,hy272⟩ : ∃ y_ : List Bool,y_ = (([] : List Bool)):=⟨_,rfl⟩
 rw [← hy272] at H
 have Ny272:=M0 hy272
 clear hy272
 have H':=M0 H
 clear H
 go_enter Try.func103,Try.ntmps103
 go_wp2_with (first|((with_reducible refine ak (N:=7) rfl ?_);refine Kd.R_lit Kd.string _ 9 ?hg (N:=7) ?hd (xs:=([] : List ByteArray)) (inner:=[]) (ok:=fun _=>True) (okp:=fun _=>True) ?hr ?hp (fun _ hk=>hk) trivial (Below.refl _ _) (Nat.le_refl _) (by simp) ?_;(case hd=>rfl);(case hg=>rfl);(case hr=>(go_simp;done));(case hp=>exact (Reps.none _ _));intro v270 w2 ho3 hb hg_ hnew_;clear hg_ hnew_;(rw [← Ny269.out] at ho3);have HO271:=M0 (Kd.bj ho3 (aj HB.out));replace HB:=M0 (aa HB.out hb);clear hb ho3)|((with_reducible refine ak (N:=8) rfl ?_);refine Kd.R_lit Kd.bool _ 4 ?hg (N:=8) ?hd (xs:=([] : List Bool)) (inner:=[]) (ok:=fun _=>True) (okp:=fun _=>True) ?hr ?hp (fun _ hk=>hk) trivial (Below.refl _ _) (Nat.le_refl _) (by simp) ?_;(case hd=>rfl);(case hg=>rfl);(case hr=>(go_simp;done));(case hp=>exact (Reps.none _ _));intro v273 w4 ho5 hb hg_ hnew_;clear hg_ hnew_;(rw [← Ny272.out] at ho5);replace HO271:=M0 (Kd.aK HO271.out hb);have HO274:=M0 (Kd.bj ho5 (aj HB.out));replace HB:=M0 (aa HB.out hb);clear hb ho5))
 go_loopg [4,5,6] k (fun kq v4 v5 v6 w'=>∃ (x4_1 : List ByteArray) (x5_1 : List Bool) (x6_1 : Int),v6 = .int .i64 x6_1 ∧ Aside0 (bL.l0 kq l0 x4_1 x5_1 x6_1 = some (r1,r2)) ∧ Aside0 (kq ≤ k) ∧ Aside0 (Kd.R Kd.string 9 w' w.heap.size (fun _=>True) v4 x4_1) ∧ Aside0 (Kd.R Kd.bool 4 w' w.heap.size (fun _=>True) v5 x5_1) ∧ Aside0 (Below w.heap.size w w'))
 case atStart=>exact ⟨(y269),(y272),(0),(by rfl),H',⟨Nat.le_refl _⟩,⟨by exact HO271.out⟩,⟨by exact HO274.out⟩,⟨HB.out⟩⟩
 case round=>
  clear H'
  obtain ⟨x4_1,x5_1,x6_1,rfl,HA,HK1,HO_4,HO_5,HB⟩:=hrel
  cases gk with
  | zero=>exact absurd HA.out (by simp [bL.l0])
  | succ k1=>
   have H:=HA.out
   clear HA
   simp only [bL.l0] at H
   by_cases c6 : x6_1 < (l0.length : Int)
   ·rw [if_pos c6] at H
    have c6b0:=decide_eq_true c6
    clear c6
    obtain ⟨c7,H⟩:=nn H
    have c7b0:=decide_eq_true c7
    clear c7
    obtain ⟨c8,H⟩:=nn H
    have LMc8:=M0 c8
    clear c8
    obtain ⟨y276,hy276⟩ : ∃ y_ : List ByteArray,y_ = (x4_1 ++ [(bf l0 x6_1).f1]):=⟨_,rfl⟩
    rw [← hy276] at H
    have Ny276:=M0 hy276
    clear hy276
    obtain ⟨c9,H⟩:=nn H
    have LMc9:=M0 c9
    clear c9
    obtain ⟨y280,hy280⟩ : ∃ y_ : List Bool,y_ = (x5_1 ++ [(bf l0 x6_1).f0]):=⟨_,rfl⟩
    rw [← hy280] at H
    have Ny280:=M0 hy280
    clear hy280
    have H':=M0 H
    clear H
    have p275 : 0 ≤ (x6_1 : Int):=of_decide_eq_true (by with_reducible assumption)
    have q275 : x6_1 < (l0.length : Int):=of_decide_eq_true (by with_reducible assumption)
    obtain ⟨ad275,e275,hx275_0,hx275_1⟩:=at_T61 HR0.out x6_1 p275 q275
    cases e275
    replace hx275_0:=(HB.out.cell (World.block_lt_of_cell? w _ hx275_0)).trans hx275_0
    replace hx275_1:=(HB.out.cell (World.block_lt_of_cell? w _ hx275_1)).trans hx275_1
    replace p275:=eq_true p275
    replace q275:=eq_true q275
    go_wp2_with (first|((with_reducible refine dw (b:=.append) (xs:=#[.tmp 15,.tmp 21]) rfl ?_);at_builtin;refine Kd.R_append Kd.string (w0:=w) w.heap.size rfl (.tmp 15) (.tmp 21) 56 9 (.string ⟨#[]⟩) 16 rfl Try.underlying56 info9 rfl (by decide) (by omega) u4 x4_1 ((bf l0 x6_1).f1) [.string ((bf l0 x6_1).f1)] (fun _=>True) (fun _=>False) rfl rfl ?aP (fun _ hk=>hk.elim) ?aF ?aO ?aB ?aS ?aL ?_;(case aP=>exact rfl);(case aB=>exact HB.out);(case aF=>exact (fun _ _=>trivial));(case aO=>exact HO_4.out);(case aS=>exact (aj HB.out));(case aL=>have:=LMc8.out;omega);intro v277 w10 ho hb hg hat;rw [← Ny276.out] at ho;have n0_:=M0 (Kd.df HO_5.out (Kd.cV HO_4.out) (by decide) hg);have n1_:=M0 (hb);have n2_:=M0 (ho);clear HO_5 HB HO_4;have HO_5:=n0_;have HB:=n1_;have HO278:=n2_;clear n0_ n1_ n2_ ho hb hg hat;have p279 : 0 ≤ (x6_1 : Int):=of_decide_eq_true (by with_reducible assumption);have q279 : x6_1 < (l0.length : Int):=of_decide_eq_true (by with_reducible assumption);obtain ⟨ad279,e279,hx279_0,hx279_1⟩:=at_T61 HR0.out x6_1 p279 q279;obtain rfl : ad275 = ad279:=(by injection e279);replace hx279_0:=(HB.out.cell (World.block_lt_of_cell? w _ hx279_0)).trans hx279_0;replace hx279_1:=(HB.out.cell (World.block_lt_of_cell? w _ hx279_1)).trans hx279_1;replace p279:=eq_true p279;replace q279:=eq_true q279)|((with_reducible refine dw (b:=.append) (xs:=#[.tmp 23,.tmp 29]) rfl ?_);at_builtin;refine Kd.R_append Kd.bool (w0:=w) w.heap.size rfl (.tmp 23) (.tmp 29) 72 4 (.bool false) 1 rfl Try.underlying72 info4 rfl (by decide) (by omega) u5 x5_1 ((bf l0 x6_1).f0) [.bool ((bf l0 x6_1).f0)] (fun _=>True) (fun _=>False) rfl rfl ?aP (fun _ hk=>hk.elim) ?aF ?aO ?aB ?aS ?aL ?_;(case aP=>exact rfl);(case aB=>exact HB.out);(case aF=>exact (fun _ _=>trivial));(case aO=>exact HO_5.out);(case aS=>exact (aj HB.out));(case aL=>have:=LMc9.out;omega);intro v281 w11 ho hb hg hat;rw [← Ny280.out] at ho;have n0_:=M0 (Kd.df HO278.out (Kd.cV HO_5.out) (by decide) hg);have n1_:=M0 (hb);have n2_:=M0 (ho);clear HO278 HB HO_5;have HO278:=n0_;have HB:=n1_;have HO282:=n2_;clear n0_ n1_ n2_ ho hb hg hat))
    go_roundg k1
    case measure=>have:=HK1.out;omega
    case rel=>exact ⟨(y276),(y280),(wrap64 (x6_1 + 1)),(by rfl),H',⟨by have:=HK1.out;omega⟩,⟨by exact HO278.out⟩,⟨by exact HO282.out⟩,⟨HB.out⟩⟩
   ·rw [if_neg c6] at H
    have c6b0:=decide_eq_false c6
    clear c6
    simp only [Option.some.injEq,Prod.mk.injEq] at H
    obtain ⟨rfl,rfl⟩:=H
    go_wp2
    go_ret2
    exact ⟨_,_,by rfl,by exact HO_4.out,by exact HO_5.out,HB.out⟩

/-! ### aI: function 24 -/
mutual
def aI.j0 : Nat → Bool → Int → Int → List Int → Option (Int)
 | 0,_,_,_,_=>none
 | k + 1,x32,x284000,x284001,x284002=>if x32 = true then (some 1) else (aI.l0 k 0 x284000 x284001 x284002)
def aI.l0 : Nat → Int → Int → Int → List Int → Option (Int)
 | 0,_,_,_,_=>none
 | k + 1,x3,x284000,x284001,x284002=>if x3 < (x284002.length : Int) then (if 0 ≤ x3 then ((bE.f (rd x284002 x3) 256).bind fun t285=>(if t285 = true then (aI.l0 k (wrap64 (x3 + 1)) x284000 x284001 x284002) else (some 1))) else (none)) else (some 0)
end
def aI.f (k : Nat) (a0_0 : Int) (a0_1 : Int) (l0_2 : List Int) : Option (Int):=if a0_0 < 1 then (aI.j0 k true a0_0 a0_1 l0_2) else (if a0_0 > 64 then (aI.j0 k true a0_0 a0_1 l0_2) else (if a0_1 < 1 then (aI.j0 k true a0_0 a0_1 l0_2) else (if a0_1 > 64 then (aI.j0 k true a0_0 a0_1 l0_2) else (aI.j0 k ((l0_2.length : Int) != (wrap64 (a0_0 * a0_1))) a0_0 a0_1 l0_2))))
set_option maxHeartbeats 8000000 in
set_option maxRecDepth 100000 in
theorem aI.calls (k : Nat) (a0_0 : Int) (a0_1 : Int) (A0_2 : Option Addr) (c0_2 : Nat) (l0_2 : List Int) (r : Int) (w : World) (hr0_2 : Kd.C (Kd.int .i64) w A0_2 l0_2.length l0_2) (hc0_2 : l0_2.length ≤ c0_2) (h : aI.f k a0_0 a0_1 l0_2 = some r) :
  Calls Try.prog 24 #[.agg #[.int .i64 a0_0,.int .i64 a0_1,.slice A0_2 l0_2.length c0_2]] w fun e w'=>e = .returned (.int .i64 r) ∧ Below w.heap.size w w':=by
 have HR0_2:=M0 hr0_2
 have HC0_2:=M0 hc0_2
 clear hr0_2 hc0_2
 have HB:=M0 (Below.refl w.heap.size w)
 have H : (if a0_0 < 1 then (aI.j0 k true a0_0 a0_1 l0_2) else (if a0_0 > 64 then (aI.j0 k true a0_0 a0_1 l0_2) else (if a0_1 < 1 then (aI.j0 k true a0_0 a0_1 l0_2) else (if a0_1 > 64 then (aI.j0 k true a0_0 a0_1 l0_2) else (aI.j0 k ((l0_2.length : Int) != (wrap64 (a0_0 * a0_1))) a0_0 a0_1 l0_2))))) = some r:=h
 clear h
 have HC2:=M0 H
 clear H
 go_enter Try.func24,Try.ntmps24
 go_upto_region 1 with (((with_reducible refine ak (N:=1) rfl ?_);(try (refine au (by rfl) ?_;dsimp only));refine aw rfl (N:=1) rfl (cs:=#[.int .i64 a0_0,.int .i64 a0_1,.slice A0_2 l0_2.length c0_2]) (t:=27) (by go_simp) ?_;intro gb283 hg w3 hbox hb;have BK283:=M0 (hbox);replace HB:=M0 (aa HB.out hb);clear hb hbox hg))
 go_cut [32] (fun v32 wc=>∃ (kq : Nat) (x32_1 : Bool),v32 = .bool x32_1 ∧ Aside0 (aI.j0 kq x32_1 a0_0 a0_1 l0_2 = some r) ∧ Aside0 (kq ≤ k) ∧ Aside0 (wc.heap[gb283]? = some (.cells #[.int .i64 a0_0,.int .i64 a0_1,(.slice A0_2 l0_2.length c0_2)] 27 (0,0))) ∧ Aside0 (Below w.heap.size w wc))
 case first=>
  have H:=HC2.out
  clear HC2
  by_cases c4 : a0_0 < 1
  ·rw [if_pos c4] at H
   have c4b0:=decide_eq_true c4
   clear c4
   (skip)
   have H':=M0 H
   clear H
   have hcz5_0:=bcv (v:=.int .i64 a0_0) BK283.out 0 rfl
   go_wp2
   go_meet
   case rel=>exact ⟨_,(true),(by rfl),H',⟨by omega⟩,⟨by exact BK283.out⟩,⟨HB.out⟩⟩
  ·rw [if_neg c4] at H
   have c4b0:=decide_eq_false c4
   clear c4
   (skip)
   by_cases c6 : a0_0 > 64
   ·rw [if_pos c6] at H
    have c6b0:=decide_eq_true c6
    clear c6
    have H':=M0 H
    clear H
    have hcz7_0:=bcv (v:=.int .i64 a0_0) BK283.out 0 rfl
    go_wp2
    go_meet
    case rel=>exact ⟨_,(true),(by rfl),H',⟨by omega⟩,⟨by exact BK283.out⟩,⟨HB.out⟩⟩
   ·rw [if_neg c6] at H
    have c6b0:=decide_eq_false c6
    clear c6
    by_cases c8 : a0_1 < 1
    ·rw [if_pos c8] at H
     have c8b0:=decide_eq_true c8
     clear c8
     have H':=M0 H
     clear H
     have hcz9_0:=bcv (v:=.int .i64 a0_0) BK283.out 0 rfl
     have hcz9_1:=bcv (v:=.int .i64 a0_1) BK283.out 1 rfl
     go_wp2
     go_meet
     case rel=>exact ⟨_,(true),(by rfl),H',⟨by omega⟩,⟨by exact BK283.out⟩,⟨HB.out⟩⟩
    ·rw [if_neg c8] at H
     have c8b0:=decide_eq_false c8
     clear c8
     by_cases c10 : a0_1 > 64
     ·rw [if_pos c10] at H
      have c10b0:=decide_eq_true c10
      clear c10
      have H':=M0 H
      clear H
      have hcz11_0:=bcv (v:=.int .i64 a0_0) BK283.out 0 rfl
      have hcz11_1:=bcv (v:=.int .i64 a0_1) BK283.out 1 rfl
      go_wp2
      go_meet
      case rel=>exact ⟨_,(true),(by rfl),H',⟨by omega⟩,⟨by exact BK283.out⟩,⟨HB.out⟩⟩
     ·rw [if_neg c10] at H
      have c10b0:=decide_eq_false c10
      clear c10
      have H':=M0 H
      clear H
      have hcz12_0:=bcv (v:=.int .i64 a0_0) BK283.out 0 rfl
      have hcz12_1:=bcv (v:=.int .i64 a0_1) BK283.out 1 rfl
      have hcz12_2:=bcv (v:=.slice A0_2 l0_2.length c0_2) BK283.out 2 rfl
      go_wp2
      go_meet
      case rel=>exact ⟨_,(((l0_2.length : Int) != (wrap64 (a0_0 * a0_1)))),(by rfl),H',⟨by omega⟩,⟨by exact BK283.out⟩,⟨HB.out⟩⟩
 case rest=>
  clear HC2
  obtain ⟨kq,x32_1,rfl,HA,HJ1,BK283,HB⟩:=hcut
  cases kq with
  | zero=>exact absurd HA.out (by simp [aI.j0])
  | succ kj1=>
   have H:=HA.out
   clear HA
   simp only [aI.j0] at H
   by_cases c13 : x32_1 = true
   ·subst c13
    have H1 : (some 1) = some r:=by rw [if_pos rfl] at H;exact H
    clear H
    have H:=H1
    clear H1
    obtain rfl:=Option.some.inj H
    go_wp2
    go_ret
    exact ⟨by rfl,HB.out⟩
   ·replace c13:=Bool.eq_false_iff.mpr c13
    subst c13
    have H1 : (aI.l0 kj1 0 a0_0 a0_1 l0_2) = some r:=by rw [if_neg (show ¬ (false = true) by decide)] at H;exact H
    clear H
    have H:=H1
    clear H1
    have H':=M0 H
    clear H
    go_wp2
    go_loopg [3] kj1 (fun kq v3 w'=>∃ (x3_2 : Int),v3 = .int .i64 x3_2 ∧ Aside0 (aI.l0 kq x3_2 a0_0 a0_1 l0_2 = some r) ∧ Aside0 (kq ≤ kj1) ∧ Aside0 (w'.heap[gb283]? = some (.cells #[.int .i64 a0_0,.int .i64 a0_1,(.slice A0_2 l0_2.length c0_2)] 27 (0,0))) ∧ Aside0 (Below w.heap.size w w'))
    case atStart=>exact ⟨(0),(by rfl),H',⟨Nat.le_refl _⟩,⟨by exact BK283.out⟩,⟨HB.out⟩⟩
    case round=>
     clear H'
     obtain ⟨x3_2,rfl,HA,HK2,BK283,HB⟩:=hrel
     cases gk with
     | zero=>exact absurd HA.out (by simp [aI.l0])
     | succ k2=>
      have H:=HA.out
      clear HA
      simp only [aI.l0] at H
      by_cases c14 : x3_2 < (l0_2.length : Int)
      ·rw [if_pos c14] at H
       have c14b0:=decide_eq_true c14
       clear c14
       obtain ⟨c15,H⟩:=nn H
       have c15b0:=decide_eq_true c15
       clear c15
       replace H:=Option.bind_eq_some_iff.mp H
       obtain ⟨t285,A160,H⟩:=H
       replace H : (if t285 = true then (aI.l0 k2 (wrap64 (x3_2 + 1)) a0_0 a0_1 l0_2) else (some 1)) = some r:=H
       have A16:=M0 A160
       clear A160
       by_cases c17 : t285 = true
       ·subst c17
        have H1 : (aI.l0 k2 (wrap64 (x3_2 + 1)) a0_0 a0_1 l0_2) = some r:=by rw [if_pos rfl] at H;exact H
        clear H
        have H:=H1
        clear H1
        have H':=M0 H
        clear H
        have hcz18_2:=bcv (v:=.slice A0_2 l0_2.length c0_2) BK283.out 2 rfl
        have p284 : 0 ≤ (x3_2 : Int):=of_decide_eq_true (by with_reducible assumption)
        have q284 : x3_2 < (l0_2.length : Int):=of_decide_eq_true (by with_reducible assumption)
        obtain ⟨ad284,e284,hx284_0⟩:=Kd.at_int HR0_2.out x3_2 p284 q284
        cases e284
        replace hx284_0:=(HB.out.cell (World.block_lt_of_cell? w _ hx284_0)).trans hx284_0
        replace p284:=eq_true p284
        replace q284:=eq_true q284
        go_wp2_with (((with_reducible refine ah (f:=79) rfl ?_);refine aH (some 45) rfl rfl Try.func79 (by kernel_rfl) rfl #[.int .i64 (rd l0_2 x3_2),.int .i64 256] rfl (by (try simp only [List.map_toArray,List.map_cons,List.map_nil]);rfl) ?_;(with_reducible refine (bE.calls (rd l0_2 x3_2) 256 true _ A16.out).mono ?_);rintro e w' ⟨rfl,⟨nd,rfl⟩⟩;refine ⟨_,rfl,?_⟩))
        go_roundg k2
        case measure=>have:=HJ1.out;have:=HK2.out;omega
        case rel=>exact ⟨(wrap64 (x3_2 + 1)),(by rfl),H',⟨by have:=HJ1.out;have:=HK2.out;omega⟩,⟨by (with_reducible repeat (refine bM ?_ _));exact BK283.out⟩,⟨by repeat ((with_reducible first|exact HB.out|apply aN))⟩⟩
       ·replace c17:=Bool.eq_false_iff.mpr c17
        subst c17
        have H1 : (some 1) = some r:=by rw [if_neg (show ¬ (false = true) by decide)] at H;exact H
        clear H
        have H:=H1
        clear H1
        obtain rfl:=Option.some.inj H
        have hcz19_2:=bcv (v:=.slice A0_2 l0_2.length c0_2) BK283.out 2 rfl
        have p284 : 0 ≤ (x3_2 : Int):=of_decide_eq_true (by with_reducible assumption)
        have q284 : x3_2 < (l0_2.length : Int):=of_decide_eq_true (by with_reducible assumption)
        obtain ⟨ad284,e284,hx284_0⟩:=Kd.at_int HR0_2.out x3_2 p284 q284
        cases e284
        replace hx284_0:=(HB.out.cell (World.block_lt_of_cell? w _ hx284_0)).trans hx284_0
        replace p284:=eq_true p284
        replace q284:=eq_true q284
        go_wp2_with (((with_reducible refine ah (f:=79) rfl ?_);refine aH (some 45) rfl rfl Try.func79 (by kernel_rfl) rfl #[.int .i64 (rd l0_2 x3_2),.int .i64 256] rfl (by (try simp only [List.map_toArray,List.map_cons,List.map_nil]);rfl) ?_;(with_reducible refine (bE.calls (rd l0_2 x3_2) 256 false _ A16.out).mono ?_);rintro e w' ⟨rfl,⟨nd,rfl⟩⟩;refine ⟨_,rfl,?_⟩))
        go_ret
        exact ⟨by rfl,by repeat ((with_reducible first|exact HB.out|apply aN))⟩
      ·rw [if_neg c14] at H
       have c14b0:=decide_eq_false c14
       clear c14
       obtain rfl:=Option.some.inj H
       have hcz20_2:=bcv (v:=.slice A0_2 l0_2.length c0_2) BK283.out 2 rfl
       go_wp2
       go_ret
       exact ⟨by rfl,HB.out⟩

/-! ### cA: function 66 -/
def cA.f (a0 : Int) (a1 : Int) : Option (Int × Int × List Int):=if 0 ≤ (wrap64 (a0 * a1)) then (if (wrap64 (a0 * a1) : Int).toNat ≤ 35184372088832 then (some (a0,a1,(List.replicate (wrap64 (a0 * a1) : Int).toNat 0))) else (none)) else (none)
set_option maxHeartbeats 8000000 in
set_option maxRecDepth 100000 in
theorem cA.calls (a0 : Int) (a1 : Int) (r1 : Int) (r2 : Int) (r3 : List Int) (w : World) (h : cA.f a0 a1 = some (r1,r2,r3)) :
  Calls Try.prog 66 #[.int .i64 a0,.int .i64 a1] w fun e w'=>∃ v2_ : Value,e = .returned (.agg #[.int .i64 r1,.int .i64 r2,v2_]) ∧ Kd.R (Kd.int .i64) 2 w' w.heap.size (fun _=>True) v2_ r3 ∧ Below w.heap.size w w':=by
 have HB:=M0 (Below.refl w.heap.size w)
 have H : (if 0 ≤ (wrap64 (a0 * a1)) then (if (wrap64 (a0 * a1) : Int).toNat ≤ 35184372088832 then (some (a0,a1,(List.replicate (wrap64 (a0 * a1) : Int).toNat 0))) else (none)) else (none)) = some (r1,r2,r3):=h
 clear h
 obtain ⟨ji3,hji3⟩ : ∃ j_ : Int,(wrap64 (a0 * a1)) = j_:=⟨_,rfl⟩
 replace H : (if 0 ≤ (ji3) then (if (ji3 : Int).toNat ≤ 35184372088832 then (some (a0,a1,(List.replicate (ji3 : Int).toNat 0))) else (none)) else (none)) = some (r1,r2,r3):=by (rw [hji3] at H;exact H)
 have hji3w : (IntKind.i64.wrap (a0 * a1)) = ji3:=(ae _).trans hji3
 obtain ⟨c4,H⟩:=nn H
 have c4b1:=decide_eq_true c4
 clear c4
 obtain ⟨c5,H⟩:=nn H
 have c5b1:=decide_eq_true c5
 clear c5
 obtain ⟨y287,hy287⟩ : ∃ y_ : List Int,y_ = (List.replicate (ji3 : Int).toNat 0):=⟨_,rfl⟩
 rw [← hy287] at H
 have Ny287:=M0 hy287
 clear hy287
 simp only [Option.some.injEq,Prod.mk.injEq] at H
 obtain ⟨rfl,rfl,rfl⟩:=H
 go_enter Try.func66,Try.ntmps66
 go_wp2_with (first|((with_reducible refine ak (N:=4) rfl ?_);refine aw rfl (N:=4) rfl (cs:=#[.int .i64 0,.int .i64 0,.slice none 0 0]) (t:=27) (by go_simp) ?_;intro gb286 hg w6 hbox hb;have BK286:=M0 (hbox);have GW286:=M0 ((by rw [hg];exact (aj HB.out) : w.heap.size ≤ gb286));have GE286:=GW286;replace HB:=M0 (aa HB.out hb);clear hb hbox hg)|((with_reducible refine ak (N:=10) rfl ?_);refine Kd.dV (Kd.int .i64) _ 2 rfl (N:=10) rfl 22 _ _ rfl ji3 rfl rfl Try.underlying22 (.int .i64 0) 8 dY rfl (by decide) (by omega) 0 (ok:=fun _=>True) (okp:=fun _=>True) rfl (fun _ hk=>hk) trivial (of_decide_eq_true (by with_reducible assumption)) (Nat.le_trans (Nat.mul_le_mul_right _ (of_decide_eq_true (by with_reducible assumption) : ji3.toNat ≤ 35184372088832)) (by omega)) (Below.refl _ _) (Nat.le_refl _) ?_;intro v288 w7 ho8 hb hg_ hnew_;clear hg_ hnew_;(rw [← Ny287.out] at ho8);have HO289:=M0 (Kd.bj ho8 (aj HB.out));replace BK286:=M0 (ab BK286.out hb);replace HB:=M0 (aa HB.out hb);clear hb ho8;obtain ⟨Ao9,co9,eo9⟩:=Kd.bc HO289.out;subst eo9;have hcz10_0:=bcv (v:=.int .i64 0) BK286.out 0 rfl;have hcz10_1:=bcv (v:=.int .i64 0) BK286.out 1 rfl;have hcz10_2:=bcv (v:=.slice none 0 0) BK286.out 2 rfl;have hfz10_0:=ag BK286.out 0;have hfz10_1:=ag BK286.out 1;have hfz10_2:=ag BK286.out 2))
 refine bodyPost_ret (results_cell_row rfl _ _ gb286 27 #[.int .i64 a0,.int .i64 a1,.slice Ao9 y287.length co9] (0,0) _ rfl (by refine aW (cs:=#[.int .i64 a0,.int .i64 a1,.slice none 0 0]) ?_ 2 _ rfl;refine aW (cs:=#[.int .i64 a0,.int .i64 0,.slice none 0 0]) ?_ 1 _ rfl;refine aW (cs:=#[.int .i64 0,.int .i64 0,.slice none 0 0]) ?_ 0 _ rfl;exact BK286.out) Try.underlying27 rfl (by kernel_rfl)) rfl ?_
 exact ⟨_,by rfl,by exact Kd.bb (Kd.bw (p:=⟨gb286,2,none⟩) (Kd.bw (p:=⟨gb286,1,none⟩) (Kd.bw (p:=⟨gb286,0,none⟩) (Kd.bP HO289.out BK286.out (by decide)) (fun _ hk=>hk.2) (.int .i64 a0)) (fun _ hk=>hk.2) (.int .i64 a1)) (fun _ hk=>hk.2) (.slice Ao9 y287.length co9)) (fun _ hk=>trivial),by repeat ((with_reducible first|exact HB.out|refine ax ?_ GE286.out))⟩

end Go.Proofs.Ytffhbpepppodeaa.PFnExactJoinObject
