import Derived.Test.YtffhbpepppodeaaPFnExactJoinObjectx0
import Derived.Test.YtffhbpepppodeaaPFnExactJoinObjectx7
namespace Go.Proofs.Ytffhbpepppodeaa.PFnExactJoinObject
private theorem nn {α : Type} {c : Prop} [Decidable c] {a : Option α} {r : α} (h : (if c then a else none) = some r) : c ∧ a = some r:=by
 split at h
 ·exact ⟨‹c›,h⟩
 ·cases h
open Go.RowKit Go.Proofs.YtffhbpepppodeaaW.PrintWords Go.Proofs.YtffhbpepppodeaaW.PrintLast Go.Proofs.YtffhbpepppodeaaW.PrintMore
attribute [local go_sem] cF cG cW cX cn cp cI cJ   -- for this text's walks alone
set_option linter.unusedVariables false
set_option linter.unusedSimpArgs false

/-! ### bp: function 68 -/
def bp.l0 : Nat → Int → Int → Int → Int → Int → List Int → Option (List Int)
 | 0,_,_,_,_,_,_=>none
 | k + 1,x1,x2,x6,x215000,x215001,x215002=>if x6 < x215001 then ((bs.f x215000 x215001 x215002 x1 x6).bind fun t215=>((bs.f x215000 x215001 x215002 x2 x6).bind fun t216=>(if 0 ≤ (wrap64 ((wrap64 (x1 * x215001)) + x6)) then (if (wrap64 ((wrap64 (x1 * x215001)) + x6)) < (x215002.length : Int) then (if 0 ≤ (wrap64 ((wrap64 (x2 * x215001)) + x6)) then (if (wrap64 ((wrap64 (x2 * x215001)) + x6)) < (x215002.length : Int) then (bp.l0 k x1 x2 (wrap64 (x6 + 1)) x215000 x215001 ((x215002.set ((wrap64 ((wrap64 (x1 * x215001)) + x6)) : Int).toNat t216).set ((wrap64 ((wrap64 (x2 * x215001)) + x6)) : Int).toNat t215)) else (none)) else (none)) else (none)) else (none)))) else (some x215002)
def bp.f (k : Nat) (a0_0 : Int) (a0_1 : Int) (l0_2 : List Int) (a1 : Int) (a2 : Int) : Option (List Int):=bp.l0 k a1 a2 0 a0_0 a0_1 l0_2
set_option maxHeartbeats 8000000 in
set_option maxRecDepth 100000 in
theorem bp.calls (k : Nat) (a0_0 : Int) (a0_1 : Int) (P0_2_ : Nat → Prop) (u9000_ : Value) (l0_2 : List Int) (a1 : Int) (a2 : Int) (r : List Int) (w0 w : World) (hB : Below w0.heap.size w0 w) (ho0_2 : Kd.R (Kd.int .i64) 2 w w0.heap.size P0_2_ u9000_ l0_2) (h : bp.f k a0_0 a0_1 l0_2 a1 a2 = some r) :
  Calls Try.prog 68 #[.agg #[.int .i64 a0_0,.int .i64 a0_1,u9000_],.int .i64 a1,.int .i64 a2] w fun e w'=>e = .returned (.tuple #[]) ∧ Kd.R (Kd.int .i64) 2 w' w0.heap.size (fun k_=>(P0_2_ k_ ∨ w.heap.size ≤ k_)) u9000_ r ∧ Below w0.heap.size w0 w' ∧ Kept w w' (fun k_=>P0_2_ k_):=by
 have HO0_2:=M0 (show Kd.R (Kd.int .i64) 2 w w0.heap.size (fun k_=>(P0_2_ k_ ∨ w.heap.size ≤ k_)) u9000_ l0_2 from Kd.bb ho0_2 (fun k_ hk=>(.inl hk)))
 have HK:=M0 (Kept.refl w (fun k_=>P0_2_ k_))
 have HB:=M0 hB
 clear hB
 have H : (bp.l0 k a1 a2 0 a0_0 a0_1 l0_2) = some r:=h
 clear h
 have H':=M0 H
 clear H
 obtain ⟨Ao4,co4,eo4⟩:=Kd.bc HO0_2.out
 subst eo4
 go_enter Try.func68,Try.ntmps68
 go_wp2_with (((with_reducible refine ak (N:=3) rfl ?_);refine aw rfl (N:=3) rfl (cs:=#[.int .i64 a0_0,.int .i64 a0_1,.slice Ao4 l0_2.length co4]) (t:=27) (by go_simp) ?_;intro gb214 hg w5 hbox hb;replace HO0_2:=M0 (Kd.aK HO0_2.out hb);have BK214:=M0 (hbox);replace HK:=M0 (Kept.below (S:=(fun k_=>P0_2_ k_)) HK.out hb);replace HB:=M0 (aa HB.out hb);clear hb hbox hg))
 go_loopg [6] k (fun kq v6 w'=>∃ (x6_1 : Int) (x215002_1 : List Int),v6 = .int .i64 x6_1 ∧ Aside0 (bp.l0 kq a1 a2 x6_1 a0_0 a0_1 x215002_1 = some r) ∧ Aside0 (kq ≤ k) ∧ Aside0 (Kd.R (Kd.int .i64) 2 w' w0.heap.size (fun k_=>(P0_2_ k_ ∨ w.heap.size ≤ k_)) (.slice Ao4 l0_2.length co4) x215002_1) ∧ Aside0 (w'.heap[gb214]? = some (.cells #[.int .i64 a0_0,.int .i64 a0_1,(.slice Ao4 l0_2.length co4)] 27 (0,0))) ∧ Aside0 (Kept w w' (fun k_=>P0_2_ k_)) ∧ Aside0 (Below w0.heap.size w0 w'))
 case atStart=>exact ⟨(0),(l0_2),(by rfl),H',⟨Nat.le_refl _⟩,⟨by exact HO0_2.out⟩,⟨by exact BK214.out⟩,⟨HK.out⟩,⟨HB.out⟩⟩
 case round=>
  clear H'
  obtain ⟨x6_1,x215002_1,rfl,HA,HK1,HO_215002,BK214,HK,HB⟩:=hrel
  have hl215002_1:=(Kd.aE HO_215002.out).1
  rw [hl215002_1] at HO_215002
  (try simp only [hl215002_1])
  (try simp only [hl215002_1] at BK214)
  cases gk with
  | zero=>exact absurd HA.out (by simp [bp.l0])
  | succ k1=>
   have H:=HA.out
   clear HA
   simp only [bp.l0] at H
   by_cases c6 : x6_1 < a0_1
   ·rw [if_pos c6] at H
    have c6b0:=decide_eq_true c6
    clear c6
    replace H:=Option.bind_eq_some_iff.mp H
    obtain ⟨t215,A70,H⟩:=H
    replace H : ((bs.f a0_0 a0_1 x215002_1 a2 x6_1).bind fun t216=>(if 0 ≤ (wrap64 ((wrap64 (a1 * a0_1)) + x6_1)) then (if (wrap64 ((wrap64 (a1 * a0_1)) + x6_1)) < (x215002_1.length : Int) then (if 0 ≤ (wrap64 ((wrap64 (a2 * a0_1)) + x6_1)) then (if (wrap64 ((wrap64 (a2 * a0_1)) + x6_1)) < (x215002_1.length : Int) then (bp.l0 k1 a1 a2 (wrap64 (x6_1 + 1)) a0_0 a0_1 ((x215002_1.set ((wrap64 ((wrap64 (a1 * a0_1)) + x6_1)) : Int).toNat t216).set ((wrap64 ((wrap64 (a2 * a0_1)) + x6_1)) : Int).toNat t215)) else (none)) else (none)) else (none)) else (none))) = some r:=H
    have A7:=M0 A70
    clear A70
    replace H:=Option.bind_eq_some_iff.mp H
    obtain ⟨t216,A80,H⟩:=H
    replace H : (if 0 ≤ (wrap64 ((wrap64 (a1 * a0_1)) + x6_1)) then (if (wrap64 ((wrap64 (a1 * a0_1)) + x6_1)) < (x215002_1.length : Int) then (if 0 ≤ (wrap64 ((wrap64 (a2 * a0_1)) + x6_1)) then (if (wrap64 ((wrap64 (a2 * a0_1)) + x6_1)) < (x215002_1.length : Int) then (bp.l0 k1 a1 a2 (wrap64 (x6_1 + 1)) a0_0 a0_1 ((x215002_1.set ((wrap64 ((wrap64 (a1 * a0_1)) + x6_1)) : Int).toNat t216).set ((wrap64 ((wrap64 (a2 * a0_1)) + x6_1)) : Int).toNat t215)) else (none)) else (none)) else (none)) else (none)) = some r:=H
    have A8:=M0 A80
    clear A80
    obtain ⟨ji9,hji9⟩ : ∃ j_ : Int,(wrap64 ((wrap64 (a1 * a0_1)) + x6_1)) = j_:=⟨_,rfl⟩
    replace H : (if 0 ≤ (ji9) then (if (ji9) < (x215002_1.length : Int) then (if 0 ≤ (wrap64 ((wrap64 (a2 * a0_1)) + x6_1)) then (if (wrap64 ((wrap64 (a2 * a0_1)) + x6_1)) < (x215002_1.length : Int) then (bp.l0 k1 a1 a2 (wrap64 (x6_1 + 1)) a0_0 a0_1 ((x215002_1.set ((ji9) : Int).toNat t216).set ((wrap64 ((wrap64 (a2 * a0_1)) + x6_1)) : Int).toNat t215)) else (none)) else (none)) else (none)) else (none)) = some r:=by (rw [hji9] at H;exact H)
    have hji9w : (IntKind.i64.wrap ((wrap64 (a1 * a0_1)) + x6_1)) = ji9:=(ae _).trans hji9
    obtain ⟨c10,H⟩:=nn H
    have c10b0:=decide_eq_true c10
    clear c10
    obtain ⟨c11,H⟩:=nn H
    have c11b0:=decide_eq_true c11
    clear c11
    obtain ⟨y217,hy217⟩ : ∃ y_ : List Int,y_ = (x215002_1.set ((ji9) : Int).toNat t216):=⟨_,rfl⟩
    rw [← hy217] at H
    have Ny217:=M0 hy217
    clear hy217
    obtain ⟨ji13,hji13⟩ : ∃ j_ : Int,(wrap64 ((wrap64 (a2 * a0_1)) + x6_1)) = j_:=⟨_,rfl⟩
    replace H : (if 0 ≤ (ji13) then (if (ji13) < (x215002_1.length : Int) then (bp.l0 k1 a1 a2 (wrap64 (x6_1 + 1)) a0_0 a0_1 (y217.set ((ji13) : Int).toNat t215)) else (none)) else (none)) = some r:=by (rw [hji13] at H;exact H)
    have hji13w : (IntKind.i64.wrap ((wrap64 (a2 * a0_1)) + x6_1)) = ji13:=(ae _).trans hji13
    obtain ⟨c14,H⟩:=nn H
    have c14b0:=decide_eq_true c14
    clear c14
    obtain ⟨c15,H⟩:=nn H
    have c15b0:=decide_eq_true c15
    clear c15
    obtain ⟨y218,hy218⟩ : ∃ y_ : List Int,y_ = (y217.set ((ji13) : Int).toNat t215):=⟨_,rfl⟩
    rw [← hy218] at H
    have Ny218:=M0 hy218
    clear hy218
    have H':=M0 H
    clear H
    have hcz17_0:=bcv (v:=.int .i64 a0_0) BK214.out 0 rfl
    have hcz17_1:=bcv (v:=.int .i64 a0_1) BK214.out 1 rfl
    have hcz17_2:=bcv (v:=.slice Ao4 x215002_1.length co4) BK214.out 2 rfl
    go_wp2_with (first|((with_reducible refine ah (f:=67) rfl ?_);refine aH (some 18) rfl rfl Try.func67 (by kernel_rfl) rfl #[.agg #[.int .i64 a0_0,.int .i64 a0_1,.slice Ao4 x215002_1.length co4],.int .i64 a1,.int .i64 x6_1] rfl (by (try simp only [List.map_toArray,List.map_cons,List.map_nil]);rfl) ?_;(with_reducible refine (bs.calls a0_0 a0_1 _ _ x215002_1 a1 x6_1 t215 _ (Kd.aE HO_215002.out).2.2 (Kd.aE HO_215002.out).2.1 A7.out).mono ?_);rintro e w18 ⟨rfl,hb⟩;refine ⟨_,rfl,?_⟩;replace HO_215002:=M0 (Kd.aK HO_215002.out hb);replace BK214:=M0 (ab BK214.out hb);replace HK:=M0 (Kept.below (S:=(fun k_=>P0_2_ k_)) HK.out hb);replace HB:=M0 (aa HB.out hb);clear hb;have hcz19_0:=bcv (v:=.int .i64 a0_0) BK214.out 0 rfl;have hcz19_1:=bcv (v:=.int .i64 a0_1) BK214.out 1 rfl;have hcz19_2:=bcv (v:=.slice Ao4 x215002_1.length co4) BK214.out 2 rfl)|((with_reducible refine ah (f:=67) rfl ?_);refine aH (some 22) rfl rfl Try.func67 (by kernel_rfl) rfl #[.agg #[.int .i64 a0_0,.int .i64 a0_1,.slice Ao4 x215002_1.length co4],.int .i64 a2,.int .i64 x6_1] rfl (by (try simp only [List.map_toArray,List.map_cons,List.map_nil]);rfl) ?_;(with_reducible refine (bs.calls a0_0 a0_1 _ _ x215002_1 a2 x6_1 t216 _ (Kd.aE HO_215002.out).2.2 (Kd.aE HO_215002.out).2.1 A8.out).mono ?_);rintro e w20 ⟨rfl,hb⟩;refine ⟨_,rfl,?_⟩;replace HO_215002:=M0 (Kd.aK HO_215002.out hb);replace BK214:=M0 (ab BK214.out hb);replace HK:=M0 (Kept.below (S:=(fun k_=>P0_2_ k_)) HK.out hb);replace HB:=M0 (aa HB.out hb);clear hb;have hcz21_1:=bcv (v:=.int .i64 a0_1) BK214.out 1 rfl;have hcz21_2:=bcv (v:=.slice Ao4 x215002_1.length co4) BK214.out 2 rfl;have p12 : 0 ≤ ((ji9) : Int):=of_decide_eq_true (by with_reducible assumption);have q12 : ((ji9) : Int) < ((x215002_1.length : Int) : Int):=of_decide_eq_true (by with_reducible assumption);obtain ⟨go12,co12,eo12,gb12,gl12,cl12,HG12⟩:=Kd.du HO_215002.out (by omega);(cases eo12);have GB12:=M0 gb12;have GG12:=M0 HG12;clear gb12 gl12 HG12;have HMgo12:=M0 (show (P0_2_ go12 ∨ w.heap.size ≤ go12) from (HO_215002.out.1 _ rfl));obtain ⟨hx12_0,hf12_0⟩:=Kd.bQ 0 HO_215002.out ((ji9) : Int) p12 q12;replace p12:=eq_true p12;replace q12:=eq_true q12;obtain ⟨hy22_,hz22_⟩:=Kd.bQ 0 HO_215002.out ((ji9) : Int) (of_decide_eq_true (by with_reducible assumption)) (of_decide_eq_true (by with_reducible assumption));have HP22:=Kd.dj HO_215002.out ((ji9) : Int) t216)|((with_reducible refine bo (t:=2) (p:=32) rfl ?_);refine bK (t:=2) (p:=32) (v:=?vo_w23) (w1:=(w20.setCell ⟨go12,((ji9) : Int).toNat,none⟩ (.int .i64 t216))) ?hg ?ho ?hn ?hr ?_;(case ho=>rfl);(case hg=>rfl);(case hn=>rfl);(case hr=>(go_simp;done));intro w23 hw;have hg : w20.grownBy w23 (some go12):=(by rw [hw];exact HP22.2);have hp_ : Kd.R (Kd.int .i64) 2 w23 w0.heap.size (fun k_=>(P0_2_ k_ ∨ w.heap.size ≤ k_)) (.slice (some ⟨go12,0,none⟩) x215002_1.length co4) y217:=(by rw [hw,Ny217.out];exact HP22.1);clear HP22;replace BK214:=M0 (bm (g:=gb214) (o:=.cells #[.int .i64 a0_0,.int .i64 a0_1,.slice (some ⟨go12,0,none⟩) x215002_1.length co4] 27 (0,0)) BK214.out hg (Kd.R_ne HO_215002.out BK214.out (by decide)));replace HB:=M0 ((by rw [hw];exact ax (HB.out) GB12.out : Below w0.heap.size w0 w23));replace HK:=M0 (Kept.of_grown (S:=(fun k_=>P0_2_ k_)) hg HK.out (fun k_ e_=>(HO_215002.out.1 k_ e_)));replace HO_215002:=M0 (hp_);clear hg hw hp_;have hcz24_1:=bcv (v:=.int .i64 a0_1) BK214.out 1 rfl;have hcz24_2:=bcv (v:=.slice (some ⟨go12,0,none⟩) x215002_1.length co4) BK214.out 2 rfl;have p16 : 0 ≤ ((ji13) : Int):=of_decide_eq_true (by with_reducible assumption);have q16 : ((ji13) : Int) < ((x215002_1.length : Int) : Int):=of_decide_eq_true (by with_reducible assumption);obtain ⟨hx16_0,hf16_0⟩:=Kd.bQ 0 HO_215002.out ((ji13) : Int) p16 q16;replace p16:=eq_true p16;replace q16:=eq_true q16;obtain ⟨hy25_,hz25_⟩:=Kd.bQ 0 HO_215002.out ((ji13) : Int) (of_decide_eq_true (by with_reducible assumption)) (of_decide_eq_true (by with_reducible assumption));have HP25:=Kd.dj HO_215002.out ((ji13) : Int) t215)|((with_reducible refine bo (t:=2) (p:=42) rfl ?_);refine bK (t:=2) (p:=42) (v:=?vo_w26) (w1:=(w23.setCell ⟨go12,((ji13) : Int).toNat,none⟩ (.int .i64 t215))) ?hg ?ho ?hn ?hr ?_;(case ho=>rfl);(case hg=>rfl);(case hn=>rfl);(case hr=>(go_simp;done));intro w26 hw;have hg : w23.grownBy w26 (some go12):=(by rw [hw];exact HP25.2);have hp_ : Kd.R (Kd.int .i64) 2 w26 w0.heap.size (fun k_=>(P0_2_ k_ ∨ w.heap.size ≤ k_)) (.slice (some ⟨go12,0,none⟩) x215002_1.length co4) y218:=(by rw [hw,Ny218.out];exact HP25.1);clear HP25;replace BK214:=M0 (bm (g:=gb214) (o:=.cells #[.int .i64 a0_0,.int .i64 a0_1,.slice (some ⟨go12,0,none⟩) x215002_1.length co4] 27 (0,0)) BK214.out hg (Kd.R_ne HO_215002.out BK214.out (by decide)));replace HB:=M0 ((by rw [hw];exact ax (HB.out) GB12.out : Below w0.heap.size w0 w26));replace HK:=M0 (Kept.of_grown (S:=(fun k_=>P0_2_ k_)) hg HK.out (fun k_ e_=>(HO_215002.out.1 k_ e_)));replace HO_215002:=M0 (hp_);clear hg hw hp_))
    (try simp only [← hl215002_1])
    go_roundg k1
    case measure=>have:=HK1.out;omega
    case rel=>exact ⟨(wrap64 (x6_1 + 1)),(y218),(by rfl),H',⟨by have:=HK1.out;omega⟩,⟨by (try simp only [hl215002_1]);exact HO_215002.out⟩,⟨by (try simp only [hl215002_1]);exact BK214.out⟩,⟨HK.out⟩,⟨HB.out⟩⟩
   ·rw [if_neg c6] at H
    have c6b0:=decide_eq_false c6
    clear c6
    obtain rfl:=Option.some.inj H
    have hcz27_1:=bcv (v:=.int .i64 a0_1) BK214.out 1 rfl
    go_wp2
    go_end0
    exact ⟨by rfl,HO_215002.out,HB.out,HK.out⟩

end Go.Proofs.Ytffhbpepppodeaa.PFnExactJoinObject
