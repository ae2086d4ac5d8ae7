import Derived.Test.YtffhbpepppodeaaPFnExactJoinObjectx0
namespace Go.Proofs.Ytffhbpepppodeaa.PFnExactJoinObject
private theorem nn {α : Type} {c : Prop} [Decidable c] {a : Option α} {r : α} (h : (if c then a else none) = some r) : c ∧ a = some r:=by
 split at h
 ·exact ⟨‹c›,h⟩
 ·cases h
open Go.RowKit Go.Proofs.YtffhbpepppodeaaW.PrintWords Go.Proofs.YtffhbpepppodeaaW.PrintLast Go.Proofs.YtffhbpepppodeaaW.PrintMore
attribute [local go_sem] cF cG cW cX cn cp cI cJ   -- for this text's walks alone
set_option linter.unusedVariables false
set_option linter.unusedSimpArgs false

/-! ### eh: function 105 -/
def eh.f (a0_0 : Bool) (a0_1 : ByteArray) : Option (Bool × ByteArray):=some (a0_0,a0_1)
set_option maxHeartbeats 8000000 in
set_option maxRecDepth 100000 in
theorem eh.calls (a0_0 : Bool) (a0_1 : ByteArray) (r1 : Bool) (r2 : ByteArray) (w : World) (h : eh.f a0_0 a0_1 = some (r1,r2)) :
  Calls Try.prog 105 #[.agg #[.bool a0_0,.string a0_1]] w fun e w'=>e = .returned (.agg #[.bool r1,.string r2]) ∧ Below w.heap.size w w':=by
 have HB:=M0 (Below.refl w.heap.size w)
 have H : (some (a0_0,a0_1)) = some (r1,r2):=h
 clear h
 simp only [Option.some.injEq,Prod.mk.injEq] at H
 obtain ⟨rfl,rfl⟩:=H
 go_enter Try.func105,Try.ntmps105
 go_wp2_with (first|((with_reducible refine ak (N:=1) rfl ?_);refine aw rfl (N:=1) rfl (cs:=#[.bool a0_0,.string a0_1]) (t:=145) (by go_simp) ?_;intro gb395 hg w2 hbox hb;have BK395:=M0 (hbox);replace HB:=M0 (aa HB.out hb);clear hb hbox hg)|((with_reducible refine ak (N:=2) rfl ?_);refine aw rfl (N:=2) rfl (cs:=#[.bool false,.string (⟨#[]⟩ : ByteArray)]) (t:=61) (by go_simp) ?_;intro gb396 hg w3 hbox hb;have BK396:=M0 (hbox);have GW396:=M0 ((by rw [hg];exact (aj HB.out) : w.heap.size ≤ gb396));have GE396:=GW396;replace HB:=M0 (aa HB.out hb);have NB395_396:=M0 ((by rw [hg];exact Nat.ne_of_lt (a7 BK395.out) : gb395 ≠ gb396));replace BK395:=M0 (ab BK395.out hb);clear hb hbox hg)|((with_reducible refine ak (N:=3) rfl ?_);refine aw rfl (N:=3) rfl (cs:=#[.bool false,.string (⟨#[]⟩ : ByteArray)]) (t:=61) (by go_simp) ?_;intro gb397 hg w4 hbox hb;have BK397:=M0 (hbox);have GW397:=M0 ((by rw [hg];exact (aj HB.out) : w.heap.size ≤ gb397));have GE397:=GW397;replace HB:=M0 (aa HB.out hb);have NB395_397:=M0 ((by rw [hg];exact Nat.ne_of_lt (a7 BK395.out) : gb395 ≠ gb397));replace BK395:=M0 (ab BK395.out hb);have NB396_397:=M0 ((by rw [hg];exact Nat.ne_of_lt (a7 BK396.out) : gb396 ≠ gb397));replace BK396:=M0 (ab BK396.out hb);clear hb hbox hg;have hcz7_0:=bcv (v:=.bool a0_0) BK395.out 0 rfl;have hcz7_1:=bcv (v:=.string a0_1) BK395.out 1 rfl;have hnc8:=NB396_397.out;have hcz9_0:=bcv (v:=.bool false) BK397.out 0 rfl;have hcz9_1:=bcv (v:=.string (⟨#[]⟩ : ByteArray)) BK397.out 1 rfl;have hfz9_0:=ag BK397.out 0;have hfz9_1:=ag BK397.out 1;have hcz10_0:=bcv (v:=.bool false) BK396.out 0 rfl;have hcz10_1:=bcv (v:=.string (⟨#[]⟩ : ByteArray)) BK396.out 1 rfl;have hfz10_0:=ag BK396.out 0;have hfz10_1:=ag BK396.out 1))
 refine bodyPost_ret (results_cell_row rfl _ _ gb396 61 #[.bool a0_0,.string a0_1] (0,0) _ rfl (by refine aW (cs:=#[.bool a0_0,.string (⟨#[]⟩ : ByteArray)]) ?_ 1 _ rfl;refine aW (cs:=#[.bool false,.string (⟨#[]⟩ : ByteArray)]) ?_ 0 _ rfl;refine aX ?_ NB396_397.out _;refine aX ?_ NB396_397.out _;exact BK396.out) Try.underlying61 rfl (by kernel_rfl)) rfl ?_
 exact ⟨by rfl,by repeat ((with_reducible first|exact HB.out|refine ax ?_ GE396.out|refine ax ?_ GE397.out))⟩

/-! ### bG: function 46 -/
def bG.l0 : Nat → List (S145) → List (S61) → Int → Option ((List (S61)))
 | 0,_,_,_=>none
 | k + 1,x0,x3,x4=>if x4 < (x0.length : Int) then (if 0 ≤ x4 then ((eh.f ((cM x0 x4).f0) ((cM x0 x4).f1)).bind fun bt402=>(if x4 < (x3.length : Int) then (bG.l0 k x0 (x3.set (x4 : Int).toNat (⟨bt402.1,bt402.2⟩ : S61)) (wrap64 (x4 + 1))) else (none))) else (none)) else (some x3)
def bG.f (k : Nat) (l0 : List (S145)) : Option ((List (S61))):=if 0 ≤ (l0.length : Int) then (if ((l0.length : Int) : Int).toNat ≤ 11728124029610 then (bG.l0 k l0 (List.replicate ((l0.length : Int) : Int).toNat z61) 0) else (none)) else (none)
set_option maxHeartbeats 8000000 in
set_option maxRecDepth 100000 in
theorem bG.calls (k : Nat) (A0 : Option Addr) (c0 : Nat) (l0 : List (S145)) (r : List (S61)) (w : World) (hr0 : Kd.C k145 w A0 l0.length l0) (hc0 : l0.length ≤ c0) (h : bG.f k l0 = some r) :
  Calls Try.prog 46 #[.slice A0 l0.length c0] w fun e w'=>∃ v0_ : Value,e = .returned (v0_) ∧ Kd.R k61 61 w' w.heap.size (fun _=>True) v0_ r ∧ Below w.heap.size w w':=by
 have HR0:=M0 hr0
 have HC0:=M0 hc0
 clear hr0 hc0
 have HB:=M0 (Below.refl w.heap.size w)
 have H : (if 0 ≤ (l0.length : Int) then (if ((l0.length : Int) : Int).toNat ≤ 11728124029610 then (bG.l0 k l0 (List.replicate ((l0.length : Int) : Int).toNat z61) 0) else (none)) else (none)) = some r:=h
 clear h
 obtain ⟨c2,H⟩:=nn H
 have c2b0:=eq_true c2
 have c2b1:=decide_eq_true c2
 clear c2
 obtain ⟨c3,H⟩:=nn H
 have c3b0:=eq_true c3
 have c3b1:=decide_eq_true c3
 clear c3
 obtain ⟨y398,hy398⟩ : ∃ y_ : List (S61),y_ = (List.replicate ((l0.length : Int) : Int).toNat z61):=⟨_,rfl⟩
 rw [← hy398] at H
 have Ny398:=M0 hy398
 clear hy398
 have H':=M0 H
 clear H
 go_enter Try.func46,Try.ntmps46
 go_wp2_with (((with_reducible refine ak (N:=7) rfl ?_);refine Kd.dV k61 _ 61 rfl (N:=7) rfl 53 _ _ rfl (l0.length : Int) rfl rfl Try.underlying53 (.agg #[(.bool false),(.string ⟨#[]⟩)]) 24 info61 rfl (by decide) (by omega) z61 (ok:=fun _=>True) (okp:=fun _=>True) (k61_mkM _ _ _ z61 ) (fun _ hk=>hk) trivial (of_decide_eq_true (by with_reducible assumption)) (Nat.le_trans (Nat.mul_le_mul_right _ (of_decide_eq_true (by with_reducible assumption) : (l0.length : Int).toNat ≤ 11728124029610)) (by omega)) (Below.refl _ _) (Nat.le_refl _) ?_;intro v399 w4 ho5 hb hg_ hnew_;clear hg_ hnew_;(rw [← Ny398.out] at ho5);have HO400:=M0 (Kd.bj ho5 (aj HB.out));replace HB:=M0 (aa HB.out hb);clear hb ho5))
 go_loopg [4] k (fun kq v4 w'=>∃ (x3_1 : List (S61)) (x4_1 : Int),v4 = .int .i64 x4_1 ∧ Aside0 (bG.l0 kq l0 x3_1 x4_1 = some r) ∧ Aside0 (kq ≤ k) ∧ Aside0 (Kd.R k61 61 w' w.heap.size (fun _=>True) v399 x3_1) ∧ Aside0 (Below w.heap.size w w'))
 case atStart=>exact ⟨(y398),(0),(by rfl),H',⟨Nat.le_refl _⟩,⟨by exact HO400.out⟩,⟨HB.out⟩⟩
 case round=>
  clear H'
  (try clear c2b0);(try clear c2b1);(try clear c3b0);(try clear c3b1)
  obtain ⟨x3_1,x4_1,rfl,HA,HK1,HO_3,HB⟩:=hrel
  cases gk with
  | zero=>exact absurd HA.out (by simp [bG.l0])
  | succ k1=>
   have H:=HA.out
   clear HA
   simp only [bG.l0] at H
   by_cases c6 : x4_1 < (l0.length : Int)
   ·rw [if_pos c6] at H
    have c6b0:=decide_eq_true c6
    clear c6
    obtain ⟨c7,H⟩:=nn H
    have c7b0:=decide_eq_true c7
    clear c7
    replace H:=Option.bind_eq_some_iff.mp H
    obtain ⟨⟨t402,t403⟩,A80,H⟩:=H
    dsimp only at H
    have A8:=M0 A80
    clear A80
    obtain ⟨c9,H⟩:=nn H
    have c9b0:=decide_eq_true c9
    clear c9
    obtain ⟨y404,hy404⟩ : ∃ y_ : List (S61),y_ = (x3_1.set (x4_1 : Int).toNat (⟨t402,t403⟩ : S61)):=⟨_,rfl⟩
    rw [← hy404] at H
    have Ny404:=M0 hy404
    clear hy404
    have H':=M0 H
    clear H
    have p401 : 0 ≤ (x4_1 : Int):=of_decide_eq_true (by with_reducible assumption)
    have q401 : x4_1 < (l0.length : Int):=of_decide_eq_true (by with_reducible assumption)
    obtain ⟨ad401,e401,hx401_0,hx401_1⟩:=at_T145 HR0.out x4_1 p401 q401
    cases e401
    replace hx401_0:=(HB.out.cell (World.block_lt_of_cell? w _ hx401_0)).trans hx401_0
    replace hx401_1:=(HB.out.cell (World.block_lt_of_cell? w _ hx401_1)).trans hx401_1
    replace p401:=eq_true p401
    replace q401:=eq_true q401
    go_wp2_with (first|((with_reducible refine ah (f:=105) rfl ?_);refine aH (some 20) rfl rfl Try.func105 (by kernel_rfl) rfl #[.agg #[.bool ((cM l0 x4_1).f0),.string ((cM l0 x4_1).f1)]] rfl (by (try simp only [List.map_toArray,List.map_cons,List.map_nil]);rfl) ?_;(with_reducible refine (eh.calls ((cM l0 x4_1).f0) ((cM l0 x4_1).f1) t402 t403 _ A8.out).mono ?_);rintro e w11 ⟨rfl,hb⟩;refine ⟨_,rfl,?_⟩;replace HO_3:=M0 (Kd.aK HO_3.out hb);replace HB:=M0 (aa HB.out hb);clear hb;have p10 : 0 ≤ (x4_1 : Int):=of_decide_eq_true (by with_reducible assumption);have q10 : (x4_1 : Int) < ((x3_1.length : Int) : Int):=of_decide_eq_true (by with_reducible assumption);obtain ⟨go10,co10,eo10,gb10,gl10,cl10,HG10⟩:=Kd.du HO_3.out (by omega);(cases eo10);have GB10:=M0 gb10;have GG10:=M0 HG10;clear gb10 gl10 HG10;obtain ⟨ce10,hcl10,hM10,hcc10,hfr10⟩:=Kd.R_elem HO_3.out z61 (x4_1 : Int) p10 q10;obtain rfl:=k61_openM hM10;have hx10_0 : w11.cell? ⟨go10,(x4_1 : Int).toNat * 2,none⟩ = some (.bool ((bf x3_1 x4_1).f0)):=hcc10 0 _ rfl;have hx10_1 : w11.cell? ⟨go10,(x4_1 : Int).toNat * 2 + 1,none⟩ = some (.string ((bf x3_1 x4_1).f1)):=hcc10 1 _ rfl;have hf10_0 : w11.frozen? ⟨go10,(x4_1 : Int).toNat * 2,none⟩ = false:=hfr10 0;have hf10_1 : w11.frozen? ⟨go10,(x4_1 : Int).toNat * 2 + 1,none⟩ = false:=hfr10 1;clear hcl10 hcc10 hfr10 hM10;replace p10:=eq_true p10;replace q10:=eq_true q10;have HX12:=M0 (show Kd.R k61 61 w11 w.heap.size (fun _=>True) (.slice (some ⟨go10,0,none⟩) x3_1.length co10) x3_1 from HO_3.out);obtain ⟨ce12,hcl12,hM12,hcc12,hfr12⟩:=Kd.R_elem HX12.out z61 (x4_1 : Int) (of_decide_eq_true (by with_reducible assumption)) (by have h_ : (x4_1 : Int) < ((x3_1.length : Int) : Int):=of_decide_eq_true (by with_reducible assumption);exact h_);obtain rfl:=k61_openM hM12;have HP12:=Kd.R_seg HX12.out (x4_1 : Int) (of_decide_eq_true (by with_reducible assumption)) (by have h_ : (x4_1 : Int) < ((x3_1.length : Int) : Int):=of_decide_eq_true (by with_reducible assumption);exact h_) (seg:=[.bool t402,.string t403]) (j:=0) hcl12 hcc12 (show 2 ≤ 2 from by decide) (x':=(⟨t402,t403⟩ : S61)) (k61_mkM _ _ _ (⟨t402,t403⟩ : S61) ) (fun _ hk=>hk);have hx12_0:=hcc12 0 _ rfl;(try simp only [show (k61).sz = 2 from rfl,Nat.mul_one,Nat.add_zero] at hx12_0);have hf12_0:=hfr12 0;(try simp only [show (k61).sz = 2 from rfl,Nat.mul_one,Nat.add_zero] at hf12_0);have hx12_1:=hcc12 1 _ rfl;(try simp only [show (k61).sz = 2 from rfl,Nat.mul_one,Nat.add_zero] at hx12_1);have hf12_1:=hfr12 1;(try simp only [show (k61).sz = 2 from rfl,Nat.mul_one,Nat.add_zero] at hf12_1);clear hcl12 hcc12 hfr12 hM12)|((with_reducible refine bo (t:=61) (p:=21) rfl ?_);refine bK (t:=61) (p:=21) (v:=?vo_w13) (w1:=((w11.setCell ⟨go10,(x4_1 : Int).toNat * 2,none⟩ (.bool t402)).setCell ⟨go10,(x4_1 : Int).toNat * 2 + 1,none⟩ (.string t403))) ?hg ?ho ?hn ?hr ?_;(case ho=>rfl);(case hg=>rfl);(case hn=>rfl);(case hr=>(go_simp;done));intro w13 hw;have hg : w11.grownBy w13 (some go10):=(by rw [hw];exact HP12.2);have hp_ : Kd.R k61 61 w13 w.heap.size (fun _=>True) (.slice (some ⟨go10,0,none⟩) x3_1.length co10) y404:=(by rw [hw,Ny404.out];exact HP12.1);clear HP12;replace HO_3:=M0 (hp_);replace HB:=M0 ((by rw [hw];exact ax (ax (HB.out) GB10.out) GB10.out : Below w.heap.size w w13));clear hg hw hp_))
    go_roundg k1
    case measure=>have:=HK1.out;omega
    case rel=>exact ⟨(y404),(wrap64 (x4_1 + 1)),(by rfl),H',⟨by have:=HK1.out;omega⟩,⟨by exact HO_3.out⟩,⟨HB.out⟩⟩
   ·rw [if_neg c6] at H
    have c6b0:=decide_eq_false c6
    clear c6
    obtain rfl:=Option.some.inj H
    go_wp2
    go_ret
    exact ⟨_,by rfl,by exact HO_3.out,HB.out⟩

/-! ### cy: function 115 -/
def cy.f (k : Nat) (l0_0 : List (S145)) : Option ((List (S61))):=(bG.f k l0_0).bind fun t408=>(some t408)
set_option maxHeartbeats 8000000 in
set_option maxRecDepth 100000 in
theorem cy.calls (k : Nat) (A0_0 : Option Addr) (c0_0 : Nat) (l0_0 : List (S145)) (r : List (S61)) (w : World) (hr0_0 : Kd.C k145 w A0_0 l0_0.length l0_0) (hc0_0 : l0_0.length ≤ c0_0) (h : cy.f k l0_0 = some r) :
  Calls Try.prog 115 #[.agg #[.slice A0_0 l0_0.length c0_0]] w fun e w'=>∃ v0_ : Value,e = .returned (.agg #[v0_]) ∧ Kd.R k61 61 w' w.heap.size (fun _=>True) v0_ r ∧ Below w.heap.size w w':=by
 have HR0_0:=M0 hr0_0
 have HC0_0:=M0 hc0_0
 clear hr0_0 hc0_0
 have HB:=M0 (Below.refl w.heap.size w)
 have H : ((bG.f k l0_0).bind fun t408=>(some t408)) = some r:=h
 clear h
 replace H:=Option.bind_eq_some_iff.mp H
 obtain ⟨t408,A20,H⟩:=H
 replace H : (some t408) = some r:=H
 have A2:=M0 A20
 clear A20
 obtain rfl:=Option.some.inj H
 go_enter Try.func115,Try.ntmps115
 go_wp2_with (first|((with_reducible refine ak (N:=1) rfl ?_);refine aw rfl (N:=1) rfl (cs:=#[.slice A0_0 l0_0.length c0_0]) (t:=156) (by go_simp) ?_;intro gb405 hg w3 hbox hb;have BK405:=M0 (hbox);replace HB:=M0 (aa HB.out hb);clear hb hbox hg)|((with_reducible refine ak (N:=2) rfl ?_);refine aw rfl (N:=2) rfl (cs:=#[.slice none 0 0]) (t:=55) (by go_simp) ?_;intro gb406 hg w4 hbox hb;have BK406:=M0 (hbox);have GW406:=M0 ((by rw [hg];exact (aj HB.out) : w.heap.size ≤ gb406));have GE406:=GW406;replace HB:=M0 (aa HB.out hb);have NB405_406:=M0 ((by rw [hg];exact Nat.ne_of_lt (a7 BK405.out) : gb405 ≠ gb406));replace BK405:=M0 (ab BK405.out hb);clear hb hbox hg)|((with_reducible refine ak (N:=3) rfl ?_);refine aw rfl (N:=3) rfl (cs:=#[.slice none 0 0]) (t:=55) (by go_simp) ?_;intro gb407 hg w5 hbox hb;have BK407:=M0 (hbox);have GW407:=M0 ((by rw [hg];exact (aj HB.out) : w.heap.size ≤ gb407));have GE407:=GW407;replace HB:=M0 (aa HB.out hb);have NB405_407:=M0 ((by rw [hg];exact Nat.ne_of_lt (a7 BK405.out) : gb405 ≠ gb407));replace BK405:=M0 (ab BK405.out hb);have NB406_407:=M0 ((by rw [hg];exact Nat.ne_of_lt (a7 BK406.out) : gb406 ≠ gb407));replace BK406:=M0 (ab BK406.out hb);clear hb hbox hg;have hcz8_0:=bcv (v:=.slice A0_0 l0_0.length c0_0) BK405.out 0 rfl)|((with_reducible refine ah (f:=46) rfl ?_);refine aH (some 6) rfl rfl Try.func46 (by kernel_rfl) rfl #[.slice A0_0 l0_0.length c0_0] rfl (by (try simp only [List.map_toArray,List.map_cons,List.map_nil]);rfl) ?_;(with_reducible refine (bG.calls k _ _ l0_0 t408 _ (Kd.a8 HR0_0.out HB.out) HC0_0.out A2.out).mono ?_);rintro e w9 ⟨v409,rfl,ho0,hb⟩;refine ⟨_,rfl,?_⟩;have HO410:=M0 (Kd.bj ho0 (aj HB.out));replace BK405:=M0 (ab BK405.out hb);replace BK406:=M0 (ab BK406.out hb);replace BK407:=M0 (ab BK407.out hb);replace HB:=M0 (aa HB.out hb);clear hb ho0;obtain ⟨Ao10,co10,eo10⟩:=Kd.bc HO410.out;subst eo10;have hnc11:=NB406_407.out;have hcz12_0:=bcv (v:=.slice none 0 0) BK407.out 0 rfl;have hfz12_0:=ag BK407.out 0;have hcz13_0:=bcv (v:=.slice none 0 0) BK406.out 0 rfl;have hfz13_0:=ag BK406.out 0))
 refine bodyPost_ret (results_cell_row rfl _ _ gb406 55 #[.slice Ao10 t408.length co10] (0,0) _ rfl (by refine aW (cs:=#[.slice none 0 0]) ?_ 0 _ rfl;refine aX ?_ NB406_407.out _;exact BK406.out) Try.underlying55 rfl (by kernel_rfl)) rfl ?_
 exact ⟨_,by rfl,by exact Kd.bb (Kd.bw (p:=⟨gb406,0,none⟩) (Kd.bw (p:=⟨gb407,0,none⟩) (Kd.bP (Kd.bP HO410.out BK407.out (by decide)) BK406.out (by decide)) (fun _ hk=>hk.1.2) (.slice Ao10 t408.length co10)) (fun _ hk=>hk.2) (.slice Ao10 t408.length co10)) (fun _ hk=>trivial),by repeat ((with_reducible first|exact HB.out|refine ax ?_ GE406.out|refine ax ?_ GE407.out))⟩

/-! ### aA: function 55 -/
def aA.l0 : Nat → List (S156) → List (S55) → Int → Option ((List (S55)))
 | 0,_,_,_=>none
 | k + 1,x0,x3,x4=>if x4 < (x0.length : Int) then (if 0 ≤ x4 then ((cy.f k ((dC x0 x4).f0)).bind fun t415=>(if x4 < (x3.length : Int) then (aA.l0 k x0 (x3.set (x4 : Int).toNat (⟨t415⟩ : S55)) (wrap64 (x4 + 1))) else (none))) else (none)) else (some x3)
def aA.f (k : Nat) (l0 : List (S156)) : Option ((List (S55))):=if 0 ≤ (l0.length : Int) then (if ((l0.length : Int) : Int).toNat ≤ 11728124029610 then (aA.l0 k l0 (List.replicate ((l0.length : Int) : Int).toNat z55) 0) else (none)) else (none)
set_option maxHeartbeats 8000000 in
set_option maxRecDepth 100000 in
theorem aA.calls (k : Nat) (A0 : Option Addr) (c0 : Nat) (l0 : List (S156)) (r : List (S55)) (w : World) (hr0 : Kd.C k156 w A0 l0.length l0) (hc0 : l0.length ≤ c0) (h : aA.f k l0 = some r) :
  Calls Try.prog 55 #[.slice A0 l0.length c0] w fun e w'=>∃ v0_ : Value,e = .returned (v0_) ∧ Kd.S k55 55 w' w.heap.size (fun _=>True) v0_ r ∧ Below w.heap.size w w':=by
 have HR0:=M0 hr0
 have HC0:=M0 hc0
 clear hr0 hc0
 have HB:=M0 (Below.refl w.heap.size w)
 have H : (if 0 ≤ (l0.length : Int) then (if ((l0.length : Int) : Int).toNat ≤ 11728124029610 then (aA.l0 k l0 (List.replicate ((l0.length : Int) : Int).toNat z55) 0) else (none)) else (none)) = some r:=h
 clear h
 obtain ⟨c2,H⟩:=nn H
 have c2b0:=eq_true c2
 have c2b1:=decide_eq_true c2
 clear c2
 obtain ⟨c3,H⟩:=nn H
 have c3b0:=eq_true c3
 have c3b1:=decide_eq_true c3
 clear c3
 obtain ⟨y411,hy411⟩ : ∃ y_ : List (S55),y_ = (List.replicate ((l0.length : Int) : Int).toNat z55):=⟨_,rfl⟩
 rw [← hy411] at H
 have Ny411:=M0 hy411
 clear hy411
 have H':=M0 H
 clear H
 go_enter Try.func55,Try.ntmps55
 go_wp2_with (((with_reducible refine ak (N:=7) rfl ?_);refine Kd.S_make k55 _ 55 rfl (N:=7) rfl 52 _ _ rfl (l0.length : Int) rfl rfl Try.underlying52 (.agg #[(.slice none 0 0)]) 24 info55 rfl (by decide) (by omega) z55 (ok:=fun _=>True) (okp:=fun _=>True) (k55_mkM _ _ _ z55 (Kd.R_nil _ _ _ _ _)) (fun _ hk=>hk) trivial (of_decide_eq_true (by with_reducible assumption)) (Nat.le_trans (Nat.mul_le_mul_right _ (of_decide_eq_true (by with_reducible assumption) : (l0.length : Int).toNat ≤ 11728124029610)) (by omega)) (Below.refl _ _) (Nat.le_refl _) ?_;intro v412 w4 ho5 hb hg_ hnew_;clear hg_ hnew_;(rw [← Ny411.out] at ho5);have HO413:=M0 (Kd.S_lower ho5 (aj HB.out));replace HB:=M0 (aa HB.out hb);clear hb ho5))
 go_loopg [4] k (fun kq v4 w'=>∃ (x3_1 : List (S55)) (x4_1 : Int),v4 = .int .i64 x4_1 ∧ Aside0 (aA.l0 kq l0 x3_1 x4_1 = some r) ∧ Aside0 (kq ≤ k) ∧ Aside0 (Kd.S k55 55 w' w.heap.size (fun _=>True) v412 x3_1) ∧ Aside0 (Below w.heap.size w w'))
 case atStart=>exact ⟨(y411),(0),(by rfl),H',⟨Nat.le_refl _⟩,⟨by exact HO413.out⟩,⟨HB.out⟩⟩
 case round=>
  clear H'
  (try clear c2b0);(try clear c2b1);(try clear c3b0);(try clear c3b1)
  obtain ⟨x3_1,x4_1,rfl,HA,HK1,HO_3,HB⟩:=hrel
  cases gk with
  | zero=>exact absurd HA.out (by simp [aA.l0])
  | succ k1=>
   have H:=HA.out
   clear HA
   simp only [aA.l0] at H
   by_cases c6 : x4_1 < (l0.length : Int)
   ·rw [if_pos c6] at H
    have c6b0:=decide_eq_true c6
    clear c6
    obtain ⟨c7,H⟩:=nn H
    have c7b0:=decide_eq_true c7
    clear c7
    replace H:=Option.bind_eq_some_iff.mp H
    obtain ⟨t415,A80,H⟩:=H
    replace H : (if x4_1 < (x3_1.length : Int) then (aA.l0 k1 l0 (x3_1.set (x4_1 : Int).toNat (⟨t415⟩ : S55)) (wrap64 (x4_1 + 1))) else (none)) = some r:=H
    have A8:=M0 A80
    clear A80
    obtain ⟨c9,H⟩:=nn H
    have c9b0:=decide_eq_true c9
    clear c9
    obtain ⟨y418,hy418⟩ : ∃ y_ : List (S55),y_ = (x3_1.set (x4_1 : Int).toNat (⟨t415⟩ : S55)):=⟨_,rfl⟩
    rw [← hy418] at H
    have Ny418:=M0 hy418
    clear hy418
    have H':=M0 H
    clear H
    have p414 : 0 ≤ (x4_1 : Int):=of_decide_eq_true (by with_reducible assumption)
    have q414 : x4_1 < (l0.length : Int):=of_decide_eq_true (by with_reducible assumption)
    obtain ⟨ad414,A414_0,c414_0,e414,hx414_0,hl414_0,hi414_0⟩:=at_T156 HR0.out x4_1 p414 q414
    cases e414
    replace hx414_0:=(HB.out.cell (World.block_lt_of_cell? w _ hx414_0)).trans hx414_0
    have HR414_0:=M0 hi414_0
    have HC414_0:=M0 hl414_0
    clear hi414_0 hl414_0
    replace p414:=eq_true p414
    replace q414:=eq_true q414
    go_wp2_with (first|((with_reducible refine ah (f:=115) rfl ?_);refine aH (some 20) rfl rfl Try.func115 (by kernel_rfl) rfl #[.agg #[.slice A414_0 ((dC l0 x4_1).f0).length c414_0]] rfl (by (try simp only [List.map_toArray,List.map_cons,List.map_nil]);rfl) ?_;(with_reducible refine (cy.calls k1 _ _ ((dC l0 x4_1).f0) t415 _ (Kd.a8 HR414_0.out HB.out) HC414_0.out A8.out).mono ?_);rintro e w11 ⟨v416,rfl,ho0,hb⟩;obtain ⟨Ao416,co416,eo416⟩:=Kd.bc ho0;subst eo416;refine ⟨_,rfl,?_⟩;replace HO_3:=M0 (Kd.S_elder' HO_3.out (Kd.cS ho0) hb);have HO417:=M0 (Kd.bj ho0 (aj HB.out));replace HB:=M0 (aa HB.out hb);clear hb ho0;have p10 : 0 ≤ (x4_1 : Int):=of_decide_eq_true (by with_reducible assumption);have q10 : (x4_1 : Int) < ((x3_1.length : Int) : Int):=of_decide_eq_true (by with_reducible assumption);obtain ⟨go10,co10,eo10,gb10,gl10,cl10,HG10⟩:=Kd.S_form HO_3.out (by omega);(cases eo10);have GB10:=M0 gb10;have GG10:=M0 HG10;clear gb10 gl10 HG10;obtain ⟨_,ce10,hcl10,hM10,hcc10,hfr10,_,_⟩:=Kd.S_elem HO_3.out z55 (x4_1 : Int) p10 q10;obtain ⟨ve10_0,rfl,ge10_0⟩:=k55_openM hM10;have hx10_0:=hcc10 0 _ rfl;have hf10_0:=hfr10 0;(try simp only [show (k55).sz = 1 from rfl,Nat.mul_one,Nat.add_zero] at hx10_0);(try simp only [show (k55).sz = 1 from rfl,Nat.mul_one,Nat.add_zero] at hf10_0);clear hcl10 hcc10 hfr10 hM10;replace p10:=eq_true p10;replace q10:=eq_true q10;have n_:=M0 (Kd.dW (ok':=(fun k_=>some k_ ≠ ((.slice Ao416 t415.length co416) : Value).ownBlock)) HO_3.out (fun k_ hk=>hk.2));clear HO_3;have HO_3:=n_;clear n_;have HX12:=M0 (show Kd.S k55 55 w11 w.heap.size (fun k_=>((fun _=>True)) k_ ∧ ¬ ((fun k_=>some k_ = ((.slice Ao416 t415.length co416) : Value).ownBlock)) k_) (.slice (some ⟨go10,0,none⟩) x3_1.length co10) x3_1 from (by exact Kd.dW HO_3.out (fun k_ hk=>⟨trivial,fun e_=>hk e_⟩)));obtain ⟨oki12,ce12,hcl12,hM12,hcc12,hfr12,hoki12,hH12⟩:=Kd.S_elem HX12.out z55 (x4_1 : Int) (of_decide_eq_true (by with_reducible assumption)) (by have h_ : (x4_1 : Int) < ((x3_1.length : Int) : Int):=of_decide_eq_true (by with_reducible assumption);exact h_);obtain ⟨ve12_0,rfl,ge12_0⟩:=k55_openM hM12;have HP12:=Kd.S_seg hH12 (of_decide_eq_true (by with_reducible assumption)) (by have h_ : (x4_1 : Int) < ((x3_1.length : Int) : Int):=of_decide_eq_true (by with_reducible assumption);exact h_) (seg:=[(.slice Ao416 t415.length co416)]) (j:=0) (show 1 ≤ 1 from by decide) (x':=(⟨t415⟩ : S55)) (k55_mkM _ _ _ (⟨t415⟩ : S55) (Kd.bb (Kd.R_tight rfl (Kd.bb (ok':=fun k_=>((fun _=>True)) k_ ∧ k_ ≠ go10) (Kd.R_apart' (HO417.out) (Kd.S_typed HO_3.out) (by decide)) (fun k_ hk=>⟨trivial,fun e_=>(hk.2) (by rw [e_];rfl)⟩))) (fun _ h_=>Or.inr (h_)))) (fun _ hk=>hk) (fun k_ hk_=>((Kd.bb (ok':=fun k_=>((fun _=>True)) k_ ∧ k_ ≠ go10) (Kd.R_apart' (HO417.out) (Kd.S_typed HO_3.out) (by decide)) (fun k_ hk=>⟨trivial,fun e_=>(hk.2) (by rw [e_];rfl)⟩))).1 k_ hk_.symm);have hx12_0:=hcc12 0 _ rfl;(try simp only [show (k55).sz = 1 from rfl,Nat.mul_one,Nat.add_zero] at hx12_0);have hf12_0:=hfr12 0;(try simp only [show (k55).sz = 1 from rfl,Nat.mul_one,Nat.add_zero] at hf12_0);clear hcl12 hcc12 hfr12 hM12 hoki12 hH12;(try simp only [show (k55).sz = 1 from rfl,Nat.mul_one,Nat.add_zero] at HP12))|((with_reducible refine bo (t:=55) (p:=21) rfl ?_);refine bK (t:=55) (p:=21) (v:=?vo_w13) (w1:=(w11.setCell ⟨go10,(x4_1 : Int).toNat,none⟩ ((.slice Ao416 t415.length co416)))) ?hg ?ho ?hn ?hr ?_;(case ho=>rfl);(case hg=>rfl);(case hn=>rfl);(case hr=>(go_simp;done));intro w13 hw;have hg : w11.grownBy w13 (some go10):=(by rw [hw];exact HP12.2);have hp_ : Kd.S k55 55 w13 w.heap.size (fun _=>True) (.slice (some ⟨go10,0,none⟩) x3_1.length co10) y418:=(by rw [hw,Ny418.out];exact HP12.1);clear HP12;have n0_:=M0 (hp_);have n1_:=M0 ((by rw [hw];exact ax (HB.out) GB10.out : Below w.heap.size w w13));clear HO_3 HB HO417;have HO_3:=n0_;have HB:=n1_;clear n0_ n1_ hg hw hp_))
    go_roundg k1
    case measure=>have:=HK1.out;omega
    case rel=>exact ⟨(y418),(wrap64 (x4_1 + 1)),(by rfl),H',⟨by have:=HK1.out;omega⟩,⟨by exact HO_3.out⟩,⟨HB.out⟩⟩
   ·rw [if_neg c6] at H
    have c6b0:=decide_eq_false c6
    clear c6
    obtain rfl:=Option.some.inj H
    go_wp2
    go_ret
    exact ⟨_,by rfl,by exact HO_3.out,HB.out⟩

/-! ### bF: function 56 -/
def bF.f (a0_0 : Int) (a0_1 : ByteArray) (a1_0 : Int) (a1_1 : ByteArray) : Option (Bool):=if a0_0 = a1_0 then (if a0_1.toList = a1_1.toList then (some true) else (some false)) else (some false)
set_option maxHeartbeats 8000000 in
set_option maxRecDepth 100000 in
theorem bF.calls (a0_0 : Int) (a0_1 : ByteArray) (a1_0 : Int) (a1_1 : ByteArray) (r : Bool) (w : World) (h : bF.f a0_0 a0_1 a1_0 a1_1 = some r) :
  Calls Try.prog 56 #[.agg #[.int .i64 a0_0,.string a0_1],.agg #[.int .i64 a1_0,.string a1_1]] w fun e w'=>e = .returned (.bool r) ∧ Below w.heap.size w w':=by
 have HB:=M0 (Below.refl w.heap.size w)
 have H : (if a0_0 = a1_0 then (if a0_1.toList = a1_1.toList then (some true) else (some false)) else (some false)) = some r:=h
 clear h
 by_cases c3 : a0_0 = a1_0
 ·rw [if_pos c3] at H
  have c3b0 : (a0_0 == a1_0) = true:=beq_iff_eq.mpr c3
  have c3b1 : (a0_0 != a1_0) = false:=bne_eq_false_iff_eq.mpr c3
  clear c3
  by_cases c4 : a0_1.toList = a1_1.toList
  ·rw [if_pos c4] at H
   have c4b0 : (a0_1.toList == a1_1.toList) = true:=beq_iff_eq.mpr c4
   clear c4
   obtain rfl:=Option.some.inj H
   go_enter Try.func56,Try.ntmps56
   go_wp2_with (first|((with_reducible refine ak (N:=2) rfl ?_);refine aw rfl (N:=2) rfl (cs:=#[.int .i64 a0_0,.string a0_1]) (t:=63) (by go_simp) ?_;intro gb419 hg w5 hbox hb;have BK419:=M0 (hbox);replace HB:=M0 (aa HB.out hb);clear hb hbox hg)|((with_reducible refine ak (N:=3) rfl ?_);refine aw rfl (N:=3) rfl (cs:=#[.int .i64 a1_0,.string a1_1]) (t:=63) (by go_simp) ?_;intro gb420 hg w6 hbox hb;have BK420:=M0 (hbox);replace HB:=M0 (aa HB.out hb);have NB419_420:=M0 ((by rw [hg];exact Nat.ne_of_lt (a7 BK419.out) : gb419 ≠ gb420));replace BK419:=M0 (ab BK419.out hb);clear hb hbox hg;have hcz8_0:=bcv (v:=.int .i64 a0_0) BK419.out 0 rfl;have hcz8_1:=bcv (v:=.string a0_1) BK419.out 1 rfl;have hcz9_0:=bcv (v:=.int .i64 a1_0) BK420.out 0 rfl;have hcz9_1:=bcv (v:=.string a1_1) BK420.out 1 rfl))
   go_ret
   exact ⟨by rfl,HB.out⟩
  ·rw [if_neg c4] at H
   have c4b0 : (a0_1.toList == a1_1.toList) = false:=beq_eq_false_iff_ne.mpr c4
   obtain rfl:=Option.some.inj H
   go_enter Try.func56,Try.ntmps56
   go_wp2_with (first|((with_reducible refine ak (N:=2) rfl ?_);refine aw rfl (N:=2) rfl (cs:=#[.int .i64 a0_0,.string a0_1]) (t:=63) (by go_simp) ?_;intro gb419 hg w10 hbox hb;have BK419:=M0 (hbox);replace HB:=M0 (aa HB.out hb);clear hb hbox hg)|((with_reducible refine ak (N:=3) rfl ?_);refine aw rfl (N:=3) rfl (cs:=#[.int .i64 a1_0,.string a1_1]) (t:=63) (by go_simp) ?_;intro gb420 hg w11 hbox hb;have BK420:=M0 (hbox);replace HB:=M0 (aa HB.out hb);have NB419_420:=M0 ((by rw [hg];exact Nat.ne_of_lt (a7 BK419.out) : gb419 ≠ gb420));replace BK419:=M0 (ab BK419.out hb);clear hb hbox hg;have hcz13_0:=bcv (v:=.int .i64 a0_0) BK419.out 0 rfl;have hcz13_1:=bcv (v:=.string a0_1) BK419.out 1 rfl;have hcz14_0:=bcv (v:=.int .i64 a1_0) BK420.out 0 rfl;have hcz14_1:=bcv (v:=.string a1_1) BK420.out 1 rfl))
   go_ret
   exact ⟨by rfl,HB.out⟩
 ·rw [if_neg c3] at H
  have c3b1 : (a0_0 != a1_0) = true:=bne_iff_ne.mpr c3
  obtain rfl:=Option.some.inj H
  go_enter Try.func56,Try.ntmps56
  go_wp2_with (first|((with_reducible refine ak (N:=2) rfl ?_);refine aw rfl (N:=2) rfl (cs:=#[.int .i64 a0_0,.string a0_1]) (t:=63) (by go_simp) ?_;intro gb419 hg w15 hbox hb;have BK419:=M0 (hbox);replace HB:=M0 (aa HB.out hb);clear hb hbox hg)|((with_reducible refine ak (N:=3) rfl ?_);refine aw rfl (N:=3) rfl (cs:=#[.int .i64 a1_0,.string a1_1]) (t:=63) (by go_simp) ?_;intro gb420 hg w16 hbox hb;have BK420:=M0 (hbox);replace HB:=M0 (aa HB.out hb);have NB419_420:=M0 ((by rw [hg];exact Nat.ne_of_lt (a7 BK419.out) : gb419 ≠ gb420));replace BK419:=M0 (ab BK419.out hb);clear hb hbox hg;have hcz18_0:=bcv (v:=.int .i64 a0_0) BK419.out 0 rfl;have hcz19_0:=bcv (v:=.int .i64 a1_0) BK420.out 0 rfl))
  go_ret
  exact ⟨by rfl,HB.out⟩

/-! ### dy: function 107 -/
def dy.f (a0_0 : Bool) (a0_1 : ByteArray) (a1_0 : Bool) (a1_1 : ByteArray) : Option (Bool):=if (a0_0 != a1_0) = true then (some false) else (if a0_1.toList = a1_1.toList then (some true) else (some false))
set_option maxHeartbeats 8000000 in
set_option maxRecDepth 100000 in
theorem dy.calls (a0_0 : Bool) (a0_1 : ByteArray) (a1_0 : Bool) (a1_1 : ByteArray) (r : Bool) (w : World) (h : dy.f a0_0 a0_1 a1_0 a1_1 = some r) :
  Calls Try.prog 107 #[.agg #[.bool a0_0,.string a0_1],.agg #[.bool a1_0,.string a1_1]] w fun e w'=>e = .returned (.bool r) ∧ Below w.heap.size w w':=by
 have HB:=M0 (Below.refl w.heap.size w)
 have H : (if (a0_0 != a1_0) = true then (some false) else (if a0_1.toList = a1_1.toList then (some true) else (some false))) = some r:=h
 clear h
 by_cases c3 : (a0_0 != a1_0) = true
 ·rw [if_pos c3] at H
  (try (have c3b1 : decide (a0_0 = a1_0) = false:=by simpa using c3))
  (try (have c3b2 : (a0_0 == a1_0) = false:=by simpa using c3))
  (try (have c3b3 : ¬ (a0_0 = a1_0):=by simpa using c3))
  clear c3
  obtain rfl:=Option.some.inj H
  go_enter Try.func107,Try.ntmps107
  go_wp2_with (first|((with_reducible refine ak (N:=2) rfl ?_);refine aw rfl (N:=2) rfl (cs:=#[.bool a0_0,.string a0_1]) (t:=61) (by go_simp) ?_;intro gb421 hg w4 hbox hb;have BK421:=M0 (hbox);replace HB:=M0 (aa HB.out hb);clear hb hbox hg)|((with_reducible refine ak (N:=3) rfl ?_);refine aw rfl (N:=3) rfl (cs:=#[.bool a1_0,.string a1_1]) (t:=61) (by go_simp) ?_;intro gb422 hg w5 hbox hb;have BK422:=M0 (hbox);replace HB:=M0 (aa HB.out hb);have NB421_422:=M0 ((by rw [hg];exact Nat.ne_of_lt (a7 BK421.out) : gb421 ≠ gb422));replace BK421:=M0 (ab BK421.out hb);clear hb hbox hg;have hcz7_0:=bcv (v:=.bool a0_0) BK421.out 0 rfl;have hcz8_0:=bcv (v:=.bool a1_0) BK422.out 0 rfl))
  go_ret
  exact ⟨by rfl,HB.out⟩
 ·rw [if_neg c3] at H
  have c3b0 : (a0_0 != a1_0) = false:=by simpa using c3
  (try (have c3b1 : decide (a0_0 = a1_0) = true:=by simpa using c3))
  (try (have c3b2 : (a0_0 == a1_0) = true:=by simpa using c3))
  clear c3
  by_cases c9 : a0_1.toList = a1_1.toList
  ·rw [if_pos c9] at H
   have c9b0 : (a0_1.toList == a1_1.toList) = true:=beq_iff_eq.mpr c9
   clear c9
   obtain rfl:=Option.some.inj H
   go_enter Try.func107,Try.ntmps107
   go_wp2_with (first|((with_reducible refine ak (N:=2) rfl ?_);refine aw rfl (N:=2) rfl (cs:=#[.bool a0_0,.string a0_1]) (t:=61) (by go_simp) ?_;intro gb421 hg w10 hbox hb;have BK421:=M0 (hbox);replace HB:=M0 (aa HB.out hb);clear hb hbox hg)|((with_reducible refine ak (N:=3) rfl ?_);refine aw rfl (N:=3) rfl (cs:=#[.bool a1_0,.string a1_1]) (t:=61) (by go_simp) ?_;intro gb422 hg w11 hbox hb;have BK422:=M0 (hbox);replace HB:=M0 (aa HB.out hb);have NB421_422:=M0 ((by rw [hg];exact Nat.ne_of_lt (a7 BK421.out) : gb421 ≠ gb422));replace BK421:=M0 (ab BK421.out hb);clear hb hbox hg;have hcz13_0:=bcv (v:=.bool a0_0) BK421.out 0 rfl;have hcz13_1:=bcv (v:=.string a0_1) BK421.out 1 rfl;have hcz14_0:=bcv (v:=.bool a1_0) BK422.out 0 rfl;have hcz14_1:=bcv (v:=.string a1_1) BK422.out 1 rfl))
   go_ret
   exact ⟨by rfl,HB.out⟩
  ·rw [if_neg c9] at H
   have c9b0 : (a0_1.toList == a1_1.toList) = false:=beq_eq_false_iff_ne.mpr c9
   obtain rfl:=Option.some.inj H
   go_enter Try.func107,Try.ntmps107
   go_wp2_with (first|((with_reducible refine ak (N:=2) rfl ?_);refine aw rfl (N:=2) rfl (cs:=#[.bool a0_0,.string a0_1]) (t:=61) (by go_simp) ?_;intro gb421 hg w15 hbox hb;have BK421:=M0 (hbox);replace HB:=M0 (aa HB.out hb);clear hb hbox hg)|((with_reducible refine ak (N:=3) rfl ?_);refine aw rfl (N:=3) rfl (cs:=#[.bool a1_0,.string a1_1]) (t:=61) (by go_simp) ?_;intro gb422 hg w16 hbox hb;have BK422:=M0 (hbox);replace HB:=M0 (aa HB.out hb);have NB421_422:=M0 ((by rw [hg];exact Nat.ne_of_lt (a7 BK421.out) : gb421 ≠ gb422));replace BK421:=M0 (ab BK421.out hb);clear hb hbox hg;have hcz18_0:=bcv (v:=.bool a0_0) BK421.out 0 rfl;have hcz18_1:=bcv (v:=.string a0_1) BK421.out 1 rfl;have hcz19_0:=bcv (v:=.bool a1_0) BK422.out 0 rfl;have hcz19_1:=bcv (v:=.string a1_1) BK422.out 1 rfl))
   go_ret
   exact ⟨by rfl,HB.out⟩

/-! ### a9: function 48 -/
def a9.l0 : Nat → List (S61) → List (S61) → Int → Option (Bool)
 | 0,_,_,_=>none
 | k + 1,x0,x1,x5=>if x5 < (x0.length : Int) then (if 0 ≤ x5 then (if x5 < (x1.length : Int) then ((dy.f ((bf x0 x5).f0) ((bf x0 x5).f1) ((bf x1 x5).f0) ((bf x1 x5).f1)).bind fun t425=>(if t425 = true then (a9.l0 k x0 x1 (wrap64 (x5 + 1))) else (some false))) else (none)) else (none)) else (some true)
def a9.f (k : Nat) (l0 : List (S61)) (l1 : List (S61)) : Option (Bool):=if (l0.length : Int) = (l1.length : Int) then (a9.l0 k l0 l1 0) else (some false)
def a9.T6 : Bool × List (List Nat × List Nat):=(true,[([],[]),([],[]),([0,1],[0,1]),([2],[2]),([],[]),([],[]),([4,5],[4,5]),([6],[6]),([3,7],[3,7]),([8],[8])])
def a9.B6 : List Nat:=[0,0,3,7,0,0,48,112,255,511]
theorem a9.tab6 : rtab .any (opsOf Try.f48 6) = a9.T6:=by kernel_rfl
theorem a9.bits6 : cQ a9.T6.2 a9.B6 = true:=by kernel_rfl
set_option maxHeartbeats 8000000 in
set_option maxRecDepth 100000 in
theorem a9.calls (k : Nat) (A0 : Option Addr) (c0 : Nat) (l0 : List (S61)) (A1 : Option Addr) (c1 : Nat) (l1 : List (S61)) (r : Bool) (w : World) (hr0 : Kd.C k61 w A0 l0.length l0) (hc0 : l0.length ≤ c0) (hr1 : Kd.C k61 w A1 l1.length l1) (hc1 : l1.length ≤ c1) (h : a9.f k l0 l1 = some r) :
  Calls Try.prog 48 #[.slice A0 l0.length c0,.slice A1 l1.length c1] w fun e w'=>e = .returned (.bool r) ∧ Below w.heap.size w w':=by
 have HR0:=M0 hr0
 have HC0:=M0 hc0
 clear hr0 hc0
 have HR1:=M0 hr1
 have HC1:=M0 hc1
 clear hr1 hc1
 have HB:=M0 (Below.refl w.heap.size w)
 have H : (if (l0.length : Int) = (l1.length : Int) then (a9.l0 k l0 l1 0) else (some false)) = some r:=h
 clear h
 by_cases c3 : (l0.length : Int) = (l1.length : Int)
 ·rw [if_pos c3] at H
  have c3b0 : ((l0.length : Int) == (l1.length : Int)) = true:=beq_iff_eq.mpr c3
  have c3b1 : ((l0.length : Int) != (l1.length : Int)) = false:=bne_eq_false_iff_eq.mpr c3
  have c3b2 : (l0.length == l1.length) = true:=by (simp at c3 ⊢;omega)
  clear c3
  have H':=M0 H
  clear H
  go_enter Try.func48,Try.ntmps48
  go_wp2
  go_loopg [5] k (fun kq v5 w'=>∃ (x5_1 : Int),v5 = .int .i64 x5_1 ∧ Aside0 (a9.l0 kq l0 l1 x5_1 = some r) ∧ Aside0 (kq ≤ k) ∧ Aside0 (Below w.heap.size w w'))
  case atStart=>exact ⟨(0),(by rfl),H',⟨Nat.le_refl _⟩,⟨HB.out⟩⟩
  case round=>
   clear H'
   (try clear c3b0);(try clear c3b1);(try clear c3b2)
   obtain ⟨x5_1,rfl,HA,HK1,HB⟩:=hrel
   cases gk with
   | zero=>exact absurd HA.out (by simp [a9.l0])
   | succ k1=>
    have H:=HA.out
    clear HA
    simp only [a9.l0] at H
    by_cases c4 : x5_1 < (l0.length : Int)
    ·rw [if_pos c4] at H
     have c4b0:=decide_eq_true c4
     clear c4
     obtain ⟨c5,H⟩:=nn H
     have c5b0:=decide_eq_true c5
     clear c5
     obtain ⟨c6,H⟩:=nn H
     have c6b0:=decide_eq_true c6
     clear c6
     replace H:=Option.bind_eq_some_iff.mp H
     obtain ⟨t425,A70,H⟩:=H
     replace H : (if t425 = true then (a9.l0 k1 l0 l1 (wrap64 (x5_1 + 1))) else (some false)) = some r:=H
     have A7:=M0 A70
     clear A70
     by_cases c8 : t425 = true
     ·subst c8
      have H1 : (a9.l0 k1 l0 l1 (wrap64 (x5_1 + 1))) = some r:=by rw [if_pos rfl] at H;exact H
      clear H
      have H:=H1
      clear H1
      have H':=M0 H
      clear H
      try go_wp2
      replace HB:=M0 (aQ HB.out)
      have p423 : 0 ≤ (x5_1 : Int):=of_decide_eq_true (by with_reducible assumption)
      have q423 : x5_1 < (l0.length : Int):=of_decide_eq_true (by with_reducible assumption)
      obtain ⟨ad423,e423,hx423_0,hx423_1⟩:=at_T61 HR0.out x5_1 p423 q423
      have hw423_1:=hx423_1
      have hw423_0:=hx423_0
      cases e423
      replace hx423_0:=(HB.out.cell (World.block_lt_of_cell? w _ hx423_0)).trans hx423_0
      replace hx423_1:=(HB.out.cell (World.block_lt_of_cell? w _ hx423_1)).trans hx423_1
      replace p423:=eq_true p423
      replace q423:=eq_true q423
      have p424 : 0 ≤ (x5_1 : Int):=of_decide_eq_true (by with_reducible assumption)
      have q424 : x5_1 < (l1.length : Int):=of_decide_eq_true (by with_reducible assumption)
      obtain ⟨ad424,e424,hx424_0,hx424_1⟩:=at_T61 HR1.out x5_1 p424 q424
      have hw424_1:=hx424_1
      have hw424_0:=hx424_0
      cases e424
      replace hx424_0:=(HB.out.cell (World.block_lt_of_cell? w _ hx424_0)).trans hx424_0
      replace hx424_1:=(HB.out.cell (World.block_lt_of_cell? w _ hx424_1)).trans hx424_1
      replace p424:=eq_true p424
      replace q424:=eq_true q424
      refine bW (n:=10) (S:=fun w'=>w'.cell? (ad423.add ((x5_1).toNat * 2)) = some (.bool ((bf l0 x5_1).f0)) ∧ w'.cell? ⟨(ad423.add ((x5_1).toNat * 2)).block,(ad423.add ((x5_1).toNat * 2)).off + 1,none⟩ = some (.string ((bf l0 x5_1).f1)) ∧ w'.cell? (ad424.add ((x5_1).toNat * 2)) = some (.bool ((bf l1 x5_1).f0)) ∧ w'.cell? ⟨(ad424.add ((x5_1).toNat * 2)).block,(ad424.add ((x5_1).toNat * 2)).off + 1,none⟩ = some (.string ((bf l1 x5_1).f1))) (ds:=[]) #[O,O,O,O,O,O,O,O,O,O] (by kernel_rfl) rfl rfl ⟨((HB.out.cell (World.block_lt_of_cell? w _ hw423_0)).trans hw423_0),((HB.out.cell (World.block_lt_of_cell? w _ hw423_1)).trans hw423_1),((HB.out.cell (World.block_lt_of_cell? w _ hw424_0)).trans hw424_0),((HB.out.cell (World.block_lt_of_cell? w _ hw424_1)).trans hw424_1)⟩ (fun hHeld=>?_);refine cr a9.tab6 a9.bits6 (fun HT_ HW_=>?_)
      generalize wr.drew = w9 at HB hx423_0 hx423_1 hx424_0 hx424_1 hHeld ⊢
      refine aq (i:=0) (N:=some 17) #[I,O,O,O,O,O,O,O,O,O] rfl rfl (aM HT_.out (by kernel_rfl)) (fun _ _ _ h=>h) (Or.inl ⟨by rfl,by intro w';go_simp;with_reducible rfl⟩) (by simp only [Act.put,List.setIfInBounds_toArray,List.set_cons_zero,List.set_cons_succ,ae,af];rfl) ?_
      refine aq (i:=1) (N:=some 18) #[I,I,O,O,O,O,O,O,O,O] rfl rfl (aM HT_.out (by kernel_rfl)) (fun _ _ _ h=>h) (Or.inl ⟨by rfl,by intro w';go_simp;with_reducible rfl⟩) (by simp only [Act.put,List.setIfInBounds_toArray,List.set_cons_zero,List.set_cons_succ,ae,af];rfl) ?_
      refine aq (i:=2) (N:=some 19) #[I,I,I,O,O,O,O,O,O,O] rfl rfl (aM HT_.out (by kernel_rfl)) (fun _ _ _ h=>h) (Or.inl ⟨by rfl,by intro w';go_simp;with_reducible rfl⟩) (by simp only [Act.put,List.setIfInBounds_toArray,List.set_cons_zero,List.set_cons_succ,ae,af];rfl) ?_
      refine aq (i:=4) (N:=some 21) #[I,I,I,O,I,O,O,O,O,O] rfl rfl (aM HT_.out (by kernel_rfl)) (fun _ _ _ h=>h) (Or.inl ⟨by rfl,by intro w';go_simp;with_reducible rfl⟩) (by simp only [Act.put,List.setIfInBounds_toArray,List.set_cons_zero,List.set_cons_succ,ae,af];rfl) ?_
      refine aq (i:=5) (N:=some 22) #[I,I,I,O,I,I,O,O,O,O] rfl rfl (aM HT_.out (by kernel_rfl)) (fun _ _ _ h=>h) (Or.inl ⟨by rfl,by intro w';go_simp;with_reducible rfl⟩) (by simp only [Act.put,List.setIfInBounds_toArray,List.set_cons_zero,List.set_cons_succ,ae,af];rfl) ?_
      refine aq (i:=6) (N:=some 23) #[I,I,I,O,I,I,I,O,O,O] rfl rfl (aM HT_.out (by kernel_rfl)) (fun _ _ _ h=>h) (Or.inl ⟨by rfl,by intro w';go_simp;with_reducible rfl⟩) (by simp only [Act.put,List.setIfInBounds_toArray,List.set_cons_zero,List.set_cons_succ,ae,af];rfl) ?_
      refine bn (i:=3) (N:=some 20) #[I,I,I,I,I,I,I,O,O,O] rfl rfl (bC HT_.out HW_.out (by kernel_rfl)) (fun _ _ _ h=>h) (Or.inl ⟨by rfl,by rintro w' ⟨s0,s1,s2,s3⟩;go_simp;with_reducible rfl⟩) hHeld (by simp only [Act.put,List.setIfInBounds_toArray,List.set_cons_zero,List.set_cons_succ,ae,af];rfl) ?_
      refine bn (i:=7) (N:=some 24) #[I,I,I,I,I,I,I,I,O,O] rfl rfl (bC HT_.out HW_.out (by kernel_rfl)) (fun _ _ _ h=>h) (Or.inl ⟨by rfl,by rintro w' ⟨s0,s1,s2,s3⟩;go_simp;with_reducible rfl⟩) hHeld (by simp only [Act.put,List.setIfInBounds_toArray,List.set_cons_zero,List.set_cons_succ,ae,af];rfl) ?_
      refine one_ (i:=8) (N:=some 25) #[I,I,I,I,I,I,I,I,I,O] rfl rfl (bR HT_.out (by kernel_rfl)) (by decide) (fun K hK=>?_)
      refine cE Try.func107 (by kernel_rfl) rfl #[.agg #[.bool ((bf l0 x5_1).f0),.string ((bf l0 x5_1).f1)],.agg #[.bool ((bf l1 x5_1).f0),.string ((bf l1 x5_1).f1)]] (by rfl) rfl rfl (by (try simp only [List.map_toArray,List.map_cons,List.map_nil]);rfl) ?_
      with_reducible refine (dy.calls ((bf l0 x5_1).f0) ((bf l0 x5_1).f1) ((bf l1 x5_1).f0) ((bf l1 x5_1).f1) true _ A7.out).mono ?_
      rintro e w10 ⟨rfl,hb⟩
      refine ⟨_,rfl,?_⟩
      replace HB:=M0 (aa HB.out hb)
      clear hb
      refine hK.out _ _ ⟨((HB.out.cell (World.block_lt_of_cell? w _ hw423_0)).trans hw423_0),((HB.out.cell (World.block_lt_of_cell? w _ hw423_1)).trans hw423_1),((HB.out.cell (World.block_lt_of_cell? w _ hw424_0)).trans hw424_0),((HB.out.cell (World.block_lt_of_cell? w _ hw424_1)).trans hw424_1)⟩ (fun hHeld=>?_)
      clear hK K
      refine bz (a':=?_) ?_ ?_
      rotate_left
      ·show Act.put _ (some 25) _ = _
       simp only [Act.put,List.setIfInBounds_toArray,List.set_cons_zero,List.set_cons_succ,ae,af]
       rfl
      refine aq (i:=9) (N:=some 26) #[I,I,I,I,I,I,I,I,I,I] rfl rfl (aM HT_.out (by kernel_rfl)) (fun _ _ _ h=>h) (Or.inl ⟨by rfl,by intro w';go_simp;with_reducible rfl⟩) (by simp only [Act.put,List.setIfInBounds_toArray,List.set_cons_zero,List.set_cons_succ,ae,af];rfl) ?_
      refine cD (dg HT_.out (by kernel_rfl)) ?_
      try go_wp2
      go_roundg k1
      case measure=>have:=HK1.out;omega
      case rel=>exact ⟨(wrap64 (x5_1 + 1)),(by rfl),H',⟨by have:=HK1.out;omega⟩,⟨HB.out⟩⟩
     ·replace c8:=Bool.eq_false_iff.mpr c8
      subst c8
      have H1 : (some false) = some r:=by rw [if_neg (show ¬ (false = true) by decide)] at H;exact H
      clear H
      have H:=H1
      clear H1
      obtain rfl:=Option.some.inj H
      try go_wp2
      replace HB:=M0 (aQ HB.out)
      have p423 : 0 ≤ (x5_1 : Int):=of_decide_eq_true (by with_reducible assumption)
      have q423 : x5_1 < (l0.length : Int):=of_decide_eq_true (by with_reducible assumption)
      obtain ⟨ad423,e423,hx423_0,hx423_1⟩:=at_T61 HR0.out x5_1 p423 q423
      have hw423_1:=hx423_1
      have hw423_0:=hx423_0
      cases e423
      replace hx423_0:=(HB.out.cell (World.block_lt_of_cell? w _ hx423_0)).trans hx423_0
      replace hx423_1:=(HB.out.cell (World.block_lt_of_cell? w _ hx423_1)).trans hx423_1
      replace p423:=eq_true p423
      replace q423:=eq_true q423
      have p424 : 0 ≤ (x5_1 : Int):=of_decide_eq_true (by with_reducible assumption)
      have q424 : x5_1 < (l1.length : Int):=of_decide_eq_true (by with_reducible assumption)
      obtain ⟨ad424,e424,hx424_0,hx424_1⟩:=at_T61 HR1.out x5_1 p424 q424
      have hw424_1:=hx424_1
      have hw424_0:=hx424_0
      cases e424
      replace hx424_0:=(HB.out.cell (World.block_lt_of_cell? w _ hx424_0)).trans hx424_0
      replace hx424_1:=(HB.out.cell (World.block_lt_of_cell? w _ hx424_1)).trans hx424_1
      replace p424:=eq_true p424
      replace q424:=eq_true q424
      refine bW (n:=10) (S:=fun w'=>w'.cell? (ad423.add ((x5_1).toNat * 2)) = some (.bool ((bf l0 x5_1).f0)) ∧ w'.cell? ⟨(ad423.add ((x5_1).toNat * 2)).block,(ad423.add ((x5_1).toNat * 2)).off + 1,none⟩ = some (.string ((bf l0 x5_1).f1)) ∧ w'.cell? (ad424.add ((x5_1).toNat * 2)) = some (.bool ((bf l1 x5_1).f0)) ∧ w'.cell? ⟨(ad424.add ((x5_1).toNat * 2)).block,(ad424.add ((x5_1).toNat * 2)).off + 1,none⟩ = some (.string ((bf l1 x5_1).f1))) (ds:=[]) #[O,O,O,O,O,O,O,O,O,O] (by kernel_rfl) rfl rfl ⟨((HB.out.cell (World.block_lt_of_cell? w _ hw423_0)).trans hw423_0),((HB.out.cell (World.block_lt_of_cell? w _ hw423_1)).trans hw423_1),((HB.out.cell (World.block_lt_of_cell? w _ hw424_0)).trans hw424_0),((HB.out.cell (World.block_lt_of_cell? w _ hw424_1)).trans hw424_1)⟩ (fun hHeld=>?_);refine cr a9.tab6 a9.bits6 (fun HT_ HW_=>?_)
      generalize wr.drew = w11 at HB hx423_0 hx423_1 hx424_0 hx424_1 hHeld ⊢
      refine aq (i:=0) (N:=some 17) #[I,O,O,O,O,O,O,O,O,O] rfl rfl (aM HT_.out (by kernel_rfl)) (fun _ _ _ h=>h) (Or.inl ⟨by rfl,by intro w';go_simp;with_reducible rfl⟩) (by simp only [Act.put,List.setIfInBounds_toArray,List.set_cons_zero,List.set_cons_succ,ae,af];rfl) ?_
      refine aq (i:=1) (N:=some 18) #[I,I,O,O,O,O,O,O,O,O] rfl rfl (aM HT_.out (by kernel_rfl)) (fun _ _ _ h=>h) (Or.inl ⟨by rfl,by intro w';go_simp;with_reducible rfl⟩) (by simp only [Act.put,List.setIfInBounds_toArray,List.set_cons_zero,List.set_cons_succ,ae,af];rfl) ?_
      refine aq (i:=2) (N:=some 19) #[I,I,I,O,O,O,O,O,O,O] rfl rfl (aM HT_.out (by kernel_rfl)) (fun _ _ _ h=>h) (Or.inl ⟨by rfl,by intro w';go_simp;with_reducible rfl⟩) (by simp only [Act.put,List.setIfInBounds_toArray,List.set_cons_zero,List.set_cons_succ,ae,af];rfl) ?_
      refine aq (i:=4) (N:=some 21) #[I,I,I,O,I,O,O,O,O,O] rfl rfl (aM HT_.out (by kernel_rfl)) (fun _ _ _ h=>h) (Or.inl ⟨by rfl,by intro w';go_simp;with_reducible rfl⟩) (by simp only [Act.put,List.setIfInBounds_toArray,List.set_cons_zero,List.set_cons_succ,ae,af];rfl) ?_
      refine aq (i:=5) (N:=some 22) #[I,I,I,O,I,I,O,O,O,O] rfl rfl (aM HT_.out (by kernel_rfl)) (fun _ _ _ h=>h) (Or.inl ⟨by rfl,by intro w';go_simp;with_reducible rfl⟩) (by simp only [Act.put,List.setIfInBounds_toArray,List.set_cons_zero,List.set_cons_succ,ae,af];rfl) ?_
      refine aq (i:=6) (N:=some 23) #[I,I,I,O,I,I,I,O,O,O] rfl rfl (aM HT_.out (by kernel_rfl)) (fun _ _ _ h=>h) (Or.inl ⟨by rfl,by intro w';go_simp;with_reducible rfl⟩) (by simp only [Act.put,List.setIfInBounds_toArray,List.set_cons_zero,List.set_cons_succ,ae,af];rfl) ?_
      refine bn (i:=3) (N:=some 20) #[I,I,I,I,I,I,I,O,O,O] rfl rfl (bC HT_.out HW_.out (by kernel_rfl)) (fun _ _ _ h=>h) (Or.inl ⟨by rfl,by rintro w' ⟨s0,s1,s2,s3⟩;go_simp;with_reducible rfl⟩) hHeld (by simp only [Act.put,List.setIfInBounds_toArray,List.set_cons_zero,List.set_cons_succ,ae,af];rfl) ?_
      refine bn (i:=7) (N:=some 24) #[I,I,I,I,I,I,I,I,O,O] rfl rfl (bC HT_.out HW_.out (by kernel_rfl)) (fun _ _ _ h=>h) (Or.inl ⟨by rfl,by rintro w' ⟨s0,s1,s2,s3⟩;go_simp;with_reducible rfl⟩) hHeld (by simp only [Act.put,List.setIfInBounds_toArray,List.set_cons_zero,List.set_cons_succ,ae,af];rfl) ?_
      refine one_ (i:=8) (N:=some 25) #[I,I,I,I,I,I,I,I,I,O] rfl rfl (bR HT_.out (by kernel_rfl)) (by decide) (fun K hK=>?_)
      refine cE Try.func107 (by kernel_rfl) rfl #[.agg #[.bool ((bf l0 x5_1).f0),.string ((bf l0 x5_1).f1)],.agg #[.bool ((bf l1 x5_1).f0),.string ((bf l1 x5_1).f1)]] (by rfl) rfl rfl (by (try simp only [List.map_toArray,List.map_cons,List.map_nil]);rfl) ?_
      with_reducible refine (dy.calls ((bf l0 x5_1).f0) ((bf l0 x5_1).f1) ((bf l1 x5_1).f0) ((bf l1 x5_1).f1) false _ A7.out).mono ?_
      rintro e w12 ⟨rfl,hb⟩
      refine ⟨_,rfl,?_⟩
      replace HB:=M0 (aa HB.out hb)
      clear hb
      refine hK.out _ _ ⟨((HB.out.cell (World.block_lt_of_cell? w _ hw423_0)).trans hw423_0),((HB.out.cell (World.block_lt_of_cell? w _ hw423_1)).trans hw423_1),((HB.out.cell (World.block_lt_of_cell? w _ hw424_0)).trans hw424_0),((HB.out.cell (World.block_lt_of_cell? w _ hw424_1)).trans hw424_1)⟩ (fun hHeld=>?_)
      clear hK K
      refine bz (a':=?_) ?_ ?_
      rotate_left
      ·show Act.put _ (some 25) _ = _
       simp only [Act.put,List.setIfInBounds_toArray,List.set_cons_zero,List.set_cons_succ,ae,af]
       rfl
      refine aq (i:=9) (N:=some 26) #[I,I,I,I,I,I,I,I,I,I] rfl rfl (aM HT_.out (by kernel_rfl)) (fun _ _ _ h=>h) (Or.inl ⟨by rfl,by intro w';go_simp;with_reducible rfl⟩) (by simp only [Act.put,List.setIfInBounds_toArray,List.set_cons_zero,List.set_cons_succ,ae,af];rfl) ?_
      refine cD (dg HT_.out (by kernel_rfl)) ?_
      try go_wp2
      go_ret
      exact ⟨by rfl,HB.out⟩
    ·rw [if_neg c4] at H
     have c4b0:=decide_eq_false c4
     clear c4
     obtain rfl:=Option.some.inj H
     go_wp2
     go_ret
     exact ⟨by rfl,HB.out⟩
 ·rw [if_neg c3] at H
  have c3b1 : ((l0.length : Int) != (l1.length : Int)) = true:=bne_iff_ne.mpr c3
  obtain rfl:=Option.some.inj H
  go_enter Try.func48,Try.ntmps48
  go_wp2
  go_ret
  exact ⟨by rfl,HB.out⟩

/-! ### cm: function 116 -/
def cm.f (k : Nat) (l0_0 : List (S61)) (l1_0 : List (S61)) : Option (Bool):=(a9.f k l0_0 l1_0).bind fun t428=>(if t428 = true then (some true) else (some false))
set_option maxHeartbeats 8000000 in
set_option maxRecDepth 100000 in
theorem cm.calls (k : Nat) (A0_0 : Option Addr) (c0_0 : Nat) (l0_0 : List (S61)) (A1_0 : Option Addr) (c1_0 : Nat) (l1_0 : List (S61)) (r : Bool) (w : World) (hr0_0 : Kd.C k61 w A0_0 l0_0.length l0_0) (hc0_0 : l0_0.length ≤ c0_0) (hr1_0 : Kd.C k61 w A1_0 l1_0.length l1_0) (hc1_0 : l1_0.length ≤ c1_0) (h : cm.f k l0_0 l1_0 = some r) :
  Calls Try.prog 116 #[.agg #[.slice A0_0 l0_0.length c0_0],.agg #[.slice A1_0 l1_0.length c1_0]] w fun e w'=>e = .returned (.bool r) ∧ Below w.heap.size w w':=by
 have HR0_0:=M0 hr0_0
 have HC0_0:=M0 hc0_0
 clear hr0_0 hc0_0
 have HR1_0:=M0 hr1_0
 have HC1_0:=M0 hc1_0
 clear hr1_0 hc1_0
 have HB:=M0 (Below.refl w.heap.size w)
 have H : ((a9.f k l0_0 l1_0).bind fun t428=>(if t428 = true then (some true) else (some false))) = some r:=h
 clear h
 replace H:=Option.bind_eq_some_iff.mp H
 obtain ⟨t428,A30,H⟩:=H
 replace H : (if t428 = true then (some true) else (some false)) = some r:=H
 have A3:=M0 A30
 clear A30
 by_cases c4 : t428 = true
 ·subst c4
  have H1 : (some true) = some r:=by rw [if_pos rfl] at H;exact H
  clear H
  have H:=H1
  clear H1
  obtain rfl:=Option.some.inj H
  go_enter Try.func116,Try.ntmps116
  go_wp2_with (first|((with_reducible refine ak (N:=2) rfl ?_);refine aw rfl (N:=2) rfl (cs:=#[.slice A0_0 l0_0.length c0_0]) (t:=55) (by go_simp) ?_;intro gb426 hg w5 hbox hb;have BK426:=M0 (hbox);replace HB:=M0 (aa HB.out hb);clear hb hbox hg)|((with_reducible refine ak (N:=3) rfl ?_);refine aw rfl (N:=3) rfl (cs:=#[.slice A1_0 l1_0.length c1_0]) (t:=55) (by go_simp) ?_;intro gb427 hg w6 hbox hb;have BK427:=M0 (hbox);replace HB:=M0 (aa HB.out hb);have NB426_427:=M0 ((by rw [hg];exact Nat.ne_of_lt (a7 BK426.out) : gb426 ≠ gb427));replace BK426:=M0 (ab BK426.out hb);clear hb hbox hg;have hcz8_0:=bcv (v:=.slice A0_0 l0_0.length c0_0) BK426.out 0 rfl;have hcz9_0:=bcv (v:=.slice A1_0 l1_0.length c1_0) BK427.out 0 rfl)|((with_reducible refine ah (f:=48) rfl ?_);refine aH (some 9) rfl rfl Try.func48 (by kernel_rfl) rfl #[.slice A0_0 l0_0.length c0_0,.slice A1_0 l1_0.length c1_0] rfl (by (try simp only [List.map_toArray,List.map_cons,List.map_nil]);rfl) ?_;(with_reducible refine (a9.calls k _ _ l0_0 _ _ l1_0 true _ (Kd.a8 HR0_0.out HB.out) HC0_0.out (Kd.a8 HR1_0.out HB.out) HC1_0.out A3.out).mono ?_);rintro e w10 ⟨rfl,hb⟩;refine ⟨_,rfl,?_⟩;replace BK426:=M0 (ab BK426.out hb);replace BK427:=M0 (ab BK427.out hb);replace HB:=M0 (aa HB.out hb);clear hb))
  go_ret
  exact ⟨by rfl,HB.out⟩
 ·replace c4:=Bool.eq_false_iff.mpr c4
  subst c4
  have H1 : (some false) = some r:=by rw [if_neg (show ¬ (false = true) by decide)] at H;exact H
  clear H
  have H:=H1
  clear H1
  obtain rfl:=Option.some.inj H
  go_enter Try.func116,Try.ntmps116
  go_wp2_with (first|((with_reducible refine ak (N:=2) rfl ?_);refine aw rfl (N:=2) rfl (cs:=#[.slice A0_0 l0_0.length c0_0]) (t:=55) (by go_simp) ?_;intro gb426 hg w11 hbox hb;have BK426:=M0 (hbox);replace HB:=M0 (aa HB.out hb);clear hb hbox hg)|((with_reducible refine ak (N:=3) rfl ?_);refine aw rfl (N:=3) rfl (cs:=#[.slice A1_0 l1_0.length c1_0]) (t:=55) (by go_simp) ?_;intro gb427 hg w12 hbox hb;have BK427:=M0 (hbox);replace HB:=M0 (aa HB.out hb);have NB426_427:=M0 ((by rw [hg];exact Nat.ne_of_lt (a7 BK426.out) : gb426 ≠ gb427));replace BK426:=M0 (ab BK426.out hb);clear hb hbox hg;have hcz14_0:=bcv (v:=.slice A0_0 l0_0.length c0_0) BK426.out 0 rfl;have hcz15_0:=bcv (v:=.slice A1_0 l1_0.length c1_0) BK427.out 0 rfl)|((with_reducible refine ah (f:=48) rfl ?_);refine aH (some 9) rfl rfl Try.func48 (by kernel_rfl) rfl #[.slice A0_0 l0_0.length c0_0,.slice A1_0 l1_0.length c1_0] rfl (by (try simp only [List.map_toArray,List.map_cons,List.map_nil]);rfl) ?_;(with_reducible refine (a9.calls k _ _ l0_0 _ _ l1_0 false _ (Kd.a8 HR0_0.out HB.out) HC0_0.out (Kd.a8 HR1_0.out HB.out) HC1_0.out A3.out).mono ?_);rintro e w16 ⟨rfl,hb⟩;refine ⟨_,rfl,?_⟩;replace BK426:=M0 (ab BK426.out hb);replace BK427:=M0 (ab BK427.out hb);replace HB:=M0 (aa HB.out hb);clear hb))
  go_ret
  exact ⟨by rfl,HB.out⟩

end Go.Proofs.Ytffhbpepppodeaa.PFnExactJoinObject
