import Derived.Test.YtffhbpepppodeaaPFnExactDecodeShardsx0
import Derived.Test.YtffhbpepppodeaaPFnExactDecodeShardsx2
import Derived.Test.YtffhbpepppodeaaPFnExactDecodeShardsx3
import Derived.Test.YtffhbpepppodeaaPFnExactDecodeShardsx13
import Derived.Test.YtffhbpepppodeaaPFnExactDecodeShardsx14
namespace Go.Proofs.Ytffhbpepppodeaa.PFnExactDecodeShards
private theorem nn {α : Type} {c : Prop} [Decidable c] {a : Option α} {r : α} (h : (if c then a else none) = some r) : c ∧ a = some r:=by
 split at h
 ·exact ⟨‹c›,h⟩
 ·cases h
open Go.RowKit Go.Proofs.YtffhbpepppodeaaW.PrintWords Go.Proofs.YtffhbpepppodeaaW.PrintLast Go.Proofs.YtffhbpepppodeaaW.PrintMore
attribute [local go_sem] max2_int min2_int max_two min_two max_three min_three max_four min_four   -- for this text's walks alone
set_option linter.unusedVariables false
set_option linter.unusedSimpArgs false

/-! ### laws_markStringS: function 109 -/
def laws_markStringS.l0 : Nat → List ByteArray → Int → Int → Option (Int × List ByteArray)
 | 0,_,_,_=>none
 | k + 1,x0,x1,x5=>if x5 < (x0.length : Int) then ((laws_markText.f k x1).bind fun t366=>(if 0 ≤ x5 then (laws_markStringS.l0 k (x0.set (x5 : Int).toNat t366) (wrap64 (x1 + 1)) (wrap64 (x5 + 1))) else (none))) else (some (x1,x0))
def laws_markStringS.f (k : Nat) (l0 : List ByteArray) (a1 : Int) : Option (Int × List ByteArray):=laws_markStringS.l0 k l0 a1 0
set_option maxHeartbeats 8000000 in
set_option maxRecDepth 100000 in
theorem laws_markStringS.calls (k : Nat) (P0_ : Nat → Prop) (u9000_ : Value) (l0 : List ByteArray) (a1 : Int) (r1 : Int) (r2 : List ByteArray) (w0 w : World) (hB : Below w0.heap.size w0 w) (ho0 : Kd.R Kd.string 9 w w0.heap.size P0_ u9000_ l0) (h : laws_markStringS.f k l0 a1 = some (r1,r2)) :
  Calls Try.prog 109 #[u9000_,.int .i64 a1] w fun e w'=>e = .returned (.int .i64 r1) ∧ Kd.R Kd.string 9 w' w0.heap.size (fun k_=>(P0_ k_ ∨ w.heap.size ≤ k_)) u9000_ r2 ∧ Below w0.heap.size w0 w' ∧ Kept w w' (fun k_=>P0_ k_):=by
 have HO0:=Aside0.mk (show Kd.R Kd.string 9 w w0.heap.size (fun k_=>(P0_ k_ ∨ w.heap.size ≤ k_)) u9000_ l0 from Kd.R_mono ho0 (fun k_ hk=>(.inl hk)))
 have HK:=Aside0.mk (Kept.refl w (fun k_=>P0_ k_))
 have HW0:=Aside0.mk hB.size
 have HB:=Aside0.mk hB
 clear hB
 have H : (laws_markStringS.l0 k l0 a1 0) = some (r1,r2):=h
 clear h
 have H':=Aside0.mk H
 clear H
 go_enter Try.func109,Try.ntmps109
 go_wp2
 go_loopg [1,5] k (fun kq v1 v5 w'=>∃ (x0_1 : List ByteArray) (x1_1 : Int) (x5_1 : Int),v1 = .int .i64 x1_1 ∧ v5 = .int .i64 x5_1 ∧ Aside0 (laws_markStringS.l0 kq x0_1 x1_1 x5_1 = some (r1,r2)) ∧ Aside0 (kq ≤ k) ∧ Aside0 (Kd.R Kd.string 9 w' w0.heap.size (fun k_=>(P0_ k_ ∨ w.heap.size ≤ k_)) u9000_ x0_1) ∧ Aside0 (Kept w w' (fun k_=>P0_ k_)) ∧ Aside0 (Below w0.heap.size w0 w'))
 case atStart=>exact ⟨(l0),(a1),(0),(by rfl),(by rfl),H',⟨Nat.le_refl _⟩,⟨by exact HO0.out⟩,⟨HK.out⟩,⟨HB.out⟩⟩
 case round=>
  clear H'
  obtain ⟨x0_1,x1_1,x5_1,rfl,rfl,HA,HK1,HO_0,HK,HB⟩:=hrel
  cases gk with
  | zero=>exact absurd HA.out (by simp [laws_markStringS.l0])
  | succ k1=>
   have H:=HA.out
   clear HA
   simp only [laws_markStringS.l0] at H
   by_cases c3 : x5_1 < (x0_1.length : Int)
   ·rw [if_pos c3] at H
    have c3b0:=decide_eq_true c3
    clear c3
    replace H:=Option.bind_eq_some_iff.mp H
    obtain ⟨t366,A40,H⟩:=H
    replace H : (if 0 ≤ x5_1 then (laws_markStringS.l0 k1 (x0_1.set (x5_1 : Int).toNat t366) (wrap64 (x1_1 + 1)) (wrap64 (x5_1 + 1))) else (none)) = some (r1,r2):=H
    have A4:=Aside0.mk A40
    clear A40
    obtain ⟨c5,H⟩:=nn H
    have c5b0:=decide_eq_true c5
    clear c5
    obtain ⟨y367,hy367⟩ : ∃ y_ : List ByteArray,y_ = (x0_1.set (x5_1 : Int).toNat t366):=⟨_,rfl⟩
    rw [← hy367] at H
    have Ny367:=Aside0.mk hy367
    clear hy367
    have H':=Aside0.mk H
    clear H
    obtain ⟨Ao7,co7,eo7⟩:=Kd.R_slice HO_0.out
    subst eo7
    go_wp2_with (first|((with_reducible refine gate_callee (f:=108) rfl ?_);refine goesL_ (some 15) rfl rfl Try.func108 (by kernel_rfl) rfl #[.int .i64 x1_1] rfl (by (try simp only [List.map_toArray,List.map_cons,List.map_nil]);rfl) ?_;(with_reducible refine (laws_markText.calls k1 x1_1 t366 _ A4.out).mono ?_);rintro e w8 ⟨rfl,hb⟩;refine ⟨_,rfl,?_⟩;replace HO_0:=Aside0.mk (Kd.R_below HO_0.out hb);replace HK:=Aside0.mk (Kept.below (S:=(fun k_=>P0_ k_)) HK.out hb);replace HB:=Aside0.mk (below_step HB.out hb);(try clear hb);have p6 : 0 ≤ (x5_1 : Int):=of_decide_eq_true (by with_reducible assumption);have q6 : (x5_1 : Int) < ((x0_1.length : Int) : Int):=of_decide_eq_true (by with_reducible assumption);obtain ⟨go6,co6,eo6,gb6,gl6,cl6,HG6⟩:=Kd.R_form HO_0.out (by omega);(cases eo6);have GB6:=Aside0.mk gb6;have GG6:=Aside0.mk HG6;clear gb6 gl6 HG6;have HMgo6:=Aside0.mk (show (P0_ go6 ∨ w.heap.size ≤ go6) from (HO_0.out.1 _ rfl));obtain ⟨hx6_0,hf6_0⟩:=Kd.R_celln (⟨#[]⟩ : ByteArray) HO_0.out (x5_1 : Int) p6 q6;replace p6:=eq_true p6;replace q6:=eq_true q6;obtain ⟨hy9_,hz9_⟩:=Kd.R_celln (⟨#[]⟩ : ByteArray) HO_0.out (x5_1 : Int) (of_decide_eq_true (by with_reducible assumption)) (of_decide_eq_true (by with_reducible assumption));have HP9:=Kd.R_putg HO_0.out (x5_1 : Int) t366)|((with_reducible refine gate_store (t:=9) (p:=16) rfl ?_);refine store_event (t:=9) (p:=16) (v:=?vo_w10) (w1:=(w8.setCell ⟨go6,(x5_1 : Int).toNat,none⟩ (.string t366))) ?hg ?ho ?hn ?hr ?_;(case ho=>rfl);(case hg=>rfl);(case hn=>rfl);(case hr=>(go_simp;done));intro w10 hw;have hg : w8.grownBy w10 (some go6):=(by rw [hw];exact HP9.2);have hp_ : Kd.R Kd.string 9 w10 w0.heap.size (fun k_=>(P0_ k_ ∨ w.heap.size ≤ k_)) (.slice (some ⟨go6,0,none⟩) x0_1.length co7) y367:=(by rw [hw,Ny367.out];exact HP9.1);clear HP9;replace HB:=Aside0.mk ((by rw [hw];exact below_set (HB.out) GB6.out : Below w0.heap.size w0 w10));replace HK:=Aside0.mk (Kept.of_grown (S:=(fun k_=>P0_ k_)) hg HK.out (fun k_ e_=>(HO_0.out.1 k_ e_)));replace HO_0:=Aside0.mk (hp_);clear hg hw hp_))
    go_roundg k1
    case measure=>have:=HK1.out;omega
    case rel=>exact ⟨(y367),(wrap64 (x1_1 + 1)),(wrap64 (x5_1 + 1)),(by rfl),(by rfl),H',⟨by have:=HK1.out;omega⟩,⟨by exact HO_0.out⟩,⟨HK.out⟩,⟨HB.out⟩⟩
   ·rw [if_neg c3] at H
    have c3b0:=decide_eq_false c3
    clear c3
    simp only [Option.some.injEq,Prod.mk.injEq] at H
    obtain ⟨rfl,rfl⟩:=H
    obtain ⟨Ao11,co11,eo11⟩:=Kd.R_slice HO_0.out
    subst eo11
    go_wp2
    go_ret
    exact ⟨by rfl,by exact HO_0.out,HB.out,HK.out⟩

/-! ### laws_markShardResult: function 50 -/
def laws_markShardResult.f (k : Nat) (a0_0 : Int) (l0_1 : List ByteArray) (a1 : Int) : Option (Int × List ByteArray):=(laws_markStringS.f k l0_1 a1).bind fun bt369=>(some (bt369.1,bt369.2))
set_option maxHeartbeats 8000000 in
set_option maxRecDepth 100000 in
theorem laws_markShardResult.calls (k : Nat) (a0_0 : Int) (P0_1_ : Nat → Prop) (u9000_ : Value) (l0_1 : List ByteArray) (a1 : Int) (r1 : Int) (r2 : List ByteArray) (w0 w : World) (hB : Below w0.heap.size w0 w) (ho0_1 : Kd.R Kd.string 9 w w0.heap.size P0_1_ u9000_ l0_1) (h : laws_markShardResult.f k a0_0 l0_1 a1 = some (r1,r2)) :
  Calls Try.prog 50 #[.agg #[.int .i64 a0_0,u9000_],.int .i64 a1] w fun e w'=>e = .returned (.int .i64 r1) ∧ Kd.R Kd.string 9 w' w0.heap.size (fun k_=>(P0_1_ k_ ∨ w.heap.size ≤ k_)) u9000_ r2 ∧ Below w0.heap.size w0 w' ∧ Kept w w' (fun k_=>P0_1_ k_):=by
 have hu68:=Try.underlying68
 have HO0_1:=Aside0.mk (show Kd.R Kd.string 9 w w0.heap.size (fun k_=>(P0_1_ k_ ∨ w.heap.size ≤ k_)) u9000_ l0_1 from Kd.R_mono ho0_1 (fun k_ hk=>(.inl hk)))
 have HK:=Aside0.mk (Kept.refl w (fun k_=>P0_1_ k_))
 have HW0:=Aside0.mk hB.size
 have HB:=Aside0.mk hB
 clear hB
 have H : ((laws_markStringS.f k l0_1 a1).bind fun bt369=>(some (bt369.1,bt369.2))) = some (r1,r2):=h
 clear h
 replace H:=Option.bind_eq_some_iff.mp H
 obtain ⟨⟨t369,t370⟩,A30,H⟩:=H
 dsimp only at H
 have A3:=Aside0.mk A30
 clear A30
 simp only [Option.some.injEq,Prod.mk.injEq] at H
 obtain ⟨rfl,rfl⟩:=H
 obtain ⟨Ao4,co4,eo4⟩:=Kd.R_slice HO0_1.out
 subst eo4
 go_enter Try.func50,Try.ntmps50
 go_wp2_with (first|((with_reducible refine gate_dst (N:=2) rfl ?_);refine box_event ?hg (N:=2) ?hd (cs:=#[.int .i64 a0_0,.slice Ao4 l0_1.length co4]) (t:=68) ?hr ?_;(case hd=>rfl);(case hg=>rfl);(case hr=>(go_simp;done));intro gb368 hg w5 hbox hb;replace HO0_1:=Aside0.mk (Kd.R_below HO0_1.out hb);have BK368:=Aside0.mk (hbox);have GW368:=Aside0.mk ((by rw [hg];exact HK.out.1 : w.heap.size ≤ gb368));replace HK:=Aside0.mk (Kept.below (S:=(fun k_=>P0_1_ k_)) HK.out hb);have GE368:=Aside0.mk ((by rw [hg];exact (below_size HB.out) : w0.heap.size ≤ gb368));replace HB:=Aside0.mk (below_step HB.out hb);clear hb hbox hg;have hcz6_0 : w5.cell? ⟨gb368,0,none⟩ = some (.int .i64 a0_0):=(blk_cell BK368.out 0).trans rfl;have hcz6_1 : w5.cell? ⟨gb368,1,none⟩ = some (.slice Ao4 l0_1.length co4):=(blk_cell BK368.out 1).trans rfl;have hfz6_0:=blk_frozen BK368.out 0;have hfz6_1:=blk_frozen BK368.out 1)|((with_reducible refine gate_callee (f:=109) rfl ?_);refine goesL_ (some 8) rfl rfl Try.func109 (by kernel_rfl) rfl #[.slice Ao4 l0_1.length co4,.int .i64 a1] rfl (by (try simp only [List.map_toArray,List.map_cons,List.map_nil]);rfl) ?_;(with_reducible refine (laws_markStringS.calls k (fun k_=>some k_ = (.slice Ao4 l0_1.length co4 : Value).ownBlock) (.slice Ao4 l0_1.length co4) l0_1 a1 t369 t370 w0 _ ?side1 ?side2 A3.out).mono ?_);(case side1=>repeat ((with_reducible exact HB.out)));(case side2=>exact Kd.R_tight rfl HO0_1.out);rintro e w7 ⟨rfl,hy0,hb,hkp⟩;refine ⟨_,rfl,?_⟩;replace BK368:=Aside0.mk (blk_kept BK368.out hkp (fun hs_=>(fun e_=>(Kd.R_ne HO0_1.out BK368.out (by decide)) e_) hs_));replace HK:=Aside0.mk (Kept.then_ (S:=(fun k_=>P0_1_ k_)) HK.out hkp (fun k_ hs_=>(fun e_=>(HO0_1.out.1 k_ e_.symm)) hs_));replace HO0_1:=Aside0.mk (Kd.R_reok rfl hy0 (fun k_ e_=>HO0_1.out.1 k_ e_));replace HB:=Aside0.mk (hb);(try clear hb);(try clear hkp);(try clear hy0)))
 go_ret
 exact ⟨by rfl,by exact HO0_1.out,HB.out,HK.out⟩

/-! ### laws_heldStringS: function 110 -/
def laws_heldStringS.l0 : Nat → List ByteArray → Int → Int → Option (Int)
 | 0,_,_,_=>none
 | k + 1,x0,x1,x5=>if x5 < (x0.length : Int) then (if 0 ≤ x5 then ((laws_markText.f k x1).bind fun t372=>(if (rdOf ByteArray.empty x0 x5).toList = t372.toList then (laws_heldStringS.l0 k x0 (wrap64 (x1 + 1)) (wrap64 (x5 + 1))) else (some (-1)))) else (none)) else (some x1)
def laws_heldStringS.f (k : Nat) (l0 : List ByteArray) (a1 : Int) : Option (Int):=laws_heldStringS.l0 k l0 a1 0
set_option maxHeartbeats 8000000 in
set_option maxRecDepth 100000 in
theorem laws_heldStringS.calls (k : Nat) (A0 : Option Addr) (c0 : Nat) (l0 : List ByteArray) (a1 : Int) (r : Int) (w : World) (hr0 : Kd.C Kd.string w A0 l0.length l0) (hc0 : l0.length ≤ c0) (h : laws_heldStringS.f k l0 a1 = some r) :
  Calls Try.prog 110 #[.slice A0 l0.length c0,.int .i64 a1] w fun e w'=>e = .returned (.int .i64 r) ∧ Below w.heap.size w w':=by
 have HR0:=Aside0.mk hr0
 have HC0:=Aside0.mk hc0
 clear hr0 hc0
 have HB:=Aside0.mk (Below.refl w.heap.size w)
 have H : (laws_heldStringS.l0 k l0 a1 0) = some r:=h
 clear h
 have H':=Aside0.mk H
 clear H
 go_enter Try.func110,Try.ntmps110
 go_wp2
 go_loopg [1,5] k (fun kq v1 v5 w'=>∃ (x1_1 : Int) (x5_1 : Int),v1 = .int .i64 x1_1 ∧ v5 = .int .i64 x5_1 ∧ Aside0 (laws_heldStringS.l0 kq l0 x1_1 x5_1 = some r) ∧ Aside0 (kq ≤ k) ∧ Aside0 (Below w.heap.size w w'))
 case atStart=>exact ⟨(a1),(0),(by rfl),(by rfl),H',⟨Nat.le_refl _⟩,⟨HB.out⟩⟩
 case round=>
  clear H'
  obtain ⟨x1_1,x5_1,rfl,rfl,HA,HK1,HB⟩:=hrel
  cases gk with
  | zero=>exact absurd HA.out (by simp [laws_heldStringS.l0])
  | succ k1=>
   have H:=HA.out
   clear HA
   simp only [laws_heldStringS.l0] at H
   by_cases c3 : x5_1 < (l0.length : Int)
   ·rw [if_pos c3] at H
    have c3b0:=decide_eq_true c3
    clear c3
    obtain ⟨c4,H⟩:=nn H
    have c4b0:=decide_eq_true c4
    clear c4
    replace H:=Option.bind_eq_some_iff.mp H
    obtain ⟨t372,A50,H⟩:=H
    replace H : (if (rdOf ByteArray.empty l0 x5_1).toList = t372.toList then (laws_heldStringS.l0 k1 l0 (wrap64 (x1_1 + 1)) (wrap64 (x5_1 + 1))) else (some (-1))) = some r:=H
    have A5:=Aside0.mk A50
    clear A50
    by_cases c6 : (rdOf ByteArray.empty l0 x5_1).toList = t372.toList
    ·rw [if_pos c6] at H
     have c6b0 : ((rdOf ByteArray.empty l0 x5_1).toList == t372.toList) = true:=beq_iff_eq.mpr c6
     have c6b1 : ((rdOf ByteArray.empty l0 x5_1).toList != t372.toList) = false:=bne_eq_false_iff_eq.mpr c6
     clear c6
     have H':=Aside0.mk H
     clear H
     try go_wp2
     replace HB:=Aside0.mk (below_drew1 HB.out)
     have p371 : 0 ≤ (x5_1 : Int):=of_decide_eq_true (by with_reducible assumption)
     have q371 : x5_1 < (l0.length : Int):=of_decide_eq_true (by with_reducible assumption)
     obtain ⟨ad371,e371,hx371_0⟩:=Kd.at_string HR0.out x5_1 p371 q371
     have hw371_0:=hx371_0
     cases e371
     replace hx371_0:=(HB.out.cell (World.block_lt_of_cell? w _ hx371_0)).trans hx371_0
     replace p371:=eq_true p371
     replace q371:=eq_true q371
     refine start_ (n:=7) (S:=fun w'=>w'.cell? (ad371.add (x5_1).toNat) = some (.string (rdOf ByteArray.empty l0 x5_1))) (ds:=[]) #[false,false,false,false,false,false,false] (by kernel_rfl) rfl rfl (((HB.out.cell (World.block_lt_of_cell? w _ hw371_0)).trans hw371_0)) (fun hHeld=>?_)
     generalize wr.drew = w7 at HB hx371_0 hHeld ⊢
     refine pure_ (i:=0) (N:=some 12) #[true,false,false,false,false,false,false] rfl rfl (by kernel_rfl) (fun _ _ _ h=>h) (Or.inl ⟨by rfl,by intro w';go_simp;with_reducible rfl⟩) (by simp only [Act.put,List.setIfInBounds_toArray,List.set_cons_zero,List.set_cons_succ,i64_w,i32_w];rfl) ?_
     refine pure_ (i:=1) (N:=some 13) #[true,true,false,false,false,false,false] rfl rfl (by kernel_rfl) (fun _ _ _ h=>h) (Or.inl ⟨by rfl,by intro w';go_simp;with_reducible rfl⟩) (by simp only [Act.put,List.setIfInBounds_toArray,List.set_cons_zero,List.set_cons_succ,i64_w,i32_w];rfl) ?_
     refine pure_ (i:=2) (N:=some 14) #[true,true,true,false,false,false,false] rfl rfl (by kernel_rfl) (fun _ _ _ h=>h) (Or.inl ⟨by rfl,by intro w';go_simp;with_reducible rfl⟩) (by simp only [Act.put,List.setIfInBounds_toArray,List.set_cons_zero,List.set_cons_succ,i64_w,i32_w];rfl) ?_
     refine pure_ (i:=4) (N:=some 16) #[true,true,true,false,true,false,false] rfl rfl (by kernel_rfl) (fun _ _ _ h=>h) (Or.inl ⟨by rfl,by intro w';go_simp;with_reducible rfl⟩) (by simp only [Act.put,List.setIfInBounds_toArray,List.set_cons_zero,List.set_cons_succ,i64_w,i32_w];rfl) ?_
     refine take_ (i:=3) (N:=some 15) #[true,true,true,true,true,false,false] rfl rfl (by kernel_rfl) (fun _ _ _ h=>h) (Or.inl ⟨by rfl,by intro w' s0;go_simp;with_reducible rfl⟩) hHeld (by simp only [Act.put,List.setIfInBounds_toArray,List.set_cons_zero,List.set_cons_succ,i64_w,i32_w];rfl) ?_
     refine one_ (i:=5) (N:=some 17) #[true,true,true,true,true,true,false] rfl rfl (by kernel_rfl) (by decide) (fun K hK=>?_)
     refine goes_ Try.func108 (by kernel_rfl) rfl #[.int .i64 x1_1] (by rfl) rfl rfl (by (try simp only [List.map_toArray,List.map_cons,List.map_nil]);rfl) ?_
     with_reducible refine (laws_markText.calls k1 x1_1 t372 _ A5.out).mono ?_
     rintro e w8 ⟨rfl,hb⟩
     refine ⟨_,rfl,?_⟩
     replace HB:=Aside0.mk (below_step HB.out hb)
     (try clear hb)
     refine hK.out _ _ (((HB.out.cell (World.block_lt_of_cell? w _ hw371_0)).trans hw371_0)) (fun hHeld=>?_)
     clear hK K
     refine norm_ (a':=?_) ?_ ?_
     rotate_left
     ·show Act.put _ (some 17) _ = _
      simp only [Act.put,List.setIfInBounds_toArray,List.set_cons_zero,List.set_cons_succ,i64_w,i32_w]
      rfl
     refine pure_ (i:=6) (N:=some 18) #[true,true,true,true,true,true,true] rfl rfl (by kernel_rfl) (fun _ _ _ h=>h) (Or.inl ⟨by rfl,by intro w';go_simp;with_reducible rfl⟩) (by simp only [Act.put,List.setIfInBounds_toArray,List.set_cons_zero,List.set_cons_succ,i64_w,i32_w];rfl) ?_
     refine done_ (by kernel_rfl) ?_
     try go_wp2
     go_roundg k1
     case measure=>have:=HK1.out;omega
     case rel=>exact ⟨(wrap64 (x1_1 + 1)),(wrap64 (x5_1 + 1)),(by rfl),(by rfl),H',⟨by have:=HK1.out;omega⟩,⟨HB.out⟩⟩
    ·rw [if_neg c6] at H
     have c6b0 : ((rdOf ByteArray.empty l0 x5_1).toList == t372.toList) = false:=beq_eq_false_iff_ne.mpr c6
     have c6b1 : ((rdOf ByteArray.empty l0 x5_1).toList != t372.toList) = true:=bne_iff_ne.mpr c6
     obtain rfl:=Option.some.inj H
     try go_wp2
     replace HB:=Aside0.mk (below_drew1 HB.out)
     have p371 : 0 ≤ (x5_1 : Int):=of_decide_eq_true (by with_reducible assumption)
     have q371 : x5_1 < (l0.length : Int):=of_decide_eq_true (by with_reducible assumption)
     obtain ⟨ad371,e371,hx371_0⟩:=Kd.at_string HR0.out x5_1 p371 q371
     have hw371_0:=hx371_0
     cases e371
     replace hx371_0:=(HB.out.cell (World.block_lt_of_cell? w _ hx371_0)).trans hx371_0
     replace p371:=eq_true p371
     replace q371:=eq_true q371
     refine start_ (n:=7) (S:=fun w'=>w'.cell? (ad371.add (x5_1).toNat) = some (.string (rdOf ByteArray.empty l0 x5_1))) (ds:=[]) #[false,false,false,false,false,false,false] (by kernel_rfl) rfl rfl (((HB.out.cell (World.block_lt_of_cell? w _ hw371_0)).trans hw371_0)) (fun hHeld=>?_)
     generalize wr.drew = w9 at HB hx371_0 hHeld ⊢
     refine pure_ (i:=0) (N:=some 12) #[true,false,false,false,false,false,false] rfl rfl (by kernel_rfl) (fun _ _ _ h=>h) (Or.inl ⟨by rfl,by intro w';go_simp;with_reducible rfl⟩) (by simp only [Act.put,List.setIfInBounds_toArray,List.set_cons_zero,List.set_cons_succ,i64_w,i32_w];rfl) ?_
     refine pure_ (i:=1) (N:=some 13) #[true,true,false,false,false,false,false] rfl rfl (by kernel_rfl) (fun _ _ _ h=>h) (Or.inl ⟨by rfl,by intro w';go_simp;with_reducible rfl⟩) (by simp only [Act.put,List.setIfInBounds_toArray,List.set_cons_zero,List.set_cons_succ,i64_w,i32_w];rfl) ?_
     refine pure_ (i:=2) (N:=some 14) #[true,true,true,false,false,false,false] rfl rfl (by kernel_rfl) (fun _ _ _ h=>h) (Or.inl ⟨by rfl,by intro w';go_simp;with_reducible rfl⟩) (by simp only [Act.put,List.setIfInBounds_toArray,List.set_cons_zero,List.set_cons_succ,i64_w,i32_w];rfl) ?_
     refine pure_ (i:=4) (N:=some 16) #[true,true,true,false,true,false,false] rfl rfl (by kernel_rfl) (fun _ _ _ h=>h) (Or.inl ⟨by rfl,by intro w';go_simp;with_reducible rfl⟩) (by simp only [Act.put,List.setIfInBounds_toArray,List.set_cons_zero,List.set_cons_succ,i64_w,i32_w];rfl) ?_
     refine take_ (i:=3) (N:=some 15) #[true,true,true,true,true,false,false] rfl rfl (by kernel_rfl) (fun _ _ _ h=>h) (Or.inl ⟨by rfl,by intro w' s0;go_simp;with_reducible rfl⟩) hHeld (by simp only [Act.put,List.setIfInBounds_toArray,List.set_cons_zero,List.set_cons_succ,i64_w,i32_w];rfl) ?_
     refine one_ (i:=5) (N:=some 17) #[true,true,true,true,true,true,false] rfl rfl (by kernel_rfl) (by decide) (fun K hK=>?_)
     refine goes_ Try.func108 (by kernel_rfl) rfl #[.int .i64 x1_1] (by rfl) rfl rfl (by (try simp only [List.map_toArray,List.map_cons,List.map_nil]);rfl) ?_
     with_reducible refine (laws_markText.calls k1 x1_1 t372 _ A5.out).mono ?_
     rintro e w10 ⟨rfl,hb⟩
     refine ⟨_,rfl,?_⟩
     replace HB:=Aside0.mk (below_step HB.out hb)
     (try clear hb)
     refine hK.out _ _ (((HB.out.cell (World.block_lt_of_cell? w _ hw371_0)).trans hw371_0)) (fun hHeld=>?_)
     clear hK K
     refine norm_ (a':=?_) ?_ ?_
     rotate_left
     ·show Act.put _ (some 17) _ = _
      simp only [Act.put,List.setIfInBounds_toArray,List.set_cons_zero,List.set_cons_succ,i64_w,i32_w]
      rfl
     refine pure_ (i:=6) (N:=some 18) #[true,true,true,true,true,true,true] rfl rfl (by kernel_rfl) (fun _ _ _ h=>h) (Or.inl ⟨by rfl,by intro w';go_simp;with_reducible rfl⟩) (by simp only [Act.put,List.setIfInBounds_toArray,List.set_cons_zero,List.set_cons_succ,i64_w,i32_w];rfl) ?_
     refine done_ (by kernel_rfl) ?_
     try go_wp2
     go_ret
     exact ⟨by rfl,HB.out⟩
   ·rw [if_neg c3] at H
    have c3b0:=decide_eq_false c3
    clear c3
    obtain rfl:=Option.some.inj H
    go_wp2
    go_ret
    exact ⟨by rfl,HB.out⟩

/-! ### laws_heldShardResult: function 51 -/
def laws_heldShardResult.f (k : Nat) (a0_0 : Int) (l0_1 : List ByteArray) (a1 : Int) : Option (Int):=(laws_heldStringS.f k l0_1 a1).bind fun t374=>(if t374 < 0 then (some (-1)) else (some t374))
set_option maxHeartbeats 8000000 in
set_option maxRecDepth 100000 in
theorem laws_heldShardResult.calls (k : Nat) (a0_0 : Int) (A0_1 : Option Addr) (c0_1 : Nat) (l0_1 : List ByteArray) (a1 : Int) (r : Int) (w : World) (hr0_1 : Kd.C Kd.string w A0_1 l0_1.length l0_1) (hc0_1 : l0_1.length ≤ c0_1) (h : laws_heldShardResult.f k a0_0 l0_1 a1 = some r) :
  Calls Try.prog 51 #[.agg #[.int .i64 a0_0,.slice A0_1 l0_1.length c0_1],.int .i64 a1] w fun e w'=>e = .returned (.int .i64 r) ∧ Below w.heap.size w w':=by
 have hu68:=Try.underlying68
 have HR0_1:=Aside0.mk hr0_1
 have HC0_1:=Aside0.mk hc0_1
 clear hr0_1 hc0_1
 have HB:=Aside0.mk (Below.refl w.heap.size w)
 have H : ((laws_heldStringS.f k l0_1 a1).bind fun t374=>(if t374 < 0 then (some (-1)) else (some t374))) = some r:=h
 clear h
 replace H:=Option.bind_eq_some_iff.mp H
 obtain ⟨t374,A30,H⟩:=H
 replace H : (if t374 < 0 then (some (-1)) else (some t374)) = some r:=H
 have A3:=Aside0.mk A30
 clear A30
 by_cases c4 : t374 < 0
 ·rw [if_pos c4] at H
  have c4b0:=decide_eq_true c4
  clear c4
  obtain rfl:=Option.some.inj H
  go_enter Try.func51,Try.ntmps51
  go_wp2_with (first|((with_reducible refine gate_dst (N:=2) rfl ?_);refine box_event ?hg (N:=2) ?hd (cs:=#[.int .i64 a0_0,.slice A0_1 l0_1.length c0_1]) (t:=68) ?hr ?_;(case hd=>rfl);(case hg=>rfl);(case hr=>(go_simp;done));intro gb373 hg w5 hbox hb;have BK373:=Aside0.mk (hbox);have GW373:=Aside0.mk ((by rw [hg];exact (below_size HB.out) : w.heap.size ≤ gb373));have GE373:=Aside0.mk ((by rw [hg];exact (below_size HB.out) : w.heap.size ≤ gb373));replace HB:=Aside0.mk (below_step HB.out hb);clear hb hbox hg;have hcz6_0 : w5.cell? ⟨gb373,0,none⟩ = some (.int .i64 a0_0):=(blk_cell BK373.out 0).trans rfl;have hcz6_1 : w5.cell? ⟨gb373,1,none⟩ = some (.slice A0_1 l0_1.length c0_1):=(blk_cell BK373.out 1).trans rfl;have hfz6_0:=blk_frozen BK373.out 0;have hfz6_1:=blk_frozen BK373.out 1)|((with_reducible refine gate_callee (f:=110) rfl ?_);refine goesL_ (some 8) rfl rfl Try.func110 (by kernel_rfl) rfl #[.slice A0_1 l0_1.length c0_1,.int .i64 a1] rfl (by (try simp only [List.map_toArray,List.map_cons,List.map_nil]);rfl) ?_;(with_reducible refine (laws_heldStringS.calls k _ _ l0_1 a1 t374 _ ?side1 ?side2 A3.out).mono ?_);(case side1=>exact (Kd.C_below HR0_1.out HB.out));(case side2=>exact HC0_1.out);rintro e w7 ⟨rfl,hb⟩;refine ⟨_,rfl,?_⟩;replace BK373:=Aside0.mk (blk_below BK373.out hb);replace HB:=Aside0.mk (below_step HB.out hb);(try clear hb)))
  go_ret
  exact ⟨by rfl,HB.out⟩
 ·rw [if_neg c4] at H
  have c4b0:=decide_eq_false c4
  clear c4
  obtain rfl:=Option.some.inj H
  go_enter Try.func51,Try.ntmps51
  go_wp2_with (first|((with_reducible refine gate_dst (N:=2) rfl ?_);refine box_event ?hg (N:=2) ?hd (cs:=#[.int .i64 a0_0,.slice A0_1 l0_1.length c0_1]) (t:=68) ?hr ?_;(case hd=>rfl);(case hg=>rfl);(case hr=>(go_simp;done));intro gb373 hg w8 hbox hb;have BK373:=Aside0.mk (hbox);have GW373:=Aside0.mk ((by rw [hg];exact (below_size HB.out) : w.heap.size ≤ gb373));have GE373:=Aside0.mk ((by rw [hg];exact (below_size HB.out) : w.heap.size ≤ gb373));replace HB:=Aside0.mk (below_step HB.out hb);clear hb hbox hg;have hcz9_0 : w8.cell? ⟨gb373,0,none⟩ = some (.int .i64 a0_0):=(blk_cell BK373.out 0).trans rfl;have hcz9_1 : w8.cell? ⟨gb373,1,none⟩ = some (.slice A0_1 l0_1.length c0_1):=(blk_cell BK373.out 1).trans rfl;have hfz9_0:=blk_frozen BK373.out 0;have hfz9_1:=blk_frozen BK373.out 1)|((with_reducible refine gate_callee (f:=110) rfl ?_);refine goesL_ (some 8) rfl rfl Try.func110 (by kernel_rfl) rfl #[.slice A0_1 l0_1.length c0_1,.int .i64 a1] rfl (by (try simp only [List.map_toArray,List.map_cons,List.map_nil]);rfl) ?_;(with_reducible refine (laws_heldStringS.calls k _ _ l0_1 a1 t374 _ ?side1 ?side2 A3.out).mono ?_);(case side1=>exact (Kd.C_below HR0_1.out HB.out));(case side2=>exact HC0_1.out);rintro e w10 ⟨rfl,hb⟩;refine ⟨_,rfl,?_⟩;replace BK373:=Aside0.mk (blk_below BK373.out hb);replace HB:=Aside0.mk (below_step HB.out hb);(try clear hb)))
  go_ret
  exact ⟨by rfl,HB.out⟩

/-! ### laws_FnExactDecodeShards: function 9 -/
def laws_FnExactDecodeShards.j0 : Nat → List (S145) → Bool → Int → Int → Int → Int → List ByteArray → Int → List ByteArray → Option (Bool)
 | 0,_,_,_,_,_,_,_,_,_=>none
 | k + 1,x1,x48,x376000,x376001,x376002,x388000,x388001,x399000,x399001=>if x48 = true then (some false) else ((laws_markShardResult.f k x399000 x399001 1).bind fun bt407=>((laws_heldShardResult.f k x399000 bt407.2 1).bind fun t409=>(if t409 < 0 then (some false) else (if t409 = bt407.1 then ((laws_toCode.f x376000 x376001 x376002).bind fun bt410=>((laws_toShardS.f k x1).bind fun t413=>((impl_DecodeShards.f k bt410.1 bt410.2.1 bt410.2.2 t413).bind fun bt416=>((laws_eqShardResult.f k bt416.1 bt416.2 x388000 x388001).bind fun t421=>(if t421 = true then ((laws_heldShardResult.f k x399000 bt407.2 1).bind fun t422=>(if t422 < 0 then (some false) else (if t422 = bt407.1 then (some true) else (some false)))) else (some false)))))) else (some false)))))
def laws_FnExactDecodeShards.f (k : Nat) (a0_0 : Int) (a0_1 : Int) (a0_2 : Int) (l1 : List (S145)) : Option (Bool):=(laws_szShardS.f k l1 1048576).bind fun t376=>(if t376 < 0 then (some true) else ((laws_toCode.f a0_0 a0_1 a0_2).bind fun bt377=>((laws_toShardS.f k l1).bind fun t380=>((spec_DecodeShards.f k bt377.1 bt377.2.1 bt377.2.2 t380).bind fun bt383=>((laws_toShardS.f k l1).bind fun t388=>((laws_toCode.f a0_0 a0_1 a0_2).bind fun bt391=>((impl_DecodeShards.f k bt391.1 bt391.2.1 bt391.2.2 t388).bind fun bt394=>((laws_eqShardResult.f k bt394.1 bt394.2 bt383.1 bt383.2).bind fun t399=>(if t399 = true then ((laws_toShardS.f k l1).bind fun t400=>((laws_eqShardS.f k t388 t400).bind fun t403=>(if t403 = true then ((laws_markShardS.f k t388 1).bind fun bt404=>(if bt404.1 < 0 then (laws_FnExactDecodeShards.j0 k l1 true a0_0 a0_1 a0_2 bt383.1 bt383.2 bt394.1 bt394.2) else ((laws_eqShardResult.f k bt394.1 bt394.2 bt383.1 bt383.2).bind fun t406=>(laws_FnExactDecodeShards.j0 k l1 (!t406) a0_0 a0_1 a0_2 bt383.1 bt383.2 bt394.1 bt394.2)))) else (some false)))) else (some false))))))))))
set_option maxHeartbeats 8000000 in
set_option maxRecDepth 100000 in
theorem laws_FnExactDecodeShards.calls (k : Nat) (a0_0 : Int) (a0_1 : Int) (a0_2 : Int) (A1 : Option Addr) (c1 : Nat) (l1 : List (S145)) (_r : Bool) (w : World) (hr1 : Kd.C k145 w A1 l1.length l1) (hc1 : l1.length ≤ c1) (h : laws_FnExactDecodeShards.f k a0_0 a0_1 a0_2 l1 = some true) :
  Calls Try.prog 9 #[.agg #[.int .i64 a0_0,.int .i64 a0_1,.int .i64 a0_2],.slice A1 l1.length c1] w fun e w'=>e = .returned (.bool true) ∧ Below w.heap.size w w':=by
 have hu78:=Try.underlying78
 have hu68:=Try.underlying68
 have HR1:=Aside0.mk hr1
 have HC1:=Aside0.mk hc1
 clear hr1 hc1
 have HB:=Aside0.mk (Below.refl w.heap.size w)
 have H : ((laws_szShardS.f k l1 1048576).bind fun t376=>(if t376 < 0 then (some true) else ((laws_toCode.f a0_0 a0_1 a0_2).bind fun bt377=>((laws_toShardS.f k l1).bind fun t380=>((spec_DecodeShards.f k bt377.1 bt377.2.1 bt377.2.2 t380).bind fun bt383=>((laws_toShardS.f k l1).bind fun t388=>((laws_toCode.f a0_0 a0_1 a0_2).bind fun bt391=>((impl_DecodeShards.f k bt391.1 bt391.2.1 bt391.2.2 t388).bind fun bt394=>((laws_eqShardResult.f k bt394.1 bt394.2 bt383.1 bt383.2).bind fun t399=>(if t399 = true then ((laws_toShardS.f k l1).bind fun t400=>((laws_eqShardS.f k t388 t400).bind fun t403=>(if t403 = true then ((laws_markShardS.f k t388 1).bind fun bt404=>(if bt404.1 < 0 then (laws_FnExactDecodeShards.j0 k l1 true a0_0 a0_1 a0_2 bt383.1 bt383.2 bt394.1 bt394.2) else ((laws_eqShardResult.f k bt394.1 bt394.2 bt383.1 bt383.2).bind fun t406=>(laws_FnExactDecodeShards.j0 k l1 (!t406) a0_0 a0_1 a0_2 bt383.1 bt383.2 bt394.1 bt394.2)))) else (some false)))) else (some false))))))))))) = some true:=h
 clear h
 replace H:=Option.bind_eq_some_iff.mp H
 obtain ⟨t376,A30,H⟩:=H
 replace H : (if t376 < 0 then (some true) else ((laws_toCode.f a0_0 a0_1 a0_2).bind fun bt377=>((laws_toShardS.f k l1).bind fun t380=>((spec_DecodeShards.f k bt377.1 bt377.2.1 bt377.2.2 t380).bind fun bt383=>((laws_toShardS.f k l1).bind fun t388=>((laws_toCode.f a0_0 a0_1 a0_2).bind fun bt391=>((impl_DecodeShards.f k bt391.1 bt391.2.1 bt391.2.2 t388).bind fun bt394=>((laws_eqShardResult.f k bt394.1 bt394.2 bt383.1 bt383.2).bind fun t399=>(if t399 = true then ((laws_toShardS.f k l1).bind fun t400=>((laws_eqShardS.f k t388 t400).bind fun t403=>(if t403 = true then ((laws_markShardS.f k t388 1).bind fun bt404=>(if bt404.1 < 0 then (laws_FnExactDecodeShards.j0 k l1 true a0_0 a0_1 a0_2 bt383.1 bt383.2 bt394.1 bt394.2) else ((laws_eqShardResult.f k bt394.1 bt394.2 bt383.1 bt383.2).bind fun t406=>(laws_FnExactDecodeShards.j0 k l1 (!t406) a0_0 a0_1 a0_2 bt383.1 bt383.2 bt394.1 bt394.2)))) else (some false)))) else (some false)))))))))) = some true:=H
 have A3:=Aside0.mk A30
 clear A30
 by_cases c4 : t376 < 0
 ·rw [if_pos c4] at H
  have c4b0:=decide_eq_true c4
  clear c4 H
  go_enter Try.func9,Try.ntmps9
  go_wp2_with (first|((with_reducible refine gate_dst (N:=2) rfl ?_);refine box_event ?hg (N:=2) ?hd (cs:=#[.int .i64 a0_0,.int .i64 a0_1,.int .i64 a0_2]) (t:=78) ?hr ?_;(case hd=>rfl);(case hg=>rfl);(case hr=>(go_simp;done));intro gb375 hg w5 hbox hb;have BK375:=Aside0.mk (hbox);have GW375:=Aside0.mk ((by rw [hg];exact (below_size HB.out) : w.heap.size ≤ gb375));have GE375:=Aside0.mk ((by rw [hg];exact (below_size HB.out) : w.heap.size ≤ gb375));replace HB:=Aside0.mk (below_step HB.out hb);clear hb hbox hg)|((with_reducible refine gate_callee (f:=43) rfl ?_);refine goesL_ (some 15) rfl rfl Try.func43 (by kernel_rfl) rfl #[.slice A1 l1.length c1,.int .i64 1048576] rfl (by (try simp only [List.map_toArray,List.map_cons,List.map_nil]);rfl) ?_;(with_reducible refine (laws_szShardS.calls k _ _ l1 1048576 t376 _ ?side1 ?side2 A3.out).mono ?_);(case side1=>exact (Kd.C_below HR1.out HB.out));(case side2=>exact HC1.out);rintro e w6 ⟨rfl,hb⟩;refine ⟨_,rfl,?_⟩;replace BK375:=Aside0.mk (blk_below BK375.out hb);replace HB:=Aside0.mk (below_step HB.out hb);(try clear hb)))
  go_ret
  exact ⟨by rfl,HB.out⟩
 ·rw [if_neg c4] at H
  have c4b0:=decide_eq_false c4
  clear c4
  replace H:=Option.bind_eq_some_iff.mp H
  obtain ⟨⟨t377,t378,t379⟩,A70,H⟩:=H
  dsimp only at H
  have A7:=Aside0.mk A70
  clear A70
  replace H:=Option.bind_eq_some_iff.mp H
  obtain ⟨t380,A80,H⟩:=H
  replace H : ((spec_DecodeShards.f k t377 t378 t379 t380).bind fun bt383=>((laws_toShardS.f k l1).bind fun t388=>((laws_toCode.f a0_0 a0_1 a0_2).bind fun bt391=>((impl_DecodeShards.f k bt391.1 bt391.2.1 bt391.2.2 t388).bind fun bt394=>((laws_eqShardResult.f k bt394.1 bt394.2 bt383.1 bt383.2).bind fun t399=>(if t399 = true then ((laws_toShardS.f k l1).bind fun t400=>((laws_eqShardS.f k t388 t400).bind fun t403=>(if t403 = true then ((laws_markShardS.f k t388 1).bind fun bt404=>(if bt404.1 < 0 then (laws_FnExactDecodeShards.j0 k l1 true a0_0 a0_1 a0_2 bt383.1 bt383.2 bt394.1 bt394.2) else ((laws_eqShardResult.f k bt394.1 bt394.2 bt383.1 bt383.2).bind fun t406=>(laws_FnExactDecodeShards.j0 k l1 (!t406) a0_0 a0_1 a0_2 bt383.1 bt383.2 bt394.1 bt394.2)))) else (some false)))) else (some false))))))) = some true:=H
  have A8:=Aside0.mk A80
  clear A80
  replace H:=Option.bind_eq_some_iff.mp H
  obtain ⟨⟨t383,t384⟩,A90,H⟩:=H
  dsimp only at H
  have A9:=Aside0.mk A90
  clear A90
  replace H:=Option.bind_eq_some_iff.mp H
  obtain ⟨t388,A100,H⟩:=H
  replace H : ((laws_toCode.f a0_0 a0_1 a0_2).bind fun bt391=>((impl_DecodeShards.f k bt391.1 bt391.2.1 bt391.2.2 t388).bind fun bt394=>((laws_eqShardResult.f k bt394.1 bt394.2 t383 t384).bind fun t399=>(if t399 = true then ((laws_toShardS.f k l1).bind fun t400=>((laws_eqShardS.f k t388 t400).bind fun t403=>(if t403 = true then ((laws_markShardS.f k t388 1).bind fun bt404=>(if bt404.1 < 0 then (laws_FnExactDecodeShards.j0 k l1 true a0_0 a0_1 a0_2 t383 t384 bt394.1 bt394.2) else ((laws_eqShardResult.f k bt394.1 bt394.2 t383 t384).bind fun t406=>(laws_FnExactDecodeShards.j0 k l1 (!t406) a0_0 a0_1 a0_2 t383 t384 bt394.1 bt394.2)))) else (some false)))) else (some false))))) = some true:=H
  have A10:=Aside0.mk A100
  clear A100
  replace H:=Option.bind_eq_some_iff.mp H
  obtain ⟨⟨t391,t392,t393⟩,A110,H⟩:=H
  dsimp only at H
  have A11:=Aside0.mk A110
  clear A110
  replace H:=Option.bind_eq_some_iff.mp H
  obtain ⟨⟨t394,t395⟩,A120,H⟩:=H
  dsimp only at H
  have A12:=Aside0.mk A120
  clear A120
  replace H:=Option.bind_eq_some_iff.mp H
  obtain ⟨t399,A130,H⟩:=H
  replace H : (if t399 = true then ((laws_toShardS.f k l1).bind fun t400=>((laws_eqShardS.f k t388 t400).bind fun t403=>(if t403 = true then ((laws_markShardS.f k t388 1).bind fun bt404=>(if bt404.1 < 0 then (laws_FnExactDecodeShards.j0 k l1 true a0_0 a0_1 a0_2 t383 t384 t394 t395) else ((laws_eqShardResult.f k t394 t395 t383 t384).bind fun t406=>(laws_FnExactDecodeShards.j0 k l1 (!t406) a0_0 a0_1 a0_2 t383 t384 t394 t395)))) else (some false)))) else (some false)) = some true:=H
  have A13:=Aside0.mk A130
  clear A130
  by_cases c14 : t399 = true
  ·subst c14
   have H1 : ((laws_toShardS.f k l1).bind fun t400=>((laws_eqShardS.f k t388 t400).bind fun t403=>(if t403 = true then ((laws_markShardS.f k t388 1).bind fun bt404=>(if bt404.1 < 0 then (laws_FnExactDecodeShards.j0 k l1 true a0_0 a0_1 a0_2 t383 t384 t394 t395) else ((laws_eqShardResult.f k t394 t395 t383 t384).bind fun t406=>(laws_FnExactDecodeShards.j0 k l1 (!t406) a0_0 a0_1 a0_2 t383 t384 t394 t395)))) else (some false)))) = some true:=by rw [if_pos rfl] at H;exact H
   clear H
   have H:=H1
   clear H1
   replace H:=Option.bind_eq_some_iff.mp H
   obtain ⟨t400,A150,H⟩:=H
   replace H : ((laws_eqShardS.f k t388 t400).bind fun t403=>(if t403 = true then ((laws_markShardS.f k t388 1).bind fun bt404=>(if bt404.1 < 0 then (laws_FnExactDecodeShards.j0 k l1 true a0_0 a0_1 a0_2 t383 t384 t394 t395) else ((laws_eqShardResult.f k t394 t395 t383 t384).bind fun t406=>(laws_FnExactDecodeShards.j0 k l1 (!t406) a0_0 a0_1 a0_2 t383 t384 t394 t395)))) else (some false))) = some true:=H
   have A15:=Aside0.mk A150
   clear A150
   replace H:=Option.bind_eq_some_iff.mp H
   obtain ⟨t403,A160,H⟩:=H
   replace H : (if t403 = true then ((laws_markShardS.f k t388 1).bind fun bt404=>(if bt404.1 < 0 then (laws_FnExactDecodeShards.j0 k l1 true a0_0 a0_1 a0_2 t383 t384 t394 t395) else ((laws_eqShardResult.f k t394 t395 t383 t384).bind fun t406=>(laws_FnExactDecodeShards.j0 k l1 (!t406) a0_0 a0_1 a0_2 t383 t384 t394 t395)))) else (some false)) = some true:=H
   have A16:=Aside0.mk A160
   clear A160
   by_cases c17 : t403 = true
   ·subst c17
    have H1 : ((laws_markShardS.f k t388 1).bind fun bt404=>(if bt404.1 < 0 then (laws_FnExactDecodeShards.j0 k l1 true a0_0 a0_1 a0_2 t383 t384 t394 t395) else ((laws_eqShardResult.f k t394 t395 t383 t384).bind fun t406=>(laws_FnExactDecodeShards.j0 k l1 (!t406) a0_0 a0_1 a0_2 t383 t384 t394 t395)))) = some true:=by rw [if_pos rfl] at H;exact H
    clear H
    have H:=H1
    clear H1
    replace H:=Option.bind_eq_some_iff.mp H
    obtain ⟨⟨t404,t405⟩,A180,H⟩:=H
    dsimp only at H
    have A18:=Aside0.mk A180
    clear A180
    have HC19:=Aside0.mk H
    clear H
    go_enter Try.func9,Try.ntmps9
    go_upto_region 14 with (first|((with_reducible refine gate_dst (N:=2) rfl ?_);refine box_event ?hg (N:=2) ?hd (cs:=#[.int .i64 a0_0,.int .i64 a0_1,.int .i64 a0_2]) (t:=78) ?hr ?_;(case hd=>rfl);(case hg=>rfl);(case hr=>(go_simp;done));intro gb375 hg w20 hbox hb;have BK375:=Aside0.mk (hbox);have GW375:=Aside0.mk ((by rw [hg];exact (below_size HB.out) : w.heap.size ≤ gb375));have GE375:=Aside0.mk ((by rw [hg];exact (below_size HB.out) : w.heap.size ≤ gb375));replace HB:=Aside0.mk (below_step HB.out hb);clear hb hbox hg)|((with_reducible refine gate_callee (f:=43) rfl ?_);refine goesL_ (some 15) rfl rfl Try.func43 (by kernel_rfl) rfl #[.slice A1 l1.length c1,.int .i64 1048576] rfl (by (try simp only [List.map_toArray,List.map_cons,List.map_nil]);rfl) ?_;(with_reducible refine (laws_szShardS.calls k _ _ l1 1048576 t376 _ ?side1 ?side2 A3.out).mono ?_);(case side1=>exact (Kd.C_below HR1.out HB.out));(case side2=>exact HC1.out);rintro e w21 ⟨rfl,hb⟩;refine ⟨_,rfl,?_⟩;replace BK375:=Aside0.mk (blk_below BK375.out hb);replace HB:=Aside0.mk (below_step HB.out hb);(try clear hb);have hcz22_0 : w21.cell? ⟨gb375,0,none⟩ = some (.int .i64 a0_0):=(blk_cell BK375.out 0).trans rfl;have hcz22_1 : w21.cell? ⟨gb375,1,none⟩ = some (.int .i64 a0_1):=(blk_cell BK375.out 1).trans rfl;have hcz22_2 : w21.cell? ⟨gb375,2,none⟩ = some (.int .i64 a0_2):=(blk_cell BK375.out 2).trans rfl;have hfz22_0:=blk_frozen BK375.out 0;have hfz22_1:=blk_frozen BK375.out 1;have hfz22_2:=blk_frozen BK375.out 2)|((with_reducible refine gate_callee (f:=45) rfl ?_);refine goesL_ (some 19) rfl rfl Try.func45 (by kernel_rfl) rfl #[.agg #[.int .i64 a0_0,.int .i64 a0_1,.int .i64 a0_2]] rfl (by (try simp only [List.map_toArray,List.map_cons,List.map_nil]);rfl) ?_;(with_reducible refine (laws_toCode.calls a0_0 a0_1 a0_2 t377 t378 t379 _ A7.out).mono ?_);rintro e w23 ⟨rfl,hb⟩;refine ⟨_,rfl,?_⟩;replace BK375:=Aside0.mk (blk_below BK375.out hb);replace HB:=Aside0.mk (below_step HB.out hb);(try clear hb))|((with_reducible refine gate_callee (f:=46) rfl ?_);refine goesL_ (some 21) rfl rfl Try.func46 (by kernel_rfl) rfl #[.slice A1 l1.length c1] rfl (by (try simp only [List.map_toArray,List.map_cons,List.map_nil]);rfl) ?_;(with_reducible refine (laws_toShardS.calls k _ _ l1 t380 _ ?side1 ?side2 A8.out).mono ?_);(case side1=>exact (Kd.C_below HR1.out HB.out));(case side2=>exact HC1.out);rintro e w24 ⟨v381,rfl,ho0,hb⟩;refine ⟨_,rfl,?_⟩;have HO382:=Aside0.mk (Kd.R_lower ho0 (below_size HB.out));replace BK375:=Aside0.mk (blk_below BK375.out hb);replace HB:=Aside0.mk (below_step HB.out hb);(try clear hb);(try clear ho0);obtain ⟨Ao25,co25,eo25⟩:=Kd.R_slice HO382.out;subst eo25)|((with_reducible refine gate_callee (f:=44) rfl ?_);refine goesL_ (some 22) rfl rfl Try.func44 (by kernel_rfl) rfl #[.agg #[.int .i64 t377,.int .i64 t378,.int .i64 t379],.slice Ao25 t380.length co25] rfl (by (try simp only [List.map_toArray,List.map_cons,List.map_nil]);rfl) ?_;(with_reducible refine (spec_DecodeShards.calls k t377 t378 t379 _ _ t380 t383 t384 _ ?side1 ?side2 A9.out).mono ?_);(case side1=>exact (Kd.R_reads' HO382.out).2.2);(case side2=>exact (Kd.R_reads' HO382.out).2.1);rintro e w26 ⟨v385,rfl,ho0,hb⟩;refine ⟨_,rfl,?_⟩;replace HO382:=Aside0.mk (Kd.R_below HO382.out hb);have HO386:=Aside0.mk (Kd.R_lower ho0 (below_size HB.out));replace BK375:=Aside0.mk (blk_below BK375.out hb);replace HB:=Aside0.mk (below_step HB.out hb);(try clear hb);(try clear ho0))|((with_reducible refine gate_dst (N:=6) rfl ?_);refine box_event ?hg (N:=6) ?hd (cs:=#[.int .i64 0,.slice none 0 0]) (t:=68) ?hr ?_;(case hd=>rfl);(case hg=>rfl);(case hr=>(go_simp;done));intro gb387 hg w27 hbox hb;replace HO382:=Aside0.mk (Kd.R_below HO382.out hb);replace HO386:=Aside0.mk (Kd.R_below HO386.out hb);have BK387:=Aside0.mk (hbox);have GW387:=Aside0.mk ((by rw [hg];exact (below_size HB.out) : w.heap.size ≤ gb387));have GE387:=Aside0.mk ((by rw [hg];exact (below_size HB.out) : w.heap.size ≤ gb387));replace HB:=Aside0.mk (below_step HB.out hb);have NB375_387:=Aside0.mk ((by rw [hg];exact Nat.ne_of_lt (blk_lt BK375.out) : gb375 ≠ gb387));have NB387_375:=Aside0.mk ((by rw [hg];exact Nat.ne_of_gt (blk_lt BK375.out) : gb387 ≠ gb375));replace BK375:=Aside0.mk (blk_below BK375.out hb);clear hb hbox hg;have hnb28:=NB387_375.out;have hnc28:=NB375_387.out;have hcz29_0 : w27.cell? ⟨gb387,0,none⟩ = some (.int .i64 0):=(blk_cell BK387.out 0).trans rfl;have hcz29_1 : w27.cell? ⟨gb387,1,none⟩ = some (.slice none 0 0):=(blk_cell BK387.out 1).trans rfl;have hfz29_0:=blk_frozen BK387.out 0;have hfz29_1:=blk_frozen BK387.out 1;obtain ⟨Ao30,co30,eo30⟩:=Kd.R_slice HO386.out;subst eo30)|((with_reducible refine gate_callee (f:=46) rfl ?_);refine goesL_ (some 24) rfl rfl Try.func46 (by kernel_rfl) rfl #[.slice A1 l1.length c1] rfl (by (try simp only [List.map_toArray,List.map_cons,List.map_nil]);rfl) ?_;(with_reducible refine (laws_toShardS.calls k _ _ l1 t388 _ ?side1 ?side2 A10.out).mono ?_);(case side1=>exact Kd.C_below HR1.out (by repeat ((with_reducible first|exact HB.out|refine below_set ?_ GE387.out))));(case side2=>exact HC1.out);rintro e w31 ⟨v389,rfl,ho0,hb⟩;refine ⟨_,rfl,?_⟩;replace HO386:=Aside0.mk (Kd.R_below (by exact (Kd.R_mono (Kd.R_far (p:=⟨gb387,1,none⟩) (Kd.R_far (p:=⟨gb387,0,none⟩) (Kd.R_types HO386.out BK387.out (by decide)) (fun _ hk=>hk.2) (.int .i64 t383)) (fun _ hk=>hk.2) (.slice Ao30 t384.length co30)) (fun _ h_=>h_.1))) hb);have HO390:=Aside0.mk (Kd.R_lower (Kd.R_new' ho0 (Kd.R_lt (by exact (Kd.R_mono (Kd.R_far (p:=⟨gb387,1,none⟩) (Kd.R_far (p:=⟨gb387,0,none⟩) (Kd.R_types HO382.out BK387.out (by decide)) (fun _ hk=>hk.2) (.int .i64 t383)) (fun _ hk=>hk.2) (.slice Ao30 t384.length co30)) (fun _ h_=>h_.1))))) (below_size (by repeat ((with_reducible first|exact HB.out|refine below_set ?_ GE387.out)))));replace HO382:=Aside0.mk (Kd.R_elder' (by exact (Kd.R_mono (Kd.R_far (p:=⟨gb387,1,none⟩) (Kd.R_far (p:=⟨gb387,0,none⟩) (Kd.R_types HO382.out BK387.out (by decide)) (fun _ hk=>hk.2) (.int .i64 t383)) (fun _ hk=>hk.2) (.slice Ao30 t384.length co30)) (fun _ h_=>h_.1))) (Kd.R_base ho0) hb);replace BK375:=Aside0.mk (blk_below (g:=gb375) (o:=.cells #[.int .i64 a0_0,.int .i64 a0_1,.int .i64 a0_2] 78 (0,0)) (by refine blk_far ?_ NB375_387.out _;refine blk_far ?_ NB375_387.out _;exact BK375.out) hb);replace BK387:=Aside0.mk (blk_below (g:=gb387) (o:=.cells #[.int .i64 t383,.slice Ao30 t384.length co30] 68 (0,0)) (by refine blk_put (cs:=#[.int .i64 t383,.slice none 0 0]) ?_ 1 _ rfl;refine blk_put (cs:=#[.int .i64 0,.slice none 0 0]) ?_ 0 _ rfl;exact BK387.out) hb);replace HB:=Aside0.mk (below_step (by repeat ((with_reducible first|exact HB.out|refine below_set ?_ GE387.out))) hb);(try clear hb);(try clear ho0);have hcz32_0 : w31.cell? ⟨gb375,0,none⟩ = some (.int .i64 a0_0):=(blk_cell BK375.out 0).trans rfl;have hcz32_1 : w31.cell? ⟨gb375,1,none⟩ = some (.int .i64 a0_1):=(blk_cell BK375.out 1).trans rfl;have hcz32_2 : w31.cell? ⟨gb375,2,none⟩ = some (.int .i64 a0_2):=(blk_cell BK375.out 2).trans rfl;have hfz32_0:=blk_frozen BK375.out 0;have hfz32_1:=blk_frozen BK375.out 1;have hfz32_2:=blk_frozen BK375.out 2)|((with_reducible refine gate_callee (f:=45) rfl ?_);refine goesL_ (some 26) rfl rfl Try.func45 (by kernel_rfl) rfl #[.agg #[.int .i64 a0_0,.int .i64 a0_1,.int .i64 a0_2]] rfl (by (try simp only [List.map_toArray,List.map_cons,List.map_nil]);rfl) ?_;(with_reducible refine (laws_toCode.calls a0_0 a0_1 a0_2 t391 t392 t393 _ A11.out).mono ?_);rintro e w33 ⟨rfl,hb⟩;refine ⟨_,rfl,?_⟩;replace HO382:=Aside0.mk (Kd.R_below HO382.out hb);replace HO386:=Aside0.mk (Kd.R_below HO386.out hb);replace HO390:=Aside0.mk (Kd.R_below HO390.out hb);replace BK375:=Aside0.mk (blk_below BK375.out hb);replace BK387:=Aside0.mk (blk_below BK387.out hb);replace HB:=Aside0.mk (below_step HB.out hb);(try clear hb);obtain ⟨Ao34,co34,eo34⟩:=Kd.R_slice HO390.out;subst eo34)|((with_reducible refine gate_callee (f:=38) rfl ?_);refine goesL_ (some 28) rfl rfl Try.func38 (by kernel_rfl) rfl #[.agg #[.int .i64 t391,.int .i64 t392,.int .i64 t393],.slice Ao34 t388.length co34] rfl (by (try simp only [List.map_toArray,List.map_cons,List.map_nil]);rfl) ?_;(with_reducible refine (impl_DecodeShards.calls k t391 t392 t393 _ _ t388 t394 t395 _ ?side1 ?side2 A12.out).mono ?_);(case side1=>exact (Kd.R_reads' HO390.out).2.2);(case side2=>exact (Kd.R_reads' HO390.out).2.1);rintro e w35 ⟨v396,rfl,ho0,hb⟩;refine ⟨_,rfl,?_⟩;replace HO382:=Aside0.mk (Kd.R_below HO382.out hb);replace HO390:=Aside0.mk (Kd.R_below HO390.out hb);have HO397:=Aside0.mk (Kd.R_lower (Kd.R_new' ho0 (Kd.R_lt HO386.out)) (below_size HB.out));replace HO386:=Aside0.mk (Kd.R_elder' HO386.out (Kd.R_base ho0) hb);replace BK375:=Aside0.mk (blk_below BK375.out hb);replace BK387:=Aside0.mk (blk_below BK387.out hb);replace HB:=Aside0.mk (below_step HB.out hb);(try clear hb);(try clear ho0))|((with_reducible refine gate_dst (N:=8) rfl ?_);refine box_event ?hg (N:=8) ?hd (cs:=#[.int .i64 0,.slice none 0 0]) (t:=68) ?hr ?_;(case hd=>rfl);(case hg=>rfl);(case hr=>(go_simp;done));intro gb398 hg w36 hbox hb;replace HO382:=Aside0.mk (Kd.R_below HO382.out hb);replace HO386:=Aside0.mk (Kd.R_below HO386.out hb);replace HO390:=Aside0.mk (Kd.R_below HO390.out hb);replace HO397:=Aside0.mk (Kd.R_below HO397.out hb);have BK398:=Aside0.mk (hbox);have GW398:=Aside0.mk ((by rw [hg];exact (below_size HB.out) : w.heap.size ≤ gb398));have GE398:=Aside0.mk ((by rw [hg];exact (below_size HB.out) : w.heap.size ≤ gb398));replace HB:=Aside0.mk (below_step HB.out hb);have NB375_398:=Aside0.mk ((by rw [hg];exact Nat.ne_of_lt (blk_lt BK375.out) : gb375 ≠ gb398));have NB398_375:=Aside0.mk ((by rw [hg];exact Nat.ne_of_gt (blk_lt BK375.out) : gb398 ≠ gb375));replace BK375:=Aside0.mk (blk_below BK375.out hb);have NB387_398:=Aside0.mk ((by rw [hg];exact Nat.ne_of_lt (blk_lt BK387.out) : gb387 ≠ gb398));have NB398_387:=Aside0.mk ((by rw [hg];exact Nat.ne_of_gt (blk_lt BK387.out) : gb398 ≠ gb387));replace BK387:=Aside0.mk (blk_below BK387.out hb);clear hb hbox hg;have hnb37:=NB398_375.out;have hnc37:=NB375_398.out;have hnb38:=NB398_387.out;have hnc38:=NB387_398.out;have hcz39_0 : w36.cell? ⟨gb398,0,none⟩ = some (.int .i64 0):=(blk_cell BK398.out 0).trans rfl;have hcz39_1 : w36.cell? ⟨gb398,1,none⟩ = some (.slice none 0 0):=(blk_cell BK398.out 1).trans rfl;have hfz39_0:=blk_frozen BK398.out 0;have hfz39_1:=blk_frozen BK398.out 1;obtain ⟨Ao40,co40,eo40⟩:=Kd.R_slice HO397.out;subst eo40;have hcz41_0 : w36.cell? ⟨gb387,0,none⟩ = some (.int .i64 t383):=(blk_cell BK387.out 0).trans rfl;have hcz41_1 : w36.cell? ⟨gb387,1,none⟩ = some (.slice Ao30 t384.length co30):=(blk_cell BK387.out 1).trans rfl;have hfz41_0:=blk_frozen BK387.out 0;have hfz41_1:=blk_frozen BK387.out 1)|((with_reducible refine gate_callee (f:=47) rfl ?_);refine goesL_ (some 31) rfl rfl Try.func47 (by kernel_rfl) rfl #[.agg #[.int .i64 t394,.slice Ao40 t395.length co40],.agg #[.int .i64 t383,.slice Ao30 t384.length co30]] rfl (by (try simp only [List.map_toArray,List.map_cons,List.map_nil]);rfl) ?_;(with_reducible refine (laws_eqShardResult.calls k t394 _ _ t395 t383 _ _ t384 true _ ?side1 ?side2 ?side3 ?side4 A13.out).mono ?_);(case side1=>refine (Kd.R_reads' (e:=9) (base:=w.heap.size) (ok:=fun k_=>(True ∧ some k_ ≠ (.slice Ao30 t384.length co30 : Value).ownBlock)) (n:=t395.length) (c:=co40) ?_).2.2;exact (by exact (Kd.R_mono (Kd.R_far (p:=⟨gb398,1,none⟩) (Kd.R_far (p:=⟨gb398,0,none⟩) (Kd.R_types HO397.out BK398.out (by decide)) (fun _ hk=>hk.2) (.int .i64 t394)) (fun _ hk=>hk.2) (.slice Ao40 t395.length co40)) (fun _ h_=>h_.1))));(case side2=>exact (Kd.R_reads' HO397.out).2.1);(case side3=>refine (Kd.R_reads' (e:=9) (base:=w.heap.size) (ok:=fun k_=>(True ∧ some k_ ≠ (.slice Ao40 t395.length co40 : Value).ownBlock)) (n:=t384.length) (c:=co30) ?_).2.2;exact (by exact (Kd.R_mono (Kd.R_far (p:=⟨gb398,1,none⟩) (Kd.R_far (p:=⟨gb398,0,none⟩) (Kd.R_types HO386.out BK398.out (by decide)) (fun _ hk=>hk.2) (.int .i64 t394)) (fun _ hk=>hk.2) (.slice Ao40 t395.length co40)) (fun _ h_=>h_.1))));(case side4=>exact (Kd.R_reads' HO386.out).2.1);rintro e w42 ⟨rfl,hb⟩;refine ⟨_,rfl,?_⟩;replace HO382:=Aside0.mk (Kd.R_below (by exact (Kd.R_mono (Kd.R_far (p:=⟨gb398,1,none⟩) (Kd.R_far (p:=⟨gb398,0,none⟩) (Kd.R_types HO382.out BK398.out (by decide)) (fun _ hk=>hk.2) (.int .i64 t394)) (fun _ hk=>hk.2) (.slice Ao40 t395.length co40)) (fun _ h_=>h_.1))) hb);replace HO386:=Aside0.mk (Kd.R_below (by exact (Kd.R_mono (Kd.R_far (p:=⟨gb398,1,none⟩) (Kd.R_far (p:=⟨gb398,0,none⟩) (Kd.R_types HO386.out BK398.out (by decide)) (fun _ hk=>hk.2) (.int .i64 t394)) (fun _ hk=>hk.2) (.slice Ao40 t395.length co40)) (fun _ h_=>h_.1))) hb);replace HO390:=Aside0.mk (Kd.R_below (by exact (Kd.R_mono (Kd.R_far (p:=⟨gb398,1,none⟩) (Kd.R_far (p:=⟨gb398,0,none⟩) (Kd.R_types HO390.out BK398.out (by decide)) (fun _ hk=>hk.2) (.int .i64 t394)) (fun _ hk=>hk.2) (.slice Ao40 t395.length co40)) (fun _ h_=>h_.1))) hb);replace HO397:=Aside0.mk (Kd.R_below (by exact (Kd.R_mono (Kd.R_far (p:=⟨gb398,1,none⟩) (Kd.R_far (p:=⟨gb398,0,none⟩) (Kd.R_types HO397.out BK398.out (by decide)) (fun _ hk=>hk.2) (.int .i64 t394)) (fun _ hk=>hk.2) (.slice Ao40 t395.length co40)) (fun _ h_=>h_.1))) hb);replace BK375:=Aside0.mk (blk_below (g:=gb375) (o:=.cells #[.int .i64 a0_0,.int .i64 a0_1,.int .i64 a0_2] 78 (0,0)) (by refine blk_far ?_ NB375_398.out _;refine blk_far ?_ NB375_398.out _;exact BK375.out) hb);replace BK387:=Aside0.mk (blk_below (g:=gb387) (o:=.cells #[.int .i64 t383,.slice Ao30 t384.length co30] 68 (0,0)) (by refine blk_far ?_ NB387_398.out _;refine blk_far ?_ NB387_398.out _;exact BK387.out) hb);replace BK398:=Aside0.mk (blk_below (g:=gb398) (o:=.cells #[.int .i64 t394,.slice Ao40 t395.length co40] 68 (0,0)) (by refine blk_put (cs:=#[.int .i64 t394,.slice none 0 0]) ?_ 1 _ rfl;refine blk_put (cs:=#[.int .i64 0,.slice none 0 0]) ?_ 0 _ rfl;exact BK398.out) hb);replace HB:=Aside0.mk (below_step (by repeat ((with_reducible first|exact HB.out|refine below_set ?_ GE398.out))) hb);(try clear hb))|((with_reducible refine gate_callee (f:=46) rfl ?_);refine goesL_ (some 35) rfl rfl Try.func46 (by kernel_rfl) rfl #[.slice A1 l1.length c1] rfl (by (try simp only [List.map_toArray,List.map_cons,List.map_nil]);rfl) ?_;(with_reducible refine (laws_toShardS.calls k _ _ l1 t400 _ ?side1 ?side2 A15.out).mono ?_);(case side1=>exact (Kd.C_below HR1.out HB.out));(case side2=>exact HC1.out);rintro e w43 ⟨v401,rfl,ho0,hb⟩;refine ⟨_,rfl,?_⟩;replace HO386:=Aside0.mk (Kd.R_below HO386.out hb);replace HO397:=Aside0.mk (Kd.R_below HO397.out hb);have HO402:=Aside0.mk (Kd.R_lower (Kd.R_new' (Kd.R_new' ho0 (Kd.R_lt HO382.out)) (Kd.R_lt HO390.out)) (below_size HB.out));replace HO382:=Aside0.mk (Kd.R_elder' HO382.out (Kd.R_base ho0) hb);replace HO390:=Aside0.mk (Kd.R_elder' HO390.out (Kd.R_base ho0) hb);replace BK375:=Aside0.mk (blk_below BK375.out hb);replace BK387:=Aside0.mk (blk_below BK387.out hb);replace BK398:=Aside0.mk (blk_below BK398.out hb);replace HB:=Aside0.mk (below_step HB.out hb);(try clear hb);(try clear ho0);obtain ⟨Ao44,co44,eo44⟩:=Kd.R_slice HO402.out;subst eo44)|((with_reducible refine gate_callee (f:=48) rfl ?_);refine goesL_ (some 36) rfl rfl Try.func48 (by kernel_rfl) rfl #[.slice Ao34 t388.length co34,.slice Ao44 t400.length co44] rfl (by (try simp only [List.map_toArray,List.map_cons,List.map_nil]);rfl) ?_;(with_reducible refine (laws_eqShardS.calls k _ _ t388 _ _ t400 true _ ?side1 ?side2 ?side3 ?side4 A16.out).mono ?_);(case side1=>exact (Kd.R_reads' HO390.out).2.2);(case side2=>exact (Kd.R_reads' HO390.out).2.1);(case side3=>exact (Kd.R_reads' HO402.out).2.2);(case side4=>exact (Kd.R_reads' HO402.out).2.1);rintro e w45 ⟨rfl,hb⟩;refine ⟨_,rfl,?_⟩;replace HO382:=Aside0.mk (Kd.R_below HO382.out hb);replace HO386:=Aside0.mk (Kd.R_below HO386.out hb);replace HO390:=Aside0.mk (Kd.R_below HO390.out hb);replace HO397:=Aside0.mk (Kd.R_below HO397.out hb);replace HO402:=Aside0.mk (Kd.R_below HO402.out hb);replace BK375:=Aside0.mk (blk_below BK375.out hb);replace BK387:=Aside0.mk (blk_below BK387.out hb);replace BK398:=Aside0.mk (blk_below BK398.out hb);replace HB:=Aside0.mk (below_step HB.out hb);(try clear hb))|((with_reducible refine gate_callee (f:=49) rfl ?_);refine goesL_ (some 40) rfl rfl Try.func49 (by kernel_rfl) rfl #[.slice Ao34 t388.length co34,.int .i64 1] rfl (by (try simp only [List.map_toArray,List.map_cons,List.map_nil]);rfl) ?_;(with_reducible refine (laws_markShardS.calls k (fun k_=>some k_ = (.slice Ao34 t388.length co34 : Value).ownBlock) (.slice Ao34 t388.length co34) t388 1 t404 t405 w _ ?side1 ?side2 A18.out).mono ?_);(case side1=>repeat ((with_reducible exact HB.out)));(case side2=>exact Kd.R_tight rfl HO390.out);rintro e w46 ⟨rfl,hy0,hb,hkp⟩;refine ⟨_,rfl,?_⟩;replace BK375:=Aside0.mk (blk_kept BK375.out hkp (fun hs_=>(fun e_=>(Kd.R_ne HO390.out BK375.out (by decide)) e_) hs_));replace HO382:=Aside0.mk (Kd.R_mono (ok':=fun k_=>some k_ ≠ (.slice Ao34 t388.length co34 : Value).ownBlock ∧ some k_ ≠ (.slice Ao44 t400.length co44 : Value).ownBlock) (Kd.R_keptB (HO382.out) hkp (fun k_ hk_ hs_=>(hk_.1.2) hs_)) (fun k_ hk_=>⟨hk_.1.1.2,hk_.1.2⟩));replace HO386:=Aside0.mk (Kd.R_mono (ok':=fun k_=>some k_ ≠ (.slice Ao40 t395.length co40 : Value).ownBlock) (Kd.R_keptB ((Kd.R_apart' HO386.out (Kd.R_typed HO390.out) (by decide))) hkp (fun k_ hk_ hs_=>(hk_.2) hs_)) (fun k_ hk_=>hk_.1.1.2));replace BK387:=Aside0.mk (blk_kept BK387.out hkp (fun hs_=>(fun e_=>(Kd.R_ne HO390.out BK387.out (by decide)) e_) hs_));replace HO397:=Aside0.mk (Kd.R_mono (ok':=fun k_=>some k_ ≠ (.slice Ao30 t384.length co30 : Value).ownBlock) (Kd.R_keptB ((Kd.R_apart' HO397.out (Kd.R_typed HO390.out) (by decide))) hkp (fun k_ hk_ hs_=>(hk_.2) hs_)) (fun k_ hk_=>hk_.1.1.2));replace BK398:=Aside0.mk (blk_kept BK398.out hkp (fun hs_=>(fun e_=>(Kd.R_ne HO390.out BK398.out (by decide)) e_) hs_));replace HO390:=Aside0.mk (Kd.R_reok rfl hy0 (fun k_ e_=>HO390.out.1 k_ e_));replace HO402:=Aside0.mk (Kd.R_mono (ok':=fun k_=>some k_ ≠ (.slice Ao25 t380.length co25 : Value).ownBlock ∧ some k_ ≠ (.slice Ao34 t388.length co34 : Value).ownBlock) (Kd.R_keptB (HO402.out) hkp (fun k_ hk_ hs_=>(hk_.2) hs_)) (fun k_ hk_=>⟨hk_.1.1.2,hk_.1.2⟩));replace HB:=Aside0.mk (hb);(try clear hb);(try clear hkp);(try clear hy0)))
    go_cut [48] (fun v48 wc=>∃ (kq : Nat) (x48_18 : Bool),v48 = .bool x48_18 ∧ Aside0 (laws_FnExactDecodeShards.j0 kq l1 x48_18 a0_0 a0_1 a0_2 t383 t384 t394 t395 = some true) ∧ Aside0 (kq ≤ k) ∧ Aside0 (Kd.R Kd.string 9 wc w.heap.size (fun k_=>some k_ ≠ ((.slice Ao40 t395.length co40) : Value).ownBlock) (.slice Ao30 t384.length co30) t384) ∧ Aside0 (Kd.R Kd.string 9 wc w.heap.size (fun k_=>some k_ ≠ ((.slice Ao30 t384.length co30) : Value).ownBlock) (.slice Ao40 t395.length co40) t395) ∧ Aside0 (wc.heap[gb375]? = some (.cells #[.int .i64 a0_0,.int .i64 a0_1,.int .i64 a0_2] 78 (0,0))) ∧ Aside0 (wc.heap[gb387]? = some (.cells #[.int .i64 t383,(.slice Ao30 t384.length co30)] 68 (0,0))) ∧ Aside0 (wc.heap[gb398]? = some (.cells #[.int .i64 t394,(.slice Ao40 t395.length co40)] 68 (0,0))) ∧ Aside0 (Below w.heap.size w wc))
    case first=>
     have H:=HC19.out
     clear HC19
     by_cases c47 : t404 < 0
     ·rw [if_pos c47] at H
      have c47b0:=decide_eq_true c47
      clear c47
      (skip)
      have H':=Aside0.mk H
      clear H
      go_wp2
      go_meet
      case rel=>exact ⟨_,(true),(by rfl),H',⟨by omega⟩,⟨by exact HO386.out⟩,⟨by exact HO397.out⟩,⟨by exact BK375.out⟩,⟨by exact BK387.out⟩,⟨by exact BK398.out⟩,⟨HB.out⟩⟩
     ·rw [if_neg c47] at H
      have c47b0:=decide_eq_false c47
      clear c47
      (skip)
      replace H:=Option.bind_eq_some_iff.mp H
      obtain ⟨t406,A480,H⟩:=H
      replace H : (laws_FnExactDecodeShards.j0 k l1 (!t406) a0_0 a0_1 a0_2 t383 t384 t394 t395) = some true:=H
      have A48:=Aside0.mk A480
      clear A480
      have H':=Aside0.mk H
      clear H
      have hnb49:=NB398_375.out
      have hnc49:=NB375_398.out
      have hnb50:=NB398_387.out
      have hnc50:=NB387_398.out
      have hcz51_0 : w46.cell? ⟨gb398,0,none⟩ = some (.int .i64 t394):=(blk_cell BK398.out 0).trans rfl
      have hcz51_1 : w46.cell? ⟨gb398,1,none⟩ = some (.slice Ao40 t395.length co40):=(blk_cell BK398.out 1).trans rfl
      have hfz51_0:=blk_frozen BK398.out 0
      have hfz51_1:=blk_frozen BK398.out 1
      have hnb52:=NB387_375.out
      have hnc52:=NB375_387.out
      have hcz53_0 : w46.cell? ⟨gb387,0,none⟩ = some (.int .i64 t383):=(blk_cell BK387.out 0).trans rfl
      have hcz53_1 : w46.cell? ⟨gb387,1,none⟩ = some (.slice Ao30 t384.length co30):=(blk_cell BK387.out 1).trans rfl
      have hfz53_0:=blk_frozen BK387.out 0
      have hfz53_1:=blk_frozen BK387.out 1
      go_wp2_with ((go_at_call 47;(with_reducible refine (laws_eqShardResult.calls k t394 _ _ t395 t383 _ _ t384 t406 _ ?side1 ?side2 ?side3 ?side4 A48.out).mono ?_);(case side1=>exact (Kd.R_reads' HO397.out).2.2);(case side2=>exact (Kd.R_reads' HO397.out).2.1);(case side3=>exact (Kd.R_reads' HO386.out).2.2);(case side4=>exact (Kd.R_reads' HO386.out).2.1);rintro e w54 ⟨rfl,hb⟩;replace HO382:=Aside0.mk (Kd.R_below HO382.out hb);replace HO386:=Aside0.mk (Kd.R_below HO386.out hb);replace HO390:=Aside0.mk (Kd.R_below HO390.out hb);replace HO397:=Aside0.mk (Kd.R_below HO397.out hb);replace HO402:=Aside0.mk (Kd.R_below HO402.out hb);replace BK375:=Aside0.mk (blk_below BK375.out hb);replace BK387:=Aside0.mk (blk_below BK387.out hb);replace BK398:=Aside0.mk (blk_below BK398.out hb);replace HB:=Aside0.mk (below_step HB.out hb);(try clear hb)))
      go_meet
      case rel=>exact ⟨_,(!t406),(by rfl),H',⟨by omega⟩,⟨by exact HO386.out⟩,⟨by exact HO397.out⟩,⟨by exact BK375.out⟩,⟨by exact BK387.out⟩,⟨by exact BK398.out⟩,⟨HB.out⟩⟩
    case rest=>
     clear HC19
     (try clear c4b0);(try clear hcz22_0);(try clear hcz22_1);(try clear hcz22_2);(try clear hcz29_0);(try clear hcz29_1);(try clear hcz32_0);(try clear hcz32_1);(try clear hcz32_2);(try clear hcz39_0);(try clear hcz39_1);(try clear hcz41_0);(try clear hcz41_1);(try clear hfz22_0);(try clear hfz22_1);(try clear hfz22_2);(try clear hfz29_0);(try clear hfz29_1);(try clear hfz32_0);(try clear hfz32_1);(try clear hfz32_2);(try clear hfz39_0);(try clear hfz39_1);(try clear hfz41_0);(try clear hfz41_1)
     obtain ⟨kq,x48_18,rfl,HA,HJ18,HO_388001,HO_399001,BK375,BK387,BK398,HB⟩:=hcut
     cases kq with
     | zero=>exact absurd HA.out (by simp [laws_FnExactDecodeShards.j0])
     | succ kj18=>
      have H:=HA.out
      clear HA
      simp only [laws_FnExactDecodeShards.j0] at H
      by_cases c55 : x48_18 = true
      ·subst c55
       have H1 : (some false) = some true:=by rw [if_pos rfl] at H;exact H
       clear H
       have H:=H1
       clear H1
       exact absurd (Option.some.inj H) (by decide)
      ·replace c55:=Bool.eq_false_iff.mpr c55
       subst c55
       have H1 : ((laws_markShardResult.f kj18 t394 t395 1).bind fun bt407=>((laws_heldShardResult.f kj18 t394 bt407.2 1).bind fun t409=>(if t409 < 0 then (some false) else (if t409 = bt407.1 then ((laws_toCode.f a0_0 a0_1 a0_2).bind fun bt410=>((laws_toShardS.f kj18 l1).bind fun t413=>((impl_DecodeShards.f kj18 bt410.1 bt410.2.1 bt410.2.2 t413).bind fun bt416=>((laws_eqShardResult.f kj18 bt416.1 bt416.2 t383 t384).bind fun t421=>(if t421 = true then ((laws_heldShardResult.f kj18 t394 bt407.2 1).bind fun t422=>(if t422 < 0 then (some false) else (if t422 = bt407.1 then (some true) else (some false)))) else (some false)))))) else (some false))))) = some true:=by rw [if_neg (show ¬ (false = true) by decide)] at H;exact H
       clear H
       have H:=H1
       clear H1
       replace H:=Option.bind_eq_some_iff.mp H
       obtain ⟨⟨t407,t408⟩,A560,H⟩:=H
       dsimp only at H
       have A56:=Aside0.mk A560
       clear A560
       replace H:=Option.bind_eq_some_iff.mp H
       obtain ⟨t409,A570,H⟩:=H
       replace H : (if t409 < 0 then (some false) else (if t409 = t407 then ((laws_toCode.f a0_0 a0_1 a0_2).bind fun bt410=>((laws_toShardS.f kj18 l1).bind fun t413=>((impl_DecodeShards.f kj18 bt410.1 bt410.2.1 bt410.2.2 t413).bind fun bt416=>((laws_eqShardResult.f kj18 bt416.1 bt416.2 t383 t384).bind fun t421=>(if t421 = true then ((laws_heldShardResult.f kj18 t394 t408 1).bind fun t422=>(if t422 < 0 then (some false) else (if t422 = t407 then (some true) else (some false)))) else (some false)))))) else (some false))) = some true:=H
       have A57:=Aside0.mk A570
       clear A570
       by_cases c58 : t409 < 0
       ·rw [if_pos c58] at H
        have c58b0:=decide_eq_true c58
        clear c58
        exact absurd (Option.some.inj H) (by decide)
       ·rw [if_neg c58] at H
        have c58b0:=decide_eq_false c58
        clear c58
        by_cases c65 : t409 = t407
        ·rw [if_pos c65] at H
         have c65b0 : (t409 == t407) = true:=beq_iff_eq.mpr c65
         have c65b1 : (t409 != t407) = false:=bne_eq_false_iff_eq.mpr c65
         clear c65
         replace H:=Option.bind_eq_some_iff.mp H
         obtain ⟨⟨t410,t411,t412⟩,A660,H⟩:=H
         dsimp only at H
         have A66:=Aside0.mk A660
         clear A660
         replace H:=Option.bind_eq_some_iff.mp H
         obtain ⟨t413,A670,H⟩:=H
         replace H : ((impl_DecodeShards.f kj18 t410 t411 t412 t413).bind fun bt416=>((laws_eqShardResult.f kj18 bt416.1 bt416.2 t383 t384).bind fun t421=>(if t421 = true then ((laws_heldShardResult.f kj18 t394 t408 1).bind fun t422=>(if t422 < 0 then (some false) else (if t422 = t407 then (some true) else (some false)))) else (some false)))) = some true:=H
         have A67:=Aside0.mk A670
         clear A670
         replace H:=Option.bind_eq_some_iff.mp H
         obtain ⟨⟨t416,t417⟩,A680,H⟩:=H
         dsimp only at H
         have A68:=Aside0.mk A680
         clear A680
         replace H:=Option.bind_eq_some_iff.mp H
         obtain ⟨t421,A690,H⟩:=H
         replace H : (if t421 = true then ((laws_heldShardResult.f kj18 t394 t408 1).bind fun t422=>(if t422 < 0 then (some false) else (if t422 = t407 then (some true) else (some false)))) else (some false)) = some true:=H
         have A69:=Aside0.mk A690
         clear A690
         by_cases c70 : t421 = true
         ·subst c70
          have H1 : ((laws_heldShardResult.f kj18 t394 t408 1).bind fun t422=>(if t422 < 0 then (some false) else (if t422 = t407 then (some true) else (some false)))) = some true:=by rw [if_pos rfl] at H;exact H
          clear H
          have H:=H1
          clear H1
          replace H:=Option.bind_eq_some_iff.mp H
          obtain ⟨t422,A710,H⟩:=H
          replace H : (if t422 < 0 then (some false) else (if t422 = t407 then (some true) else (some false))) = some true:=H
          have A71:=Aside0.mk A710
          clear A710
          by_cases c72 : t422 < 0
          ·rw [if_pos c72] at H
           have c72b0:=decide_eq_true c72
           clear c72
           exact absurd (Option.some.inj H) (by decide)
          ·rw [if_neg c72] at H
           have c72b0:=decide_eq_false c72
           clear c72
           by_cases c95 : t422 = t407
           ·rw [if_pos c95] at H
            have c95b0 : (t422 == t407) = true:=beq_iff_eq.mpr c95
            have c95b1 : (t422 != t407) = false:=bne_eq_false_iff_eq.mpr c95
            clear c95 H
            have hnb96:=NB398_375.out
            have hnc96:=NB375_398.out
            have hnb97:=NB398_387.out
            have hnc97:=NB387_398.out
            have hcz98_0 : wc.cell? ⟨gb398,0,none⟩ = some (.int .i64 t394):=(blk_cell BK398.out 0).trans rfl
            have hcz98_1 : wc.cell? ⟨gb398,1,none⟩ = some (.slice Ao40 t395.length co40):=(blk_cell BK398.out 1).trans rfl
            have hfz98_0:=blk_frozen BK398.out 0
            have hfz98_1:=blk_frozen BK398.out 1
            go_wp2_with (first|((with_reducible refine gate_callee (f:=50) rfl ?_);refine goesL_ (some 51) rfl rfl Try.func50 (by kernel_rfl) rfl #[.agg #[.int .i64 t394,.slice Ao40 t395.length co40],.int .i64 1] rfl (by (try simp only [List.map_toArray,List.map_cons,List.map_nil]);rfl) ?_;(with_reducible refine (laws_markShardResult.calls kj18 t394 (fun k_=>some k_ = (.slice Ao40 t395.length co40 : Value).ownBlock) (.slice Ao40 t395.length co40) t395 1 t407 t408 w _ ?side1 ?side2 A56.out).mono ?_);(case side1=>repeat ((with_reducible exact HB.out)));(case side2=>exact Kd.R_tight rfl HO_399001.out);rintro e w99 ⟨rfl,hy0,hb,hkp⟩;refine ⟨_,rfl,?_⟩;replace HO_388001:=Aside0.mk (Kd.R_mono (ok':=fun k_=>some k_ ≠ (.slice Ao40 t395.length co40 : Value).ownBlock) (Kd.R_keptB (HO_388001.out) hkp (fun k_ hk_ hs_=>(hk_) hs_)) (fun k_ hk_=>hk_.1));replace BK375:=Aside0.mk (blk_kept BK375.out hkp (fun hs_=>(fun e_=>(Kd.R_ne HO_399001.out BK375.out (by decide)) e_) hs_));replace BK387:=Aside0.mk (blk_kept BK387.out hkp (fun hs_=>(fun e_=>(Kd.R_ne HO_399001.out BK387.out (by decide)) e_) hs_));replace BK398:=Aside0.mk (blk_kept BK398.out hkp (fun hs_=>(fun e_=>(Kd.R_ne HO_399001.out BK398.out (by decide)) e_) hs_));replace HO_399001:=Aside0.mk (Kd.R_reok rfl hy0 (fun k_ e_=>HO_399001.out.1 k_ e_));replace HB:=Aside0.mk (hb);(try clear hb);(try clear hkp);(try clear hy0);have hcz100_0 : w99.cell? ⟨gb398,0,none⟩ = some (.int .i64 t394):=(blk_cell BK398.out 0).trans rfl;have hcz100_1 : w99.cell? ⟨gb398,1,none⟩ = some (.slice Ao40 t395.length co40):=(blk_cell BK398.out 1).trans rfl;have hfz100_0:=blk_frozen BK398.out 0;have hfz100_1:=blk_frozen BK398.out 1)|((with_reducible refine gate_callee (f:=51) rfl ?_);refine goesL_ (some 54) rfl rfl Try.func51 (by kernel_rfl) rfl #[.agg #[.int .i64 t394,.slice Ao40 t408.length co40],.int .i64 1] rfl (by (try simp only [List.map_toArray,List.map_cons,List.map_nil]);(rw [show t408.length = t395.length from (Kd.R_reads' HO_399001.out).1.symm] <;> rfl)) ?_;(with_reducible refine (laws_heldShardResult.calls kj18 t394 _ _ t408 1 t409 _ ?side1 ?side2 A57.out).mono ?_);(case side1=>exact (Kd.R_reads' HO_399001.out).2.2);(case side2=>rw [show t408.length = t395.length from (Kd.R_reads' HO_399001.out).1.symm];exact (Kd.R_reads' HO_399001.out).2.1);rintro e w101 ⟨rfl,hb⟩;refine ⟨_,rfl,?_⟩;replace HO_388001:=Aside0.mk (Kd.R_below HO_388001.out hb);replace HO_399001:=Aside0.mk (Kd.R_below HO_399001.out hb);replace BK375:=Aside0.mk (blk_below BK375.out hb);replace BK387:=Aside0.mk (blk_below BK387.out hb);replace BK398:=Aside0.mk (blk_below BK398.out hb);replace HB:=Aside0.mk (below_step HB.out hb);(try clear hb);have hnb102:=NB375_387.out;have hnc102:=NB387_375.out;have hcz103_0 : w101.cell? ⟨gb375,0,none⟩ = some (.int .i64 a0_0):=(blk_cell BK375.out 0).trans rfl;have hcz103_1 : w101.cell? ⟨gb375,1,none⟩ = some (.int .i64 a0_1):=(blk_cell BK375.out 1).trans rfl;have hcz103_2 : w101.cell? ⟨gb375,2,none⟩ = some (.int .i64 a0_2):=(blk_cell BK375.out 2).trans rfl;have hfz103_0:=blk_frozen BK375.out 0;have hfz103_1:=blk_frozen BK375.out 1;have hfz103_2:=blk_frozen BK375.out 2)|((with_reducible refine gate_callee (f:=45) rfl ?_);refine goesL_ (some 61) rfl rfl Try.func45 (by kernel_rfl) rfl #[.agg #[.int .i64 a0_0,.int .i64 a0_1,.int .i64 a0_2]] rfl (by (try simp only [List.map_toArray,List.map_cons,List.map_nil]);rfl) ?_;(with_reducible refine (laws_toCode.calls a0_0 a0_1 a0_2 t410 t411 t412 _ A66.out).mono ?_);rintro e w104 ⟨rfl,hb⟩;refine ⟨_,rfl,?_⟩;replace HO_388001:=Aside0.mk (Kd.R_below HO_388001.out hb);replace HO_399001:=Aside0.mk (Kd.R_below HO_399001.out hb);replace BK375:=Aside0.mk (blk_below BK375.out hb);replace BK387:=Aside0.mk (blk_below BK387.out hb);replace BK398:=Aside0.mk (blk_below BK398.out hb);replace HB:=Aside0.mk (below_step HB.out hb);(try clear hb))|((with_reducible refine gate_callee (f:=46) rfl ?_);refine goesL_ (some 63) rfl rfl Try.func46 (by kernel_rfl) rfl #[.slice A1 l1.length c1] rfl (by (try simp only [List.map_toArray,List.map_cons,List.map_nil]);rfl) ?_;(with_reducible refine (laws_toShardS.calls kj18 _ _ l1 t413 _ ?side1 ?side2 A67.out).mono ?_);(case side1=>exact (Kd.C_below HR1.out HB.out));(case side2=>exact HC1.out);rintro e w105 ⟨v414,rfl,ho0,hb⟩;refine ⟨_,rfl,?_⟩;replace HO_388001:=Aside0.mk (Kd.R_below HO_388001.out hb);replace HO_399001:=Aside0.mk (Kd.R_below HO_399001.out hb);have HO415:=Aside0.mk (Kd.R_lower ho0 (below_size HB.out));replace BK375:=Aside0.mk (blk_below BK375.out hb);replace BK387:=Aside0.mk (blk_below BK387.out hb);replace BK398:=Aside0.mk (blk_below BK398.out hb);replace HB:=Aside0.mk (below_step HB.out hb);(try clear hb);(try clear ho0);obtain ⟨Ao106,co106,eo106⟩:=Kd.R_slice HO415.out;subst eo106)|((with_reducible refine gate_callee (f:=38) rfl ?_);refine goesL_ (some 64) rfl rfl Try.func38 (by kernel_rfl) rfl #[.agg #[.int .i64 t410,.int .i64 t411,.int .i64 t412],.slice Ao106 t413.length co106] rfl (by (try simp only [List.map_toArray,List.map_cons,List.map_nil]);rfl) ?_;(with_reducible refine (impl_DecodeShards.calls kj18 t410 t411 t412 _ _ t413 t416 t417 _ ?side1 ?side2 A68.out).mono ?_);(case side1=>exact (Kd.R_reads' HO415.out).2.2);(case side2=>exact (Kd.R_reads' HO415.out).2.1);rintro e w107 ⟨v418,rfl,ho0,hb⟩;refine ⟨_,rfl,?_⟩;replace HO415:=Aside0.mk (Kd.R_below HO415.out hb);have HO419:=Aside0.mk (Kd.R_lower (Kd.R_new' (Kd.R_new' ho0 (Kd.R_lt HO_388001.out)) (Kd.R_lt HO_399001.out)) (below_size HB.out));replace HO_388001:=Aside0.mk (Kd.R_elder' HO_388001.out (Kd.R_base ho0) hb);replace HO_399001:=Aside0.mk (Kd.R_elder' HO_399001.out (Kd.R_base ho0) hb);replace BK375:=Aside0.mk (blk_below BK375.out hb);replace BK387:=Aside0.mk (blk_below BK387.out hb);replace BK398:=Aside0.mk (blk_below BK398.out hb);replace HB:=Aside0.mk (below_step HB.out hb);(try clear hb);(try clear ho0))|((with_reducible refine gate_dst (N:=12) rfl ?_);refine box_event ?hg (N:=12) ?hd (cs:=#[.int .i64 0,.slice none 0 0]) (t:=68) ?hr ?_;(case hd=>rfl);(case hg=>rfl);(case hr=>(go_simp;done));intro gb420 hg w108 hbox hb;replace HO_388001:=Aside0.mk (Kd.R_below HO_388001.out hb);replace HO_399001:=Aside0.mk (Kd.R_below HO_399001.out hb);replace HO415:=Aside0.mk (Kd.R_below HO415.out hb);replace HO419:=Aside0.mk (Kd.R_below HO419.out hb);have BK420:=Aside0.mk (hbox);have GW420:=Aside0.mk ((by rw [hg];exact (below_size HB.out) : w.heap.size ≤ gb420));have GE420:=Aside0.mk ((by rw [hg];exact (below_size HB.out) : w.heap.size ≤ gb420));replace HB:=Aside0.mk (below_step HB.out hb);have NB375_420:=Aside0.mk ((by rw [hg];exact Nat.ne_of_lt (blk_lt BK375.out) : gb375 ≠ gb420));have NB420_375:=Aside0.mk ((by rw [hg];exact Nat.ne_of_gt (blk_lt BK375.out) : gb420 ≠ gb375));replace BK375:=Aside0.mk (blk_below BK375.out hb);have NB387_420:=Aside0.mk ((by rw [hg];exact Nat.ne_of_lt (blk_lt BK387.out) : gb387 ≠ gb420));have NB420_387:=Aside0.mk ((by rw [hg];exact Nat.ne_of_gt (blk_lt BK387.out) : gb420 ≠ gb387));replace BK387:=Aside0.mk (blk_below BK387.out hb);have NB398_420:=Aside0.mk ((by rw [hg];exact Nat.ne_of_lt (blk_lt BK398.out) : gb398 ≠ gb420));have NB420_398:=Aside0.mk ((by rw [hg];exact Nat.ne_of_gt (blk_lt BK398.out) : gb420 ≠ gb398));replace BK398:=Aside0.mk (blk_below BK398.out hb);clear hb hbox hg;have hnb109:=NB420_375.out;have hnc109:=NB375_420.out;have hnb110:=NB420_387.out;have hnc110:=NB387_420.out;have hnb111:=NB420_398.out;have hnc111:=NB398_420.out;have hcz112_0 : w108.cell? ⟨gb420,0,none⟩ = some (.int .i64 0):=(blk_cell BK420.out 0).trans rfl;have hcz112_1 : w108.cell? ⟨gb420,1,none⟩ = some (.slice none 0 0):=(blk_cell BK420.out 1).trans rfl;have hfz112_0:=blk_frozen BK420.out 0;have hfz112_1:=blk_frozen BK420.out 1;obtain ⟨Ao113,co113,eo113⟩:=Kd.R_slice HO419.out;subst eo113;have hcz114_0 : w108.cell? ⟨gb387,0,none⟩ = some (.int .i64 t383):=(blk_cell BK387.out 0).trans rfl;have hcz114_1 : w108.cell? ⟨gb387,1,none⟩ = some (.slice Ao30 t384.length co30):=(blk_cell BK387.out 1).trans rfl;have hfz114_0:=blk_frozen BK387.out 0;have hfz114_1:=blk_frozen BK387.out 1)|((with_reducible refine gate_callee (f:=47) rfl ?_);refine goesL_ (some 67) rfl rfl Try.func47 (by kernel_rfl) rfl #[.agg #[.int .i64 t416,.slice Ao113 t417.length co113],.agg #[.int .i64 t383,.slice Ao30 t384.length co30]] rfl (by (try simp only [List.map_toArray,List.map_cons,List.map_nil]);rfl) ?_;(with_reducible refine (laws_eqShardResult.calls kj18 t416 _ _ t417 t383 _ _ t384 true _ ?side1 ?side2 ?side3 ?side4 A69.out).mono ?_);(case side1=>refine (Kd.R_reads' (e:=9) (base:=w.heap.size) (ok:=fun k_=>((True ∧ some k_ ≠ (.slice Ao30 t384.length co30 : Value).ownBlock) ∧ some k_ ≠ (.slice Ao40 t395.length co40 : Value).ownBlock)) (n:=t417.length) (c:=co113) ?_).2.2;exact (by exact (Kd.R_mono (Kd.R_far (p:=⟨gb420,1,none⟩) (Kd.R_far (p:=⟨gb420,0,none⟩) (Kd.R_types HO419.out BK420.out (by decide)) (fun _ hk=>hk.2) (.int .i64 t416)) (fun _ hk=>hk.2) (.slice Ao113 t417.length co113)) (fun _ h_=>h_.1))));(case side2=>exact (Kd.R_reads' HO419.out).2.1);(case side3=>refine (Kd.R_reads' (e:=9) (base:=w.heap.size) (ok:=fun k_=>(some k_ ≠ (.slice Ao40 t395.length co40 : Value).ownBlock ∧ some k_ ≠ (.slice Ao113 t417.length co113 : Value).ownBlock)) (n:=t384.length) (c:=co30) ?_).2.2;exact (by exact (Kd.R_mono (Kd.R_far (p:=⟨gb420,1,none⟩) (Kd.R_far (p:=⟨gb420,0,none⟩) (Kd.R_types HO_388001.out BK420.out (by decide)) (fun _ hk=>hk.2) (.int .i64 t416)) (fun _ hk=>hk.2) (.slice Ao113 t417.length co113)) (fun _ h_=>h_.1))));(case side4=>exact (Kd.R_reads' HO_388001.out).2.1);rintro e w115 ⟨rfl,hb⟩;refine ⟨_,rfl,?_⟩;replace HO_388001:=Aside0.mk (Kd.R_below (by exact (Kd.R_mono (Kd.R_far (p:=⟨gb420,1,none⟩) (Kd.R_far (p:=⟨gb420,0,none⟩) (Kd.R_types HO_388001.out BK420.out (by decide)) (fun _ hk=>hk.2) (.int .i64 t416)) (fun _ hk=>hk.2) (.slice Ao113 t417.length co113)) (fun _ h_=>h_.1))) hb);replace HO_399001:=Aside0.mk (Kd.R_below (by exact (Kd.R_mono (Kd.R_far (p:=⟨gb420,1,none⟩) (Kd.R_far (p:=⟨gb420,0,none⟩) (Kd.R_types HO_399001.out BK420.out (by decide)) (fun _ hk=>hk.2) (.int .i64 t416)) (fun _ hk=>hk.2) (.slice Ao113 t417.length co113)) (fun _ h_=>h_.1))) hb);replace HO415:=Aside0.mk (Kd.R_below (by exact (Kd.R_mono (Kd.R_far (p:=⟨gb420,1,none⟩) (Kd.R_far (p:=⟨gb420,0,none⟩) (Kd.R_types HO415.out BK420.out (by decide)) (fun _ hk=>hk.2) (.int .i64 t416)) (fun _ hk=>hk.2) (.slice Ao113 t417.length co113)) (fun _ h_=>h_.1))) hb);replace HO419:=Aside0.mk (Kd.R_below (by exact (Kd.R_mono (Kd.R_far (p:=⟨gb420,1,none⟩) (Kd.R_far (p:=⟨gb420,0,none⟩) (Kd.R_types HO419.out BK420.out (by decide)) (fun _ hk=>hk.2) (.int .i64 t416)) (fun _ hk=>hk.2) (.slice Ao113 t417.length co113)) (fun _ h_=>h_.1))) hb);replace BK375:=Aside0.mk (blk_below (g:=gb375) (o:=.cells #[.int .i64 a0_0,.int .i64 a0_1,.int .i64 a0_2] 78 (0,0)) (by refine blk_far ?_ NB375_420.out _;refine blk_far ?_ NB375_420.out _;exact BK375.out) hb);replace BK387:=Aside0.mk (blk_below (g:=gb387) (o:=.cells #[.int .i64 t383,.slice Ao30 t384.length co30] 68 (0,0)) (by refine blk_far ?_ NB387_420.out _;refine blk_far ?_ NB387_420.out _;exact BK387.out) hb);replace BK398:=Aside0.mk (blk_below (g:=gb398) (o:=.cells #[.int .i64 t394,.slice Ao40 t395.length co40] 68 (0,0)) (by refine blk_far ?_ NB398_420.out _;refine blk_far ?_ NB398_420.out _;exact BK398.out) hb);replace BK420:=Aside0.mk (blk_below (g:=gb420) (o:=.cells #[.int .i64 t416,.slice Ao113 t417.length co113] 68 (0,0)) (by refine blk_put (cs:=#[.int .i64 t416,.slice none 0 0]) ?_ 1 _ rfl;refine blk_put (cs:=#[.int .i64 0,.slice none 0 0]) ?_ 0 _ rfl;exact BK420.out) hb);replace HB:=Aside0.mk (below_step (by repeat ((with_reducible first|exact HB.out|refine below_set ?_ GE420.out))) hb);(try clear hb);have hcz116_0 : w115.cell? ⟨gb398,0,none⟩ = some (.int .i64 t394):=(blk_cell BK398.out 0).trans rfl;have hcz116_1 : w115.cell? ⟨gb398,1,none⟩ = some (.slice Ao40 t395.length co40):=(blk_cell BK398.out 1).trans rfl;have hfz116_0:=blk_frozen BK398.out 0;have hfz116_1:=blk_frozen BK398.out 1)|((with_reducible refine gate_callee (f:=51) rfl ?_);refine goesL_ (some 71) rfl rfl Try.func51 (by kernel_rfl) rfl #[.agg #[.int .i64 t394,.slice Ao40 t408.length co40],.int .i64 1] rfl (by (try simp only [List.map_toArray,List.map_cons,List.map_nil]);(rw [show t408.length = t395.length from (Kd.R_reads' HO_399001.out).1.symm] <;> rfl)) ?_;(with_reducible refine (laws_heldShardResult.calls kj18 t394 _ _ t408 1 t422 _ ?side1 ?side2 A71.out).mono ?_);(case side1=>exact (Kd.R_reads' HO_399001.out).2.2);(case side2=>rw [show t408.length = t395.length from (Kd.R_reads' HO_399001.out).1.symm];exact (Kd.R_reads' HO_399001.out).2.1);rintro e w117 ⟨rfl,hb⟩;refine ⟨_,rfl,?_⟩;replace HO_388001:=Aside0.mk (Kd.R_below HO_388001.out hb);replace HO_399001:=Aside0.mk (Kd.R_below HO_399001.out hb);replace HO415:=Aside0.mk (Kd.R_below HO415.out hb);replace HO419:=Aside0.mk (Kd.R_below HO419.out hb);replace BK375:=Aside0.mk (blk_below BK375.out hb);replace BK387:=Aside0.mk (blk_below BK387.out hb);replace BK398:=Aside0.mk (blk_below BK398.out hb);replace BK420:=Aside0.mk (blk_below BK420.out hb);replace HB:=Aside0.mk (below_step HB.out hb);(try clear hb)))
            go_ret
            exact ⟨by rfl,HB.out⟩
           ·rw [if_neg c95] at H
            have c95b0 : (t422 == t407) = false:=beq_eq_false_iff_ne.mpr c95
            have c95b1 : (t422 != t407) = true:=bne_iff_ne.mpr c95
            exact absurd (Option.some.inj H) (by decide)
         ·replace c70:=Bool.eq_false_iff.mpr c70
          subst c70
          have H1 : (some false) = some true:=by rw [if_neg (show ¬ (false = true) by decide)] at H;exact H
          clear H
          have H:=H1
          clear H1
          exact absurd (Option.some.inj H) (by decide)
        ·rw [if_neg c65] at H
         have c65b0 : (t409 == t407) = false:=beq_eq_false_iff_ne.mpr c65
         have c65b1 : (t409 != t407) = true:=bne_iff_ne.mpr c65
         exact absurd (Option.some.inj H) (by decide)
   ·replace c17:=Bool.eq_false_iff.mpr c17
    subst c17
    have H1 : (some false) = some true:=by rw [if_neg (show ¬ (false = true) by decide)] at H;exact H
    clear H
    have H:=H1
    clear H1
    exact absurd (Option.some.inj H) (by decide)
  ·replace c14:=Bool.eq_false_iff.mpr c14
   subst c14
   have H1 : (some false) = some true:=by rw [if_neg (show ¬ (false = true) by decide)] at H;exact H
   clear H
   have H:=H1
   clear H1
   exact absurd (Option.some.inj H) (by decide)
end Go.Proofs.Ytffhbpepppodeaa.PFnExactDecodeShards
