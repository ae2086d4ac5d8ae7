import Derived.Test.YtffhbpepppodeaaPFnExactJoinObjectx0
import Derived.Test.YtffhbpepppodeaaPFnExactJoinObjectx5
namespace Go.Proofs.Ytffhbpepppodeaa.PFnExactJoinObject
private theorem nn {α : Type} {c : Prop} [Decidable c] {a : Option α} {r : α} (h : (if c then a else none) = some r) : c ∧ a = some r:=by
 split at h
 ·exact ⟨‹c›,h⟩
 ·cases h
open Go.RowKit Go.Proofs.YtffhbpepppodeaaW.PrintWords Go.Proofs.YtffhbpepppodeaaW.PrintLast Go.Proofs.YtffhbpepppodeaaW.PrintMore
attribute [local go_sem] cF cG cW cX cn cp cI cJ   -- for this text's walks alone
set_option linter.unusedVariables false
set_option linter.unusedSimpArgs false

/-! ### a5: function 127 -/
mutual
def a5.l0 : Nat → List Int → List ByteArray → Int → List Int → Int → Option (ByteArray)
 | 0,_,_,_,_,_=>none
 | k + 1,x0,x1,x2,x7,x8=>if x8 < (x0.length : Int) then (if 0 ≤ x8 then (if (rd x0 x8) = 0 then (a5.l0 k x0 x1 x2 x7 (wrap64 (x8 + 1))) else (a5.l1 k x0 x1 x2 x7 x8 0)) else (none)) else (some (strOfNums x7))
def a5.l1 : Nat → List Int → List ByteArray → Int → List Int → Int → Int → Option (ByteArray)
 | 0,_,_,_,_,_,_=>none
 | k + 1,x0,x1,x2,x7,x8,x9=>if x9 < x2 then (if 0 ≤ x9 then (if x9 < (x7.length : Int) then (if 0 ≤ x8 then (if x8 < (x0.length : Int) then (if x8 < (x1.length : Int) then (if x9 < ((rdOf ByteArray.empty x1 x8).size : Int) then ((cf.f k (rd x0 x8) (wrap64 (bt (rdOf ByteArray.empty x1 x8) x9))).bind fun t184=>(a5.l1 k x0 x1 x2 (x7.set (x9 : Int).toNat (Go.bits .xor .u8 (rd x7 x9) ((t184) % 256))) x8 (wrap64 (x9 + 1)))) else (none)) else (none)) else (none)) else (none)) else (none)) else (none)) else (a5.l0 k x0 x1 x2 x7 (wrap64 (x8 + 1)))
end
def a5.f (k : Nat) (l0 : List Int) (l1 : List ByteArray) (a2 : Int) : Option (ByteArray):=if 0 ≤ a2 then (if (a2 : Int).toNat ≤ 281474976710656 then (a5.l0 k l0 l1 a2 (List.replicate (a2 : Int).toNat 0) 0) else (none)) else (none)
def a5.T9 : Bool × List (List Nat × List Nat):=(true,[([],[]),([],[]),([],[]),([],[]),([2,3],[2,3]),([4],[4]),([],[]),([],[]),([6,7],[6,7]),([8],[8]),([],[]),([],[]),([10,11],[10,11]),([12],[12]),([],[]),([13,14],[13,14]),([15],[15]),([9,16],[9,16]),([17],[17]),([5,18],[5,18]),([0,1,0,1,2,3,4,5,6,7,8,9,10,11,12,13,14,15,16,17,18,19],[0,1]),([20,19,17,0,1,2,3,4,5,6,7,8,9,10,11,12,13,14,15,16,17,18,19],[19,20])])
def a5.B9 : List Nat:=[0,0,0,0,12,28,0,0,192,448,0,0,3072,7168,0,31744,64512,131008,262080,524284,1048575,2097151]
theorem a5.tab9 : rtab .any (opsOf Try.f127 9) = a5.T9:=by kernel_rfl
theorem a5.bits9 : cQ a5.T9.2 a5.B9 = true:=by kernel_rfl
set_option maxHeartbeats 8000000 in
set_option maxRecDepth 100000 in
theorem a5.calls (k : Nat) (A0 : Option Addr) (c0 : Nat) (l0 : List Int) (A1 : Option Addr) (c1 : Nat) (l1 : List ByteArray) (a2 : Int) (r : ByteArray) (w : World) (hr0 : Kd.C (Kd.int .i64) w A0 l0.length l0) (hc0 : l0.length ≤ c0) (hr1 : Kd.C Kd.string w A1 l1.length l1) (hc1 : l1.length ≤ c1) (h : a5.f k l0 l1 a2 = some r) :
  Calls Try.prog 127 #[.slice A0 l0.length c0,.slice A1 l1.length c1,.int .i64 a2] w fun e w'=>e = .returned (.string r) ∧ Below w.heap.size w w':=by
 have HR0:=M0 hr0
 have HC0:=M0 hc0
 clear hr0 hc0
 have HR1:=M0 hr1
 have HC1:=M0 hc1
 clear hr1 hc1
 have HB:=M0 (Below.refl w.heap.size w)
 have H : (if 0 ≤ a2 then (if (a2 : Int).toNat ≤ 281474976710656 then (a5.l0 k l0 l1 a2 (List.replicate (a2 : Int).toNat 0) 0) else (none)) else (none)) = some r:=h
 clear h
 obtain ⟨c4,H⟩:=nn H
 have c4b0:=eq_true c4
 have c4b1:=decide_eq_true c4
 clear c4
 obtain ⟨c5,H⟩:=nn H
 have c5b0:=eq_true c5
 have c5b1:=decide_eq_true c5
 clear c5
 obtain ⟨y177,hy177⟩ : ∃ y_ : List Int,y_ = (List.replicate (a2 : Int).toNat 0):=⟨_,rfl⟩
 rw [← hy177] at H
 have Ny177:=M0 hy177
 clear hy177
 have H':=M0 H
 clear H
 go_enter Try.func127,Try.ntmps127
 go_wp2_with (((with_reducible refine ak (N:=11) rfl ?_);refine Kd.dV (Kd.int .u8) _ 5 rfl (N:=11) rfl 37 _ _ rfl a2 rfl rfl Try.underlying37 (.int .u8 0) 1 info5 rfl (by decide) (by omega) 0 (ok:=fun _=>True) (okp:=fun _=>True) rfl (fun _ hk=>hk) trivial (of_decide_eq_true (by with_reducible assumption)) (Nat.le_trans (Nat.mul_le_mul_right _ (of_decide_eq_true (by with_reducible assumption) : a2.toNat ≤ 281474976710656)) (by omega)) (Below.refl _ _) (Nat.le_refl _) ?_;intro v178 w6 ho7 hb hg_ hnew_;clear hg_ hnew_;(rw [← Ny177.out] at ho7);have HO179:=M0 (Kd.bj ho7 (aj HB.out));replace HB:=M0 (aa HB.out hb);clear hb ho7))
 go_loopg [8] k (fun kq v8 w'=>∃ (x7_1 : List Int) (x8_1 : Int),v8 = .int .i64 x8_1 ∧ Aside0 (a5.l0 kq l0 l1 a2 x7_1 x8_1 = some r) ∧ Aside0 (kq ≤ k) ∧ Aside0 (Kd.R (Kd.int .u8) 5 w' w.heap.size (fun _=>True) v178 x7_1) ∧ Aside0 (Below w.heap.size w w'))
 case atStart=>exact ⟨(y177),(0),(by rfl),H',⟨Nat.le_refl _⟩,⟨by exact HO179.out⟩,⟨HB.out⟩⟩
 case round=>
  clear H'
  (try clear c4b0);(try clear c4b1);(try clear c5b0);(try clear c5b1)
  obtain ⟨x7_1,x8_1,rfl,HA,HK1,HO_7,HB⟩:=hrel
  cases gk with
  | zero=>exact absurd HA.out (by simp [a5.l0])
  | succ k1=>
   have H:=HA.out
   clear HA
   simp only [a5.l0] at H
   by_cases c8 : x8_1 < (l0.length : Int)
   ·rw [if_pos c8] at H
    have c8b0:=decide_eq_true c8
    clear c8
    obtain ⟨c9,H⟩:=nn H
    have c9b0:=decide_eq_true c9
    clear c9
    by_cases c10 : (rd l0 x8_1) = 0
    ·rw [if_pos c10] at H
     have c10b0 : ((rd l0 x8_1) == 0) = true:=beq_iff_eq.mpr c10
     clear c10
     have H':=M0 H
     clear H
     have p180 : 0 ≤ (x8_1 : Int):=of_decide_eq_true (by with_reducible assumption)
     have q180 : x8_1 < (l0.length : Int):=of_decide_eq_true (by with_reducible assumption)
     obtain ⟨ad180,e180,hx180_0⟩:=Kd.at_int HR0.out x8_1 p180 q180
     cases e180
     replace hx180_0:=(HB.out.cell (World.block_lt_of_cell? w _ hx180_0)).trans hx180_0
     replace p180:=eq_true p180
     replace q180:=eq_true q180
     go_wp2
     go_roundg k1
     case measure=>have:=HK1.out;omega
     case rel=>exact ⟨(x7_1),(wrap64 (x8_1 + 1)),(by rfl),H',⟨by have:=HK1.out;omega⟩,⟨by exact HO_7.out⟩,⟨HB.out⟩⟩
    ·rw [if_neg c10] at H
     have c10b0 : ((rd l0 x8_1) == 0) = false:=beq_eq_false_iff_ne.mpr c10
     have c10b1 : ((rd l0 x8_1) != 0) = true:=bne_iff_ne.mpr c10
     have H':=M0 H
     clear H
     have p180 : 0 ≤ (x8_1 : Int):=of_decide_eq_true (by with_reducible assumption)
     have q180 : x8_1 < (l0.length : Int):=of_decide_eq_true (by with_reducible assumption)
     obtain ⟨ad180,e180,hx180_0⟩:=Kd.at_int HR0.out x8_1 p180 q180
     cases e180
     replace hx180_0:=(HB.out.cell (World.block_lt_of_cell? w _ hx180_0)).trans hx180_0
     replace p180:=eq_true p180
     replace q180:=eq_true q180
     go_wp2
     go_loopg [9] k1 (fun kq v9 w'=>∃ (x7_2 : List Int) (x9_2 : Int),v9 = .int .i64 x9_2 ∧ Aside0 (a5.l1 kq l0 l1 a2 x7_2 x8_1 x9_2 = some r) ∧ Aside0 (kq ≤ k1) ∧ Aside0 (Kd.R (Kd.int .u8) 5 w' w.heap.size (fun _=>True) v178 x7_2) ∧ Aside0 (Below w.heap.size w w'))
     case atStart=>exact ⟨(x7_1),(0),(by rfl),H',⟨Nat.le_refl _⟩,⟨by exact HO_7.out⟩,⟨HB.out⟩⟩
     case round=>
      clear H'
      (try clear c8b0);(try clear c9b0);(try clear c10);(try clear c10b0);(try clear c10b1);(try clear hx180_0);(try clear p180);(try clear q180)
      obtain ⟨x7_2,x9_2,rfl,HA,HK2,HO_7,HB⟩:=hrel
      cases gk with
      | zero=>exact absurd HA.out (by simp [a5.l1])
      | succ k2=>
       have H:=HA.out
       clear HA
       simp only [a5.l1] at H
       by_cases c11 : x9_2 < a2
       ·rw [if_pos c11] at H
        have c11b0:=decide_eq_true c11
        clear c11
        obtain ⟨c12,H⟩:=nn H
        have c12b0:=decide_eq_true c12
        clear c12
        obtain ⟨c13,H⟩:=nn H
        have c13b0:=decide_eq_true c13
        clear c13
        obtain ⟨c14,H⟩:=nn H
        have c14b0:=decide_eq_true c14
        clear c14
        obtain ⟨c15,H⟩:=nn H
        have c15b0:=decide_eq_true c15
        clear c15
        obtain ⟨c16,H⟩:=nn H
        have c16b0:=decide_eq_true c16
        clear c16
        obtain ⟨c17,H⟩:=nn H
        have c17b0:=decide_eq_true c17
        clear c17
        replace H:=Option.bind_eq_some_iff.mp H
        obtain ⟨t184,A190,H⟩:=H
        replace H : (a5.l1 k2 l0 l1 a2 (x7_2.set (x9_2 : Int).toNat (Go.bits .xor .u8 (rd x7_2 x9_2) ((t184) % 256))) x8_1 (wrap64 (x9_2 + 1))) = some r:=H
        have A19:=M0 A190
        clear A190
        obtain ⟨y185,hy185⟩ : ∃ y_ : List Int,y_ = (x7_2.set (x9_2 : Int).toNat (Go.bits .xor .u8 (rd x7_2 x9_2) ((t184) % 256))):=⟨_,rfl⟩
        rw [← hy185] at H
        have Ny185:=M0 hy185
        clear hy185
        have H':=M0 H
        clear H
        try go_wp2
        replace HO_7:=M0 (Kd.cL HO_7.out)
        replace HB:=M0 (aQ HB.out)
        obtain ⟨Ao22,co22,eo22⟩:=Kd.bc HO_7.out
        (subst eo22)
        have p181 : 0 ≤ (x9_2 : Int):=of_decide_eq_true (by with_reducible assumption)
        have q181 : x9_2 < (x7_2.length : Int):=of_decide_eq_true (by with_reducible assumption)
        obtain ⟨ad181,e181,hx181_0⟩:=Kd.at_int (Kd.aE HO_7.out).2.2 x9_2 p181 q181
        cases e181
        replace p181:=eq_true p181
        replace q181:=eq_true q181
        have p182 : 0 ≤ (x8_1 : Int):=of_decide_eq_true (by with_reducible assumption)
        have q182 : x8_1 < (l0.length : Int):=of_decide_eq_true (by with_reducible assumption)
        obtain ⟨ad182,e182,hx182_0⟩:=Kd.at_int HR0.out x8_1 p182 q182
        have hw182_0:=hx182_0
        obtain rfl : ad180 = ad182:=(by injection e182)
        replace hx182_0:=(HB.out.cell (World.block_lt_of_cell? w _ hx182_0)).trans hx182_0
        replace p182:=eq_true p182
        replace q182:=eq_true q182
        have p183 : 0 ≤ (x8_1 : Int):=of_decide_eq_true (by with_reducible assumption)
        have q183 : x8_1 < (l1.length : Int):=of_decide_eq_true (by with_reducible assumption)
        obtain ⟨ad183,e183,hx183_0⟩:=Kd.bu HR1.out x8_1 p183 q183
        have hw183_0:=hx183_0
        cases e183
        replace hx183_0:=(HB.out.cell (World.block_lt_of_cell? w _ hx183_0)).trans hx183_0
        replace p183:=eq_true p183
        replace q183:=eq_true q183
        have p18 : 0 ≤ (x9_2 : Int):=of_decide_eq_true (by with_reducible assumption)
        have q18 : x9_2 < ((rdOf ByteArray.empty l1 x8_1).size : Int):=of_decide_eq_true (by with_reducible assumption)
        have hx18:=bt_at (rdOf ByteArray.empty l1 x8_1) x9_2
        replace p18:=eq_true p18
        replace q18:=eq_true q18
        refine bW (n:=22) (S:=fun w'=>w'.cell? (ad181.add (x9_2).toNat) = some (.int .u8 (rd x7_2 x9_2)) ∧ w'.cell? (ad180.add (x8_1).toNat) = some (.int .i64 (rd l0 x8_1)) ∧ w'.cell? (ad183.add (x8_1).toNat) = some (.string (rdOf ByteArray.empty l1 x8_1))) (ds:=[21]) #[O,O,O,O,O,O,O,O,O,O,O,O,O,O,O,O,O,O,O,O,O,O] (by kernel_rfl) rfl rfl ⟨hx181_0,((HB.out.cell (World.block_lt_of_cell? w _ hw182_0)).trans hw182_0),((HB.out.cell (World.block_lt_of_cell? w _ hw183_0)).trans hw183_0)⟩ (fun hHeld=>?_);refine cr a5.tab9 a5.bits9 (fun HT_ HW_=>?_)
        generalize wr.drew = w21 at HO_7 HB hx181_0 hx182_0 hx183_0 hHeld ⊢
        refine aq (i:=0) (N:=some 28) #[I,O,O,O,O,O,O,O,O,O,O,O,O,O,O,O,O,O,O,O,O,O] rfl rfl (aM HT_.out (by kernel_rfl)) (fun _ _ _ h=>h) (Or.inl ⟨by rfl,by intro w';go_simp;with_reducible rfl⟩) (by simp only [Act.put,List.setIfInBounds_toArray,List.set_cons_zero,List.set_cons_succ,ae,af];rfl) ?_
        refine aq (i:=1) (N:=some 29) #[I,I,O,O,O,O,O,O,O,O,O,O,O,O,O,O,O,O,O,O,O,O] rfl rfl (aM HT_.out (by kernel_rfl)) (fun _ _ _ h=>h) (Or.inl ⟨by rfl,by intro w';go_simp;with_reducible rfl⟩) (by simp only [Act.put,List.setIfInBounds_toArray,List.set_cons_zero,List.set_cons_succ,ae,af];rfl) ?_
        refine aq (i:=2) (N:=some 30) #[I,I,I,O,O,O,O,O,O,O,O,O,O,O,O,O,O,O,O,O,O,O] rfl rfl (aM HT_.out (by kernel_rfl)) (fun _ _ _ h=>h) (Or.inl ⟨by rfl,by intro w';go_simp;with_reducible rfl⟩) (by simp only [Act.put,List.setIfInBounds_toArray,List.set_cons_zero,List.set_cons_succ,ae,af];rfl) ?_
        refine aq (i:=3) (N:=some 31) #[I,I,I,I,O,O,O,O,O,O,O,O,O,O,O,O,O,O,O,O,O,O] rfl rfl (aM HT_.out (by kernel_rfl)) (fun _ _ _ h=>h) (Or.inl ⟨by rfl,by intro w';go_simp;with_reducible rfl⟩) (by simp only [Act.put,List.setIfInBounds_toArray,List.set_cons_zero,List.set_cons_succ,ae,af];rfl) ?_
        refine aq (i:=4) (N:=some 32) #[I,I,I,I,I,O,O,O,O,O,O,O,O,O,O,O,O,O,O,O,O,O] rfl rfl (aM HT_.out (by kernel_rfl)) (fun _ _ _ h=>h) (Or.inl ⟨by rfl,by intro w';go_simp;with_reducible rfl⟩) (by simp only [Act.put,List.setIfInBounds_toArray,List.set_cons_zero,List.set_cons_succ,ae,af];rfl) ?_
        refine aq (i:=6) (N:=some 34) #[I,I,I,I,I,O,I,O,O,O,O,O,O,O,O,O,O,O,O,O,O,O] rfl rfl (aM HT_.out (by kernel_rfl)) (fun _ _ _ h=>h) (Or.inl ⟨by rfl,by intro w';go_simp;with_reducible rfl⟩) (by simp only [Act.put,List.setIfInBounds_toArray,List.set_cons_zero,List.set_cons_succ,ae,af];rfl) ?_
        refine aq (i:=7) (N:=some 35) #[I,I,I,I,I,O,I,I,O,O,O,O,O,O,O,O,O,O,O,O,O,O] rfl rfl (aM HT_.out (by kernel_rfl)) (fun _ _ _ h=>h) (Or.inl ⟨by rfl,by intro w';go_simp;with_reducible rfl⟩) (by simp only [Act.put,List.setIfInBounds_toArray,List.set_cons_zero,List.set_cons_succ,ae,af];rfl) ?_
        refine aq (i:=8) (N:=some 36) #[I,I,I,I,I,O,I,I,I,O,O,O,O,O,O,O,O,O,O,O,O,O] rfl rfl (aM HT_.out (by kernel_rfl)) (fun _ _ _ h=>h) (Or.inl ⟨by rfl,by intro w';go_simp;with_reducible rfl⟩) (by simp only [Act.put,List.setIfInBounds_toArray,List.set_cons_zero,List.set_cons_succ,ae,af];rfl) ?_
        refine aq (i:=10) (N:=some 38) #[I,I,I,I,I,O,I,I,I,O,I,O,O,O,O,O,O,O,O,O,O,O] rfl rfl (aM HT_.out (by kernel_rfl)) (fun _ _ _ h=>h) (Or.inl ⟨by rfl,by intro w';go_simp;with_reducible rfl⟩) (by simp only [Act.put,List.setIfInBounds_toArray,List.set_cons_zero,List.set_cons_succ,ae,af];rfl) ?_
        refine aq (i:=11) (N:=some 39) #[I,I,I,I,I,O,I,I,I,O,I,I,O,O,O,O,O,O,O,O,O,O] rfl rfl (aM HT_.out (by kernel_rfl)) (fun _ _ _ h=>h) (Or.inl ⟨by rfl,by intro w';go_simp;with_reducible rfl⟩) (by simp only [Act.put,List.setIfInBounds_toArray,List.set_cons_zero,List.set_cons_succ,ae,af];rfl) ?_
        refine aq (i:=12) (N:=some 40) #[I,I,I,I,I,O,I,I,I,O,I,I,I,O,O,O,O,O,O,O,O,O] rfl rfl (aM HT_.out (by kernel_rfl)) (fun _ _ _ h=>h) (Or.inl ⟨by rfl,by intro w';go_simp;with_reducible rfl⟩) (by simp only [Act.put,List.setIfInBounds_toArray,List.set_cons_zero,List.set_cons_succ,ae,af];rfl) ?_
        refine aq (i:=14) (N:=some 42) #[I,I,I,I,I,O,I,I,I,O,I,I,I,O,I,O,O,O,O,O,O,O] rfl rfl (aM HT_.out (by kernel_rfl)) (fun _ _ _ h=>h) (Or.inl ⟨by rfl,by intro w';go_simp;with_reducible rfl⟩) (by simp only [Act.put,List.setIfInBounds_toArray,List.set_cons_zero,List.set_cons_succ,ae,af];rfl) ?_
        refine bn (i:=5) (N:=some 33) #[I,I,I,I,I,I,I,I,I,O,I,I,I,O,I,O,O,O,O,O,O,O] rfl rfl (bC HT_.out HW_.out (by kernel_rfl)) (fun _ _ _ h=>h) (Or.inl ⟨by rfl,by rintro w' ⟨s0,s1,s2⟩;go_simp;with_reducible rfl⟩) hHeld (by simp only [Act.put,List.setIfInBounds_toArray,List.set_cons_zero,List.set_cons_succ,ae,af];rfl) ?_
        refine bn (i:=9) (N:=some 37) #[I,I,I,I,I,I,I,I,I,I,I,I,I,O,I,O,O,O,O,O,O,O] rfl rfl (bC HT_.out HW_.out (by kernel_rfl)) (fun _ _ _ h=>h) (Or.inl ⟨by rfl,by rintro w' ⟨s0,s1,s2⟩;go_simp;with_reducible rfl⟩) hHeld (by simp only [Act.put,List.setIfInBounds_toArray,List.set_cons_zero,List.set_cons_succ,ae,af];rfl) ?_
        refine bn (i:=13) (N:=some 41) #[I,I,I,I,I,I,I,I,I,I,I,I,I,I,I,O,O,O,O,O,O,O] rfl rfl (bC HT_.out HW_.out (by kernel_rfl)) (fun _ _ _ h=>h) (Or.inl ⟨by rfl,by rintro w' ⟨s0,s1,s2⟩;go_simp;with_reducible rfl⟩) hHeld (by simp only [Act.put,List.setIfInBounds_toArray,List.set_cons_zero,List.set_cons_succ,ae,af];rfl) ?_
        refine bn (i:=15) (N:=some 43) #[I,I,I,I,I,I,I,I,I,I,I,I,I,I,I,I,O,O,O,O,O,O] rfl rfl (bC HT_.out HW_.out (by kernel_rfl)) (fun _ _ _ h=>h) (Or.inl ⟨by rfl,by rintro w' ⟨s0,s1,s2⟩;go_simp;with_reducible rfl⟩) hHeld (by simp only [Act.put,List.setIfInBounds_toArray,List.set_cons_zero,List.set_cons_succ,ae,af];rfl) ?_
        refine aq (i:=16) (N:=some 44) #[I,I,I,I,I,I,I,I,I,I,I,I,I,I,I,I,I,O,O,O,O,O] rfl rfl (aM HT_.out (by kernel_rfl)) (fun _ _ _ h=>h) (Or.inl ⟨by rfl,by intro w';go_simp;with_reducible rfl⟩) (by simp only [Act.put,List.setIfInBounds_toArray,List.set_cons_zero,List.set_cons_succ,ae,af];rfl) ?_
        refine one_ (i:=17) (N:=some 45) #[I,I,I,I,I,I,I,I,I,I,I,I,I,I,I,I,I,I,O,O,O,O] rfl rfl (bR HT_.out (by kernel_rfl)) (by decide) (fun K hK=>?_)
        refine cE Try.func124 (by kernel_rfl) rfl #[.int .i64 (rd l0 x8_1),.int .i64 (wrap64 (bt (rdOf ByteArray.empty l1 x8_1) x9_2))] (by rfl) rfl rfl (by (try simp only [List.map_toArray,List.map_cons,List.map_nil]);rfl) ?_
        with_reducible refine (cf.calls k2 (rd l0 x8_1) (wrap64 (bt (rdOf ByteArray.empty l1 x8_1) x9_2)) t184 _ A19.out).mono ?_
        rintro e w' ⟨rfl,⟨nd,rfl⟩⟩
        refine ⟨_,rfl,?_⟩
        have p20 : 0 ≤ (x9_2 : Int):=of_decide_eq_true (by with_reducible assumption)
        have q20 : (x9_2 : Int) < ((x7_2.length : Int) : Int):=of_decide_eq_true (by with_reducible assumption)
        obtain ⟨go20,co20,eo20,gb20,gl20,cl20,HG20⟩:=Kd.du HO_7.out (by omega)
        (cases eo20)
        have GB20:=M0 gb20
        have GG20:=M0 HG20
        clear gb20 gl20 HG20
        (simp only [add_plain] at hx181_0)
        obtain ⟨hx20_0,hf20_0⟩:=Kd.bQ 0 HO_7.out (x9_2 : Int) p20 q20
        replace p20:=eq_true p20
        replace q20:=eq_true q20
        have HP23:=Kd.R_putn HO_7.out (x9_2 : Int) (Go.bits .xor .u8 (rd x7_2 x9_2) ((t184) % 256))
        rw [← Ny185.out] at HP23
        have HQ23:=M0 HP23
        clear HP23
        refine hK.out _ _ ⟨hHeld.1,((HB.out.cell (World.block_lt_of_cell? w _ hw182_0)).trans hw182_0),((HB.out.cell (World.block_lt_of_cell? w _ hw183_0)).trans hw183_0)⟩ (fun hHeld=>?_)
        clear hK K
        refine bz (a':=?_) ?_ ?_
        rotate_left
        ·show Act.put _ (some 45) _ = _
         simp only [Act.put,List.setIfInBounds_toArray,List.set_cons_zero,List.set_cons_succ,ae,af]
         rfl
        refine aq (i:=18) (N:=some 46) #[I,I,I,I,I,I,I,I,I,I,I,I,I,I,I,I,I,I,I,O,O,O] rfl rfl (aM HT_.out (by kernel_rfl)) (fun _ _ _ h=>h) (Or.inl ⟨by rfl,by intro w';go_simp;with_reducible rfl⟩) (by simp only [Act.put,List.setIfInBounds_toArray,List.set_cons_zero,List.set_cons_succ,ae,af];rfl) ?_
        refine aq (i:=19) (N:=some 47) #[I,I,I,I,I,I,I,I,I,I,I,I,I,I,I,I,I,I,I,I,O,O] rfl rfl (aM HT_.out (by kernel_rfl)) (fun _ _ _ h=>h) (Or.inl ⟨by rfl,by intro w';go_simp;with_reducible rfl⟩) (by simp only [Act.put,List.setIfInBounds_toArray,List.set_cons_zero,List.set_cons_succ,ae,af];rfl) ?_
        refine aq (i:=20) (N:=some 48) #[I,I,I,I,I,I,I,I,I,I,I,I,I,I,I,I,I,I,I,I,I,O] rfl rfl (aM HT_.out (by kernel_rfl)) (fun _ _ _ h=>h) (Or.inl ⟨by rfl,by intro w';go_simp;with_reducible rfl⟩) (by simp only [Act.put,List.setIfInBounds_toArray,List.set_cons_zero,List.set_cons_succ,ae,af];rfl) ?_
        refine dX (i:=21) (N:=none) #[I,I,I,I,I,I,I,I,I,I,I,I,I,I,I,I,I,I,I,I,I,I] rfl rfl (bR HT_.out (by kernel_rfl)) (by decide) (fun K hK=>?_)
        refine dA (w1:=?_) (by rfl) rfl ?_ ?_
        rotate_left
        ·go_simp
         rfl
        refine hK.out _ _ ?_
        clear hK K
        refine cD (dg HT_.out (by kernel_rfl)) ?_
        try go_wp2
        go_roundg k2
        case measure=>have:=HK1.out;have:=HK2.out;omega
        case rel=>exact ⟨(y185),(wrap64 (x9_2 + 1)),(by rfl),H',⟨by have:=HK1.out;have:=HK2.out;omega⟩,⟨by exact HQ23.out⟩,⟨by repeat ((with_reducible first|exact HB.out|apply aN|refine ax ?_ GB20.out))⟩⟩
       ·rw [if_neg c11] at H
        have c11b0:=decide_eq_false c11
        clear c11
        have H':=M0 H
        clear H
        go_wp2
        go_roundg k2
        case measure=>have:=HK1.out;have:=HK2.out;omega
        case rel=>exact ⟨(x7_2),(wrap64 (x8_1 + 1)),(by rfl),H',⟨by have:=HK1.out;have:=HK2.out;omega⟩,⟨by exact HO_7.out⟩,⟨HB.out⟩⟩
   ·rw [if_neg c8] at H
    have c8b0:=decide_eq_false c8
    clear c8
    obtain rfl:=Option.some.inj H
    have hcv24:=own_string (P:=Try.prog) Try.underlying37 Try.underlying5 Try.underlying9 (Kd.own_of_R HO_7.out)
    go_wp2
    go_ret
    exact ⟨by rfl,HB.out⟩

/-! ### bI: function 123 -/
def bI.l0 : Nat → Int → Int → Option (Int)
 | 0,_,_=>none
 | k + 1,x0,x3=>if x3 < 256 then ((cf.f k x0 x3).bind fun t187=>(if t187 = 1 then (some x3) else (bI.l0 k x0 (wrap64 (x3 + 1))))) else (some 0)
def bI.f (k : Nat) (a0 : Int) : Option (Int):=(bE.f a0 256).bind fun t186=>(if t186 = true then (bI.l0 k a0 1) else (some (-1)))
set_option maxHeartbeats 8000000 in
set_option maxRecDepth 100000 in
theorem bI.calls (k : Nat) (a0 : Int) (r : Int) (w : World) (h : bI.f k a0 = some r) :
  Calls Try.prog 123 #[.int .i64 a0] w fun e w'=>e = .returned (.int .i64 r) ∧ Drawn0 w w':=by
 have H : ((bE.f a0 256).bind fun t186=>(if t186 = true then (bI.l0 k a0 1) else (some (-1)))) = some r:=h
 clear h
 replace H:=Option.bind_eq_some_iff.mp H
 obtain ⟨t186,A20,H⟩:=H
 replace H : (if t186 = true then (bI.l0 k a0 1) else (some (-1))) = some r:=H
 have A2:=M0 A20
 clear A20
 by_cases c3 : t186 = true
 ·subst c3
  have H1 : (bI.l0 k a0 1) = some r:=by rw [if_pos rfl] at H;exact H
  clear H
  have H:=H1
  clear H1
  have H':=M0 H
  clear H
  go_enter Try.func123,Try.ntmps123
  go_wp2_with (((with_reducible refine ah (f:=79) rfl ?_);refine aH (some 5) rfl rfl Try.func79 (by kernel_rfl) rfl #[.int .i64 a0,.int .i64 256] rfl (by (try simp only [List.map_toArray,List.map_cons,List.map_nil]);rfl) ?_;(with_reducible refine (bE.calls a0 256 true _ A2.out).mono ?_);rintro e w' ⟨rfl,⟨nd,rfl⟩⟩;refine ⟨_,rfl,?_⟩))
  go_loopg [3] k (fun kq v3 w'=>∃ (x3_1 : Int),v3 = .int .i64 x3_1 ∧ Aside0 (bI.l0 kq a0 x3_1 = some r) ∧ Aside0 (kq ≤ k) ∧ Drawn0 w w')
  case atStart=>exact ⟨(1),(by rfl),H',⟨Nat.le_refl _⟩,by repeat (first|exact Drawn0.refl _|apply Drawn0.step)⟩
  case round=>
   clear H'
   obtain ⟨x3_1,rfl,HA,HK1,⟨m1,rfl⟩⟩:=hrel
   cases gk with
   | zero=>exact absurd HA.out (by simp [bI.l0])
   | succ k1=>
    have H:=HA.out
    clear HA
    simp only [bI.l0] at H
    by_cases c4 : x3_1 < 256
    ·rw [if_pos c4] at H
     have c4b0:=decide_eq_true c4
     clear c4
     replace H:=Option.bind_eq_some_iff.mp H
     obtain ⟨t187,A50,H⟩:=H
     replace H : (if t187 = 1 then (some x3_1) else (bI.l0 k1 a0 (wrap64 (x3_1 + 1)))) = some r:=H
     have A5:=M0 A50
     clear A50
     by_cases c6 : t187 = 1
     ·rw [if_pos c6] at H
      have c6b0 : (t187 == 1) = true:=beq_iff_eq.mpr c6
      clear c6
      obtain rfl:=Option.some.inj H
      go_wp2_with (((with_reducible refine ah (f:=124) rfl ?_);refine aH (some 13) rfl rfl Try.func124 (by kernel_rfl) rfl #[.int .i64 a0,.int .i64 x3_1] rfl (by (try simp only [List.map_toArray,List.map_cons,List.map_nil]);rfl) ?_;(with_reducible refine (cf.calls k1 a0 x3_1 t187 _ A5.out).mono ?_);rintro e w' ⟨rfl,⟨nd,rfl⟩⟩;refine ⟨_,rfl,?_⟩))
      go_ret
      exact ⟨by rfl,by repeat (first|exact Drawn0.refl _|apply Drawn0.step)⟩
     ·rw [if_neg c6] at H
      have c6b0 : (t187 == 1) = false:=beq_eq_false_iff_ne.mpr c6
      have H':=M0 H
      clear H
      go_wp2_with (((with_reducible refine ah (f:=124) rfl ?_);refine aH (some 13) rfl rfl Try.func124 (by kernel_rfl) rfl #[.int .i64 a0,.int .i64 x3_1] rfl (by (try simp only [List.map_toArray,List.map_cons,List.map_nil]);rfl) ?_;(with_reducible refine (cf.calls k1 a0 x3_1 t187 _ A5.out).mono ?_);rintro e w' ⟨rfl,⟨nd,rfl⟩⟩;refine ⟨_,rfl,?_⟩))
      go_roundg k1
      case measure=>have:=HK1.out;omega
      case rel=>exact ⟨(wrap64 (x3_1 + 1)),(by rfl),H',⟨by have:=HK1.out;omega⟩,by repeat (first|exact Drawn0.refl _|apply Drawn0.step)⟩
    ·rw [if_neg c4] at H
     have c4b0:=decide_eq_false c4
     clear c4
     obtain rfl:=Option.some.inj H
     go_wp2
     go_ret
     exact ⟨by rfl,by repeat (first|exact Drawn0.refl _|apply Drawn0.step)⟩
 ·replace c3:=Bool.eq_false_iff.mpr c3
  subst c3
  have H1 : (some (-1)) = some r:=by rw [if_neg (show ¬ (false = true) by decide)] at H;exact H
  clear H
  have H:=H1
  clear H1
  obtain rfl:=Option.some.inj H
  go_enter Try.func123,Try.ntmps123
  go_wp2_with (((with_reducible refine ah (f:=79) rfl ?_);refine aH (some 5) rfl rfl Try.func79 (by kernel_rfl) rfl #[.int .i64 a0,.int .i64 256] rfl (by (try simp only [List.map_toArray,List.map_cons,List.map_nil]);rfl) ?_;(with_reducible refine (bE.calls a0 256 false _ A2.out).mono ?_);rintro e w' ⟨rfl,⟨nd,rfl⟩⟩;refine ⟨_,rfl,?_⟩))
  go_ret
  exact ⟨by rfl,by repeat (first|exact Drawn0.refl _|apply Drawn0.step)⟩

end Go.Proofs.Ytffhbpepppodeaa.PFnExactJoinObject
