import Derived.Test.YtffhbpepppodeaaPFnExactJoinObjectx0
import Derived.Test.YtffhbpepppodeaaPFnExactJoinObjectx4
import Derived.Test.YtffhbpepppodeaaPFnExactJoinObjectx17
import Derived.Test.YtffhbpepppodeaaPFnExactJoinObjectx18
namespace Go.Proofs.Ytffhbpepppodeaa.PFnExactJoinObject
private theorem nn {α : Type} {c : Prop} [Decidable c] {a : Option α} {r : α} (h : (if c then a else none) = some r) : c ∧ a = some r:=by
 split at h
 ·exact ⟨‹c›,h⟩
 ·cases h
open Go.RowKit Go.Proofs.YtffhbpepppodeaaW.PrintWords Go.Proofs.YtffhbpepppodeaaW.PrintLast Go.Proofs.YtffhbpepppodeaaW.PrintMore
attribute [local go_sem] cF cG cW cX cn cp cI cJ   -- for this text's walks alone
set_option linter.unusedVariables false
set_option linter.unusedSimpArgs false

/-! ### aC: function 57 -/
def aC.l0 : Nat → List (S55) → List (S55) → Int → Option (Bool)
 | 0,_,_,_=>none
 | k + 1,x0,x1,x5=>if x5 < (x0.length : Int) then (if 0 ≤ x5 then (if x5 < (x1.length : Int) then ((cm.f k ((bB x0 x5).f0) ((bB x1 x5).f0)).bind fun t431=>(if t431 = true then (aC.l0 k x0 x1 (wrap64 (x5 + 1))) else (some false))) else (none)) else (none)) else (some true)
def aC.f (k : Nat) (l0 : List (S55)) (l1 : List (S55)) : Option (Bool):=if (l0.length : Int) = (l1.length : Int) then (aC.l0 k l0 l1 0) else (some false)
def aC.T6 : Bool × List (List Nat × List Nat):=(true,[([],[]),([],[]),([0,1],[0,1]),([2],[2]),([],[]),([],[]),([4,5],[4,5]),([6],[6]),([3,7],[3,7]),([8],[8])])
def aC.B6 : List Nat:=[0,0,3,7,0,0,48,112,255,511]
theorem aC.tab6 : rtab .any (opsOf Try.f57 6) = aC.T6:=by kernel_rfl
theorem aC.bits6 : cQ aC.T6.2 aC.B6 = true:=by kernel_rfl
set_option maxHeartbeats 8000000 in
set_option maxRecDepth 100000 in
theorem aC.calls (k : Nat) (A0 : Option Addr) (c0 : Nat) (l0 : List (S55)) (A1 : Option Addr) (c1 : Nat) (l1 : List (S55)) (r : Bool) (w : World) (hr0 : Kd.C k55 w A0 l0.length l0) (hc0 : l0.length ≤ c0) (hr1 : Kd.C k55 w A1 l1.length l1) (hc1 : l1.length ≤ c1) (h : aC.f k l0 l1 = some r) :
  Calls Try.prog 57 #[.slice A0 l0.length c0,.slice A1 l1.length c1] w fun e w'=>e = .returned (.bool r) ∧ Below w.heap.size w w':=by
 have HR0:=M0 hr0
 have HC0:=M0 hc0
 clear hr0 hc0
 have HR1:=M0 hr1
 have HC1:=M0 hc1
 clear hr1 hc1
 have HB:=M0 (Below.refl w.heap.size w)
 have H : (if (l0.length : Int) = (l1.length : Int) then (aC.l0 k l0 l1 0) else (some false)) = some r:=h
 clear h
 by_cases c3 : (l0.length : Int) = (l1.length : Int)
 ·rw [if_pos c3] at H
  have c3b0 : ((l0.length : Int) == (l1.length : Int)) = true:=beq_iff_eq.mpr c3
  have c3b1 : ((l0.length : Int) != (l1.length : Int)) = false:=bne_eq_false_iff_eq.mpr c3
  have c3b2 : (l0.length == l1.length) = true:=by (simp at c3 ⊢;omega)
  clear c3
  have H':=M0 H
  clear H
  go_enter Try.func57,Try.ntmps57
  go_wp2
  go_loopg [5] k (fun kq v5 w'=>∃ (x5_1 : Int),v5 = .int .i64 x5_1 ∧ Aside0 (aC.l0 kq l0 l1 x5_1 = some r) ∧ Aside0 (kq ≤ k) ∧ Aside0 (Below w.heap.size w w'))
  case atStart=>exact ⟨(0),(by rfl),H',⟨Nat.le_refl _⟩,⟨HB.out⟩⟩
  case round=>
   clear H'
   (try clear c3b0);(try clear c3b1);(try clear c3b2)
   obtain ⟨x5_1,rfl,HA,HK1,HB⟩:=hrel
   cases gk with
   | zero=>exact absurd HA.out (by simp [aC.l0])
   | succ k1=>
    have H:=HA.out
    clear HA
    simp only [aC.l0] at H
    by_cases c4 : x5_1 < (l0.length : Int)
    ·rw [if_pos c4] at H
     have c4b0:=decide_eq_true c4
     clear c4
     obtain ⟨c5,H⟩:=nn H
     have c5b0:=decide_eq_true c5
     clear c5
     obtain ⟨c6,H⟩:=nn H
     have c6b0:=decide_eq_true c6
     clear c6
     replace H:=Option.bind_eq_some_iff.mp H
     obtain ⟨t431,A70,H⟩:=H
     replace H : (if t431 = true then (aC.l0 k1 l0 l1 (wrap64 (x5_1 + 1))) else (some false)) = some r:=H
     have A7:=M0 A70
     clear A70
     by_cases c8 : t431 = true
     ·subst c8
      have H1 : (aC.l0 k1 l0 l1 (wrap64 (x5_1 + 1))) = some r:=by rw [if_pos rfl] at H;exact H
      clear H
      have H:=H1
      clear H1
      have H':=M0 H
      clear H
      try go_wp2
      replace HB:=M0 (aQ HB.out)
      have p429 : 0 ≤ (x5_1 : Int):=of_decide_eq_true (by with_reducible assumption)
      have q429 : x5_1 < (l0.length : Int):=of_decide_eq_true (by with_reducible assumption)
      obtain ⟨ad429,A429_0,c429_0,e429,hx429_0,hl429_0,hi429_0⟩:=at_T55 HR0.out x5_1 p429 q429
      have hw429_0:=hx429_0
      cases e429
      replace hx429_0:=(HB.out.cell (World.block_lt_of_cell? w _ hx429_0)).trans hx429_0
      have HR429_0:=M0 hi429_0
      have HC429_0:=M0 hl429_0
      clear hi429_0 hl429_0
      replace p429:=eq_true p429
      replace q429:=eq_true q429
      have p430 : 0 ≤ (x5_1 : Int):=of_decide_eq_true (by with_reducible assumption)
      have q430 : x5_1 < (l1.length : Int):=of_decide_eq_true (by with_reducible assumption)
      obtain ⟨ad430,A430_0,c430_0,e430,hx430_0,hl430_0,hi430_0⟩:=at_T55 HR1.out x5_1 p430 q430
      have hw430_0:=hx430_0
      cases e430
      replace hx430_0:=(HB.out.cell (World.block_lt_of_cell? w _ hx430_0)).trans hx430_0
      have HR430_0:=M0 hi430_0
      have HC430_0:=M0 hl430_0
      clear hi430_0 hl430_0
      replace p430:=eq_true p430
      replace q430:=eq_true q430
      refine bW (n:=10) (S:=fun w'=>w'.cell? (ad429.add (x5_1).toNat) = some (.slice A429_0 ((bB l0 x5_1).f0).length c429_0) ∧ w'.cell? (ad430.add (x5_1).toNat) = some (.slice A430_0 ((bB l1 x5_1).f0).length c430_0)) (ds:=[]) #[O,O,O,O,O,O,O,O,O,O] (by kernel_rfl) rfl rfl ⟨((HB.out.cell (World.block_lt_of_cell? w _ hw429_0)).trans hw429_0),((HB.out.cell (World.block_lt_of_cell? w _ hw430_0)).trans hw430_0)⟩ (fun hHeld=>?_);refine cr aC.tab6 aC.bits6 (fun HT_ HW_=>?_)
      generalize wr.drew = w9 at HB HR429_0 HR430_0 hx429_0 hx430_0 hHeld ⊢
      refine aq (i:=0) (N:=some 17) #[I,O,O,O,O,O,O,O,O,O] rfl rfl (aM HT_.out (by kernel_rfl)) (fun _ _ _ h=>h) (Or.inl ⟨by rfl,by intro w';go_simp;with_reducible rfl⟩) (by simp only [Act.put,List.setIfInBounds_toArray,List.set_cons_zero,List.set_cons_succ,ae,af];rfl) ?_
      refine aq (i:=1) (N:=some 18) #[I,I,O,O,O,O,O,O,O,O] rfl rfl (aM HT_.out (by kernel_rfl)) (fun _ _ _ h=>h) (Or.inl ⟨by rfl,by intro w';go_simp;with_reducible rfl⟩) (by simp only [Act.put,List.setIfInBounds_toArray,List.set_cons_zero,List.set_cons_succ,ae,af];rfl) ?_
      refine aq (i:=2) (N:=some 19) #[I,I,I,O,O,O,O,O,O,O] rfl rfl (aM HT_.out (by kernel_rfl)) (fun _ _ _ h=>h) (Or.inl ⟨by rfl,by intro w';go_simp;with_reducible rfl⟩) (by simp only [Act.put,List.setIfInBounds_toArray,List.set_cons_zero,List.set_cons_succ,ae,af];rfl) ?_
      refine aq (i:=4) (N:=some 21) #[I,I,I,O,I,O,O,O,O,O] rfl rfl (aM HT_.out (by kernel_rfl)) (fun _ _ _ h=>h) (Or.inl ⟨by rfl,by intro w';go_simp;with_reducible rfl⟩) (by simp only [Act.put,List.setIfInBounds_toArray,List.set_cons_zero,List.set_cons_succ,ae,af];rfl) ?_
      refine aq (i:=5) (N:=some 22) #[I,I,I,O,I,I,O,O,O,O] rfl rfl (aM HT_.out (by kernel_rfl)) (fun _ _ _ h=>h) (Or.inl ⟨by rfl,by intro w';go_simp;with_reducible rfl⟩) (by simp only [Act.put,List.setIfInBounds_toArray,List.set_cons_zero,List.set_cons_succ,ae,af];rfl) ?_
      refine aq (i:=6) (N:=some 23) #[I,I,I,O,I,I,I,O,O,O] rfl rfl (aM HT_.out (by kernel_rfl)) (fun _ _ _ h=>h) (Or.inl ⟨by rfl,by intro w';go_simp;with_reducible rfl⟩) (by simp only [Act.put,List.setIfInBounds_toArray,List.set_cons_zero,List.set_cons_succ,ae,af];rfl) ?_
      refine bn (i:=3) (N:=some 20) #[I,I,I,I,I,I,I,O,O,O] rfl rfl (bC HT_.out HW_.out (by kernel_rfl)) (fun _ _ _ h=>h) (Or.inl ⟨by rfl,by rintro w' ⟨s0,s1⟩;go_simp;with_reducible rfl⟩) hHeld (by simp only [Act.put,List.setIfInBounds_toArray,List.set_cons_zero,List.set_cons_succ,ae,af];rfl) ?_
      refine bn (i:=7) (N:=some 24) #[I,I,I,I,I,I,I,I,O,O] rfl rfl (bC HT_.out HW_.out (by kernel_rfl)) (fun _ _ _ h=>h) (Or.inl ⟨by rfl,by rintro w' ⟨s0,s1⟩;go_simp;with_reducible rfl⟩) hHeld (by simp only [Act.put,List.setIfInBounds_toArray,List.set_cons_zero,List.set_cons_succ,ae,af];rfl) ?_
      refine one_ (i:=8) (N:=some 25) #[I,I,I,I,I,I,I,I,I,O] rfl rfl (bR HT_.out (by kernel_rfl)) (by decide) (fun K hK=>?_)
      refine cE Try.func116 (by kernel_rfl) rfl #[.agg #[.slice A429_0 ((bB l0 x5_1).f0).length c429_0],.agg #[.slice A430_0 ((bB l1 x5_1).f0).length c430_0]] (by rfl) rfl rfl (by (try simp only [List.map_toArray,List.map_cons,List.map_nil]);rfl) ?_
      with_reducible refine (cm.calls k1 _ _ ((bB l0 x5_1).f0) _ _ ((bB l1 x5_1).f0) true _ ?side1 ?side2 ?side3 ?side4 A7.out).mono ?_
      (case side1=>exact (Kd.a8 HR429_0.out HB.out))
      (case side2=>exact HC429_0.out)
      (case side3=>exact (Kd.a8 HR430_0.out HB.out))
      (case side4=>exact HC430_0.out)
      rintro e w10 ⟨rfl,hb⟩
      refine ⟨_,rfl,?_⟩
      replace HB:=M0 (aa HB.out hb)
      clear hb
      refine hK.out _ _ ⟨((HB.out.cell (World.block_lt_of_cell? w _ hw429_0)).trans hw429_0),((HB.out.cell (World.block_lt_of_cell? w _ hw430_0)).trans hw430_0)⟩ (fun hHeld=>?_)
      clear hK K
      refine bz (a':=?_) ?_ ?_
      rotate_left
      ·show Act.put _ (some 25) _ = _
       simp only [Act.put,List.setIfInBounds_toArray,List.set_cons_zero,List.set_cons_succ,ae,af]
       rfl
      refine aq (i:=9) (N:=some 26) #[I,I,I,I,I,I,I,I,I,I] rfl rfl (aM HT_.out (by kernel_rfl)) (fun _ _ _ h=>h) (Or.inl ⟨by rfl,by intro w';go_simp;with_reducible rfl⟩) (by simp only [Act.put,List.setIfInBounds_toArray,List.set_cons_zero,List.set_cons_succ,ae,af];rfl) ?_
      refine cD (dg HT_.out (by kernel_rfl)) ?_
      try go_wp2
      go_roundg k1
      case measure=>have:=HK1.out;omega
      case rel=>exact ⟨(wrap64 (x5_1 + 1)),(by rfl),H',⟨by have:=HK1.out;omega⟩,⟨HB.out⟩⟩
     ·replace c8:=Bool.eq_false_iff.mpr c8
      subst c8
      have H1 : (some false) = some r:=by rw [if_neg (show ¬ (false = true) by decide)] at H;exact H
      clear H
      have H:=H1
      clear H1
      obtain rfl:=Option.some.inj H
      try go_wp2
      replace HB:=M0 (aQ HB.out)
      have p429 : 0 ≤ (x5_1 : Int):=of_decide_eq_true (by with_reducible assumption)
      have q429 : x5_1 < (l0.length : Int):=of_decide_eq_true (by with_reducible assumption)
      obtain ⟨ad429,A429_0,c429_0,e429,hx429_0,hl429_0,hi429_0⟩:=at_T55 HR0.out x5_1 p429 q429
      have hw429_0:=hx429_0
      cases e429
      replace hx429_0:=(HB.out.cell (World.block_lt_of_cell? w _ hx429_0)).trans hx429_0
      have HR429_0:=M0 hi429_0
      have HC429_0:=M0 hl429_0
      clear hi429_0 hl429_0
      replace p429:=eq_true p429
      replace q429:=eq_true q429
      have p430 : 0 ≤ (x5_1 : Int):=of_decide_eq_true (by with_reducible assumption)
      have q430 : x5_1 < (l1.length : Int):=of_decide_eq_true (by with_reducible assumption)
      obtain ⟨ad430,A430_0,c430_0,e430,hx430_0,hl430_0,hi430_0⟩:=at_T55 HR1.out x5_1 p430 q430
      have hw430_0:=hx430_0
      cases e430
      replace hx430_0:=(HB.out.cell (World.block_lt_of_cell? w _ hx430_0)).trans hx430_0
      have HR430_0:=M0 hi430_0
      have HC430_0:=M0 hl430_0
      clear hi430_0 hl430_0
      replace p430:=eq_true p430
      replace q430:=eq_true q430
      refine bW (n:=10) (S:=fun w'=>w'.cell? (ad429.add (x5_1).toNat) = some (.slice A429_0 ((bB l0 x5_1).f0).length c429_0) ∧ w'.cell? (ad430.add (x5_1).toNat) = some (.slice A430_0 ((bB l1 x5_1).f0).length c430_0)) (ds:=[]) #[O,O,O,O,O,O,O,O,O,O] (by kernel_rfl) rfl rfl ⟨((HB.out.cell (World.block_lt_of_cell? w _ hw429_0)).trans hw429_0),((HB.out.cell (World.block_lt_of_cell? w _ hw430_0)).trans hw430_0)⟩ (fun hHeld=>?_);refine cr aC.tab6 aC.bits6 (fun HT_ HW_=>?_)
      generalize wr.drew = w11 at HB HR429_0 HR430_0 hx429_0 hx430_0 hHeld ⊢
      refine aq (i:=0) (N:=some 17) #[I,O,O,O,O,O,O,O,O,O] rfl rfl (aM HT_.out (by kernel_rfl)) (fun _ _ _ h=>h) (Or.inl ⟨by rfl,by intro w';go_simp;with_reducible rfl⟩) (by simp only [Act.put,List.setIfInBounds_toArray,List.set_cons_zero,List.set_cons_succ,ae,af];rfl) ?_
      refine aq (i:=1) (N:=some 18) #[I,I,O,O,O,O,O,O,O,O] rfl rfl (aM HT_.out (by kernel_rfl)) (fun _ _ _ h=>h) (Or.inl ⟨by rfl,by intro w';go_simp;with_reducible rfl⟩) (by simp only [Act.put,List.setIfInBounds_toArray,List.set_cons_zero,List.set_cons_succ,ae,af];rfl) ?_
      refine aq (i:=2) (N:=some 19) #[I,I,I,O,O,O,O,O,O,O] rfl rfl (aM HT_.out (by kernel_rfl)) (fun _ _ _ h=>h) (Or.inl ⟨by rfl,by intro w';go_simp;with_reducible rfl⟩) (by simp only [Act.put,List.setIfInBounds_toArray,List.set_cons_zero,List.set_cons_succ,ae,af];rfl) ?_
      refine aq (i:=4) (N:=some 21) #[I,I,I,O,I,O,O,O,O,O] rfl rfl (aM HT_.out (by kernel_rfl)) (fun _ _ _ h=>h) (Or.inl ⟨by rfl,by intro w';go_simp;with_reducible rfl⟩) (by simp only [Act.put,List.setIfInBounds_toArray,List.set_cons_zero,List.set_cons_succ,ae,af];rfl) ?_
      refine aq (i:=5) (N:=some 22) #[I,I,I,O,I,I,O,O,O,O] rfl rfl (aM HT_.out (by kernel_rfl)) (fun _ _ _ h=>h) (Or.inl ⟨by rfl,by intro w';go_simp;with_reducible rfl⟩) (by simp only [Act.put,List.setIfInBounds_toArray,List.set_cons_zero,List.set_cons_succ,ae,af];rfl) ?_
      refine aq (i:=6) (N:=some 23) #[I,I,I,O,I,I,I,O,O,O] rfl rfl (aM HT_.out (by kernel_rfl)) (fun _ _ _ h=>h) (Or.inl ⟨by rfl,by intro w';go_simp;with_reducible rfl⟩) (by simp only [Act.put,List.setIfInBounds_toArray,List.set_cons_zero,List.set_cons_succ,ae,af];rfl) ?_
      refine bn (i:=3) (N:=some 20) #[I,I,I,I,I,I,I,O,O,O] rfl rfl (bC HT_.out HW_.out (by kernel_rfl)) (fun _ _ _ h=>h) (Or.inl ⟨by rfl,by rintro w' ⟨s0,s1⟩;go_simp;with_reducible rfl⟩) hHeld (by simp only [Act.put,List.setIfInBounds_toArray,List.set_cons_zero,List.set_cons_succ,ae,af];rfl) ?_
      refine bn (i:=7) (N:=some 24) #[I,I,I,I,I,I,I,I,O,O] rfl rfl (bC HT_.out HW_.out (by kernel_rfl)) (fun _ _ _ h=>h) (Or.inl ⟨by rfl,by rintro w' ⟨s0,s1⟩;go_simp;with_reducible rfl⟩) hHeld (by simp only [Act.put,List.setIfInBounds_toArray,List.set_cons_zero,List.set_cons_succ,ae,af];rfl) ?_
      refine one_ (i:=8) (N:=some 25) #[I,I,I,I,I,I,I,I,I,O] rfl rfl (bR HT_.out (by kernel_rfl)) (by decide) (fun K hK=>?_)
      refine cE Try.func116 (by kernel_rfl) rfl #[.agg #[.slice A429_0 ((bB l0 x5_1).f0).length c429_0],.agg #[.slice A430_0 ((bB l1 x5_1).f0).length c430_0]] (by rfl) rfl rfl (by (try simp only [List.map_toArray,List.map_cons,List.map_nil]);rfl) ?_
      with_reducible refine (cm.calls k1 _ _ ((bB l0 x5_1).f0) _ _ ((bB l1 x5_1).f0) false _ ?side1 ?side2 ?side3 ?side4 A7.out).mono ?_
      (case side1=>exact (Kd.a8 HR429_0.out HB.out))
      (case side2=>exact HC429_0.out)
      (case side3=>exact (Kd.a8 HR430_0.out HB.out))
      (case side4=>exact HC430_0.out)
      rintro e w12 ⟨rfl,hb⟩
      refine ⟨_,rfl,?_⟩
      replace HB:=M0 (aa HB.out hb)
      clear hb
      refine hK.out _ _ ⟨((HB.out.cell (World.block_lt_of_cell? w _ hw429_0)).trans hw429_0),((HB.out.cell (World.block_lt_of_cell? w _ hw430_0)).trans hw430_0)⟩ (fun hHeld=>?_)
      clear hK K
      refine bz (a':=?_) ?_ ?_
      rotate_left
      ·show Act.put _ (some 25) _ = _
       simp only [Act.put,List.setIfInBounds_toArray,List.set_cons_zero,List.set_cons_succ,ae,af]
       rfl
      refine aq (i:=9) (N:=some 26) #[I,I,I,I,I,I,I,I,I,I] rfl rfl (aM HT_.out (by kernel_rfl)) (fun _ _ _ h=>h) (Or.inl ⟨by rfl,by intro w';go_simp;with_reducible rfl⟩) (by simp only [Act.put,List.setIfInBounds_toArray,List.set_cons_zero,List.set_cons_succ,ae,af];rfl) ?_
      refine cD (dg HT_.out (by kernel_rfl)) ?_
      try go_wp2
      go_ret
      exact ⟨by rfl,HB.out⟩
    ·rw [if_neg c4] at H
     have c4b0:=decide_eq_false c4
     clear c4
     obtain rfl:=Option.some.inj H
     go_wp2
     go_ret
     exact ⟨by rfl,HB.out⟩
 ·rw [if_neg c3] at H
  have c3b1 : ((l0.length : Int) != (l1.length : Int)) = true:=bne_iff_ne.mpr c3
  obtain rfl:=Option.some.inj H
  go_enter Try.func57,Try.ntmps57
  go_wp2
  go_ret
  exact ⟨by rfl,HB.out⟩

/-! ### bJ: function 11 -/
def bJ.f (k : Nat) (a0_0 : Int) (a0_1 : Int) (a0_2 : Int) (a1 : Int) (a2 : Int) (l3 : List (S156)) : Option (Bool):=(a6.f k l3 1048576).bind fun t433=>(if t433 < 0 then (some true) else ((bV.f a0_0 a0_1 a0_2).bind fun bt434=>((aA.f k l3).bind fun t437=>((av.f k bt434.1 bt434.2.1 bt434.2.2 a1 a2 t437).bind fun bt440=>((aA.f k l3).bind fun t443=>((bV.f a0_0 a0_1 a0_2).bind fun bt446=>((az.f k bt446.1 bt446.2.1 bt446.2.2 a1 a2 t443).bind fun bt449=>((bF.f bt449.1 bt449.2 bt440.1 bt440.2).bind fun t452=>(if t452 = true then ((aA.f k l3).bind fun t453=>((aC.f k t443 t453).bind fun t456=>(if t456 = true then (some true) else (some false)))) else (some false))))))))))
set_option maxHeartbeats 8000000 in
set_option maxRecDepth 100000 in
theorem bJ.calls (k : Nat) (a0_0 : Int) (a0_1 : Int) (a0_2 : Int) (a1 : Int) (a2 : Int) (A3 : Option Addr) (c3 : Nat) (l3 : List (S156)) (r : Bool) (w : World) (hr3 : Kd.C k156 w A3 l3.length l3) (hc3 : l3.length ≤ c3) (h : bJ.f k a0_0 a0_1 a0_2 a1 a2 l3 = some r) :
  Calls Try.prog 11 #[.agg #[.int .i64 a0_0,.int .i64 a0_1,.int .i64 a0_2],.int .i64 a1,.int .i64 a2,.slice A3 l3.length c3] w fun e w'=>e = .returned (.bool r) ∧ Below w.heap.size w w':=by
 have HR3:=M0 hr3
 have HC3:=M0 hc3
 clear hr3 hc3
 have HB:=M0 (Below.refl w.heap.size w)
 have H : ((a6.f k l3 1048576).bind fun t433=>(if t433 < 0 then (some true) else ((bV.f a0_0 a0_1 a0_2).bind fun bt434=>((aA.f k l3).bind fun t437=>((av.f k bt434.1 bt434.2.1 bt434.2.2 a1 a2 t437).bind fun bt440=>((aA.f k l3).bind fun t443=>((bV.f a0_0 a0_1 a0_2).bind fun bt446=>((az.f k bt446.1 bt446.2.1 bt446.2.2 a1 a2 t443).bind fun bt449=>((bF.f bt449.1 bt449.2 bt440.1 bt440.2).bind fun t452=>(if t452 = true then ((aA.f k l3).bind fun t453=>((aC.f k t443 t453).bind fun t456=>(if t456 = true then (some true) else (some false)))) else (some false))))))))))) = some r:=h
 clear h
 replace H:=Option.bind_eq_some_iff.mp H
 obtain ⟨t433,A50,H⟩:=H
 replace H : (if t433 < 0 then (some true) else ((bV.f a0_0 a0_1 a0_2).bind fun bt434=>((aA.f k l3).bind fun t437=>((av.f k bt434.1 bt434.2.1 bt434.2.2 a1 a2 t437).bind fun bt440=>((aA.f k l3).bind fun t443=>((bV.f a0_0 a0_1 a0_2).bind fun bt446=>((az.f k bt446.1 bt446.2.1 bt446.2.2 a1 a2 t443).bind fun bt449=>((bF.f bt449.1 bt449.2 bt440.1 bt440.2).bind fun t452=>(if t452 = true then ((aA.f k l3).bind fun t453=>((aC.f k t443 t453).bind fun t456=>(if t456 = true then (some true) else (some false)))) else (some false)))))))))) = some r:=H
 have A5:=M0 A50
 clear A50
 by_cases c6 : t433 < 0
 ·rw [if_pos c6] at H
  have c6b0:=decide_eq_true c6
  clear c6
  obtain rfl:=Option.some.inj H
  go_enter Try.func11,Try.ntmps11
  go_wp2_with (first|((with_reducible refine ak (N:=4) rfl ?_);refine aw rfl (N:=4) rfl (cs:=#[.int .i64 a0_0,.int .i64 a0_1,.int .i64 a0_2]) (t:=78) (by go_simp) ?_;intro gb432 hg w7 hbox hb;have BK432:=M0 (hbox);replace HB:=M0 (aa HB.out hb);clear hb hbox hg)|((with_reducible refine ah (f:=53) rfl ?_);refine aH (some 15) rfl rfl Try.func53 (by kernel_rfl) rfl #[.slice A3 l3.length c3,.int .i64 1048576] rfl (by (try simp only [List.map_toArray,List.map_cons,List.map_nil]);rfl) ?_;(with_reducible refine (a6.calls k _ _ l3 1048576 t433 _ (Kd.a8 HR3.out HB.out) HC3.out A5.out).mono ?_);rintro e w8 ⟨rfl,hb⟩;refine ⟨_,rfl,?_⟩;replace BK432:=M0 (ab BK432.out hb);replace HB:=M0 (aa HB.out hb);clear hb))
  go_ret
  exact ⟨by rfl,HB.out⟩
 ·rw [if_neg c6] at H
  have c6b0:=decide_eq_false c6
  clear c6
  replace H:=Option.bind_eq_some_iff.mp H
  obtain ⟨⟨t434,t435,t436⟩,A90,H⟩:=H
  dsimp only at H
  have A9:=M0 A90
  clear A90
  replace H:=Option.bind_eq_some_iff.mp H
  obtain ⟨t437,A100,H⟩:=H
  replace H : ((av.f k t434 t435 t436 a1 a2 t437).bind fun bt440=>((aA.f k l3).bind fun t443=>((bV.f a0_0 a0_1 a0_2).bind fun bt446=>((az.f k bt446.1 bt446.2.1 bt446.2.2 a1 a2 t443).bind fun bt449=>((bF.f bt449.1 bt449.2 bt440.1 bt440.2).bind fun t452=>(if t452 = true then ((aA.f k l3).bind fun t453=>((aC.f k t443 t453).bind fun t456=>(if t456 = true then (some true) else (some false)))) else (some false))))))) = some r:=H
  have A10:=M0 A100
  clear A100
  replace H:=Option.bind_eq_some_iff.mp H
  obtain ⟨⟨t440,t441⟩,A110,H⟩:=H
  dsimp only at H
  have A11:=M0 A110
  clear A110
  replace H:=Option.bind_eq_some_iff.mp H
  obtain ⟨t443,A120,H⟩:=H
  replace H : ((bV.f a0_0 a0_1 a0_2).bind fun bt446=>((az.f k bt446.1 bt446.2.1 bt446.2.2 a1 a2 t443).bind fun bt449=>((bF.f bt449.1 bt449.2 t440 t441).bind fun t452=>(if t452 = true then ((aA.f k l3).bind fun t453=>((aC.f k t443 t453).bind fun t456=>(if t456 = true then (some true) else (some false)))) else (some false))))) = some r:=H
  have A12:=M0 A120
  clear A120
  replace H:=Option.bind_eq_some_iff.mp H
  obtain ⟨⟨t446,t447,t448⟩,A130,H⟩:=H
  dsimp only at H
  have A13:=M0 A130
  clear A130
  replace H:=Option.bind_eq_some_iff.mp H
  obtain ⟨⟨t449,t450⟩,A140,H⟩:=H
  dsimp only at H
  have A14:=M0 A140
  clear A140
  replace H:=Option.bind_eq_some_iff.mp H
  obtain ⟨t452,A150,H⟩:=H
  replace H : (if t452 = true then ((aA.f k l3).bind fun t453=>((aC.f k t443 t453).bind fun t456=>(if t456 = true then (some true) else (some false)))) else (some false)) = some r:=H
  have A15:=M0 A150
  clear A150
  by_cases c16 : t452 = true
  ·subst c16
   have H1 : ((aA.f k l3).bind fun t453=>((aC.f k t443 t453).bind fun t456=>(if t456 = true then (some true) else (some false)))) = some r:=by rw [if_pos rfl] at H;exact H
   clear H
   have H:=H1
   clear H1
   replace H:=Option.bind_eq_some_iff.mp H
   obtain ⟨t453,A170,H⟩:=H
   replace H : ((aC.f k t443 t453).bind fun t456=>(if t456 = true then (some true) else (some false))) = some r:=H
   have A17:=M0 A170
   clear A170
   replace H:=Option.bind_eq_some_iff.mp H
   obtain ⟨t456,A180,H⟩:=H
   replace H : (if t456 = true then (some true) else (some false)) = some r:=H
   have A18:=M0 A180
   clear A180
   by_cases c19 : t456 = true
   ·subst c19
    have H1 : (some true) = some r:=by rw [if_pos rfl] at H;exact H
    clear H
    have H:=H1
    clear H1
    obtain rfl:=Option.some.inj H
    go_enter Try.func11,Try.ntmps11
    go_wp2_with (first|((with_reducible refine ak (N:=4) rfl ?_);refine aw rfl (N:=4) rfl (cs:=#[.int .i64 a0_0,.int .i64 a0_1,.int .i64 a0_2]) (t:=78) (by go_simp) ?_;intro gb432 hg w20 hbox hb;have BK432:=M0 (hbox);replace HB:=M0 (aa HB.out hb);clear hb hbox hg)|((with_reducible refine ah (f:=53) rfl ?_);refine aH (some 15) rfl rfl Try.func53 (by kernel_rfl) rfl #[.slice A3 l3.length c3,.int .i64 1048576] rfl (by (try simp only [List.map_toArray,List.map_cons,List.map_nil]);rfl) ?_;(with_reducible refine (a6.calls k _ _ l3 1048576 t433 _ (Kd.a8 HR3.out HB.out) HC3.out A5.out).mono ?_);rintro e w21 ⟨rfl,hb⟩;refine ⟨_,rfl,?_⟩;replace BK432:=M0 (ab BK432.out hb);replace HB:=M0 (aa HB.out hb);clear hb;have hcz22_0:=bcv (v:=.int .i64 a0_0) BK432.out 0 rfl;have hcz22_1:=bcv (v:=.int .i64 a0_1) BK432.out 1 rfl;have hcz22_2:=bcv (v:=.int .i64 a0_2) BK432.out 2 rfl)|((with_reducible refine ah (f:=45) rfl ?_);refine aH (some 19) rfl rfl Try.func45 (by kernel_rfl) rfl #[.agg #[.int .i64 a0_0,.int .i64 a0_1,.int .i64 a0_2]] rfl (by (try simp only [List.map_toArray,List.map_cons,List.map_nil]);rfl) ?_;(with_reducible refine (bV.calls a0_0 a0_1 a0_2 t434 t435 t436 _ A9.out).mono ?_);rintro e w23 ⟨rfl,hb⟩;refine ⟨_,rfl,?_⟩;replace BK432:=M0 (ab BK432.out hb);replace HB:=M0 (aa HB.out hb);clear hb)|((with_reducible refine ah (f:=55) rfl ?_);refine aH (some 23) rfl rfl Try.func55 (by kernel_rfl) rfl #[.slice A3 l3.length c3] rfl (by (try simp only [List.map_toArray,List.map_cons,List.map_nil]);rfl) ?_;(with_reducible refine (aA.calls k _ _ l3 t437 _ (Kd.a8 HR3.out HB.out) HC3.out A10.out).mono ?_);rintro e w24 ⟨v438,rfl,ho0,hb⟩;refine ⟨_,rfl,?_⟩;have HO439:=M0 (Kd.S_lower ho0 (aj HB.out));replace BK432:=M0 (ab BK432.out hb);replace HB:=M0 (aa HB.out hb);clear hb ho0;obtain ⟨Ao25,co25,eo25⟩:=Kd.S_slice HO439.out;subst eo25)|((with_reducible refine ah (f:=54) rfl ?_);refine aH (some 24) rfl rfl Try.func54 (by kernel_rfl) rfl #[.agg #[.int .i64 t434,.int .i64 t435,.int .i64 t436],.int .i64 a1,.int .i64 a2,.slice Ao25 t437.length co25] rfl (by (try simp only [List.map_toArray,List.map_cons,List.map_nil]);rfl) ?_;(with_reducible refine (av.calls k t434 t435 t436 a1 a2 _ _ t437 t440 t441 _ (Kd.cq HO439.out).2.2 (Kd.cq HO439.out).2.1 A11.out).mono ?_);rintro e w26 ⟨rfl,hb⟩;refine ⟨_,rfl,?_⟩;replace HO439:=M0 (Kd.bO HO439.out hb);replace BK432:=M0 (ab BK432.out hb);replace HB:=M0 (aa HB.out hb);clear hb)|((with_reducible refine ak (N:=10) rfl ?_);refine aw rfl (N:=10) rfl (cs:=#[.int .i64 0,.string (⟨#[]⟩ : ByteArray)]) (t:=63) (by go_simp) ?_;intro gb442 hg w27 hbox hb;replace HO439:=M0 (Kd.bO HO439.out hb);have BK442:=M0 (hbox);have GW442:=M0 ((by rw [hg];exact (aj HB.out) : w.heap.size ≤ gb442));have GE442:=GW442;replace HB:=M0 (aa HB.out hb);have NB432_442:=M0 ((by rw [hg];exact Nat.ne_of_lt (a7 BK432.out) : gb432 ≠ gb442));replace BK432:=M0 (ab BK432.out hb);clear hb hbox hg;have hcz29_0:=bcv (v:=.int .i64 0) BK442.out 0 rfl;have hcz29_1:=bcv (v:=.string (⟨#[]⟩ : ByteArray)) BK442.out 1 rfl;have hfz29_0:=ag BK442.out 0;have hfz29_1:=ag BK442.out 1)|((with_reducible refine ah (f:=55) rfl ?_);refine aH (some 26) rfl rfl Try.func55 (by kernel_rfl) rfl #[.slice A3 l3.length c3] rfl (by (try simp only [List.map_toArray,List.map_cons,List.map_nil]);rfl) ?_;(with_reducible refine (aA.calls k _ _ l3 t443 _ ?side1 ?side2 A12.out).mono ?_);(case side1=>exact Kd.a8 HR3.out (by repeat ((with_reducible first|exact HB.out|refine ax ?_ GE442.out))));(case side2=>exact HC3.out);rintro e w30 ⟨v444,rfl,ho0,hb⟩;refine ⟨_,rfl,?_⟩;have HO445:=M0 (Kd.S_lower (Kd.S_new' ho0 (Kd.S_lt (by exact (Kd.dW (Kd.dB (p:=⟨gb442,1,none⟩) (Kd.dB (p:=⟨gb442,0,none⟩) (Kd.dS HO439.out BK442.out (by decide)) (fun _ hk=>hk.2) (.int .i64 t440)) (fun _ hk=>hk.2) (.string t441)) (fun _ h_=>h_.1))))) (aj (by repeat ((with_reducible first|exact HB.out|refine ax ?_ GE442.out)))));replace HO439:=M0 (Kd.S_elder' (by exact (Kd.dW (Kd.dB (p:=⟨gb442,1,none⟩) (Kd.dB (p:=⟨gb442,0,none⟩) (Kd.dS HO439.out BK442.out (by decide)) (fun _ hk=>hk.2) (.int .i64 t440)) (fun _ hk=>hk.2) (.string t441)) (fun _ h_=>h_.1))) (Kd.S_base ho0) hb);replace BK432:=M0 (ab (g:=gb432) (o:=.cells #[.int .i64 a0_0,.int .i64 a0_1,.int .i64 a0_2] 78 (0,0)) (by refine aX ?_ NB432_442.out _;refine aX ?_ NB432_442.out _;exact BK432.out) hb);replace BK442:=M0 (ab (g:=gb442) (o:=.cells #[.int .i64 t440,.string t441] 63 (0,0)) (by refine aW (cs:=#[.int .i64 t440,.string (⟨#[]⟩ : ByteArray)]) ?_ 1 _ rfl;refine aW (cs:=#[.int .i64 0,.string (⟨#[]⟩ : ByteArray)]) ?_ 0 _ rfl;exact BK442.out) hb);replace HB:=M0 (aa (by repeat ((with_reducible first|exact HB.out|refine ax ?_ GE442.out))) hb);clear hb ho0;have hcz31_0:=bcv (v:=.int .i64 a0_0) BK432.out 0 rfl;have hcz31_1:=bcv (v:=.int .i64 a0_1) BK432.out 1 rfl;have hcz31_2:=bcv (v:=.int .i64 a0_2) BK432.out 2 rfl)|((with_reducible refine ah (f:=45) rfl ?_);refine aH (some 28) rfl rfl Try.func45 (by kernel_rfl) rfl #[.agg #[.int .i64 a0_0,.int .i64 a0_1,.int .i64 a0_2]] rfl (by (try simp only [List.map_toArray,List.map_cons,List.map_nil]);rfl) ?_;(with_reducible refine (bV.calls a0_0 a0_1 a0_2 t446 t447 t448 _ A13.out).mono ?_);rintro e w32 ⟨rfl,hb⟩;refine ⟨_,rfl,?_⟩;replace HO439:=M0 (Kd.bO HO439.out hb);replace HO445:=M0 (Kd.bO HO445.out hb);replace BK432:=M0 (ab BK432.out hb);replace BK442:=M0 (ab BK442.out hb);replace HB:=M0 (aa HB.out hb);clear hb;obtain ⟨Ao33,co33,eo33⟩:=Kd.S_slice HO445.out;subst eo33)|((with_reducible refine ah (f:=33) rfl ?_);refine aH (some 32) rfl rfl Try.func33 (by kernel_rfl) rfl #[.agg #[.int .i64 t446,.int .i64 t447,.int .i64 t448],.int .i64 a1,.int .i64 a2,.slice Ao33 t443.length co33] rfl (by (try simp only [List.map_toArray,List.map_cons,List.map_nil]);rfl) ?_;(with_reducible refine (az.calls k t446 t447 t448 a1 a2 _ _ t443 t449 t450 _ (Kd.cq HO445.out).2.2 (Kd.cq HO445.out).2.1 A14.out).mono ?_);rintro e w34 ⟨rfl,hb⟩;refine ⟨_,rfl,?_⟩;replace HO439:=M0 (Kd.bO HO439.out hb);replace HO445:=M0 (Kd.bO HO445.out hb);replace BK432:=M0 (ab BK432.out hb);replace BK442:=M0 (ab BK442.out hb);replace HB:=M0 (aa HB.out hb);clear hb)|((with_reducible refine ak (N:=12) rfl ?_);refine aw rfl (N:=12) rfl (cs:=#[.int .i64 0,.string (⟨#[]⟩ : ByteArray)]) (t:=63) (by go_simp) ?_;intro gb451 hg w35 hbox hb;replace HO439:=M0 (Kd.bO HO439.out hb);replace HO445:=M0 (Kd.bO HO445.out hb);have BK451:=M0 (hbox);have GW451:=M0 ((by rw [hg];exact (aj HB.out) : w.heap.size ≤ gb451));have GE451:=GW451;replace HB:=M0 (aa HB.out hb);have NB432_451:=M0 ((by rw [hg];exact Nat.ne_of_lt (a7 BK432.out) : gb432 ≠ gb451));replace BK432:=M0 (ab BK432.out hb);have NB442_451:=M0 ((by rw [hg];exact Nat.ne_of_lt (a7 BK442.out) : gb442 ≠ gb451));replace BK442:=M0 (ab BK442.out hb);clear hb hbox hg;have hnc37:=NB442_451.out;have hcz38_0:=bcv (v:=.int .i64 0) BK451.out 0 rfl;have hcz38_1:=bcv (v:=.string (⟨#[]⟩ : ByteArray)) BK451.out 1 rfl;have hfz38_0:=ag BK451.out 0;have hfz38_1:=ag BK451.out 1;have hcz39_0:=bcv (v:=.int .i64 t440) BK442.out 0 rfl;have hcz39_1:=bcv (v:=.string t441) BK442.out 1 rfl)|((with_reducible refine ah (f:=56) rfl ?_);refine aH (some 35) rfl rfl Try.func56 (by kernel_rfl) rfl #[.agg #[.int .i64 t449,.string t450],.agg #[.int .i64 t440,.string t441]] rfl (by (try simp only [List.map_toArray,List.map_cons,List.map_nil]);rfl) ?_;(with_reducible refine (bF.calls t449 t450 t440 t441 true _ A15.out).mono ?_);rintro e w40 ⟨rfl,hb⟩;refine ⟨_,rfl,?_⟩;replace HO439:=M0 (Kd.bO (by exact (Kd.dW (Kd.dB (p:=⟨gb451,1,none⟩) (Kd.dB (p:=⟨gb451,0,none⟩) (Kd.dS HO439.out BK451.out (by decide)) (fun _ hk=>hk.2) (.int .i64 t449)) (fun _ hk=>hk.2) (.string t450)) (fun _ h_=>h_.1))) hb);replace HO445:=M0 (Kd.bO (by exact (Kd.dW (Kd.dB (p:=⟨gb451,1,none⟩) (Kd.dB (p:=⟨gb451,0,none⟩) (Kd.dS HO445.out BK451.out (by decide)) (fun _ hk=>hk.2) (.int .i64 t449)) (fun _ hk=>hk.2) (.string t450)) (fun _ h_=>h_.1))) hb);replace BK432:=M0 (ab (g:=gb432) (o:=.cells #[.int .i64 a0_0,.int .i64 a0_1,.int .i64 a0_2] 78 (0,0)) (by refine aX ?_ NB432_451.out _;refine aX ?_ NB432_451.out _;exact BK432.out) hb);replace BK442:=M0 (ab (g:=gb442) (o:=.cells #[.int .i64 t440,.string t441] 63 (0,0)) (by refine aX ?_ NB442_451.out _;refine aX ?_ NB442_451.out _;exact BK442.out) hb);replace BK451:=M0 (ab (g:=gb451) (o:=.cells #[.int .i64 t449,.string t450] 63 (0,0)) (by refine aW (cs:=#[.int .i64 t449,.string (⟨#[]⟩ : ByteArray)]) ?_ 1 _ rfl;refine aW (cs:=#[.int .i64 0,.string (⟨#[]⟩ : ByteArray)]) ?_ 0 _ rfl;exact BK451.out) hb);replace HB:=M0 (aa (by repeat ((with_reducible first|exact HB.out|refine ax ?_ GE451.out))) hb);clear hb)|((with_reducible refine ah (f:=55) rfl ?_);refine aH (some 39) rfl rfl Try.func55 (by kernel_rfl) rfl #[.slice A3 l3.length c3] rfl (by (try simp only [List.map_toArray,List.map_cons,List.map_nil]);rfl) ?_;(with_reducible refine (aA.calls k _ _ l3 t453 _ (Kd.a8 HR3.out HB.out) HC3.out A17.out).mono ?_);rintro e w41 ⟨v454,rfl,ho0,hb⟩;refine ⟨_,rfl,?_⟩;have HO455:=M0 (Kd.S_lower (Kd.S_new' (Kd.S_new' ho0 (Kd.S_lt HO439.out)) (Kd.S_lt HO445.out)) (aj HB.out));replace HO439:=M0 (Kd.S_elder' HO439.out (Kd.S_base ho0) hb);replace HO445:=M0 (Kd.S_elder' HO445.out (Kd.S_base ho0) hb);replace BK432:=M0 (ab BK432.out hb);replace BK442:=M0 (ab BK442.out hb);replace BK451:=M0 (ab BK451.out hb);replace HB:=M0 (aa HB.out hb);clear hb ho0;obtain ⟨Ao42,co42,eo42⟩:=Kd.S_slice HO455.out;subst eo42)|((with_reducible refine ah (f:=57) rfl ?_);refine aH (some 40) rfl rfl Try.func57 (by kernel_rfl) rfl #[.slice Ao33 t443.length co33,.slice Ao42 t453.length co42] rfl (by (try simp only [List.map_toArray,List.map_cons,List.map_nil]);rfl) ?_;(with_reducible refine (aC.calls k _ _ t443 _ _ t453 true _ (Kd.cq HO445.out).2.2 (Kd.cq HO445.out).2.1 (Kd.cq HO455.out).2.2 (Kd.cq HO455.out).2.1 A18.out).mono ?_);rintro e w43 ⟨rfl,hb⟩;refine ⟨_,rfl,?_⟩;replace HO439:=M0 (Kd.bO HO439.out hb);replace HO445:=M0 (Kd.bO HO445.out hb);replace HO455:=M0 (Kd.bO HO455.out hb);replace BK432:=M0 (ab BK432.out hb);replace BK442:=M0 (ab BK442.out hb);replace BK451:=M0 (ab BK451.out hb);replace HB:=M0 (aa HB.out hb);clear hb))
    go_ret
    exact ⟨by rfl,HB.out⟩
   ·replace c19:=Bool.eq_false_iff.mpr c19
    subst c19
    have H1 : (some false) = some r:=by rw [if_neg (show ¬ (false = true) by decide)] at H;exact H
    clear H
    have H:=H1
    clear H1
    obtain rfl:=Option.some.inj H
    go_enter Try.func11,Try.ntmps11
    go_wp2_with (first|((with_reducible refine ak (N:=4) rfl ?_);refine aw rfl (N:=4) rfl (cs:=#[.int .i64 a0_0,.int .i64 a0_1,.int .i64 a0_2]) (t:=78) (by go_simp) ?_;intro gb432 hg w44 hbox hb;have BK432:=M0 (hbox);replace HB:=M0 (aa HB.out hb);clear hb hbox hg)|((with_reducible refine ah (f:=53) rfl ?_);refine aH (some 15) rfl rfl Try.func53 (by kernel_rfl) rfl #[.slice A3 l3.length c3,.int .i64 1048576] rfl (by (try simp only [List.map_toArray,List.map_cons,List.map_nil]);rfl) ?_;(with_reducible refine (a6.calls k _ _ l3 1048576 t433 _ (Kd.a8 HR3.out HB.out) HC3.out A5.out).mono ?_);rintro e w45 ⟨rfl,hb⟩;refine ⟨_,rfl,?_⟩;replace BK432:=M0 (ab BK432.out hb);replace HB:=M0 (aa HB.out hb);clear hb;have hcz46_0:=bcv (v:=.int .i64 a0_0) BK432.out 0 rfl;have hcz46_1:=bcv (v:=.int .i64 a0_1) BK432.out 1 rfl;have hcz46_2:=bcv (v:=.int .i64 a0_2) BK432.out 2 rfl)|((with_reducible refine ah (f:=45) rfl ?_);refine aH (some 19) rfl rfl Try.func45 (by kernel_rfl) rfl #[.agg #[.int .i64 a0_0,.int .i64 a0_1,.int .i64 a0_2]] rfl (by (try simp only [List.map_toArray,List.map_cons,List.map_nil]);rfl) ?_;(with_reducible refine (bV.calls a0_0 a0_1 a0_2 t434 t435 t436 _ A9.out).mono ?_);rintro e w47 ⟨rfl,hb⟩;refine ⟨_,rfl,?_⟩;replace BK432:=M0 (ab BK432.out hb);replace HB:=M0 (aa HB.out hb);clear hb)|((with_reducible refine ah (f:=55) rfl ?_);refine aH (some 23) rfl rfl Try.func55 (by kernel_rfl) rfl #[.slice A3 l3.length c3] rfl (by (try simp only [List.map_toArray,List.map_cons,List.map_nil]);rfl) ?_;(with_reducible refine (aA.calls k _ _ l3 t437 _ (Kd.a8 HR3.out HB.out) HC3.out A10.out).mono ?_);rintro e w48 ⟨v438,rfl,ho0,hb⟩;refine ⟨_,rfl,?_⟩;have HO439:=M0 (Kd.S_lower ho0 (aj HB.out));replace BK432:=M0 (ab BK432.out hb);replace HB:=M0 (aa HB.out hb);clear hb ho0;obtain ⟨Ao49,co49,eo49⟩:=Kd.S_slice HO439.out;subst eo49)|((with_reducible refine ah (f:=54) rfl ?_);refine aH (some 24) rfl rfl Try.func54 (by kernel_rfl) rfl #[.agg #[.int .i64 t434,.int .i64 t435,.int .i64 t436],.int .i64 a1,.int .i64 a2,.slice Ao49 t437.length co49] rfl (by (try simp only [List.map_toArray,List.map_cons,List.map_nil]);rfl) ?_;(with_reducible refine (av.calls k t434 t435 t436 a1 a2 _ _ t437 t440 t441 _ (Kd.cq HO439.out).2.2 (Kd.cq HO439.out).2.1 A11.out).mono ?_);rintro e w50 ⟨rfl,hb⟩;refine ⟨_,rfl,?_⟩;replace HO439:=M0 (Kd.bO HO439.out hb);replace BK432:=M0 (ab BK432.out hb);replace HB:=M0 (aa HB.out hb);clear hb)|((with_reducible refine ak (N:=10) rfl ?_);refine aw rfl (N:=10) rfl (cs:=#[.int .i64 0,.string (⟨#[]⟩ : ByteArray)]) (t:=63) (by go_simp) ?_;intro gb442 hg w51 hbox hb;replace HO439:=M0 (Kd.bO HO439.out hb);have BK442:=M0 (hbox);have GW442:=M0 ((by rw [hg];exact (aj HB.out) : w.heap.size ≤ gb442));have GE442:=GW442;replace HB:=M0 (aa HB.out hb);have NB432_442:=M0 ((by rw [hg];exact Nat.ne_of_lt (a7 BK432.out) : gb432 ≠ gb442));replace BK432:=M0 (ab BK432.out hb);clear hb hbox hg;have hcz53_0:=bcv (v:=.int .i64 0) BK442.out 0 rfl;have hcz53_1:=bcv (v:=.string (⟨#[]⟩ : ByteArray)) BK442.out 1 rfl;have hfz53_0:=ag BK442.out 0;have hfz53_1:=ag BK442.out 1)|((with_reducible refine ah (f:=55) rfl ?_);refine aH (some 26) rfl rfl Try.func55 (by kernel_rfl) rfl #[.slice A3 l3.length c3] rfl (by (try simp only [List.map_toArray,List.map_cons,List.map_nil]);rfl) ?_;(with_reducible refine (aA.calls k _ _ l3 t443 _ ?side1 ?side2 A12.out).mono ?_);(case side1=>exact Kd.a8 HR3.out (by repeat ((with_reducible first|exact HB.out|refine ax ?_ GE442.out))));(case side2=>exact HC3.out);rintro e w54 ⟨v444,rfl,ho0,hb⟩;refine ⟨_,rfl,?_⟩;have HO445:=M0 (Kd.S_lower (Kd.S_new' ho0 (Kd.S_lt (by exact (Kd.dW (Kd.dB (p:=⟨gb442,1,none⟩) (Kd.dB (p:=⟨gb442,0,none⟩) (Kd.dS HO439.out BK442.out (by decide)) (fun _ hk=>hk.2) (.int .i64 t440)) (fun _ hk=>hk.2) (.string t441)) (fun _ h_=>h_.1))))) (aj (by repeat ((with_reducible first|exact HB.out|refine ax ?_ GE442.out)))));replace HO439:=M0 (Kd.S_elder' (by exact (Kd.dW (Kd.dB (p:=⟨gb442,1,none⟩) (Kd.dB (p:=⟨gb442,0,none⟩) (Kd.dS HO439.out BK442.out (by decide)) (fun _ hk=>hk.2) (.int .i64 t440)) (fun _ hk=>hk.2) (.string t441)) (fun _ h_=>h_.1))) (Kd.S_base ho0) hb);replace BK432:=M0 (ab (g:=gb432) (o:=.cells #[.int .i64 a0_0,.int .i64 a0_1,.int .i64 a0_2] 78 (0,0)) (by refine aX ?_ NB432_442.out _;refine aX ?_ NB432_442.out _;exact BK432.out) hb);replace BK442:=M0 (ab (g:=gb442) (o:=.cells #[.int .i64 t440,.string t441] 63 (0,0)) (by refine aW (cs:=#[.int .i64 t440,.string (⟨#[]⟩ : ByteArray)]) ?_ 1 _ rfl;refine aW (cs:=#[.int .i64 0,.string (⟨#[]⟩ : ByteArray)]) ?_ 0 _ rfl;exact BK442.out) hb);replace HB:=M0 (aa (by repeat ((with_reducible first|exact HB.out|refine ax ?_ GE442.out))) hb);clear hb ho0;have hcz55_0:=bcv (v:=.int .i64 a0_0) BK432.out 0 rfl;have hcz55_1:=bcv (v:=.int .i64 a0_1) BK432.out 1 rfl;have hcz55_2:=bcv (v:=.int .i64 a0_2) BK432.out 2 rfl)|((with_reducible refine ah (f:=45) rfl ?_);refine aH (some 28) rfl rfl Try.func45 (by kernel_rfl) rfl #[.agg #[.int .i64 a0_0,.int .i64 a0_1,.int .i64 a0_2]] rfl (by (try simp only [List.map_toArray,List.map_cons,List.map_nil]);rfl) ?_;(with_reducible refine (bV.calls a0_0 a0_1 a0_2 t446 t447 t448 _ A13.out).mono ?_);rintro e w56 ⟨rfl,hb⟩;refine ⟨_,rfl,?_⟩;replace HO439:=M0 (Kd.bO HO439.out hb);replace HO445:=M0 (Kd.bO HO445.out hb);replace BK432:=M0 (ab BK432.out hb);replace BK442:=M0 (ab BK442.out hb);replace HB:=M0 (aa HB.out hb);clear hb;obtain ⟨Ao57,co57,eo57⟩:=Kd.S_slice HO445.out;subst eo57)|((with_reducible refine ah (f:=33) rfl ?_);refine aH (some 32) rfl rfl Try.func33 (by kernel_rfl) rfl #[.agg #[.int .i64 t446,.int .i64 t447,.int .i64 t448],.int .i64 a1,.int .i64 a2,.slice Ao57 t443.length co57] rfl (by (try simp only [List.map_toArray,List.map_cons,List.map_nil]);rfl) ?_;(with_reducible refine (az.calls k t446 t447 t448 a1 a2 _ _ t443 t449 t450 _ (Kd.cq HO445.out).2.2 (Kd.cq HO445.out).2.1 A14.out).mono ?_);rintro e w58 ⟨rfl,hb⟩;refine ⟨_,rfl,?_⟩;replace HO439:=M0 (Kd.bO HO439.out hb);replace HO445:=M0 (Kd.bO HO445.out hb);replace BK432:=M0 (ab BK432.out hb);replace BK442:=M0 (ab BK442.out hb);replace HB:=M0 (aa HB.out hb);clear hb)|((with_reducible refine ak (N:=12) rfl ?_);refine aw rfl (N:=12) rfl (cs:=#[.int .i64 0,.string (⟨#[]⟩ : ByteArray)]) (t:=63) (by go_simp) ?_;intro gb451 hg w59 hbox hb;replace HO439:=M0 (Kd.bO HO439.out hb);replace HO445:=M0 (Kd.bO HO445.out hb);have BK451:=M0 (hbox);have GW451:=M0 ((by rw [hg];exact (aj HB.out) : w.heap.size ≤ gb451));have GE451:=GW451;replace HB:=M0 (aa HB.out hb);have NB432_451:=M0 ((by rw [hg];exact Nat.ne_of_lt (a7 BK432.out) : gb432 ≠ gb451));replace BK432:=M0 (ab BK432.out hb);have NB442_451:=M0 ((by rw [hg];exact Nat.ne_of_lt (a7 BK442.out) : gb442 ≠ gb451));replace BK442:=M0 (ab BK442.out hb);clear hb hbox hg;have hnc61:=NB442_451.out;have hcz62_0:=bcv (v:=.int .i64 0) BK451.out 0 rfl;have hcz62_1:=bcv (v:=.string (⟨#[]⟩ : ByteArray)) BK451.out 1 rfl;have hfz62_0:=ag BK451.out 0;have hfz62_1:=ag BK451.out 1;have hcz63_0:=bcv (v:=.int .i64 t440) BK442.out 0 rfl;have hcz63_1:=bcv (v:=.string t441) BK442.out 1 rfl)|((with_reducible refine ah (f:=56) rfl ?_);refine aH (some 35) rfl rfl Try.func56 (by kernel_rfl) rfl #[.agg #[.int .i64 t449,.string t450],.agg #[.int .i64 t440,.string t441]] rfl (by (try simp only [List.map_toArray,List.map_cons,List.map_nil]);rfl) ?_;(with_reducible refine (bF.calls t449 t450 t440 t441 true _ A15.out).mono ?_);rintro e w64 ⟨rfl,hb⟩;refine ⟨_,rfl,?_⟩;replace HO439:=M0 (Kd.bO (by exact (Kd.dW (Kd.dB (p:=⟨gb451,1,none⟩) (Kd.dB (p:=⟨gb451,0,none⟩) (Kd.dS HO439.out BK451.out (by decide)) (fun _ hk=>hk.2) (.int .i64 t449)) (fun _ hk=>hk.2) (.string t450)) (fun _ h_=>h_.1))) hb);replace HO445:=M0 (Kd.bO (by exact (Kd.dW (Kd.dB (p:=⟨gb451,1,none⟩) (Kd.dB (p:=⟨gb451,0,none⟩) (Kd.dS HO445.out BK451.out (by decide)) (fun _ hk=>hk.2) (.int .i64 t449)) (fun _ hk=>hk.2) (.string t450)) (fun _ h_=>h_.1))) hb);replace BK432:=M0 (ab (g:=gb432) (o:=.cells #[.int .i64 a0_0,.int .i64 a0_1,.int .i64 a0_2] 78 (0,0)) (by refine aX ?_ NB432_451.out _;refine aX ?_ NB432_451.out _;exact BK432.out) hb);replace BK442:=M0 (ab (g:=gb442) (o:=.cells #[.int .i64 t440,.string t441] 63 (0,0)) (by refine aX ?_ NB442_451.out _;refine aX ?_ NB442_451.out _;exact BK442.out) hb);replace BK451:=M0 (ab (g:=gb451) (o:=.cells #[.int .i64 t449,.string t450] 63 (0,0)) (by refine aW (cs:=#[.int .i64 t449,.string (⟨#[]⟩ : ByteArray)]) ?_ 1 _ rfl;refine aW (cs:=#[.int .i64 0,.string (⟨#[]⟩ : ByteArray)]) ?_ 0 _ rfl;exact BK451.out) hb);replace HB:=M0 (aa (by repeat ((with_reducible first|exact HB.out|refine ax ?_ GE451.out))) hb);clear hb)|((with_reducible refine ah (f:=55) rfl ?_);refine aH (some 39) rfl rfl Try.func55 (by kernel_rfl) rfl #[.slice A3 l3.length c3] rfl (by (try simp only [List.map_toArray,List.map_cons,List.map_nil]);rfl) ?_;(with_reducible refine (aA.calls k _ _ l3 t453 _ (Kd.a8 HR3.out HB.out) HC3.out A17.out).mono ?_);rintro e w65 ⟨v454,rfl,ho0,hb⟩;refine ⟨_,rfl,?_⟩;have HO455:=M0 (Kd.S_lower (Kd.S_new' (Kd.S_new' ho0 (Kd.S_lt HO439.out)) (Kd.S_lt HO445.out)) (aj HB.out));replace HO439:=M0 (Kd.S_elder' HO439.out (Kd.S_base ho0) hb);replace HO445:=M0 (Kd.S_elder' HO445.out (Kd.S_base ho0) hb);replace BK432:=M0 (ab BK432.out hb);replace BK442:=M0 (ab BK442.out hb);replace BK451:=M0 (ab BK451.out hb);replace HB:=M0 (aa HB.out hb);clear hb ho0;obtain ⟨Ao66,co66,eo66⟩:=Kd.S_slice HO455.out;subst eo66)|((with_reducible refine ah (f:=57) rfl ?_);refine aH (some 40) rfl rfl Try.func57 (by kernel_rfl) rfl #[.slice Ao57 t443.length co57,.slice Ao66 t453.length co66] rfl (by (try simp only [List.map_toArray,List.map_cons,List.map_nil]);rfl) ?_;(with_reducible refine (aC.calls k _ _ t443 _ _ t453 false _ (Kd.cq HO445.out).2.2 (Kd.cq HO445.out).2.1 (Kd.cq HO455.out).2.2 (Kd.cq HO455.out).2.1 A18.out).mono ?_);rintro e w67 ⟨rfl,hb⟩;refine ⟨_,rfl,?_⟩;replace HO439:=M0 (Kd.bO HO439.out hb);replace HO445:=M0 (Kd.bO HO445.out hb);replace HO455:=M0 (Kd.bO HO455.out hb);replace BK432:=M0 (ab BK432.out hb);replace BK442:=M0 (ab BK442.out hb);replace BK451:=M0 (ab BK451.out hb);replace HB:=M0 (aa HB.out hb);clear hb))
    go_ret
    exact ⟨by rfl,HB.out⟩
  ·replace c16:=Bool.eq_false_iff.mpr c16
   subst c16
   have H1 : (some false) = some r:=by rw [if_neg (show ¬ (false = true) by decide)] at H;exact H
   clear H
   have H:=H1
   clear H1
   obtain rfl:=Option.some.inj H
   go_enter Try.func11,Try.ntmps11
   go_wp2_with (first|((with_reducible refine ak (N:=4) rfl ?_);refine aw rfl (N:=4) rfl (cs:=#[.int .i64 a0_0,.int .i64 a0_1,.int .i64 a0_2]) (t:=78) (by go_simp) ?_;intro gb432 hg w68 hbox hb;have BK432:=M0 (hbox);replace HB:=M0 (aa HB.out hb);clear hb hbox hg)|((with_reducible refine ah (f:=53) rfl ?_);refine aH (some 15) rfl rfl Try.func53 (by kernel_rfl) rfl #[.slice A3 l3.length c3,.int .i64 1048576] rfl (by (try simp only [List.map_toArray,List.map_cons,List.map_nil]);rfl) ?_;(with_reducible refine (a6.calls k _ _ l3 1048576 t433 _ (Kd.a8 HR3.out HB.out) HC3.out A5.out).mono ?_);rintro e w69 ⟨rfl,hb⟩;refine ⟨_,rfl,?_⟩;replace BK432:=M0 (ab BK432.out hb);replace HB:=M0 (aa HB.out hb);clear hb;have hcz70_0:=bcv (v:=.int .i64 a0_0) BK432.out 0 rfl;have hcz70_1:=bcv (v:=.int .i64 a0_1) BK432.out 1 rfl;have hcz70_2:=bcv (v:=.int .i64 a0_2) BK432.out 2 rfl)|((with_reducible refine ah (f:=45) rfl ?_);refine aH (some 19) rfl rfl Try.func45 (by kernel_rfl) rfl #[.agg #[.int .i64 a0_0,.int .i64 a0_1,.int .i64 a0_2]] rfl (by (try simp only [List.map_toArray,List.map_cons,List.map_nil]);rfl) ?_;(with_reducible refine (bV.calls a0_0 a0_1 a0_2 t434 t435 t436 _ A9.out).mono ?_);rintro e w71 ⟨rfl,hb⟩;refine ⟨_,rfl,?_⟩;replace BK432:=M0 (ab BK432.out hb);replace HB:=M0 (aa HB.out hb);clear hb)|((with_reducible refine ah (f:=55) rfl ?_);refine aH (some 23) rfl rfl Try.func55 (by kernel_rfl) rfl #[.slice A3 l3.length c3] rfl (by (try simp only [List.map_toArray,List.map_cons,List.map_nil]);rfl) ?_;(with_reducible refine (aA.calls k _ _ l3 t437 _ (Kd.a8 HR3.out HB.out) HC3.out A10.out).mono ?_);rintro e w72 ⟨v438,rfl,ho0,hb⟩;refine ⟨_,rfl,?_⟩;have HO439:=M0 (Kd.S_lower ho0 (aj HB.out));replace BK432:=M0 (ab BK432.out hb);replace HB:=M0 (aa HB.out hb);clear hb ho0;obtain ⟨Ao73,co73,eo73⟩:=Kd.S_slice HO439.out;subst eo73)|((with_reducible refine ah (f:=54) rfl ?_);refine aH (some 24) rfl rfl Try.func54 (by kernel_rfl) rfl #[.agg #[.int .i64 t434,.int .i64 t435,.int .i64 t436],.int .i64 a1,.int .i64 a2,.slice Ao73 t437.length co73] rfl (by (try simp only [List.map_toArray,List.map_cons,List.map_nil]);rfl) ?_;(with_reducible refine (av.calls k t434 t435 t436 a1 a2 _ _ t437 t440 t441 _ (Kd.cq HO439.out).2.2 (Kd.cq HO439.out).2.1 A11.out).mono ?_);rintro e w74 ⟨rfl,hb⟩;refine ⟨_,rfl,?_⟩;replace HO439:=M0 (Kd.bO HO439.out hb);replace BK432:=M0 (ab BK432.out hb);replace HB:=M0 (aa HB.out hb);clear hb)|((with_reducible refine ak (N:=10) rfl ?_);refine aw rfl (N:=10) rfl (cs:=#[.int .i64 0,.string (⟨#[]⟩ : ByteArray)]) (t:=63) (by go_simp) ?_;intro gb442 hg w75 hbox hb;replace HO439:=M0 (Kd.bO HO439.out hb);have BK442:=M0 (hbox);have GW442:=M0 ((by rw [hg];exact (aj HB.out) : w.heap.size ≤ gb442));have GE442:=GW442;replace HB:=M0 (aa HB.out hb);have NB432_442:=M0 ((by rw [hg];exact Nat.ne_of_lt (a7 BK432.out) : gb432 ≠ gb442));replace BK432:=M0 (ab BK432.out hb);clear hb hbox hg;have hcz77_0:=bcv (v:=.int .i64 0) BK442.out 0 rfl;have hcz77_1:=bcv (v:=.string (⟨#[]⟩ : ByteArray)) BK442.out 1 rfl;have hfz77_0:=ag BK442.out 0;have hfz77_1:=ag BK442.out 1)|((with_reducible refine ah (f:=55) rfl ?_);refine aH (some 26) rfl rfl Try.func55 (by kernel_rfl) rfl #[.slice A3 l3.length c3] rfl (by (try simp only [List.map_toArray,List.map_cons,List.map_nil]);rfl) ?_;(with_reducible refine (aA.calls k _ _ l3 t443 _ ?side1 ?side2 A12.out).mono ?_);(case side1=>exact Kd.a8 HR3.out (by repeat ((with_reducible first|exact HB.out|refine ax ?_ GE442.out))));(case side2=>exact HC3.out);rintro e w78 ⟨v444,rfl,ho0,hb⟩;refine ⟨_,rfl,?_⟩;have HO445:=M0 (Kd.S_lower (Kd.S_new' ho0 (Kd.S_lt (by exact (Kd.dW (Kd.dB (p:=⟨gb442,1,none⟩) (Kd.dB (p:=⟨gb442,0,none⟩) (Kd.dS HO439.out BK442.out (by decide)) (fun _ hk=>hk.2) (.int .i64 t440)) (fun _ hk=>hk.2) (.string t441)) (fun _ h_=>h_.1))))) (aj (by repeat ((with_reducible first|exact HB.out|refine ax ?_ GE442.out)))));replace HO439:=M0 (Kd.S_elder' (by exact (Kd.dW (Kd.dB (p:=⟨gb442,1,none⟩) (Kd.dB (p:=⟨gb442,0,none⟩) (Kd.dS HO439.out BK442.out (by decide)) (fun _ hk=>hk.2) (.int .i64 t440)) (fun _ hk=>hk.2) (.string t441)) (fun _ h_=>h_.1))) (Kd.S_base ho0) hb);replace BK432:=M0 (ab (g:=gb432) (o:=.cells #[.int .i64 a0_0,.int .i64 a0_1,.int .i64 a0_2] 78 (0,0)) (by refine aX ?_ NB432_442.out _;refine aX ?_ NB432_442.out _;exact BK432.out) hb);replace BK442:=M0 (ab (g:=gb442) (o:=.cells #[.int .i64 t440,.string t441] 63 (0,0)) (by refine aW (cs:=#[.int .i64 t440,.string (⟨#[]⟩ : ByteArray)]) ?_ 1 _ rfl;refine aW (cs:=#[.int .i64 0,.string (⟨#[]⟩ : ByteArray)]) ?_ 0 _ rfl;exact BK442.out) hb);replace HB:=M0 (aa (by repeat ((with_reducible first|exact HB.out|refine ax ?_ GE442.out))) hb);clear hb ho0;have hcz79_0:=bcv (v:=.int .i64 a0_0) BK432.out 0 rfl;have hcz79_1:=bcv (v:=.int .i64 a0_1) BK432.out 1 rfl;have hcz79_2:=bcv (v:=.int .i64 a0_2) BK432.out 2 rfl)|((with_reducible refine ah (f:=45) rfl ?_);refine aH (some 28) rfl rfl Try.func45 (by kernel_rfl) rfl #[.agg #[.int .i64 a0_0,.int .i64 a0_1,.int .i64 a0_2]] rfl (by (try simp only [List.map_toArray,List.map_cons,List.map_nil]);rfl) ?_;(with_reducible refine (bV.calls a0_0 a0_1 a0_2 t446 t447 t448 _ A13.out).mono ?_);rintro e w80 ⟨rfl,hb⟩;refine ⟨_,rfl,?_⟩;replace HO439:=M0 (Kd.bO HO439.out hb);replace HO445:=M0 (Kd.bO HO445.out hb);replace BK432:=M0 (ab BK432.out hb);replace BK442:=M0 (ab BK442.out hb);replace HB:=M0 (aa HB.out hb);clear hb;obtain ⟨Ao81,co81,eo81⟩:=Kd.S_slice HO445.out;subst eo81)|((with_reducible refine ah (f:=33) rfl ?_);refine aH (some 32) rfl rfl Try.func33 (by kernel_rfl) rfl #[.agg #[.int .i64 t446,.int .i64 t447,.int .i64 t448],.int .i64 a1,.int .i64 a2,.slice Ao81 t443.length co81] rfl (by (try simp only [List.map_toArray,List.map_cons,List.map_nil]);rfl) ?_;(with_reducible refine (az.calls k t446 t447 t448 a1 a2 _ _ t443 t449 t450 _ (Kd.cq HO445.out).2.2 (Kd.cq HO445.out).2.1 A14.out).mono ?_);rintro e w82 ⟨rfl,hb⟩;refine ⟨_,rfl,?_⟩;replace HO439:=M0 (Kd.bO HO439.out hb);replace HO445:=M0 (Kd.bO HO445.out hb);replace BK432:=M0 (ab BK432.out hb);replace BK442:=M0 (ab BK442.out hb);replace HB:=M0 (aa HB.out hb);clear hb)|((with_reducible refine ak (N:=12) rfl ?_);refine aw rfl (N:=12) rfl (cs:=#[.int .i64 0,.string (⟨#[]⟩ : ByteArray)]) (t:=63) (by go_simp) ?_;intro gb451 hg w83 hbox hb;replace HO439:=M0 (Kd.bO HO439.out hb);replace HO445:=M0 (Kd.bO HO445.out hb);have BK451:=M0 (hbox);have GW451:=M0 ((by rw [hg];exact (aj HB.out) : w.heap.size ≤ gb451));have GE451:=GW451;replace HB:=M0 (aa HB.out hb);have NB432_451:=M0 ((by rw [hg];exact Nat.ne_of_lt (a7 BK432.out) : gb432 ≠ gb451));replace BK432:=M0 (ab BK432.out hb);have NB442_451:=M0 ((by rw [hg];exact Nat.ne_of_lt (a7 BK442.out) : gb442 ≠ gb451));replace BK442:=M0 (ab BK442.out hb);clear hb hbox hg;have hnc85:=NB442_451.out;have hcz86_0:=bcv (v:=.int .i64 0) BK451.out 0 rfl;have hcz86_1:=bcv (v:=.string (⟨#[]⟩ : ByteArray)) BK451.out 1 rfl;have hfz86_0:=ag BK451.out 0;have hfz86_1:=ag BK451.out 1;have hcz87_0:=bcv (v:=.int .i64 t440) BK442.out 0 rfl;have hcz87_1:=bcv (v:=.string t441) BK442.out 1 rfl)|((with_reducible refine ah (f:=56) rfl ?_);refine aH (some 35) rfl rfl Try.func56 (by kernel_rfl) rfl #[.agg #[.int .i64 t449,.string t450],.agg #[.int .i64 t440,.string t441]] rfl (by (try simp only [List.map_toArray,List.map_cons,List.map_nil]);rfl) ?_;(with_reducible refine (bF.calls t449 t450 t440 t441 false _ A15.out).mono ?_);rintro e w88 ⟨rfl,hb⟩;refine ⟨_,rfl,?_⟩;replace HO439:=M0 (Kd.bO (by exact (Kd.dW (Kd.dB (p:=⟨gb451,1,none⟩) (Kd.dB (p:=⟨gb451,0,none⟩) (Kd.dS HO439.out BK451.out (by decide)) (fun _ hk=>hk.2) (.int .i64 t449)) (fun _ hk=>hk.2) (.string t450)) (fun _ h_=>h_.1))) hb);replace HO445:=M0 (Kd.bO (by exact (Kd.dW (Kd.dB (p:=⟨gb451,1,none⟩) (Kd.dB (p:=⟨gb451,0,none⟩) (Kd.dS HO445.out BK451.out (by decide)) (fun _ hk=>hk.2) (.int .i64 t449)) (fun _ hk=>hk.2) (.string t450)) (fun _ h_=>h_.1))) hb);replace BK432:=M0 (ab (g:=gb432) (o:=.cells #[.int .i64 a0_0,.int .i64 a0_1,.int .i64 a0_2] 78 (0,0)) (by refine aX ?_ NB432_451.out _;refine aX ?_ NB432_451.out _;exact BK432.out) hb);replace BK442:=M0 (ab (g:=gb442) (o:=.cells #[.int .i64 t440,.string t441] 63 (0,0)) (by refine aX ?_ NB442_451.out _;refine aX ?_ NB442_451.out _;exact BK442.out) hb);replace BK451:=M0 (ab (g:=gb451) (o:=.cells #[.int .i64 t449,.string t450] 63 (0,0)) (by refine aW (cs:=#[.int .i64 t449,.string (⟨#[]⟩ : ByteArray)]) ?_ 1 _ rfl;refine aW (cs:=#[.int .i64 0,.string (⟨#[]⟩ : ByteArray)]) ?_ 0 _ rfl;exact BK451.out) hb);replace HB:=M0 (aa (by repeat ((with_reducible first|exact HB.out|refine ax ?_ GE451.out))) hb);clear hb))
   go_ret
   exact ⟨by rfl,HB.out⟩

end Go.Proofs.Ytffhbpepppodeaa.PFnExactJoinObject
