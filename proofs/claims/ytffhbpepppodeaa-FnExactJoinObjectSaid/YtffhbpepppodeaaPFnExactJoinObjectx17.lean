import Derived.Test.YtffhbpepppodeaaPFnExactJoinObjectx0
import Derived.Test.YtffhbpepppodeaaPFnExactJoinObjectx15
import Derived.Test.YtffhbpepppodeaaPFnExactJoinObjectx16
namespace Go.Proofs.Ytffhbpepppodeaa.PFnExactJoinObject
private theorem nn {α : Type} {c : Prop} [Decidable c] {a : Option α} {r : α} (h : (if c then a else none) = some r) : c ∧ a = some r:=by
 split at h
 ·exact ⟨‹c›,h⟩
 ·cases h
open Go.RowKit Go.Proofs.YtffhbpepppodeaaW.PrintWords Go.Proofs.YtffhbpepppodeaaW.PrintLast Go.Proofs.YtffhbpepppodeaaW.PrintMore
attribute [local go_sem] cF cG cW cX cn cp cI cJ   -- for this text's walks alone
set_option linter.unusedVariables false
set_option linter.unusedSimpArgs false

/-! ### av: function 54 -/
mutual
def av.j0 : Nat → Int → Int → List (S55) → Bool → Int → Int → Int → Option (Int × ByteArray)
 | 0,_,_,_,_,_,_,_=>none
 | k + 1,x1,x2,x3,x25,x375000,x375001,x375002=>if x25 = true then (some (1,(⟨#[]⟩ : ByteArray))) else (av.l0 k x1 x2 x3 (([] : List Int)) 0 x375000 x375001 x375002)
def av.l0 : Nat → Int → Int → List (S55) → List Int → Int → Int → Int → Int → Option (Int × ByteArray)
 | 0,_,_,_,_,_,_,_,_=>none
 | k + 1,x1,x2,x3,x10,x11,x375000,x375001,x375002=>if x11 < (x3.length : Int) then (if 0 ≤ x11 then ((al.f k x375000 x375001 x375002 ((bB x3 x11).f0)).bind fun bt385=>(if bt385.1 = 0 then (if 0 < (bt385.2.length : Int) then (if ((rdOf ByteArray.empty bt385.2 0).size : Int) = x1 then (av.l1 k x1 x2 x3 x10 x11 0 x375000 x375001 x375002 bt385.1 bt385.2) else (some (2,(⟨#[]⟩ : ByteArray)))) else (none)) else (some (bt385.1,(⟨#[]⟩ : ByteArray))))) else (none)) else (if 0 ≤ x2 then (if x2 ≤ (x10.length : Int) then (some (0,strOfNums (x10.take (x2 : Int).toNat))) else (none)) else (none))
def av.l1 : Nat → Int → Int → List (S55) → List Int → Int → Int → Int → Int → Int → Int → List ByteArray → Option (Int × ByteArray)
 | 0,_,_,_,_,_,_,_,_,_,_,_=>none
 | k + 1,x1,x2,x3,x10,x11,x13,x375000,x375001,x375002,x390000,x390001=>if x13 < x375000 then (if 0 ≤ x13 then (if x13 < (x390001.length : Int) then (if x10.length + (rdOf ByteArray.empty x390001 x13).size < 140737488355328 then (av.l1 k x1 x2 x3 (x10 ++ bytesOf (rdOf ByteArray.empty x390001 x13)) x11 (wrap64 (x13 + 1)) x375000 x375001 x375002 x390000 x390001) else (none)) else (none)) else (none)) else (av.l0 k x1 x2 x3 x10 (wrap64 (x11 + 1)) x375000 x375001 x375002)
end
def av.f (k : Nat) (a0_0 : Int) (a0_1 : Int) (a0_2 : Int) (a1 : Int) (a2 : Int) (l3 : List (S55)) : Option (Int × ByteArray):=(aV.f k a0_0 a0_1 a0_2 a1 a2).bind fun t376=>(if t376 < 0 then (av.j0 k a1 a2 l3 true a0_0 a0_1 a0_2) else (av.j0 k a1 a2 l3 ((l3.length : Int) != t376) a0_0 a0_1 a0_2))
def av.T8 : Bool × List (List Nat × List Nat):=(true,[([],[]),([],[]),([],[]),([1,2],[1,2]),([3],[3]),([4],[4]),([0,5],[0,5]),([],[]),([7,6,6,0,1,2,3,4,5,6,7],[6,7])])
def av.B8 : List Nat:=[0,0,0,6,14,30,63,0,255]
theorem av.tab8 : rtab .any (opsOf Try.f54 8) = av.T8:=by kernel_rfl
theorem av.bits8 : cQ av.T8.2 av.B8 = true:=by kernel_rfl
set_option maxHeartbeats 8000000 in
set_option maxRecDepth 100000 in
theorem av.calls (k : Nat) (a0_0 : Int) (a0_1 : Int) (a0_2 : Int) (a1 : Int) (a2 : Int) (A3 : Option Addr) (c3 : Nat) (l3 : List (S55)) (r1 : Int) (r2 : ByteArray) (w : World) (hr3 : Kd.C k55 w A3 l3.length l3) (hc3 : l3.length ≤ c3) (h : av.f k a0_0 a0_1 a0_2 a1 a2 l3 = some (r1,r2)) :
  Calls Try.prog 54 #[.agg #[.int .i64 a0_0,.int .i64 a0_1,.int .i64 a0_2],.int .i64 a1,.int .i64 a2,.slice A3 l3.length c3] w fun e w'=>e = .returned (.agg #[.int .i64 r1,.string r2]) ∧ Below w.heap.size w w':=by
 have HR3:=M0 hr3
 have HC3:=M0 hc3
 clear hr3 hc3
 have HB:=M0 (Below.refl w.heap.size w)
 have H : ((aV.f k a0_0 a0_1 a0_2 a1 a2).bind fun t376=>(if t376 < 0 then (av.j0 k a1 a2 l3 true a0_0 a0_1 a0_2) else (av.j0 k a1 a2 l3 ((l3.length : Int) != t376) a0_0 a0_1 a0_2))) = some (r1,r2):=h
 clear h
 replace H:=Option.bind_eq_some_iff.mp H
 obtain ⟨t376,A50,H⟩:=H
 replace H : (if t376 < 0 then (av.j0 k a1 a2 l3 true a0_0 a0_1 a0_2) else (av.j0 k a1 a2 l3 ((l3.length : Int) != t376) a0_0 a0_1 a0_2)) = some (r1,r2):=H
 have A5:=M0 A50
 clear A50
 have HC6:=M0 H
 clear H
 go_enter Try.func54,Try.ntmps54
 go_upto_region 2 with (first|((with_reducible refine ak (N:=4) rfl ?_);(try (refine au (by rfl) ?_;dsimp only));refine aw rfl (N:=4) rfl (cs:=#[.int .i64 a0_0,.int .i64 a0_1,.int .i64 a0_2]) (t:=43) (by go_simp) ?_;intro gb374 hg w7 hbox hb;have BK374:=M0 (hbox);replace HB:=M0 (aa HB.out hb);clear hb hbox hg)|((with_reducible refine ak (N:=8) rfl ?_);(try (refine au (by rfl) ?_;dsimp only));refine aw rfl (N:=8) rfl (cs:=#[.int .i64 0,.string (⟨#[]⟩ : ByteArray)]) (t:=63) (by go_simp) ?_;intro gb375 hg w8 hbox hb;have BK375:=M0 (hbox);have GW375:=M0 ((by rw [hg];exact (aj HB.out) : w.heap.size ≤ gb375));have GE375:=GW375;replace HB:=M0 (aa HB.out hb);have NB374_375:=M0 ((by rw [hg];exact Nat.ne_of_lt (a7 BK374.out) : gb374 ≠ gb375));have NB375_374:=M0 NB374_375.out.symm;replace BK374:=M0 (ab BK374.out hb);clear hb hbox hg;have hcz10_0:=bcv (v:=.int .i64 a0_0) BK374.out 0 rfl;have hcz10_1:=bcv (v:=.int .i64 a0_1) BK374.out 1 rfl;have hcz10_2:=bcv (v:=.int .i64 a0_2) BK374.out 2 rfl;have hfz10_0:=ag BK374.out 0;have hfz10_1:=ag BK374.out 1;have hfz10_2:=ag BK374.out 2)|((with_reducible refine ah (f:=114) rfl ?_);refine aH (some 17) rfl rfl Try.func114 (by kernel_rfl) rfl #[.agg #[.int .i64 a0_0,.int .i64 a0_1,.int .i64 a0_2],.int .i64 a1,.int .i64 a2] rfl (by (try simp only [List.map_toArray,List.map_cons,List.map_nil]);rfl) ?_;(with_reducible refine (aV.calls k a0_0 a0_1 a0_2 a1 a2 t376 _ A5.out).mono ?_);rintro e w11 ⟨rfl,hb⟩;refine ⟨_,rfl,?_⟩;replace BK374:=M0 (ab BK374.out hb);replace BK375:=M0 (ab BK375.out hb);replace HB:=M0 (aa HB.out hb);clear hb))
 go_cut [25] (fun v25 wc=>∃ (kq : Nat) (x25_5 : Bool),v25 = .bool x25_5 ∧ Aside0 (av.j0 kq a1 a2 l3 x25_5 a0_0 a0_1 a0_2 = some (r1,r2)) ∧ Aside0 (kq ≤ k) ∧ Aside0 (wc.heap[gb374]? = some (.cells #[.int .i64 a0_0,.int .i64 a0_1,.int .i64 a0_2] 43 (0,0))) ∧ Aside0 (wc.heap[gb375]? = some (.cells #[.int .i64 0,.string (⟨#[]⟩ : ByteArray)] 63 (0,0))) ∧ Aside0 (Below w.heap.size w wc))
 case first=>
  have H:=HC6.out
  clear HC6
  by_cases c12 : t376 < 0
  ·rw [if_pos c12] at H
   have c12b0:=decide_eq_true c12
   clear c12
   (skip)
   have H':=M0 H
   clear H
   go_wp2
   go_meet
   case rel=>exact ⟨_,(true),(by rfl),H',⟨by omega⟩,⟨by exact BK374.out⟩,⟨by exact BK375.out⟩,⟨HB.out⟩⟩
  ·rw [if_neg c12] at H
   have c12b0:=decide_eq_false c12
   clear c12
   (skip)
   have H':=M0 H
   clear H
   go_wp2
   go_meet
   case rel=>exact ⟨_,(((l3.length : Int) != t376)),(by rfl),H',⟨by omega⟩,⟨by exact BK374.out⟩,⟨by exact BK375.out⟩,⟨HB.out⟩⟩
 case rest=>
  clear HC6
  (try clear hcz10_0);(try clear hcz10_1);(try clear hcz10_2);(try clear hfz10_0);(try clear hfz10_1);(try clear hfz10_2)
  obtain ⟨kq,x25_5,rfl,HA,HJ5,BK374,BK375,HB⟩:=hcut
  cases kq with
  | zero=>exact absurd HA.out (by simp [av.j0])
  | succ kj5=>
   have H:=HA.out
   clear HA
   simp only [av.j0] at H
   by_cases c13 : x25_5 = true
   ·subst c13
    have H1 : (some (1,(⟨#[]⟩ : ByteArray))) = some (r1,r2):=by rw [if_pos rfl] at H;exact H
    clear H
    have H:=H1
    clear H1
    simp only [Option.some.injEq,Prod.mk.injEq] at H
    obtain ⟨rfl,rfl⟩:=H
    have hcz15_0:=bcv (v:=.int .i64 0) BK375.out 0 rfl
    have hcz15_1:=bcv (v:=.string (⟨#[]⟩ : ByteArray)) BK375.out 1 rfl
    have hfz15_0:=ag BK375.out 0
    have hfz15_1:=ag BK375.out 1
    go_wp2
    refine bodyPost_ret (results_cell_row rfl _ _ gb375 63 #[.int .i64 1,.string (⟨#[]⟩ : ByteArray)] (0,0) _ rfl (by refine aW (cs:=#[.int .i64 1,.string (⟨#[]⟩ : ByteArray)]) ?_ 1 _ rfl;refine aW (cs:=#[.int .i64 0,.string (⟨#[]⟩ : ByteArray)]) ?_ 0 _ rfl;exact BK375.out) Try.underlying63 rfl (by kernel_rfl)) rfl ?_
    exact ⟨by rfl,by repeat ((with_reducible first|exact HB.out|refine ax ?_ GE375.out))⟩
   ·replace c13:=Bool.eq_false_iff.mpr c13
    subst c13
    have H1 : (av.l0 kj5 a1 a2 l3 (([] : List Int)) 0 a0_0 a0_1 a0_2) = some (r1,r2):=by rw [if_neg (show ¬ (false = true) by decide)] at H;exact H
    clear H
    have H:=H1
    clear H1
    obtain ⟨y377,hy377⟩ : ∃ y_ : List Int,y_ = (([] : List Int)):=⟨_,rfl⟩
    rw [← hy377] at H
    have Ny377:=M0 hy377
    clear hy377
    have H':=M0 H
    clear H
    go_wp2_with (((with_reducible refine ak (N:=27) rfl ?_);(try (refine au (by rfl) ?_;dsimp only));refine Kd.R_lit (Kd.int .u8) _ 5 ?hg (N:=27) ?hd (xs:=([] : List Int)) (inner:=[]) (ok:=fun _=>True) (okp:=fun _=>True) ?hr ?hp (fun _ hk=>hk) trivial (Below.refl _ _) (Nat.le_refl _) (by simp) ?_;(case hd=>rfl);(case hg=>rfl);(case hr=>(go_simp;done));(case hp=>exact (Reps.none _ _));intro v378 w16 ho17 hb hg_ hnew_;clear hg_ hnew_;(rw [← Ny377.out] at ho17);have HO379:=M0 (Kd.bj ho17 (aj HB.out));replace BK374:=M0 (ab BK374.out hb);replace BK375:=M0 (ab BK375.out hb);replace HB:=M0 (aa HB.out hb);clear hb ho17))
    go_loopg [10,11] kj5 (fun kq v10 v11 w'=>∃ (x10_2 : List Int) (x11_2 : Int) (x376000_2 : Int) (x376001_2 : ByteArray),v11 = .int .i64 x11_2 ∧ Aside0 (av.l0 kq a1 a2 l3 x10_2 x11_2 a0_0 a0_1 a0_2 = some (r1,r2)) ∧ Aside0 (kq ≤ kj5) ∧ Aside0 (Kd.R (Kd.int .u8) 5 w' w.heap.size (fun _=>True) v10 x10_2) ∧ Aside0 (w'.heap[gb374]? = some (.cells #[.int .i64 a0_0,.int .i64 a0_1,.int .i64 a0_2] 43 (0,0))) ∧ Aside0 (w'.heap[gb375]? = some (.cells #[.int .i64 x376000_2,.string x376001_2] 63 (0,0))) ∧ Aside0 (Below w.heap.size w w'))
    case atStart=>exact ⟨(y377),(0),(0),((⟨#[]⟩ : ByteArray)),(by rfl),H',⟨Nat.le_refl _⟩,⟨by exact HO379.out⟩,⟨by exact BK374.out⟩,⟨by exact BK375.out⟩,⟨HB.out⟩⟩
    case round=>
     clear H'
     obtain ⟨x10_2,x11_2,x376000_2,x376001_2,rfl,HA,HK2,HO_10,BK374,BK375,HB⟩:=hrel
     cases gk with
     | zero=>exact absurd HA.out (by simp [av.l0])
     | succ k2=>
      have H:=HA.out
      clear HA
      simp only [av.l0] at H
      by_cases c18 : x11_2 < (l3.length : Int)
      ·rw [if_pos c18] at H
       have c18b0:=decide_eq_true c18
       clear c18
       obtain ⟨c19,H⟩:=nn H
       have c19b0:=decide_eq_true c19
       clear c19
       replace H:=Option.bind_eq_some_iff.mp H
       obtain ⟨⟨t385,t386⟩,A200,H⟩:=H
       dsimp only at H
       have A20:=M0 A200
       clear A200
       by_cases c21 : t385 = 0
       ·rw [if_pos c21] at H
        have c21b0 : (t385 == 0) = true:=beq_iff_eq.mpr c21
        have c21b1 : (t385 != 0) = false:=bne_eq_false_iff_eq.mpr c21
        clear c21
        obtain ⟨c22,H⟩:=nn H
        have c22b0:=decide_eq_true c22
        have c22b1 : decide (0 < t386.length) = true:=decide_eq_true (by omega)
        clear c22
        by_cases c23 : ((rdOf ByteArray.empty t386 0).size : Int) = a1
        ·rw [if_pos c23] at H
         have c23b0 : (((rdOf ByteArray.empty t386 0).size : Int) == a1) = true:=beq_iff_eq.mpr c23
         have c23b1 : (((rdOf ByteArray.empty t386 0).size : Int) != a1) = false:=bne_eq_false_iff_eq.mpr c23
         clear c23
         have H':=M0 H
         clear H
         try go_wp2
         replace HO_10:=M0 (Kd.cL HO_10.out)
         replace BK374:=M0 (bl BK374.out)
         replace BK375:=M0 (bl BK375.out)
         replace HB:=M0 (aQ HB.out)
         have p384 : 0 ≤ (x11_2 : Int):=of_decide_eq_true (by with_reducible assumption)
         have q384 : x11_2 < (l3.length : Int):=of_decide_eq_true (by with_reducible assumption)
         obtain ⟨ad384,A384_0,c384_0,e384,hx384_0,hl384_0,hi384_0⟩:=at_T55 HR3.out x11_2 p384 q384
         have hw384_0:=hx384_0
         cases e384
         replace hx384_0:=(HB.out.cell (World.block_lt_of_cell? w _ hx384_0)).trans hx384_0
         have HR384_0:=M0 hi384_0
         have HC384_0:=M0 hl384_0
         clear hi384_0 hl384_0
         replace p384:=eq_true p384
         replace q384:=eq_true q384
         refine bW (n:=9) (S:=fun w'=>w'.cell? ⟨gb374,0,none⟩ = some (.int .i64 a0_0) ∧ w'.cell? ⟨gb374,1,none⟩ = some (.int .i64 a0_1) ∧ w'.cell? ⟨gb374,2,none⟩ = some (.int .i64 a0_2) ∧ w'.cell? (ad384.add (x11_2).toNat) = some (.slice A384_0 ((bB l3 x11_2).f0).length c384_0)) (ds:=[]) #[O,O,O,O,O,O,O,O,O] (by kernel_rfl) rfl rfl ⟨(ai BK374.out 0).trans rfl,(ai BK374.out 1).trans rfl,(ai BK374.out 2).trans rfl,((HB.out.cell (World.block_lt_of_cell? w _ hw384_0)).trans hw384_0)⟩ (fun hHeld=>?_);refine cr av.tab8 av.bits8 (fun HT_ HW_=>?_)
         generalize wr.drew = w24 at HO_10 BK374 BK375 HB HR384_0 hx384_0 hHeld ⊢
         refine aq (i:=1) (N:=some 35) #[O,I,O,O,O,O,O,O,O] rfl rfl (aM HT_.out (by kernel_rfl)) (fun _ _ _ h=>h) (Or.inl ⟨by rfl,by intro w';go_simp;with_reducible rfl⟩) (by simp only [Act.put,List.setIfInBounds_toArray,List.set_cons_zero,List.set_cons_succ,ae,af];rfl) ?_
         refine aq (i:=2) (N:=some 36) #[O,I,I,O,O,O,O,O,O] rfl rfl (aM HT_.out (by kernel_rfl)) (fun _ _ _ h=>h) (Or.inl ⟨by rfl,by intro w';go_simp;with_reducible rfl⟩) (by simp only [Act.put,List.setIfInBounds_toArray,List.set_cons_zero,List.set_cons_succ,ae,af];rfl) ?_
         refine aq (i:=3) (N:=some 37) #[O,I,I,I,O,O,O,O,O] rfl rfl (aM HT_.out (by kernel_rfl)) (fun _ _ _ h=>h) (Or.inl ⟨by rfl,by intro w';go_simp;with_reducible rfl⟩) (by simp only [Act.put,List.setIfInBounds_toArray,List.set_cons_zero,List.set_cons_succ,ae,af];rfl) ?_
         refine aq (i:=4) (N:=some 38) #[O,I,I,I,I,O,O,O,O] rfl rfl (aM HT_.out (by kernel_rfl)) (fun _ _ _ h=>h) (Or.inl ⟨by rfl,by intro w';go_simp;with_reducible rfl⟩) (by simp only [Act.put,List.setIfInBounds_toArray,List.set_cons_zero,List.set_cons_succ,ae,af];rfl) ?_
         refine bn (i:=0) (N:=some 34) #[I,I,I,I,I,O,O,O,O] rfl rfl (bC HT_.out HW_.out (by kernel_rfl)) (fun _ _ _ h=>h) (Or.inl ⟨by rfl,by rintro w' ⟨s0,s1,s2,s3⟩;go_simp;with_reducible rfl⟩) hHeld (by simp only [Act.put,List.setIfInBounds_toArray,List.set_cons_zero,List.set_cons_succ,ae,af];rfl) ?_
         refine bn (i:=5) (N:=some 39) #[I,I,I,I,I,I,O,O,O] rfl rfl (bC HT_.out HW_.out (by kernel_rfl)) (fun _ _ _ h=>h) (Or.inl ⟨by rfl,by rintro w' ⟨s0,s1,s2,s3⟩;go_simp;with_reducible rfl⟩) hHeld (by simp only [Act.put,List.setIfInBounds_toArray,List.set_cons_zero,List.set_cons_succ,ae,af];rfl) ?_
         refine join_ (σ:=Value × Nat) 1 #[I,I,I,I,I,I,I,I,O] (fun s_=>[(40,.agg #[.int .i64 t385,s_.1]),(12,.pointer (some ⟨s_.2,0,none⟩))]) (fun s_ w'=>(w'.cell? ⟨gb374,0,none⟩ = some (.int .i64 a0_0) ∧ w'.cell? ⟨gb374,1,none⟩ = some (.int .i64 a0_1) ∧ w'.cell? ⟨gb374,2,none⟩ = some (.int .i64 a0_2) ∧ w'.cell? (ad384.add (x11_2).toNat) = some (.slice A384_0 ((bB l3 x11_2).f0).length c384_0)) ∧ (Kd.R Kd.string 9 w' w.heap.size (fun _=>True) s_.1 t386) ∧ (Kd.R (Kd.int .u8) 5 w' w.heap.size (fun _=>True) u10 x10_2) ∧ (w'.heap[gb374]? = some (.cells #[.int .i64 a0_0,.int .i64 a0_1,.int .i64 a0_2] 43 (0,0))) ∧ (w'.heap[gb375]? = some (.cells #[.int .i64 x376000_2,.string x376001_2] 63 (0,0))) ∧ (w'.heap[s_.2]? = some (.cells #[.int .i64 0,.slice none 0 0] 68 (0,0))) ∧ (w.heap.size ≤ s_.2) ∧ (w.heap.size ≤ s_.2) ∧ (gb374 ≠ s_.2) ∧ (s_.2 ≠ gb374) ∧ (gb375 ≠ s_.2) ∧ (s_.2 ≠ gb375) ∧ (Below w.heap.size w w')) ?_ ?_
         rotate_left
         ·intro hCont
          refine two_ (i:=6) (j:=7) (Ni:=some 40) (Nj:=some 12) #[I,I,I,I,I,I,I,O,O] #[I,I,I,I,I,I,O,I,O] rfl rfl rfl rfl (two_of HT_.out (by kernel_rfl)) (by decide) (by decide) (fun K hK=>?_) (fun K hK=>?_)
          ·skip
           refine cE Try.func44 (by kernel_rfl) rfl #[.agg #[.int .i64 a0_0,.int .i64 a0_1,.int .i64 a0_2],.slice A384_0 ((bB l3 x11_2).f0).length c384_0] (by rfl) rfl rfl (by (try simp only [List.map_toArray,List.map_cons,List.map_nil]);rfl) ?_
           with_reducible refine (al.calls k2 a0_0 a0_1 a0_2 _ _ ((bB l3 x11_2).f0) t385 t386 _ ?side1 ?side2 A20.out).mono ?_
           (case side1=>exact (Kd.a8 HR384_0.out HB.out))
           (case side2=>exact HC384_0.out)
           rintro e w25 ⟨v387,rfl,ho0,hb⟩
           refine ⟨_,rfl,?_⟩
           replace HO_10:=M0 (Kd.aK HO_10.out hb)
           have HO388:=M0 (Kd.bj ho0 (aj HB.out))
           replace BK374:=M0 (ab BK374.out hb)
           replace BK375:=M0 (ab BK375.out hb)
           replace HB:=M0 (aa HB.out hb)
           clear hb ho0
           refine hK.out _ _ ⟨(ai BK374.out 0).trans rfl,(ai BK374.out 1).trans rfl,(ai BK374.out 2).trans rfl,((HB.out.cell (World.block_lt_of_cell? w _ hw384_0)).trans hw384_0)⟩ (fun hHeld=>?_)
           clear hK K
           refine bz (a':=?_) ?_ ?_
           rotate_left
           ·show Act.put _ (some 40) _ = _
            simp only [Act.put,List.setIfInBounds_toArray,List.set_cons_zero,List.set_cons_succ,ae,af]
            rfl
           refine one_ (i:=7) (N:=some 12) #[I,I,I,I,I,I,I,I,O] rfl rfl (bR HT_.out (by kernel_rfl)) (by decide) (fun K hK=>?_)
           refine dZ ?hg (N:=12) ?hd (cs:=#[.int .i64 0,.slice none 0 0]) (t:=68) ?hr ?_;(case hd=>rfl);(case hg=>rfl);(case hr=>(go_simp;done))
           intro gb389 hg w26 hbox hb
           replace HO_10:=M0 (Kd.aK HO_10.out hb)
           replace HO388:=M0 (Kd.aK HO388.out hb)
           have BK389:=M0 (hbox)
           have GW389:=M0 ((by rw [hg];exact (aj HB.out) : w.heap.size ≤ gb389))
           have GE389:=M0 ((by rw [hg];exact (aj HB.out) : w.heap.size ≤ gb389))
           replace HB:=M0 (aa HB.out hb)
           have NB374_389:=M0 ((by rw [hg];exact Nat.ne_of_lt (a7 BK374.out) : gb374 ≠ gb389))
           have NB389_374:=M0 ((by rw [hg];exact Nat.ne_of_gt (a7 BK374.out) : gb389 ≠ gb374))
           replace BK374:=M0 (ab BK374.out hb)
           have NB375_389:=M0 ((by rw [hg];exact Nat.ne_of_lt (a7 BK375.out) : gb375 ≠ gb389))
           have NB389_375:=M0 ((by rw [hg];exact Nat.ne_of_gt (a7 BK375.out) : gb389 ≠ gb375))
           replace BK375:=M0 (ab BK375.out hb)
           clear hb hbox hg
           refine hK.out _ _ ⟨(ai BK374.out 0).trans rfl,(ai BK374.out 1).trans rfl,(ai BK374.out 2).trans rfl,((HB.out.cell (World.block_lt_of_cell? w _ hw384_0)).trans hw384_0)⟩ (fun hHeld=>?_)
           clear hK K
           refine bz (a':=?_) ?_ ?_
           rotate_left
           ·show Act.put _ (some 12) _ = _
            simp only [Act.put,List.setIfInBounds_toArray,List.set_cons_zero,List.set_cons_succ,ae,af]
            rfl
           exact bz (by simp only [dM,Act.put,List.setIfInBounds_toArray,List.set_cons_zero,List.set_cons_succ]) (hCont (v387,gb389) _ ⟨hHeld,HO388.out,HO_10.out,BK374.out,BK375.out,BK389.out,GW389.out,GE389.out,NB374_389.out,NB389_374.out,NB375_389.out,NB389_375.out,HB.out⟩)
          ·skip
           refine dZ ?hg (N:=12) ?hd (cs:=#[.int .i64 0,.slice none 0 0]) (t:=68) ?hr ?_;(case hd=>rfl);(case hg=>rfl);(case hr=>(go_simp;done))
           intro gb389 hg w25 hbox hb
           replace HO_10:=M0 (Kd.aK HO_10.out hb)
           have BK389:=M0 (hbox)
           have GW389:=M0 ((by rw [hg];exact (aj HB.out) : w.heap.size ≤ gb389))
           have GE389:=M0 ((by rw [hg];exact (aj HB.out) : w.heap.size ≤ gb389))
           replace HB:=M0 (aa HB.out hb)
           have NB374_389:=M0 ((by rw [hg];exact Nat.ne_of_lt (a7 BK374.out) : gb374 ≠ gb389))
           have NB389_374:=M0 ((by rw [hg];exact Nat.ne_of_gt (a7 BK374.out) : gb389 ≠ gb374))
           replace BK374:=M0 (ab BK374.out hb)
           have NB375_389:=M0 ((by rw [hg];exact Nat.ne_of_lt (a7 BK375.out) : gb375 ≠ gb389))
           have NB389_375:=M0 ((by rw [hg];exact Nat.ne_of_gt (a7 BK375.out) : gb389 ≠ gb375))
           replace BK375:=M0 (ab BK375.out hb)
           clear hb hbox hg
           refine hK.out _ _ ⟨(ai BK374.out 0).trans rfl,(ai BK374.out 1).trans rfl,(ai BK374.out 2).trans rfl,((HB.out.cell (World.block_lt_of_cell? w _ hw384_0)).trans hw384_0)⟩ (fun hHeld=>?_)
           clear hK K
           refine bz (a':=?_) ?_ ?_
           rotate_left
           ·show Act.put _ (some 12) _ = _
            simp only [Act.put,List.setIfInBounds_toArray,List.set_cons_zero,List.set_cons_succ,ae,af]
            rfl
           refine one_ (i:=6) (N:=some 40) #[I,I,I,I,I,I,I,I,O] rfl rfl (bR HT_.out (by kernel_rfl)) (by decide) (fun K hK=>?_)
           refine cE Try.func44 (by kernel_rfl) rfl #[.agg #[.int .i64 a0_0,.int .i64 a0_1,.int .i64 a0_2],.slice A384_0 ((bB l3 x11_2).f0).length c384_0] (by rfl) rfl rfl (by (try simp only [List.map_toArray,List.map_cons,List.map_nil]);rfl) ?_
           with_reducible refine (al.calls k2 a0_0 a0_1 a0_2 _ _ ((bB l3 x11_2).f0) t385 t386 _ ?side1 ?side2 A20.out).mono ?_
           (case side1=>exact (Kd.a8 HR384_0.out HB.out))
           (case side2=>exact HC384_0.out)
           rintro e w26 ⟨v387,rfl,ho0,hb⟩
           refine ⟨_,rfl,?_⟩
           replace HO_10:=M0 (Kd.aK HO_10.out hb)
           have HO388:=M0 (Kd.bj ho0 (aj HB.out))
           replace BK374:=M0 (ab BK374.out hb)
           replace BK375:=M0 (ab BK375.out hb)
           replace BK389:=M0 (ab BK389.out hb)
           replace HB:=M0 (aa HB.out hb)
           clear hb ho0
           refine hK.out _ _ ⟨(ai BK374.out 0).trans rfl,(ai BK374.out 1).trans rfl,(ai BK374.out 2).trans rfl,((HB.out.cell (World.block_lt_of_cell? w _ hw384_0)).trans hw384_0)⟩ (fun hHeld=>?_)
           clear hK K
           refine bz (a':=?_) ?_ ?_
           rotate_left
           ·show Act.put _ (some 40) _ = _
            simp only [Act.put,List.setIfInBounds_toArray,List.set_cons_zero,List.set_cons_succ,ae,af]
            rfl
           exact bz (by simp only [dM,Act.put,List.setIfInBounds_toArray,List.set_cons_zero,List.set_cons_succ]) (hCont (v387,gb389) _ ⟨hHeld,HO388.out,HO_10.out,BK374.out,BK375.out,BK389.out,GW389.out,GE389.out,NB374_389.out,NB389_374.out,NB375_389.out,NB389_375.out,HB.out⟩)
         rintro ⟨v387,gb389⟩ w27 ⟨hS_,h0_,h1_,h2_,h3_,h4_,h5_,h6_,h7_,h8_,h9_,h10_,h11_⟩
         have n0_ : Aside0 (Kd.R Kd.string 9 w27 w.heap.size (fun _=>True) v387 t386):=⟨h0_⟩
         have n1_ : Aside0 (Kd.R (Kd.int .u8) 5 w27 w.heap.size (fun _=>True) u10 x10_2):=⟨h1_⟩
         have n2_ : Aside0 (w27.heap[gb374]? = some (.cells #[.int .i64 a0_0,.int .i64 a0_1,.int .i64 a0_2] 43 (0,0))):=⟨h2_⟩
         have n3_ : Aside0 (w27.heap[gb375]? = some (.cells #[.int .i64 x376000_2,.string x376001_2] 63 (0,0))):=⟨h3_⟩
         have n4_ : Aside0 (w27.heap[gb389]? = some (.cells #[.int .i64 0,.slice none 0 0] 68 (0,0))):=⟨h4_⟩
         have n5_ : Aside0 (w.heap.size ≤ gb389):=⟨h5_⟩
         have n6_ : Aside0 (w.heap.size ≤ gb389):=⟨h6_⟩
         have n7_ : Aside0 (gb374 ≠ gb389):=⟨h7_⟩
         have n8_ : Aside0 (gb389 ≠ gb374):=⟨h8_⟩
         have n9_ : Aside0 (gb375 ≠ gb389):=⟨h9_⟩
         have n10_ : Aside0 (gb389 ≠ gb375):=⟨h10_⟩
         have n11_ : Aside0 (Below w.heap.size w w27):=⟨h11_⟩
         clear HO_10 BK374 BK375 HB h0_ h1_ h2_ h3_ h4_ h5_ h6_ h7_ h8_ h9_ h10_ h11_
         have HO388:=n0_
         have HO_10:=n1_
         have BK374:=n2_
         have BK375:=n3_
         have BK389:=n4_
         have GW389:=n5_
         have GE389:=n6_
         have NB374_389:=n7_
         have NB389_374:=n8_
         have NB375_389:=n9_
         have NB389_375:=n10_
         have HB:=n11_
         clear n0_ n1_ n2_ n3_ n4_ n5_ n6_ n7_ n8_ n9_ n10_ n11_
         have hHeld : w27.cell? ⟨gb374,0,none⟩ = some (.int .i64 a0_0) ∧ w27.cell? ⟨gb374,1,none⟩ = some (.int .i64 a0_1) ∧ w27.cell? ⟨gb374,2,none⟩ = some (.int .i64 a0_2) ∧ w27.cell? (ad384.add (x11_2).toNat) = some (.slice A384_0 ((bB l3 x11_2).f0).length c384_0):=hS_
         obtain ⟨Ao29,co29,eo29⟩:=Kd.bc HO388.out
         (subst eo29)
         refine bz (a':=?_) ?_ ?_
         rotate_left
         ·simp only [dM,Act.put,List.setIfInBounds_toArray,List.set_cons_zero,List.set_cons_succ]
          rfl
         refine one_ (i:=8) (N:=none) #[I,I,I,I,I,I,I,I,I] rfl rfl (bR HT_.out (by kernel_rfl)) (by decide) (fun K hK=>?_)
         have hs28 : w27.cell? ⟨gb389,0,none⟩ = some (.int .i64 0):=(ai BK389.out 0).trans rfl
         have hfs28:=ag BK389.out 0
         have hns28_0:=NB374_389.out
         have hns28_1:=NB375_389.out
         have hms28_0:=NB389_374.out
         have hms28_1:=NB389_375.out
         have hs30 : w27.cell? ⟨gb389,1,none⟩ = some (.slice none 0 0):=(ai BK389.out 1).trans rfl
         have hfs30:=ag BK389.out 1
         have hns30_0:=NB374_389.out
         have hns30_1:=NB375_389.out
         have hms30_0:=NB389_374.out
         have hms30_1:=NB389_375.out
         refine dA (w1:=?_) (by rfl) rfl ?_ ?_
         rotate_left
         ·go_simp
          rfl
         refine hK.out _ _ ⟨((cell_far (p:=⟨gb389,_,none⟩) NB374_389.out _).trans (((cell_far (p:=⟨gb389,_,none⟩) NB374_389.out _).trans (hHeld.1)))),((cell_far (p:=⟨gb389,_,none⟩) NB374_389.out _).trans (((cell_far (p:=⟨gb389,_,none⟩) NB374_389.out _).trans (hHeld.2.1)))),((cell_far (p:=⟨gb389,_,none⟩) NB374_389.out _).trans (((cell_far (p:=⟨gb389,_,none⟩) NB374_389.out _).trans (hHeld.2.2.1)))),((cell_far (p:=⟨gb389,_,none⟩) (by exact Nat.ne_of_lt (Nat.lt_of_lt_of_le (by have:=World.block_lt_of_cell? _ _ hw384_0;exact this) GW389.out)) _).trans (((cell_far (p:=⟨gb389,_,none⟩) (by exact Nat.ne_of_lt (Nat.lt_of_lt_of_le (by have:=World.block_lt_of_cell? _ _ hw384_0;exact this) GW389.out)) _).trans (hHeld.2.2.2))))⟩ (fun hHeld=>?_)
         clear hK K
         refine cD (dg HT_.out (by kernel_rfl)) ?_
         have hcz33_0:=bcv (v:=.int .i64 0) BK389.out 0 rfl
         have hcz33_1:=bcv (v:=.slice none 0 0) BK389.out 1 rfl
         have hfz33_0:=ag BK389.out 0
         have hfz33_1:=ag BK389.out 1
         have p390 : 0 ≤ (0 : Int):=(by omega)
         have q390 : 0 < (t386.length : Int):=of_decide_eq_true (by with_reducible assumption)
         obtain ⟨ad390,e390,hx390_0⟩:=Kd.bu (Kd.aE HO388.out).2.2 0 p390 q390
         cases e390
         have qi390 : (0 < t386.length) = True:=eq_true (by omega)
         (try rw [show ((0 : Int)).toNat = 0 from rfl] at hx390_0)
         (try rw [Addr.add_zero'] at hx390_0)
         have hn390_0 : ad390.block ≠ gb389:=Kd.own_blk (Kd.R_ne HO388.out BK389.out (by decide))
         have hn390_1 : ad390.block ≠ gb389:=Kd.own_blk (Kd.R_ne HO388.out BK389.out (by decide))
         replace hx390_0:=(cell_far (p:=⟨gb389,0,none⟩) hn390_0 (.int .i64 t385)).trans hx390_0
         replace hx390_0:=(cell_far (p:=⟨gb389,1,none⟩) hn390_1 (.slice (some ad390) t386.length co29)).trans hx390_0
         clear hn390_0 hn390_1
         replace p390:=eq_true p390
         replace q390:=eq_true q390
         try go_wp2
         go_loopg [10,13] k2 (fun kq v10 v13 w'=>∃ (x10_3 : List Int) (x13_3 : Int),v13 = .int .i64 x13_3 ∧ Aside0 (av.l1 kq a1 a2 l3 x10_3 x11_2 x13_3 a0_0 a0_1 a0_2 t385 t386 = some (r1,r2)) ∧ Aside0 (kq ≤ k2) ∧ Aside0 (Kd.R (Kd.int .u8) 5 w' w.heap.size (fun _=>True) v10 x10_3) ∧ Aside0 (Kd.R Kd.string 9 w' w.heap.size (fun _=>True) (.slice (some ad390) t386.length co29) t386) ∧ Aside0 (w'.heap[gb374]? = some (.cells #[.int .i64 a0_0,.int .i64 a0_1,.int .i64 a0_2] 43 (0,0))) ∧ Aside0 (w'.heap[gb375]? = some (.cells #[.int .i64 x376000_2,.string x376001_2] 63 (0,0))) ∧ Aside0 (w'.heap[gb389]? = some (.cells #[.int .i64 t385,(.slice (some ad390) t386.length co29)] 68 (0,0))) ∧ Aside0 (Below w.heap.size w w'))
         case atStart=>exact ⟨(x10_2),(0),(by rfl),H',⟨Nat.le_refl _⟩,⟨by exact Kd.bb (Kd.bw (p:=⟨gb389,1,none⟩) (Kd.bw (p:=⟨gb389,0,none⟩) (Kd.bP HO_10.out BK389.out (by decide)) (fun _ hk=>hk.2) (.int .i64 t385)) (fun _ hk=>hk.2) (.slice (some ad390) t386.length co29)) (fun _ hk=>trivial)⟩,⟨by exact Kd.bb (Kd.bw (p:=⟨gb389,1,none⟩) (Kd.bw (p:=⟨gb389,0,none⟩) (Kd.bP HO388.out BK389.out (by decide)) (fun _ hk=>hk.2) (.int .i64 t385)) (fun _ hk=>hk.2) (.slice (some ad390) t386.length co29)) (fun _ hk=>trivial)⟩,⟨by refine aX ?_ NB374_389.out _;refine aX ?_ NB374_389.out _;exact BK374.out⟩,⟨by refine aX ?_ NB375_389.out _;refine aX ?_ NB375_389.out _;exact BK375.out⟩,⟨by refine aW (cs:=#[.int .i64 t385,.slice none 0 0]) ?_ 1 _ rfl;refine aW (cs:=#[.int .i64 0,.slice none 0 0]) ?_ 0 _ rfl;exact BK389.out⟩,⟨by repeat ((with_reducible first|exact HB.out|refine ax ?_ GE389.out))⟩⟩
         case round=>
          clear H'
          (try clear c18b0);(try clear c19b0);(try clear c21b0);(try clear c21b1);(try clear c22b0);(try clear c22b1);(try clear c23b0);(try clear c23b1);(try clear hcz33_0);(try clear hcz33_1);(try clear hfz33_0);(try clear hfz33_1);(try clear hx384_0);(try clear hx390_0);(try clear p384);(try clear p390);(try clear q384);(try clear q390)
          obtain ⟨x10_3,x13_3,rfl,HA,HK3,HO_10,HO_390001,BK374,BK375,BK389,HB⟩:=hrel
          cases gk with
          | zero=>exact absurd HA.out (by simp [av.l1])
          | succ k3=>
           have H:=HA.out
           clear HA
           simp only [av.l1] at H
           by_cases c34 : x13_3 < a0_0
           ·rw [if_pos c34] at H
            have c34b0:=decide_eq_true c34
            clear c34
            obtain ⟨c35,H⟩:=nn H
            have c35b0:=decide_eq_true c35
            clear c35
            obtain ⟨c36,H⟩:=nn H
            have c36b0:=decide_eq_true c36
            clear c36
            obtain ⟨c37,H⟩:=nn H
            have LMc37:=M0 c37
            clear c37
            obtain ⟨y392,hy392⟩ : ∃ y_ : List Int,y_ = (x10_3 ++ bytesOf (rdOf ByteArray.empty t386 x13_3)):=⟨_,rfl⟩
            rw [← hy392] at H
            have Ny392:=M0 hy392
            clear hy392
            have H':=M0 H
            clear H
            have hcz40_0:=bcv (v:=.int .i64 a0_0) BK374.out 0 rfl
            have hcz42_1:=bcv (v:=.slice (some ad390) t386.length co29) BK389.out 1 rfl
            have p391 : 0 ≤ (x13_3 : Int):=of_decide_eq_true (by with_reducible assumption)
            have q391 : x13_3 < (t386.length : Int):=of_decide_eq_true (by with_reducible assumption)
            obtain ⟨ad391,e391,hx391_0⟩:=Kd.bu (Kd.aE HO_390001.out).2.2 x13_3 p391 q391
            obtain rfl : ad390 = ad391:=(by injection e391)
            replace p391:=eq_true p391
            replace q391:=eq_true q391
            go_wp2_with ((at_builtin;refine print_append_str (w0:=w) w.heap.size rfl (.tmp 61) _ 37 9 5 rfl Try.underlying37 Try.underlying9 info5 u10 x10_3 (rdOf ByteArray.empty t386 x13_3) rfl rfl ?aO ?aB ?aS ?aL ?_;(case aB=>exact HB.out);(case aO=>exact (Kd.own_of_R HO_10.out));(case aS=>exact (aj HB.out));(case aL=>have:=LMc37.out;omega);intro v393 w43 ho0 hb hg;have ho:=Kd.R_of_own (h1:=fun _=>rfl) (ok:=fun _=>True) ho0 (fun _ _=>trivial);clear ho0;have hat:=True.intro;rw [← Ny392.out] at ho;change Kd.R (Kd.int .u8) 5 w43 w.heap.size (fun _=>True) v393 y392 at ho;have n0_:=M0 (Kd.df HO_390001.out (Kd.cV HO_10.out) (by decide) hg);have n1_:=M0 (bm (g:=gb374) (o:=.cells #[.int .i64 a0_0,.int .i64 a0_1,.int .i64 a0_2] 43 (0,0)) BK374.out hg (Kd.R_ne HO_10.out BK374.out (by decide)));have n2_:=M0 (bm (g:=gb375) (o:=.cells #[.int .i64 x376000_2,.string x376001_2] 63 (0,0)) BK375.out hg (Kd.R_ne HO_10.out BK375.out (by decide)));have n3_:=M0 (bm (g:=gb389) (o:=.cells #[.int .i64 t385,.slice (some ad390) t386.length co29] 68 (0,0)) BK389.out hg (Kd.R_ne HO_10.out BK389.out (by decide)));have n4_:=M0 (hb);have n5_:=M0 (ho);clear HO_390001 BK374 BK375 BK389 HB HO_10;have HO_390001:=n0_;have BK374:=n1_;have BK375:=n2_;have BK389:=n3_;have HB:=n4_;have HO394:=n5_;clear n0_ n1_ n2_ n3_ n4_ n5_ ho hb hg hat))
            go_roundg k3
            case measure=>have:=HJ5.out;have:=HK2.out;have:=HK3.out;omega
            case rel=>exact ⟨(y392),(wrap64 (x13_3 + 1)),(by rfl),H',⟨by have:=HJ5.out;have:=HK2.out;have:=HK3.out;omega⟩,⟨by exact HO394.out⟩,⟨by exact HO_390001.out⟩,⟨by exact BK374.out⟩,⟨by exact BK375.out⟩,⟨by exact BK389.out⟩,⟨HB.out⟩⟩
           ·rw [if_neg c34] at H
            have c34b0:=decide_eq_false c34
            clear c34
            have H':=M0 H
            clear H
            have hcz46_0:=bcv (v:=.int .i64 a0_0) BK374.out 0 rfl
            go_wp2
            go_roundg k3
            case measure=>have:=HJ5.out;have:=HK2.out;have:=HK3.out;omega
            case rel=>exact ⟨(x10_3),(wrap64 (x11_2 + 1)),(x376000_2),(x376001_2),(by rfl),H',⟨by have:=HJ5.out;have:=HK2.out;have:=HK3.out;omega⟩,⟨by exact HO_10.out⟩,⟨by exact BK374.out⟩,⟨by exact BK375.out⟩,⟨HB.out⟩⟩
        ·rw [if_neg c23] at H
         have c23b1 : (((rdOf ByteArray.empty t386 0).size : Int) != a1) = true:=bne_iff_ne.mpr c23
         simp only [Option.some.injEq,Prod.mk.injEq] at H
         obtain ⟨rfl,rfl⟩:=H
         try go_wp2
         replace HO_10:=M0 (Kd.cL HO_10.out)
         replace BK374:=M0 (bl BK374.out)
         replace BK375:=M0 (bl BK375.out)
         replace HB:=M0 (aQ HB.out)
         have p384 : 0 ≤ (x11_2 : Int):=of_decide_eq_true (by with_reducible assumption)
         have q384 : x11_2 < (l3.length : Int):=of_decide_eq_true (by with_reducible assumption)
         obtain ⟨ad384,A384_0,c384_0,e384,hx384_0,hl384_0,hi384_0⟩:=at_T55 HR3.out x11_2 p384 q384
         have hw384_0:=hx384_0
         cases e384
         replace hx384_0:=(HB.out.cell (World.block_lt_of_cell? w _ hx384_0)).trans hx384_0
         have HR384_0:=M0 hi384_0
         have HC384_0:=M0 hl384_0
         clear hi384_0 hl384_0
         replace p384:=eq_true p384
         replace q384:=eq_true q384
         refine bW (n:=9) (S:=fun w'=>w'.cell? ⟨gb374,0,none⟩ = some (.int .i64 a0_0) ∧ w'.cell? ⟨gb374,1,none⟩ = some (.int .i64 a0_1) ∧ w'.cell? ⟨gb374,2,none⟩ = some (.int .i64 a0_2) ∧ w'.cell? (ad384.add (x11_2).toNat) = some (.slice A384_0 ((bB l3 x11_2).f0).length c384_0)) (ds:=[]) #[O,O,O,O,O,O,O,O,O] (by kernel_rfl) rfl rfl ⟨(ai BK374.out 0).trans rfl,(ai BK374.out 1).trans rfl,(ai BK374.out 2).trans rfl,((HB.out.cell (World.block_lt_of_cell? w _ hw384_0)).trans hw384_0)⟩ (fun hHeld=>?_);refine cr av.tab8 av.bits8 (fun HT_ HW_=>?_)
         generalize wr.drew = w47 at HO_10 BK374 BK375 HB HR384_0 hx384_0 hHeld ⊢
         refine aq (i:=1) (N:=some 35) #[O,I,O,O,O,O,O,O,O] rfl rfl (aM HT_.out (by kernel_rfl)) (fun _ _ _ h=>h) (Or.inl ⟨by rfl,by intro w';go_simp;with_reducible rfl⟩) (by simp only [Act.put,List.setIfInBounds_toArray,List.set_cons_zero,List.set_cons_succ,ae,af];rfl) ?_
         refine aq (i:=2) (N:=some 36) #[O,I,I,O,O,O,O,O,O] rfl rfl (aM HT_.out (by kernel_rfl)) (fun _ _ _ h=>h) (Or.inl ⟨by rfl,by intro w';go_simp;with_reducible rfl⟩) (by simp only [Act.put,List.setIfInBounds_toArray,List.set_cons_zero,List.set_cons_succ,ae,af];rfl) ?_
         refine aq (i:=3) (N:=some 37) #[O,I,I,I,O,O,O,O,O] rfl rfl (aM HT_.out (by kernel_rfl)) (fun _ _ _ h=>h) (Or.inl ⟨by rfl,by intro w';go_simp;with_reducible rfl⟩) (by simp only [Act.put,List.setIfInBounds_toArray,List.set_cons_zero,List.set_cons_succ,ae,af];rfl) ?_
         refine aq (i:=4) (N:=some 38) #[O,I,I,I,I,O,O,O,O] rfl rfl (aM HT_.out (by kernel_rfl)) (fun _ _ _ h=>h) (Or.inl ⟨by rfl,by intro w';go_simp;with_reducible rfl⟩) (by simp only [Act.put,List.setIfInBounds_toArray,List.set_cons_zero,List.set_cons_succ,ae,af];rfl) ?_
         refine bn (i:=0) (N:=some 34) #[I,I,I,I,I,O,O,O,O] rfl rfl (bC HT_.out HW_.out (by kernel_rfl)) (fun _ _ _ h=>h) (Or.inl ⟨by rfl,by rintro w' ⟨s0,s1,s2,s3⟩;go_simp;with_reducible rfl⟩) hHeld (by simp only [Act.put,List.setIfInBounds_toArray,List.set_cons_zero,List.set_cons_succ,ae,af];rfl) ?_
         refine bn (i:=5) (N:=some 39) #[I,I,I,I,I,I,O,O,O] rfl rfl (bC HT_.out HW_.out (by kernel_rfl)) (fun _ _ _ h=>h) (Or.inl ⟨by rfl,by rintro w' ⟨s0,s1,s2,s3⟩;go_simp;with_reducible rfl⟩) hHeld (by simp only [Act.put,List.setIfInBounds_toArray,List.set_cons_zero,List.set_cons_succ,ae,af];rfl) ?_
         refine join_ (σ:=Value × Nat) 1 #[I,I,I,I,I,I,I,I,O] (fun s_=>[(40,.agg #[.int .i64 t385,s_.1]),(12,.pointer (some ⟨s_.2,0,none⟩))]) (fun s_ w'=>(w'.cell? ⟨gb374,0,none⟩ = some (.int .i64 a0_0) ∧ w'.cell? ⟨gb374,1,none⟩ = some (.int .i64 a0_1) ∧ w'.cell? ⟨gb374,2,none⟩ = some (.int .i64 a0_2) ∧ w'.cell? (ad384.add (x11_2).toNat) = some (.slice A384_0 ((bB l3 x11_2).f0).length c384_0)) ∧ (Kd.R Kd.string 9 w' w.heap.size (fun _=>True) s_.1 t386) ∧ (Kd.R (Kd.int .u8) 5 w' w.heap.size (fun _=>True) u10 x10_2) ∧ (w'.heap[gb374]? = some (.cells #[.int .i64 a0_0,.int .i64 a0_1,.int .i64 a0_2] 43 (0,0))) ∧ (w'.heap[gb375]? = some (.cells #[.int .i64 x376000_2,.string x376001_2] 63 (0,0))) ∧ (w'.heap[s_.2]? = some (.cells #[.int .i64 0,.slice none 0 0] 68 (0,0))) ∧ (w.heap.size ≤ s_.2) ∧ (w.heap.size ≤ s_.2) ∧ (gb374 ≠ s_.2) ∧ (s_.2 ≠ gb374) ∧ (gb375 ≠ s_.2) ∧ (s_.2 ≠ gb375) ∧ (Below w.heap.size w w')) ?_ ?_
         rotate_left
         ·intro hCont
          refine two_ (i:=6) (j:=7) (Ni:=some 40) (Nj:=some 12) #[I,I,I,I,I,I,I,O,O] #[I,I,I,I,I,I,O,I,O] rfl rfl rfl rfl (two_of HT_.out (by kernel_rfl)) (by decide) (by decide) (fun K hK=>?_) (fun K hK=>?_)
          ·skip
           refine cE Try.func44 (by kernel_rfl) rfl #[.agg #[.int .i64 a0_0,.int .i64 a0_1,.int .i64 a0_2],.slice A384_0 ((bB l3 x11_2).f0).length c384_0] (by rfl) rfl rfl (by (try simp only [List.map_toArray,List.map_cons,List.map_nil]);rfl) ?_
           with_reducible refine (al.calls k2 a0_0 a0_1 a0_2 _ _ ((bB l3 x11_2).f0) t385 t386 _ ?side1 ?side2 A20.out).mono ?_
           (case side1=>exact (Kd.a8 HR384_0.out HB.out))
           (case side2=>exact HC384_0.out)
           rintro e w48 ⟨v387,rfl,ho0,hb⟩
           refine ⟨_,rfl,?_⟩
           replace HO_10:=M0 (Kd.aK HO_10.out hb)
           have HO388:=M0 (Kd.bj ho0 (aj HB.out))
           replace BK374:=M0 (ab BK374.out hb)
           replace BK375:=M0 (ab BK375.out hb)
           replace HB:=M0 (aa HB.out hb)
           clear hb ho0
           refine hK.out _ _ ⟨(ai BK374.out 0).trans rfl,(ai BK374.out 1).trans rfl,(ai BK374.out 2).trans rfl,((HB.out.cell (World.block_lt_of_cell? w _ hw384_0)).trans hw384_0)⟩ (fun hHeld=>?_)
           clear hK K
           refine bz (a':=?_) ?_ ?_
           rotate_left
           ·show Act.put _ (some 40) _ = _
            simp only [Act.put,List.setIfInBounds_toArray,List.set_cons_zero,List.set_cons_succ,ae,af]
            rfl
           refine one_ (i:=7) (N:=some 12) #[I,I,I,I,I,I,I,I,O] rfl rfl (bR HT_.out (by kernel_rfl)) (by decide) (fun K hK=>?_)
           refine dZ ?hg (N:=12) ?hd (cs:=#[.int .i64 0,.slice none 0 0]) (t:=68) ?hr ?_;(case hd=>rfl);(case hg=>rfl);(case hr=>(go_simp;done))
           intro gb389 hg w49 hbox hb
           replace HO_10:=M0 (Kd.aK HO_10.out hb)
           replace HO388:=M0 (Kd.aK HO388.out hb)
           have BK389:=M0 (hbox)
           have GW389:=M0 ((by rw [hg];exact (aj HB.out) : w.heap.size ≤ gb389))
           have GE389:=M0 ((by rw [hg];exact (aj HB.out) : w.heap.size ≤ gb389))
           replace HB:=M0 (aa HB.out hb)
           have NB374_389:=M0 ((by rw [hg];exact Nat.ne_of_lt (a7 BK374.out) : gb374 ≠ gb389))
           have NB389_374:=M0 ((by rw [hg];exact Nat.ne_of_gt (a7 BK374.out) : gb389 ≠ gb374))
           replace BK374:=M0 (ab BK374.out hb)
           have NB375_389:=M0 ((by rw [hg];exact Nat.ne_of_lt (a7 BK375.out) : gb375 ≠ gb389))
           have NB389_375:=M0 ((by rw [hg];exact Nat.ne_of_gt (a7 BK375.out) : gb389 ≠ gb375))
           replace BK375:=M0 (ab BK375.out hb)
           clear hb hbox hg
           refine hK.out _ _ ⟨(ai BK374.out 0).trans rfl,(ai BK374.out 1).trans rfl,(ai BK374.out 2).trans rfl,((HB.out.cell (World.block_lt_of_cell? w _ hw384_0)).trans hw384_0)⟩ (fun hHeld=>?_)
           clear hK K
           refine bz (a':=?_) ?_ ?_
           rotate_left
           ·show Act.put _ (some 12) _ = _
            simp only [Act.put,List.setIfInBounds_toArray,List.set_cons_zero,List.set_cons_succ,ae,af]
            rfl
           exact bz (by simp only [dM,Act.put,List.setIfInBounds_toArray,List.set_cons_zero,List.set_cons_succ]) (hCont (v387,gb389) _ ⟨hHeld,HO388.out,HO_10.out,BK374.out,BK375.out,BK389.out,GW389.out,GE389.out,NB374_389.out,NB389_374.out,NB375_389.out,NB389_375.out,HB.out⟩)
          ·skip
           refine dZ ?hg (N:=12) ?hd (cs:=#[.int .i64 0,.slice none 0 0]) (t:=68) ?hr ?_;(case hd=>rfl);(case hg=>rfl);(case hr=>(go_simp;done))
           intro gb389 hg w48 hbox hb
           replace HO_10:=M0 (Kd.aK HO_10.out hb)
           have BK389:=M0 (hbox)
           have GW389:=M0 ((by rw [hg];exact (aj HB.out) : w.heap.size ≤ gb389))
           have GE389:=M0 ((by rw [hg];exact (aj HB.out) : w.heap.size ≤ gb389))
           replace HB:=M0 (aa HB.out hb)
           have NB374_389:=M0 ((by rw [hg];exact Nat.ne_of_lt (a7 BK374.out) : gb374 ≠ gb389))
           have NB389_374:=M0 ((by rw [hg];exact Nat.ne_of_gt (a7 BK374.out) : gb389 ≠ gb374))
           replace BK374:=M0 (ab BK374.out hb)
           have NB375_389:=M0 ((by rw [hg];exact Nat.ne_of_lt (a7 BK375.out) : gb375 ≠ gb389))
           have NB389_375:=M0 ((by rw [hg];exact Nat.ne_of_gt (a7 BK375.out) : gb389 ≠ gb375))
           replace BK375:=M0 (ab BK375.out hb)
           clear hb hbox hg
           refine hK.out _ _ ⟨(ai BK374.out 0).trans rfl,(ai BK374.out 1).trans rfl,(ai BK374.out 2).trans rfl,((HB.out.cell (World.block_lt_of_cell? w _ hw384_0)).trans hw384_0)⟩ (fun hHeld=>?_)
           clear hK K
           refine bz (a':=?_) ?_ ?_
           rotate_left
           ·show Act.put _ (some 12) _ = _
            simp only [Act.put,List.setIfInBounds_toArray,List.set_cons_zero,List.set_cons_succ,ae,af]
            rfl
           refine one_ (i:=6) (N:=some 40) #[I,I,I,I,I,I,I,I,O] rfl rfl (bR HT_.out (by kernel_rfl)) (by decide) (fun K hK=>?_)
           refine cE Try.func44 (by kernel_rfl) rfl #[.agg #[.int .i64 a0_0,.int .i64 a0_1,.int .i64 a0_2],.slice A384_0 ((bB l3 x11_2).f0).length c384_0] (by rfl) rfl rfl (by (try simp only [List.map_toArray,List.map_cons,List.map_nil]);rfl) ?_
           with_reducible refine (al.calls k2 a0_0 a0_1 a0_2 _ _ ((bB l3 x11_2).f0) t385 t386 _ ?side1 ?side2 A20.out).mono ?_
           (case side1=>exact (Kd.a8 HR384_0.out HB.out))
           (case side2=>exact HC384_0.out)
           rintro e w49 ⟨v387,rfl,ho0,hb⟩
           refine ⟨_,rfl,?_⟩
           replace HO_10:=M0 (Kd.aK HO_10.out hb)
           have HO388:=M0 (Kd.bj ho0 (aj HB.out))
           replace BK374:=M0 (ab BK374.out hb)
           replace BK375:=M0 (ab BK375.out hb)
           replace BK389:=M0 (ab BK389.out hb)
           replace HB:=M0 (aa HB.out hb)
           clear hb ho0
           refine hK.out _ _ ⟨(ai BK374.out 0).trans rfl,(ai BK374.out 1).trans rfl,(ai BK374.out 2).trans rfl,((HB.out.cell (World.block_lt_of_cell? w _ hw384_0)).trans hw384_0)⟩ (fun hHeld=>?_)
           clear hK K
           refine bz (a':=?_) ?_ ?_
           rotate_left
           ·show Act.put _ (some 40) _ = _
            simp only [Act.put,List.setIfInBounds_toArray,List.set_cons_zero,List.set_cons_succ,ae,af]
            rfl
           exact bz (by simp only [dM,Act.put,List.setIfInBounds_toArray,List.set_cons_zero,List.set_cons_succ]) (hCont (v387,gb389) _ ⟨hHeld,HO388.out,HO_10.out,BK374.out,BK375.out,BK389.out,GW389.out,GE389.out,NB374_389.out,NB389_374.out,NB375_389.out,NB389_375.out,HB.out⟩)
         rintro ⟨v387,gb389⟩ w50 ⟨hS_,h0_,h1_,h2_,h3_,h4_,h5_,h6_,h7_,h8_,h9_,h10_,h11_⟩
         have n0_ : Aside0 (Kd.R Kd.string 9 w50 w.heap.size (fun _=>True) v387 t386):=⟨h0_⟩
         have n1_ : Aside0 (Kd.R (Kd.int .u8) 5 w50 w.heap.size (fun _=>True) u10 x10_2):=⟨h1_⟩
         have n2_ : Aside0 (w50.heap[gb374]? = some (.cells #[.int .i64 a0_0,.int .i64 a0_1,.int .i64 a0_2] 43 (0,0))):=⟨h2_⟩
         have n3_ : Aside0 (w50.heap[gb375]? = some (.cells #[.int .i64 x376000_2,.string x376001_2] 63 (0,0))):=⟨h3_⟩
         have n4_ : Aside0 (w50.heap[gb389]? = some (.cells #[.int .i64 0,.slice none 0 0] 68 (0,0))):=⟨h4_⟩
         have n5_ : Aside0 (w.heap.size ≤ gb389):=⟨h5_⟩
         have n6_ : Aside0 (w.heap.size ≤ gb389):=⟨h6_⟩
         have n7_ : Aside0 (gb374 ≠ gb389):=⟨h7_⟩
         have n8_ : Aside0 (gb389 ≠ gb374):=⟨h8_⟩
         have n9_ : Aside0 (gb375 ≠ gb389):=⟨h9_⟩
         have n10_ : Aside0 (gb389 ≠ gb375):=⟨h10_⟩
         have n11_ : Aside0 (Below w.heap.size w w50):=⟨h11_⟩
         clear HO_10 BK374 BK375 HB h0_ h1_ h2_ h3_ h4_ h5_ h6_ h7_ h8_ h9_ h10_ h11_
         have HO388:=n0_
         have HO_10:=n1_
         have BK374:=n2_
         have BK375:=n3_
         have BK389:=n4_
         have GW389:=n5_
         have GE389:=n6_
         have NB374_389:=n7_
         have NB389_374:=n8_
         have NB375_389:=n9_
         have NB389_375:=n10_
         have HB:=n11_
         clear n0_ n1_ n2_ n3_ n4_ n5_ n6_ n7_ n8_ n9_ n10_ n11_
         have hHeld : w50.cell? ⟨gb374,0,none⟩ = some (.int .i64 a0_0) ∧ w50.cell? ⟨gb374,1,none⟩ = some (.int .i64 a0_1) ∧ w50.cell? ⟨gb374,2,none⟩ = some (.int .i64 a0_2) ∧ w50.cell? (ad384.add (x11_2).toNat) = some (.slice A384_0 ((bB l3 x11_2).f0).length c384_0):=hS_
         obtain ⟨Ao52,co52,eo52⟩:=Kd.bc HO388.out
         (subst eo52)
         refine bz (a':=?_) ?_ ?_
         rotate_left
         ·simp only [dM,Act.put,List.setIfInBounds_toArray,List.set_cons_zero,List.set_cons_succ]
          rfl
         refine one_ (i:=8) (N:=none) #[I,I,I,I,I,I,I,I,I] rfl rfl (bR HT_.out (by kernel_rfl)) (by decide) (fun K hK=>?_)
         have hs51 : w50.cell? ⟨gb389,0,none⟩ = some (.int .i64 0):=(ai BK389.out 0).trans rfl
         have hfs51:=ag BK389.out 0
         have hns51_0:=NB374_389.out
         have hns51_1:=NB375_389.out
         have hms51_0:=NB389_374.out
         have hms51_1:=NB389_375.out
         have hs53 : w50.cell? ⟨gb389,1,none⟩ = some (.slice none 0 0):=(ai BK389.out 1).trans rfl
         have hfs53:=ag BK389.out 1
         have hns53_0:=NB374_389.out
         have hns53_1:=NB375_389.out
         have hms53_0:=NB389_374.out
         have hms53_1:=NB389_375.out
         refine dA (w1:=?_) (by rfl) rfl ?_ ?_
         rotate_left
         ·go_simp
          rfl
         refine hK.out _ _ ⟨((cell_far (p:=⟨gb389,_,none⟩) NB374_389.out _).trans (((cell_far (p:=⟨gb389,_,none⟩) NB374_389.out _).trans (hHeld.1)))),((cell_far (p:=⟨gb389,_,none⟩) NB374_389.out _).trans (((cell_far (p:=⟨gb389,_,none⟩) NB374_389.out _).trans (hHeld.2.1)))),((cell_far (p:=⟨gb389,_,none⟩) NB374_389.out _).trans (((cell_far (p:=⟨gb389,_,none⟩) NB374_389.out _).trans (hHeld.2.2.1)))),((cell_far (p:=⟨gb389,_,none⟩) (by exact Nat.ne_of_lt (Nat.lt_of_lt_of_le (by have:=World.block_lt_of_cell? _ _ hw384_0;exact this) GW389.out)) _).trans (((cell_far (p:=⟨gb389,_,none⟩) (by exact Nat.ne_of_lt (Nat.lt_of_lt_of_le (by have:=World.block_lt_of_cell? _ _ hw384_0;exact this) GW389.out)) _).trans (hHeld.2.2.2))))⟩ (fun hHeld=>?_)
         clear hK K
         refine cD (dg HT_.out (by kernel_rfl)) ?_
         have hnc55:=NB375_389.out
         have p390 : 0 ≤ (0 : Int):=(by omega)
         have q390 : 0 < (t386.length : Int):=of_decide_eq_true (by with_reducible assumption)
         obtain ⟨ad390,e390,hx390_0⟩:=Kd.bu (Kd.aE HO388.out).2.2 0 p390 q390
         cases e390
         have qi390 : (0 < t386.length) = True:=eq_true (by omega)
         (try rw [show ((0 : Int)).toNat = 0 from rfl] at hx390_0)
         (try rw [Addr.add_zero'] at hx390_0)
         have hn390_0 : ad390.block ≠ gb389:=Kd.own_blk (Kd.R_ne HO388.out BK389.out (by decide))
         have hn390_1 : ad390.block ≠ gb389:=Kd.own_blk (Kd.R_ne HO388.out BK389.out (by decide))
         replace hx390_0:=(cell_far (p:=⟨gb389,0,none⟩) hn390_0 (.int .i64 t385)).trans hx390_0
         replace hx390_0:=(cell_far (p:=⟨gb389,1,none⟩) hn390_1 (.slice (some ad390) t386.length co52)).trans hx390_0
         clear hn390_0 hn390_1
         replace p390:=eq_true p390
         replace q390:=eq_true q390
         have hnb57:=NB375_374.out
         have hnc57:=NB374_375.out
         have hcz58_0:=bcv (v:=.int .i64 x376000_2) BK375.out 0 rfl
         have hcz58_1:=bcv (v:=.string x376001_2) BK375.out 1 rfl
         have hfz58_0:=ag BK375.out 0
         have hfz58_1:=ag BK375.out 1
         try go_wp2
         refine bodyPost_ret (results_cell_row rfl _ _ gb375 63 #[.int .i64 2,.string (⟨#[]⟩ : ByteArray)] (0,0) _ rfl (by refine aW (cs:=#[.int .i64 2,.string x376001_2]) ?_ 1 _ rfl;refine aW (cs:=#[.int .i64 x376000_2,.string x376001_2]) ?_ 0 _ rfl;refine aX ?_ NB375_389.out _;refine aX ?_ NB375_389.out _;exact BK375.out) Try.underlying63 rfl (by kernel_rfl)) rfl ?_
         exact ⟨by rfl,by repeat ((with_reducible first|exact HB.out|refine ax ?_ GE375.out|refine ax ?_ GE389.out))⟩
       ·rw [if_neg c21] at H
        have c21b1 : (t385 != 0) = true:=bne_iff_ne.mpr c21
        simp only [Option.some.injEq,Prod.mk.injEq] at H
        obtain ⟨rfl,rfl⟩:=H
        try go_wp2
        replace HO_10:=M0 (Kd.cL HO_10.out)
        replace BK374:=M0 (bl BK374.out)
        replace BK375:=M0 (bl BK375.out)
        replace HB:=M0 (aQ HB.out)
        have p384 : 0 ≤ (x11_2 : Int):=of_decide_eq_true (by with_reducible assumption)
        have q384 : x11_2 < (l3.length : Int):=of_decide_eq_true (by with_reducible assumption)
        obtain ⟨ad384,A384_0,c384_0,e384,hx384_0,hl384_0,hi384_0⟩:=at_T55 HR3.out x11_2 p384 q384
        have hw384_0:=hx384_0
        cases e384
        replace hx384_0:=(HB.out.cell (World.block_lt_of_cell? w _ hx384_0)).trans hx384_0
        have HR384_0:=M0 hi384_0
        have HC384_0:=M0 hl384_0
        clear hi384_0 hl384_0
        replace p384:=eq_true p384
        replace q384:=eq_true q384
        refine bW (n:=9) (S:=fun w'=>w'.cell? ⟨gb374,0,none⟩ = some (.int .i64 a0_0) ∧ w'.cell? ⟨gb374,1,none⟩ = some (.int .i64 a0_1) ∧ w'.cell? ⟨gb374,2,none⟩ = some (.int .i64 a0_2) ∧ w'.cell? (ad384.add (x11_2).toNat) = some (.slice A384_0 ((bB l3 x11_2).f0).length c384_0)) (ds:=[]) #[O,O,O,O,O,O,O,O,O] (by kernel_rfl) rfl rfl ⟨(ai BK374.out 0).trans rfl,(ai BK374.out 1).trans rfl,(ai BK374.out 2).trans rfl,((HB.out.cell (World.block_lt_of_cell? w _ hw384_0)).trans hw384_0)⟩ (fun hHeld=>?_);refine cr av.tab8 av.bits8 (fun HT_ HW_=>?_)
        generalize wr.drew = w59 at HO_10 BK374 BK375 HB HR384_0 hx384_0 hHeld ⊢
        refine aq (i:=1) (N:=some 35) #[O,I,O,O,O,O,O,O,O] rfl rfl (aM HT_.out (by kernel_rfl)) (fun _ _ _ h=>h) (Or.inl ⟨by rfl,by intro w';go_simp;with_reducible rfl⟩) (by simp only [Act.put,List.setIfInBounds_toArray,List.set_cons_zero,List.set_cons_succ,ae,af];rfl) ?_
        refine aq (i:=2) (N:=some 36) #[O,I,I,O,O,O,O,O,O] rfl rfl (aM HT_.out (by kernel_rfl)) (fun _ _ _ h=>h) (Or.inl ⟨by rfl,by intro w';go_simp;with_reducible rfl⟩) (by simp only [Act.put,List.setIfInBounds_toArray,List.set_cons_zero,List.set_cons_succ,ae,af];rfl) ?_
        refine aq (i:=3) (N:=some 37) #[O,I,I,I,O,O,O,O,O] rfl rfl (aM HT_.out (by kernel_rfl)) (fun _ _ _ h=>h) (Or.inl ⟨by rfl,by intro w';go_simp;with_reducible rfl⟩) (by simp only [Act.put,List.setIfInBounds_toArray,List.set_cons_zero,List.set_cons_succ,ae,af];rfl) ?_
        refine aq (i:=4) (N:=some 38) #[O,I,I,I,I,O,O,O,O] rfl rfl (aM HT_.out (by kernel_rfl)) (fun _ _ _ h=>h) (Or.inl ⟨by rfl,by intro w';go_simp;with_reducible rfl⟩) (by simp only [Act.put,List.setIfInBounds_toArray,List.set_cons_zero,List.set_cons_succ,ae,af];rfl) ?_
        refine bn (i:=0) (N:=some 34) #[I,I,I,I,I,O,O,O,O] rfl rfl (bC HT_.out HW_.out (by kernel_rfl)) (fun _ _ _ h=>h) (Or.inl ⟨by rfl,by rintro w' ⟨s0,s1,s2,s3⟩;go_simp;with_reducible rfl⟩) hHeld (by simp only [Act.put,List.setIfInBounds_toArray,List.set_cons_zero,List.set_cons_succ,ae,af];rfl) ?_
        refine bn (i:=5) (N:=some 39) #[I,I,I,I,I,I,O,O,O] rfl rfl (bC HT_.out HW_.out (by kernel_rfl)) (fun _ _ _ h=>h) (Or.inl ⟨by rfl,by rintro w' ⟨s0,s1,s2,s3⟩;go_simp;with_reducible rfl⟩) hHeld (by simp only [Act.put,List.setIfInBounds_toArray,List.set_cons_zero,List.set_cons_succ,ae,af];rfl) ?_
        refine join_ (σ:=Value × Nat) 1 #[I,I,I,I,I,I,I,I,O] (fun s_=>[(40,.agg #[.int .i64 t385,s_.1]),(12,.pointer (some ⟨s_.2,0,none⟩))]) (fun s_ w'=>(w'.cell? ⟨gb374,0,none⟩ = some (.int .i64 a0_0) ∧ w'.cell? ⟨gb374,1,none⟩ = some (.int .i64 a0_1) ∧ w'.cell? ⟨gb374,2,none⟩ = some (.int .i64 a0_2) ∧ w'.cell? (ad384.add (x11_2).toNat) = some (.slice A384_0 ((bB l3 x11_2).f0).length c384_0)) ∧ (Kd.R Kd.string 9 w' w.heap.size (fun _=>True) s_.1 t386) ∧ (Kd.R (Kd.int .u8) 5 w' w.heap.size (fun _=>True) u10 x10_2) ∧ (w'.heap[gb374]? = some (.cells #[.int .i64 a0_0,.int .i64 a0_1,.int .i64 a0_2] 43 (0,0))) ∧ (w'.heap[gb375]? = some (.cells #[.int .i64 x376000_2,.string x376001_2] 63 (0,0))) ∧ (w'.heap[s_.2]? = some (.cells #[.int .i64 0,.slice none 0 0] 68 (0,0))) ∧ (w.heap.size ≤ s_.2) ∧ (w.heap.size ≤ s_.2) ∧ (gb374 ≠ s_.2) ∧ (s_.2 ≠ gb374) ∧ (gb375 ≠ s_.2) ∧ (s_.2 ≠ gb375) ∧ (Below w.heap.size w w')) ?_ ?_
        rotate_left
        ·intro hCont
         refine two_ (i:=6) (j:=7) (Ni:=some 40) (Nj:=some 12) #[I,I,I,I,I,I,I,O,O] #[I,I,I,I,I,I,O,I,O] rfl rfl rfl rfl (two_of HT_.out (by kernel_rfl)) (by decide) (by decide) (fun K hK=>?_) (fun K hK=>?_)
         ·skip
          refine cE Try.func44 (by kernel_rfl) rfl #[.agg #[.int .i64 a0_0,.int .i64 a0_1,.int .i64 a0_2],.slice A384_0 ((bB l3 x11_2).f0).length c384_0] (by rfl) rfl rfl (by (try simp only [List.map_toArray,List.map_cons,List.map_nil]);rfl) ?_
          with_reducible refine (al.calls k2 a0_0 a0_1 a0_2 _ _ ((bB l3 x11_2).f0) t385 t386 _ ?side1 ?side2 A20.out).mono ?_
          (case side1=>exact (Kd.a8 HR384_0.out HB.out))
          (case side2=>exact HC384_0.out)
          rintro e w60 ⟨v387,rfl,ho0,hb⟩
          refine ⟨_,rfl,?_⟩
          replace HO_10:=M0 (Kd.aK HO_10.out hb)
          have HO388:=M0 (Kd.bj ho0 (aj HB.out))
          replace BK374:=M0 (ab BK374.out hb)
          replace BK375:=M0 (ab BK375.out hb)
          replace HB:=M0 (aa HB.out hb)
          clear hb ho0
          refine hK.out _ _ ⟨(ai BK374.out 0).trans rfl,(ai BK374.out 1).trans rfl,(ai BK374.out 2).trans rfl,((HB.out.cell (World.block_lt_of_cell? w _ hw384_0)).trans hw384_0)⟩ (fun hHeld=>?_)
          clear hK K
          refine bz (a':=?_) ?_ ?_
          rotate_left
          ·show Act.put _ (some 40) _ = _
           simp only [Act.put,List.setIfInBounds_toArray,List.set_cons_zero,List.set_cons_succ,ae,af]
           rfl
          refine one_ (i:=7) (N:=some 12) #[I,I,I,I,I,I,I,I,O] rfl rfl (bR HT_.out (by kernel_rfl)) (by decide) (fun K hK=>?_)
          refine dZ ?hg (N:=12) ?hd (cs:=#[.int .i64 0,.slice none 0 0]) (t:=68) ?hr ?_;(case hd=>rfl);(case hg=>rfl);(case hr=>(go_simp;done))
          intro gb389 hg w61 hbox hb
          replace HO_10:=M0 (Kd.aK HO_10.out hb)
          replace HO388:=M0 (Kd.aK HO388.out hb)
          have BK389:=M0 (hbox)
          have GW389:=M0 ((by rw [hg];exact (aj HB.out) : w.heap.size ≤ gb389))
          have GE389:=M0 ((by rw [hg];exact (aj HB.out) : w.heap.size ≤ gb389))
          replace HB:=M0 (aa HB.out hb)
          have NB374_389:=M0 ((by rw [hg];exact Nat.ne_of_lt (a7 BK374.out) : gb374 ≠ gb389))
          have NB389_374:=M0 ((by rw [hg];exact Nat.ne_of_gt (a7 BK374.out) : gb389 ≠ gb374))
          replace BK374:=M0 (ab BK374.out hb)
          have NB375_389:=M0 ((by rw [hg];exact Nat.ne_of_lt (a7 BK375.out) : gb375 ≠ gb389))
          have NB389_375:=M0 ((by rw [hg];exact Nat.ne_of_gt (a7 BK375.out) : gb389 ≠ gb375))
          replace BK375:=M0 (ab BK375.out hb)
          clear hb hbox hg
          refine hK.out _ _ ⟨(ai BK374.out 0).trans rfl,(ai BK374.out 1).trans rfl,(ai BK374.out 2).trans rfl,((HB.out.cell (World.block_lt_of_cell? w _ hw384_0)).trans hw384_0)⟩ (fun hHeld=>?_)
          clear hK K
          refine bz (a':=?_) ?_ ?_
          rotate_left
          ·show Act.put _ (some 12) _ = _
           simp only [Act.put,List.setIfInBounds_toArray,List.set_cons_zero,List.set_cons_succ,ae,af]
           rfl
          exact bz (by simp only [dM,Act.put,List.setIfInBounds_toArray,List.set_cons_zero,List.set_cons_succ]) (hCont (v387,gb389) _ ⟨hHeld,HO388.out,HO_10.out,BK374.out,BK375.out,BK389.out,GW389.out,GE389.out,NB374_389.out,NB389_374.out,NB375_389.out,NB389_375.out,HB.out⟩)
         ·skip
          refine dZ ?hg (N:=12) ?hd (cs:=#[.int .i64 0,.slice none 0 0]) (t:=68) ?hr ?_;(case hd=>rfl);(case hg=>rfl);(case hr=>(go_simp;done))
          intro gb389 hg w60 hbox hb
          replace HO_10:=M0 (Kd.aK HO_10.out hb)
          have BK389:=M0 (hbox)
          have GW389:=M0 ((by rw [hg];exact (aj HB.out) : w.heap.size ≤ gb389))
          have GE389:=M0 ((by rw [hg];exact (aj HB.out) : w.heap.size ≤ gb389))
          replace HB:=M0 (aa HB.out hb)
          have NB374_389:=M0 ((by rw [hg];exact Nat.ne_of_lt (a7 BK374.out) : gb374 ≠ gb389))
          have NB389_374:=M0 ((by rw [hg];exact Nat.ne_of_gt (a7 BK374.out) : gb389 ≠ gb374))
          replace BK374:=M0 (ab BK374.out hb)
          have NB375_389:=M0 ((by rw [hg];exact Nat.ne_of_lt (a7 BK375.out) : gb375 ≠ gb389))
          have NB389_375:=M0 ((by rw [hg];exact Nat.ne_of_gt (a7 BK375.out) : gb389 ≠ gb375))
          replace BK375:=M0 (ab BK375.out hb)
          clear hb hbox hg
          refine hK.out _ _ ⟨(ai BK374.out 0).trans rfl,(ai BK374.out 1).trans rfl,(ai BK374.out 2).trans rfl,((HB.out.cell (World.block_lt_of_cell? w _ hw384_0)).trans hw384_0)⟩ (fun hHeld=>?_)
          clear hK K
          refine bz (a':=?_) ?_ ?_
          rotate_left
          ·show Act.put _ (some 12) _ = _
           simp only [Act.put,List.setIfInBounds_toArray,List.set_cons_zero,List.set_cons_succ,ae,af]
           rfl
          refine one_ (i:=6) (N:=some 40) #[I,I,I,I,I,I,I,I,O] rfl rfl (bR HT_.out (by kernel_rfl)) (by decide) (fun K hK=>?_)
          refine cE Try.func44 (by kernel_rfl) rfl #[.agg #[.int .i64 a0_0,.int .i64 a0_1,.int .i64 a0_2],.slice A384_0 ((bB l3 x11_2).f0).length c384_0] (by rfl) rfl rfl (by (try simp only [List.map_toArray,List.map_cons,List.map_nil]);rfl) ?_
          with_reducible refine (al.calls k2 a0_0 a0_1 a0_2 _ _ ((bB l3 x11_2).f0) t385 t386 _ ?side1 ?side2 A20.out).mono ?_
          (case side1=>exact (Kd.a8 HR384_0.out HB.out))
          (case side2=>exact HC384_0.out)
          rintro e w61 ⟨v387,rfl,ho0,hb⟩
          refine ⟨_,rfl,?_⟩
          replace HO_10:=M0 (Kd.aK HO_10.out hb)
          have HO388:=M0 (Kd.bj ho0 (aj HB.out))
          replace BK374:=M0 (ab BK374.out hb)
          replace BK375:=M0 (ab BK375.out hb)
          replace BK389:=M0 (ab BK389.out hb)
          replace HB:=M0 (aa HB.out hb)
          clear hb ho0
          refine hK.out _ _ ⟨(ai BK374.out 0).trans rfl,(ai BK374.out 1).trans rfl,(ai BK374.out 2).trans rfl,((HB.out.cell (World.block_lt_of_cell? w _ hw384_0)).trans hw384_0)⟩ (fun hHeld=>?_)
          clear hK K
          refine bz (a':=?_) ?_ ?_
          rotate_left
          ·show Act.put _ (some 40) _ = _
           simp only [Act.put,List.setIfInBounds_toArray,List.set_cons_zero,List.set_cons_succ,ae,af]
           rfl
          exact bz (by simp only [dM,Act.put,List.setIfInBounds_toArray,List.set_cons_zero,List.set_cons_succ]) (hCont (v387,gb389) _ ⟨hHeld,HO388.out,HO_10.out,BK374.out,BK375.out,BK389.out,GW389.out,GE389.out,NB374_389.out,NB389_374.out,NB375_389.out,NB389_375.out,HB.out⟩)
        rintro ⟨v387,gb389⟩ w62 ⟨hS_,h0_,h1_,h2_,h3_,h4_,h5_,h6_,h7_,h8_,h9_,h10_,h11_⟩
        have n0_ : Aside0 (Kd.R Kd.string 9 w62 w.heap.size (fun _=>True) v387 t386):=⟨h0_⟩
        have n1_ : Aside0 (Kd.R (Kd.int .u8) 5 w62 w.heap.size (fun _=>True) u10 x10_2):=⟨h1_⟩
        have n2_ : Aside0 (w62.heap[gb374]? = some (.cells #[.int .i64 a0_0,.int .i64 a0_1,.int .i64 a0_2] 43 (0,0))):=⟨h2_⟩
        have n3_ : Aside0 (w62.heap[gb375]? = some (.cells #[.int .i64 x376000_2,.string x376001_2] 63 (0,0))):=⟨h3_⟩
        have n4_ : Aside0 (w62.heap[gb389]? = some (.cells #[.int .i64 0,.slice none 0 0] 68 (0,0))):=⟨h4_⟩
        have n5_ : Aside0 (w.heap.size ≤ gb389):=⟨h5_⟩
        have n6_ : Aside0 (w.heap.size ≤ gb389):=⟨h6_⟩
        have n7_ : Aside0 (gb374 ≠ gb389):=⟨h7_⟩
        have n8_ : Aside0 (gb389 ≠ gb374):=⟨h8_⟩
        have n9_ : Aside0 (gb375 ≠ gb389):=⟨h9_⟩
        have n10_ : Aside0 (gb389 ≠ gb375):=⟨h10_⟩
        have n11_ : Aside0 (Below w.heap.size w w62):=⟨h11_⟩
        clear HO_10 BK374 BK375 HB h0_ h1_ h2_ h3_ h4_ h5_ h6_ h7_ h8_ h9_ h10_ h11_
        have HO388:=n0_
        have HO_10:=n1_
        have BK374:=n2_
        have BK375:=n3_
        have BK389:=n4_
        have GW389:=n5_
        have GE389:=n6_
        have NB374_389:=n7_
        have NB389_374:=n8_
        have NB375_389:=n9_
        have NB389_375:=n10_
        have HB:=n11_
        clear n0_ n1_ n2_ n3_ n4_ n5_ n6_ n7_ n8_ n9_ n10_ n11_
        have hHeld : w62.cell? ⟨gb374,0,none⟩ = some (.int .i64 a0_0) ∧ w62.cell? ⟨gb374,1,none⟩ = some (.int .i64 a0_1) ∧ w62.cell? ⟨gb374,2,none⟩ = some (.int .i64 a0_2) ∧ w62.cell? (ad384.add (x11_2).toNat) = some (.slice A384_0 ((bB l3 x11_2).f0).length c384_0):=hS_
        obtain ⟨Ao64,co64,eo64⟩:=Kd.bc HO388.out
        (subst eo64)
        refine bz (a':=?_) ?_ ?_
        rotate_left
        ·simp only [dM,Act.put,List.setIfInBounds_toArray,List.set_cons_zero,List.set_cons_succ]
         rfl
        refine one_ (i:=8) (N:=none) #[I,I,I,I,I,I,I,I,I] rfl rfl (bR HT_.out (by kernel_rfl)) (by decide) (fun K hK=>?_)
        have hs63 : w62.cell? ⟨gb389,0,none⟩ = some (.int .i64 0):=(ai BK389.out 0).trans rfl
        have hfs63:=ag BK389.out 0
        have hns63_0:=NB374_389.out
        have hns63_1:=NB375_389.out
        have hms63_0:=NB389_374.out
        have hms63_1:=NB389_375.out
        have hs65 : w62.cell? ⟨gb389,1,none⟩ = some (.slice none 0 0):=(ai BK389.out 1).trans rfl
        have hfs65:=ag BK389.out 1
        have hns65_0:=NB374_389.out
        have hns65_1:=NB375_389.out
        have hms65_0:=NB389_374.out
        have hms65_1:=NB389_375.out
        refine dA (w1:=?_) (by rfl) rfl ?_ ?_
        rotate_left
        ·go_simp
         rfl
        refine hK.out _ _ ⟨((cell_far (p:=⟨gb389,_,none⟩) NB374_389.out _).trans (((cell_far (p:=⟨gb389,_,none⟩) NB374_389.out _).trans (hHeld.1)))),((cell_far (p:=⟨gb389,_,none⟩) NB374_389.out _).trans (((cell_far (p:=⟨gb389,_,none⟩) NB374_389.out _).trans (hHeld.2.1)))),((cell_far (p:=⟨gb389,_,none⟩) NB374_389.out _).trans (((cell_far (p:=⟨gb389,_,none⟩) NB374_389.out _).trans (hHeld.2.2.1)))),((cell_far (p:=⟨gb389,_,none⟩) (by exact Nat.ne_of_lt (Nat.lt_of_lt_of_le (by have:=World.block_lt_of_cell? _ _ hw384_0;exact this) GW389.out)) _).trans (((cell_far (p:=⟨gb389,_,none⟩) (by exact Nat.ne_of_lt (Nat.lt_of_lt_of_le (by have:=World.block_lt_of_cell? _ _ hw384_0;exact this) GW389.out)) _).trans (hHeld.2.2.2))))⟩ (fun hHeld=>?_)
        clear hK K
        refine cD (dg HT_.out (by kernel_rfl)) ?_
        have hnc67:=NB375_389.out
        have hnb69:=NB375_374.out
        have hnc69:=NB374_375.out
        have hcz70_0:=bcv (v:=.int .i64 x376000_2) BK375.out 0 rfl
        have hcz70_1:=bcv (v:=.string x376001_2) BK375.out 1 rfl
        have hfz70_0:=ag BK375.out 0
        have hfz70_1:=ag BK375.out 1
        try go_wp2
        refine bodyPost_ret (results_cell_row rfl _ _ gb375 63 #[.int .i64 t385,.string (⟨#[]⟩ : ByteArray)] (0,0) _ rfl (by refine aW (cs:=#[.int .i64 t385,.string x376001_2]) ?_ 1 _ rfl;refine aW (cs:=#[.int .i64 x376000_2,.string x376001_2]) ?_ 0 _ rfl;refine aX ?_ NB375_389.out _;refine aX ?_ NB375_389.out _;exact BK375.out) Try.underlying63 rfl (by kernel_rfl)) rfl ?_
        exact ⟨by rfl,by repeat ((with_reducible first|exact HB.out|refine ax ?_ GE375.out|refine ax ?_ GE389.out))⟩
      ·rw [if_neg c18] at H
       have c18b0:=decide_eq_false c18
       clear c18
       obtain ⟨c71,H⟩:=nn H
       have c71b1:=decide_eq_true c71
       clear c71
       obtain ⟨c72,H⟩:=nn H
       have c72b1:=decide_eq_true c72
       clear c72
       obtain ⟨y380,hy380⟩ : ∃ y_ : List Int,y_ = (x10_2.take (a2 : Int).toNat):=⟨_,rfl⟩
       rw [← hy380] at H
       have Ny380:=M0 hy380
       clear hy380
       simp only [Option.some.injEq,Prod.mk.injEq] at H
       obtain ⟨rfl,rfl⟩:=H
       obtain ⟨Ao74,co74,eo74⟩:=Kd.bc HO_10.out
       subst eo74
       have q73 : (a2 : Int) ≤ ((x10_2.length : Int) : Int):=of_decide_eq_true (by with_reducible assumption)
       obtain ⟨i073,hi073,_,hsz73,_⟩:=info_parts info5
       have hroom73 : x10_2.length ≤ co74:=(Kd.aE HO_10.out).2.1
       have hC73 : Kd.C (Kd.int .u8) _ Ao74 x10_2.length x10_2:=(Kd.aE HO_10.out).2.2
       have hcut73:=cut_to (P:=Try.prog) 37 5 .i64 Try.underlying37 hi073 Ao74 x10_2.length co74 a2 (of_decide_eq_true (by with_reducible assumption)) q73 hroom73
       have hr73:=Kd.C_take (m:=(a2 : Int).toNat) hC73 (by omega)
       have hy73 : y380.length = (a2 : Int).toNat:=(by rw [Ny380.out,List.length_take];omega)
       rw [← Ny380.out] at hr73
       rw [← hy73] at hcut73
       have HR383:=M0 hr73
       have HC383:=M0 (show y380.length ≤ co74 from by omega)
       clear hr73 hC73 hroom73 hi073 hsz73
       have KY73:=M0 hy73
       clear hy73
       have KL73:=M0 (show (a2 : Int).toNat ≤ x10_2.length from by omega)
       replace q73:=eq_true q73
       have hcv75:=Kd.C_string (P:=Try.prog) (A:=Ao74) (c:=co74) Try.underlying37 Try.underlying5 Try.underlying9 (by exact  HR383.out)
       have hcz77_0:=bcv (v:=.int .i64 x376000_2) BK375.out 0 rfl
       have hcz77_1:=bcv (v:=.string x376001_2) BK375.out 1 rfl
       have hfz77_0:=ag BK375.out 0
       have hfz77_1:=ag BK375.out 1
       go_wp2
       refine bodyPost_ret (results_cell_row rfl _ _ gb375 63 #[.int .i64 0,.string (strOfNums y380)] (0,0) _ rfl (by refine aW (cs:=#[.int .i64 0,.string x376001_2]) ?_ 1 _ rfl;refine aW (cs:=#[.int .i64 x376000_2,.string x376001_2]) ?_ 0 _ rfl;exact BK375.out) Try.underlying63 rfl (by kernel_rfl)) rfl ?_
       exact ⟨by rfl,by repeat ((with_reducible first|exact HB.out|refine ax ?_ GE375.out))⟩

end Go.Proofs.Ytffhbpepppodeaa.PFnExactJoinObject
