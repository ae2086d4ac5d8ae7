import Derived.Test.YtffhbpepppodeaaPFnExactJoinObjectx0
import Derived.Test.YtffhbpepppodeaaPFnExactJoinObjectx7
import Derived.Test.YtffhbpepppodeaaPFnExactJoinObjectx8
import Derived.Test.YtffhbpepppodeaaPFnExactJoinObjectx9
import Derived.Test.YtffhbpepppodeaaPFnExactJoinObjectx10
import Derived.Test.YtffhbpepppodeaaPFnExactJoinObjectx12
namespace Go.Proofs.Ytffhbpepppodeaa.PFnExactJoinObject
private theorem nn {α : Type} {c : Prop} [Decidable c] {a : Option α} {r : α} (h : (if c then a else none) = some r) : c ∧ a = some r:=by
 split at h
 ·exact ⟨‹c›,h⟩
 ·cases h
open Go.RowKit Go.Proofs.YtffhbpepppodeaaW.PrintWords Go.Proofs.YtffhbpepppodeaaW.PrintLast Go.Proofs.YtffhbpepppodeaaW.PrintMore
attribute [local go_sem] cF cG cW cX cn cp cI cJ   -- for this text's walks alone
set_option linter.unusedVariables false
set_option linter.unusedSimpArgs false

/-! ### an: function 17 -/
mutual
def an.j0 : Nat → Bool → Int → Int → List Int → Option (Int × Int × Int × List Int)
 | 0,_,_,_,_=>none
 | k + 1,x21,x291000,x291001,x291002=>if x21 = true then (some (1,0,0,([] : List Int))) else ((ay.f k x291000 x291001 x291002).bind fun t293=>(if t293 < x291000 then (some (5,0,0,([] : List Int))) else ((cA.f x291000 (wrap64 (2 * x291000))).bind fun bt294=>(an.l0 k x291000 0 x291000 x291001 x291002 bt294.1 bt294.2.1 bt294.2.2))))
def an.l0 : Nat → Int → Int → Int → Int → List Int → Int → Int → List Int → Option (Int × Int × Int × List Int)
 | 0,_,_,_,_,_,_,_,_=>none
 | k + 1,x3,x5,x291000,x291001,x291002,x300000,x300001,x300002=>if x5 < x3 then (an.l1 k x3 x5 0 x291000 x291001 x291002 x300000 x300001 x300002) else (an.l2 k x3 0 x300000 x300001 x300002)
def an.l1 : Nat → Int → Int → Int → Int → Int → List Int → Int → Int → List Int → Option (Int × Int × Int × List Int)
 | 0,_,_,_,_,_,_,_,_,_=>none
 | k + 1,x3,x5,x6,x291000,x291001,x291002,x300000,x300001,x300002=>if x6 < x3 then ((bs.f x291000 x291001 x291002 x5 x6).bind fun t300=>(if 0 ≤ (wrap64 ((wrap64 ((wrap64 (x5 * 2)) * x3)) + x6)) then (if (wrap64 ((wrap64 ((wrap64 (x5 * 2)) * x3)) + x6)) < (x300002.length : Int) then (an.l1 k x3 x5 (wrap64 (x6 + 1)) x291000 x291001 x291002 x300000 x300001 (x300002.set ((wrap64 ((wrap64 ((wrap64 (x5 * 2)) * x3)) + x6)) : Int).toNat t300)) else (none)) else (none))) else (if 0 ≤ (wrap64 ((wrap64 ((wrap64 ((wrap64 (x5 * 2)) * x3)) + x3)) + x5)) then (if (wrap64 ((wrap64 ((wrap64 ((wrap64 (x5 * 2)) * x3)) + x3)) + x5)) < (x300002.length : Int) then (an.l0 k x3 (wrap64 (x5 + 1)) x291000 x291001 x291002 x300000 x300001 (x300002.set ((wrap64 ((wrap64 ((wrap64 ((wrap64 (x5 * 2)) * x3)) + x3)) + x5)) : Int).toNat 1)) else (none)) else (none))
def an.l2 : Nat → Int → Int → Int → Int → List Int → Option (Int × Int × Int × List Int)
 | 0,_,_,_,_,_=>none
 | k + 1,x3,x7,x300000,x300001,x300002=>if x7 < x3 then (an.l3 k x3 x7 x7 x300000 x300001 x300002) else ((cA.f x3 x3).bind fun bt306=>(an.l4 k x3 0 x300000 x300001 x300002 bt306.1 bt306.2.1 bt306.2.2))
def an.l3 : Nat → Int → Int → Int → Int → Int → List Int → Option (Int × Int × Int × List Int)
 | 0,_,_,_,_,_,_=>none
 | k + 1,x3,x7,x8,x300000,x300001,x300002=>(bs.f x300000 x300001 x300002 x8 x7).bind fun t303=>(if t303 = 0 then (an.l3 k x3 x7 (wrap64 (x8 + 1)) x300000 x300001 x300002) else ((bp.f k x300000 x300001 x300002 x7 x8).bind fun t304=>((ao.f k x300000 x300001 t304 x7 x7).bind fun t305=>(an.l2 k x3 (wrap64 (x7 + 1)) x300000 x300001 t305))))
def an.l4 : Nat → Int → Int → Int → Int → List Int → Int → Int → List Int → Option (Int × Int × Int × List Int)
 | 0,_,_,_,_,_,_,_,_=>none
 | k + 1,x3,x10,x300000,x300001,x300002,x312000,x312001,x312002=>if x10 < x3 then (an.l5 k x3 x10 0 x300000 x300001 x300002 x312000 x312001 x312002) else (some (0,x312000,x312001,x312002))
def an.l5 : Nat → Int → Int → Int → Int → Int → List Int → Int → Int → List Int → Option (Int × Int × Int × List Int)
 | 0,_,_,_,_,_,_,_,_,_=>none
 | k + 1,x3,x10,x11,x300000,x300001,x300002,x312000,x312001,x312002=>if x11 < x3 then ((bs.f x300000 x300001 x300002 x10 (wrap64 (x3 + x11))).bind fun t312=>(if 0 ≤ (wrap64 ((wrap64 (x10 * x3)) + x11)) then (if (wrap64 ((wrap64 (x10 * x3)) + x11)) < (x312002.length : Int) then (an.l5 k x3 x10 (wrap64 (x11 + 1)) x300000 x300001 x300002 x312000 x312001 (x312002.set ((wrap64 ((wrap64 (x10 * x3)) + x11)) : Int).toNat t312)) else (none)) else (none))) else (an.l4 k x3 (wrap64 (x10 + 1)) x300000 x300001 x300002 x312000 x312001 x312002)
end
def an.f (k : Nat) (a0_0 : Int) (a0_1 : Int) (l0_2 : List Int) : Option (Int × Int × Int × List Int):=(aI.f k a0_0 a0_1 l0_2).bind fun t292=>(if t292 = 0 then (an.j0 k (a0_0 != a0_1) a0_0 a0_1 l0_2) else (an.j0 k true a0_0 a0_1 l0_2))
def an.T13 : Bool × List (List Nat × List Nat):=(true,[([],[]),([0],[0]),([],[]),([2],[2]),([],[]),([3,4],[3,4]),([],[]),([5,6],[5,6]),([],[]),([],[]),([],[]),([8,9,10],[8,9,10]),([1,7,0,1,2,3,4,5,6,7,8,9,10,11],[1,7]),([12,11,11,0,1,2,3,4,5,6,7,8,9,10,11],[11,12])])
def an.B13 : List Nat:=[0,1,0,4,0,28,0,124,0,0,0,1792,4095,8191]
theorem an.tab13 : rtab .any (opsOf Try.f17 13) = an.T13:=by kernel_rfl
theorem an.bits13 : cQ an.T13.2 an.B13 = true:=by kernel_rfl
def an.T30 : Bool × List (List Nat × List Nat):=(true,[([],[]),([0],[0]),([],[]),([],[]),([2,3],[2,3]),([],[]),([4,5],[4,5]),([],[]),([],[]),([],[]),([],[]),([9,10],[9,10]),([7,8,11],[7,8,11]),([1,6,0,1,2,3,4,5,6,7,8,9,10,11,12],[1,6]),([13,12,12,0,1,2,3,4,5,6,7,8,9,10,11,12],[12,13])])
def an.B30 : List Nat:=[0,1,0,0,12,0,60,0,0,0,0,1536,3968,8191,16383]
theorem an.tab30 : rtab .any (opsOf Try.f17 30) = an.T30:=by kernel_rfl
theorem an.bits30 : cQ an.T30.2 an.B30 = true:=by kernel_rfl
set_option maxHeartbeats 8000000 in
set_option maxRecDepth 100000 in
theorem an.calls (k : Nat) (a0_0 : Int) (a0_1 : Int) (A0_2 : Option Addr) (c0_2 : Nat) (l0_2 : List Int) (r1 : Int) (r2 : Int) (r3 : Int) (r4 : List Int) (w : World) (hr0_2 : Kd.C (Kd.int .i64) w A0_2 l0_2.length l0_2) (hc0_2 : l0_2.length ≤ c0_2) (h : an.f k a0_0 a0_1 l0_2 = some (r1,r2,r3,r4)) :
  Calls Try.prog 17 #[.agg #[.int .i64 a0_0,.int .i64 a0_1,.slice A0_2 l0_2.length c0_2]] w fun e w'=>∃ v3_ : Value,e = .returned (.agg #[.int .i64 r1,.int .i64 r2,.int .i64 r3,v3_]) ∧ Kd.R (Kd.int .i64) 2 w' w.heap.size (fun _=>True) v3_ r4 ∧ Below w.heap.size w w':=by
 have HR0_2:=M0 hr0_2
 have HC0_2:=M0 hc0_2
 clear hr0_2 hc0_2
 have HB:=M0 (Below.refl w.heap.size w)
 have H : ((aI.f k a0_0 a0_1 l0_2).bind fun t292=>(if t292 = 0 then (an.j0 k (a0_0 != a0_1) a0_0 a0_1 l0_2) else (an.j0 k true a0_0 a0_1 l0_2))) = some (r1,r2,r3,r4):=h
 clear h
 have HC2:=M0 H
 clear H
 go_enter Try.func17,Try.ntmps17
 go_upto_region 1 with (first|((with_reducible refine ak (N:=1) rfl ?_);refine aw rfl (N:=1) rfl (cs:=#[.int .i64 a0_0,.int .i64 a0_1,.slice A0_2 l0_2.length c0_2]) (t:=27) (by go_simp) ?_;intro gb290 hg w3 hbox hb;have BK290:=M0 (hbox);replace HB:=M0 (aa HB.out hb);clear hb hbox hg)|((with_reducible refine ak (N:=2) rfl ?_);refine aw rfl (N:=2) rfl (cs:=#[.int .i64 0,.int .i64 0,.int .i64 0,.slice none 0 0]) (t:=32) (by go_simp) ?_;intro gb291 hg w4 hbox hb;have BK291:=M0 (hbox);have GW291:=M0 ((by rw [hg];exact (aj HB.out) : w.heap.size ≤ gb291));have GE291:=GW291;replace HB:=M0 (aa HB.out hb);have NB290_291:=M0 ((by rw [hg];exact Nat.ne_of_lt (a7 BK290.out) : gb290 ≠ gb291));replace BK290:=M0 (ab BK290.out hb);clear hb hbox hg))
 (try simp only [Act.put,List.setIfInBounds_toArray,List.set_cons_zero,List.set_cons_succ])
 go_cut [21] (fun v21 wc=>∃ (kq : Nat) (x21_1 : Bool),v21 = .bool x21_1 ∧ Aside0 (an.j0 kq x21_1 a0_0 a0_1 l0_2 = some (r1,r2,r3,r4)) ∧ Aside0 (kq ≤ k) ∧ Aside0 (wc.heap[gb290]? = some (.cells #[.int .i64 a0_0,.int .i64 a0_1,(.slice A0_2 l0_2.length c0_2)] 27 (0,0))) ∧ Aside0 (wc.heap[gb291]? = some (.cells #[.int .i64 0,.int .i64 0,.int .i64 0,(.slice none 0 0)] 32 (0,0))) ∧ Aside0 (Below w.heap.size w wc))
 case first=>
  have H:=HC2.out
  clear HC2
  replace H:=Option.bind_eq_some_iff.mp H
  obtain ⟨t292,A50,H⟩:=H
  replace H : (if t292 = 0 then (an.j0 k (a0_0 != a0_1) a0_0 a0_1 l0_2) else (an.j0 k true a0_0 a0_1 l0_2)) = some (r1,r2,r3,r4):=H
  have A5:=M0 A50
  clear A50
  by_cases c6 : t292 = 0
  ·rw [if_pos c6] at H
   have c6b1 : (t292 != 0) = false:=bne_eq_false_iff_eq.mpr c6
   clear c6
   (skip)
   have H':=M0 H
   clear H
   have hcz8_0:=bcv (v:=.int .i64 a0_0) BK290.out 0 rfl
   have hcz8_1:=bcv (v:=.int .i64 a0_1) BK290.out 1 rfl
   have hcz8_2:=bcv (v:=.slice A0_2 l0_2.length c0_2) BK290.out 2 rfl
   go_wp2_with (((with_reducible refine ah (f:=24) rfl ?_);refine aH (some 13) rfl rfl Try.func24 (by kernel_rfl) rfl #[.agg #[.int .i64 a0_0,.int .i64 a0_1,.slice A0_2 l0_2.length c0_2]] rfl (by (try simp only [List.map_toArray,List.map_cons,List.map_nil]);rfl) ?_;(with_reducible refine (aI.calls k a0_0 a0_1 _ _ l0_2 t292 _ (Kd.a8 HR0_2.out HB.out) HC0_2.out A5.out).mono ?_);rintro e w9 ⟨rfl,hb⟩;refine ⟨_,rfl,?_⟩;replace BK290:=M0 (ab BK290.out hb);replace BK291:=M0 (ab BK291.out hb);replace HB:=M0 (aa HB.out hb);clear hb;have hcz10_0:=bcv (v:=.int .i64 a0_0) BK290.out 0 rfl;have hcz10_1:=bcv (v:=.int .i64 a0_1) BK290.out 1 rfl))
   go_meet
   case rel=>exact ⟨_,((a0_0 != a0_1)),(by rfl),H',⟨by omega⟩,⟨by exact BK290.out⟩,⟨by exact BK291.out⟩,⟨HB.out⟩⟩
  ·rw [if_neg c6] at H
   have c6b1 : (t292 != 0) = true:=bne_iff_ne.mpr c6
   (skip)
   have H':=M0 H
   clear H
   have hcz12_0:=bcv (v:=.int .i64 a0_0) BK290.out 0 rfl
   have hcz12_1:=bcv (v:=.int .i64 a0_1) BK290.out 1 rfl
   have hcz12_2:=bcv (v:=.slice A0_2 l0_2.length c0_2) BK290.out 2 rfl
   go_wp2_with (((with_reducible refine ah (f:=24) rfl ?_);refine aH (some 13) rfl rfl Try.func24 (by kernel_rfl) rfl #[.agg #[.int .i64 a0_0,.int .i64 a0_1,.slice A0_2 l0_2.length c0_2]] rfl (by (try simp only [List.map_toArray,List.map_cons,List.map_nil]);rfl) ?_;(with_reducible refine (aI.calls k a0_0 a0_1 _ _ l0_2 t292 _ (Kd.a8 HR0_2.out HB.out) HC0_2.out A5.out).mono ?_);rintro e w13 ⟨rfl,hb⟩;refine ⟨_,rfl,?_⟩;replace BK290:=M0 (ab BK290.out hb);replace BK291:=M0 (ab BK291.out hb);replace HB:=M0 (aa HB.out hb);clear hb))
   go_meet
   case rel=>exact ⟨_,(true),(by rfl),H',⟨by omega⟩,⟨by exact BK290.out⟩,⟨by exact BK291.out⟩,⟨HB.out⟩⟩
 case rest=>
  clear HC2
  obtain ⟨kq,x21_1,rfl,HA,HJ1,BK290,BK291,HB⟩:=hcut
  cases kq with
  | zero=>exact absurd HA.out (by simp [an.j0])
  | succ kj1=>
   have H:=HA.out
   clear HA
   simp only [an.j0] at H
   by_cases c14 : x21_1 = true
   ·subst c14
    have H1 : (some (1,0,0,([] : List Int))) = some (r1,r2,r3,r4):=by rw [if_pos rfl] at H;exact H
    clear H
    have H:=H1
    clear H1
    simp only [Option.some.injEq,Prod.mk.injEq] at H
    obtain ⟨rfl,rfl,rfl,rfl⟩:=H
    have hcz16_0:=bcv (v:=.int .i64 0) BK291.out 0 rfl
    have hcz16_1:=bcv (v:=.int .i64 0) BK291.out 1 rfl
    have hcz16_2:=bcv (v:=.int .i64 0) BK291.out 2 rfl
    have hcz16_3:=bcv (v:=.slice none 0 0) BK291.out 3 rfl
    have hfz16_0:=ag BK291.out 0
    have hfz16_1:=ag BK291.out 1
    have hfz16_2:=ag BK291.out 2
    have hfz16_3:=ag BK291.out 3
    go_wp2
    refine bodyPost_ret (results_cell_row rfl _ _ gb291 32 #[.int .i64 1,.int .i64 0,.int .i64 0,.slice none 0 0] (0,0) _ rfl (by refine aW (cs:=#[.int .i64 1,.int .i64 0,.int .i64 0,.slice none 0 0]) ?_ 3 _ rfl;refine aW (cs:=#[.int .i64 1,.int .i64 0,.int .i64 0,.slice none 0 0]) ?_ 2 _ rfl;refine aW (cs:=#[.int .i64 1,.int .i64 0,.int .i64 0,.slice none 0 0]) ?_ 1 _ rfl;refine aW (cs:=#[.int .i64 0,.int .i64 0,.int .i64 0,.slice none 0 0]) ?_ 0 _ rfl;exact BK291.out) Try.underlying32 rfl (by kernel_rfl)) rfl ?_
    exact ⟨_,by rfl,by exact Kd.R_nil _ _ _ _ _,by repeat ((with_reducible first|exact HB.out|refine ax ?_ GE291.out))⟩
   ·replace c14:=Bool.eq_false_iff.mpr c14
    subst c14
    have H1 : ((ay.f kj1 a0_0 a0_1 l0_2).bind fun t293=>(if t293 < a0_0 then (some (5,0,0,([] : List Int))) else ((cA.f a0_0 (wrap64 (2 * a0_0))).bind fun bt294=>(an.l0 kj1 a0_0 0 a0_0 a0_1 l0_2 bt294.1 bt294.2.1 bt294.2.2)))) = some (r1,r2,r3,r4):=by rw [if_neg (show ¬ (false = true) by decide)] at H;exact H
    clear H
    have H:=H1
    clear H1
    replace H:=Option.bind_eq_some_iff.mp H
    obtain ⟨t293,A170,H⟩:=H
    replace H : (if t293 < a0_0 then (some (5,0,0,([] : List Int))) else ((cA.f a0_0 (wrap64 (2 * a0_0))).bind fun bt294=>(an.l0 kj1 a0_0 0 a0_0 a0_1 l0_2 bt294.1 bt294.2.1 bt294.2.2))) = some (r1,r2,r3,r4):=H
    have A17:=M0 A170
    clear A170
    by_cases c18 : t293 < a0_0
    ·rw [if_pos c18] at H
     have c18b0:=decide_eq_true c18
     clear c18
     simp only [Option.some.injEq,Prod.mk.injEq] at H
     obtain ⟨rfl,rfl,rfl,rfl⟩:=H
     try go_wp2
     replace BK290:=M0 (bl BK290.out)
     replace BK291:=M0 (bl BK291.out)
     replace HB:=M0 (aQ HB.out)
     refine bW (n:=5) (S:=fun w'=>w'.cell? ⟨gb290,0,none⟩ = some (.int .i64 a0_0) ∧ w'.cell? ⟨gb290,1,none⟩ = some (.int .i64 a0_1) ∧ w'.cell? ⟨gb290,2,none⟩ = some (.slice A0_2 l0_2.length c0_2)) (ds:=[]) #[O,O,O,O,O] (by kernel_rfl) rfl rfl ⟨(ai BK290.out 0).trans rfl,(ai BK290.out 1).trans rfl,(ai BK290.out 2).trans rfl⟩ (fun hHeld=>?_)
     generalize wc.drew = w19 at BK290 BK291 HB hHeld ⊢
     refine aq (i:=2) (N:=some 25) #[O,O,I,O,O] rfl rfl (by kernel_rfl) (fun _ _ _ h=>h) (Or.inl ⟨by rfl,by intro w';go_simp;with_reducible rfl⟩) (by simp only [Act.put,List.setIfInBounds_toArray,List.set_cons_zero,List.set_cons_succ,ae,af];rfl) ?_
     refine bn (i:=0) (N:=some 23) #[I,O,I,O,O] rfl rfl (by kernel_rfl) (fun _ _ _ h=>h) (Or.inl ⟨by rfl,by rintro w' ⟨s0,s1,s2⟩;go_simp;with_reducible rfl⟩) hHeld (by simp only [Act.put,List.setIfInBounds_toArray,List.set_cons_zero,List.set_cons_succ,ae,af];rfl) ?_
     refine bn (i:=3) (N:=some 26) #[I,O,I,I,O] rfl rfl (by kernel_rfl) (fun _ _ _ h=>h) (Or.inl ⟨by rfl,by rintro w' ⟨s0,s1,s2⟩;go_simp;with_reducible rfl⟩) hHeld (by simp only [Act.put,List.setIfInBounds_toArray,List.set_cons_zero,List.set_cons_succ,ae,af];rfl) ?_
     refine one_ (i:=1) (N:=some 24) #[I,I,I,I,O] rfl rfl (by kernel_rfl) (by decide) (fun K hK=>?_)
     refine cE Try.func59 (by kernel_rfl) rfl #[.agg #[.int .i64 a0_0,.int .i64 a0_1,.slice A0_2 l0_2.length c0_2]] (by rfl) rfl rfl (by (try simp only [List.map_toArray,List.map_cons,List.map_nil]);rfl) ?_
     with_reducible refine (ay.calls kj1 a0_0 a0_1 _ _ l0_2 t293 _ ?side1 ?side2 A17.out).mono ?_
     (case side1=>exact (Kd.a8 HR0_2.out HB.out))
     (case side2=>exact HC0_2.out)
     rintro e w20 ⟨rfl,hb⟩
     refine ⟨_,rfl,?_⟩
     replace BK290:=M0 (ab BK290.out hb)
     replace BK291:=M0 (ab BK291.out hb)
     replace HB:=M0 (aa HB.out hb)
     clear hb
     refine hK.out _ _ ⟨(ai BK290.out 0).trans rfl,(ai BK290.out 1).trans rfl,(ai BK290.out 2).trans rfl⟩ (fun hHeld=>?_)
     clear hK K
     refine bz (a':=?_) ?_ ?_
     rotate_left
     ·show Act.put _ (some 24) _ = _
      simp only [Act.put,List.setIfInBounds_toArray,List.set_cons_zero,List.set_cons_succ,ae,af]
      rfl
     refine aq (i:=4) (N:=some 27) #[I,I,I,I,I] rfl rfl (by kernel_rfl) (fun _ _ _ h=>h) (Or.inl ⟨by rfl,by intro w';go_simp;with_reducible rfl⟩) (by simp only [Act.put,List.setIfInBounds_toArray,List.set_cons_zero,List.set_cons_succ,ae,af];rfl) ?_
     refine cD (by kernel_rfl) ?_
     have hcz22_0:=bcv (v:=.int .i64 0) BK291.out 0 rfl
     have hcz22_1:=bcv (v:=.int .i64 0) BK291.out 1 rfl
     have hcz22_2:=bcv (v:=.int .i64 0) BK291.out 2 rfl
     have hcz22_3:=bcv (v:=.slice none 0 0) BK291.out 3 rfl
     have hfz22_0:=ag BK291.out 0
     have hfz22_1:=ag BK291.out 1
     have hfz22_2:=ag BK291.out 2
     have hfz22_3:=ag BK291.out 3
     try go_wp2
     refine bodyPost_ret (results_cell_row rfl _ _ gb291 32 #[.int .i64 5,.int .i64 0,.int .i64 0,.slice none 0 0] (0,0) _ rfl (by refine aW (cs:=#[.int .i64 5,.int .i64 0,.int .i64 0,.slice none 0 0]) ?_ 3 _ rfl;refine aW (cs:=#[.int .i64 5,.int .i64 0,.int .i64 0,.slice none 0 0]) ?_ 2 _ rfl;refine aW (cs:=#[.int .i64 5,.int .i64 0,.int .i64 0,.slice none 0 0]) ?_ 1 _ rfl;refine aW (cs:=#[.int .i64 0,.int .i64 0,.int .i64 0,.slice none 0 0]) ?_ 0 _ rfl;exact BK291.out) Try.underlying32 rfl (by kernel_rfl)) rfl ?_
     exact ⟨_,by rfl,by exact Kd.R_nil _ _ _ _ _,by repeat ((with_reducible first|exact HB.out|refine ax ?_ GE291.out))⟩
    ·rw [if_neg c18] at H
     have c18b0:=decide_eq_false c18
     clear c18
     replace H:=Option.bind_eq_some_iff.mp H
     obtain ⟨⟨t294,t295,t296⟩,A230,H⟩:=H
     dsimp only at H
     have A23:=M0 A230
     clear A230
     have H':=M0 H
     clear H
     try go_wp2
     replace BK290:=M0 (bl BK290.out)
     replace BK291:=M0 (bl BK291.out)
     replace HB:=M0 (aQ HB.out)
     refine bW (n:=5) (S:=fun w'=>w'.cell? ⟨gb290,0,none⟩ = some (.int .i64 a0_0) ∧ w'.cell? ⟨gb290,1,none⟩ = some (.int .i64 a0_1) ∧ w'.cell? ⟨gb290,2,none⟩ = some (.slice A0_2 l0_2.length c0_2)) (ds:=[]) #[O,O,O,O,O] (by kernel_rfl) rfl rfl ⟨(ai BK290.out 0).trans rfl,(ai BK290.out 1).trans rfl,(ai BK290.out 2).trans rfl⟩ (fun hHeld=>?_)
     generalize wc.drew = w24 at BK290 BK291 HB hHeld ⊢
     refine aq (i:=2) (N:=some 25) #[O,O,I,O,O] rfl rfl (by kernel_rfl) (fun _ _ _ h=>h) (Or.inl ⟨by rfl,by intro w';go_simp;with_reducible rfl⟩) (by simp only [Act.put,List.setIfInBounds_toArray,List.set_cons_zero,List.set_cons_succ,ae,af];rfl) ?_
     refine bn (i:=0) (N:=some 23) #[I,O,I,O,O] rfl rfl (by kernel_rfl) (fun _ _ _ h=>h) (Or.inl ⟨by rfl,by rintro w' ⟨s0,s1,s2⟩;go_simp;with_reducible rfl⟩) hHeld (by simp only [Act.put,List.setIfInBounds_toArray,List.set_cons_zero,List.set_cons_succ,ae,af];rfl) ?_
     refine bn (i:=3) (N:=some 26) #[I,O,I,I,O] rfl rfl (by kernel_rfl) (fun _ _ _ h=>h) (Or.inl ⟨by rfl,by rintro w' ⟨s0,s1,s2⟩;go_simp;with_reducible rfl⟩) hHeld (by simp only [Act.put,List.setIfInBounds_toArray,List.set_cons_zero,List.set_cons_succ,ae,af];rfl) ?_
     refine one_ (i:=1) (N:=some 24) #[I,I,I,I,O] rfl rfl (by kernel_rfl) (by decide) (fun K hK=>?_)
     refine cE Try.func59 (by kernel_rfl) rfl #[.agg #[.int .i64 a0_0,.int .i64 a0_1,.slice A0_2 l0_2.length c0_2]] (by rfl) rfl rfl (by (try simp only [List.map_toArray,List.map_cons,List.map_nil]);rfl) ?_
     with_reducible refine (ay.calls kj1 a0_0 a0_1 _ _ l0_2 t293 _ ?side1 ?side2 A17.out).mono ?_
     (case side1=>exact (Kd.a8 HR0_2.out HB.out))
     (case side2=>exact HC0_2.out)
     rintro e w25 ⟨rfl,hb⟩
     refine ⟨_,rfl,?_⟩
     replace BK290:=M0 (ab BK290.out hb)
     replace BK291:=M0 (ab BK291.out hb)
     replace HB:=M0 (aa HB.out hb)
     clear hb
     refine hK.out _ _ ⟨(ai BK290.out 0).trans rfl,(ai BK290.out 1).trans rfl,(ai BK290.out 2).trans rfl⟩ (fun hHeld=>?_)
     clear hK K
     refine bz (a':=?_) ?_ ?_
     rotate_left
     ·show Act.put _ (some 24) _ = _
      simp only [Act.put,List.setIfInBounds_toArray,List.set_cons_zero,List.set_cons_succ,ae,af]
      rfl
     refine aq (i:=4) (N:=some 27) #[I,I,I,I,I] rfl rfl (by kernel_rfl) (fun _ _ _ h=>h) (Or.inl ⟨by rfl,by intro w';go_simp;with_reducible rfl⟩) (by simp only [Act.put,List.setIfInBounds_toArray,List.set_cons_zero,List.set_cons_succ,ae,af];rfl) ?_
     refine cD (by kernel_rfl) ?_
     have hcz27_0:=bcv (v:=.int .i64 a0_0) BK290.out 0 rfl
     have hcz27_1:=bcv (v:=.int .i64 a0_1) BK290.out 1 rfl
     have hcz27_2:=bcv (v:=.slice A0_2 l0_2.length c0_2) BK290.out 2 rfl
     have hfz27_0:=ag BK290.out 0
     have hfz27_1:=ag BK290.out 1
     have hfz27_2:=ag BK290.out 2
     try go_wp2_with (first|((with_reducible refine ah (f:=66) rfl ?_);refine aH (some 34) rfl rfl Try.func66 (by kernel_rfl) rfl #[.int .i64 a0_0,.int .i64 (wrap64 (2 * a0_0))] rfl (by (try simp only [List.map_toArray,List.map_cons,List.map_nil]);rfl) ?_;(with_reducible refine (cA.calls a0_0 (wrap64 (2 * a0_0)) t294 t295 t296 _ A23.out).mono ?_);rintro e w28 ⟨v297,rfl,ho0,hb⟩;refine ⟨_,rfl,?_⟩;have HO298:=M0 (Kd.bj ho0 (aj HB.out));replace BK290:=M0 (ab BK290.out hb);replace BK291:=M0 (ab BK291.out hb);replace HB:=M0 (aa HB.out hb);clear hb ho0)|((with_reducible refine ak (N:=4) rfl ?_);refine aw rfl (N:=4) rfl (cs:=#[.int .i64 0,.int .i64 0,.slice none 0 0]) (t:=27) (by go_simp) ?_;intro gb299 hg w29 hbox hb;replace HO298:=M0 (Kd.aK HO298.out hb);have BK299:=M0 (hbox);have GW299:=M0 ((by rw [hg];exact (aj HB.out) : w.heap.size ≤ gb299));have GE299:=GW299;replace HB:=M0 (aa HB.out hb);have NB290_299:=M0 ((by rw [hg];exact Nat.ne_of_lt (a7 BK290.out) : gb290 ≠ gb299));replace BK290:=M0 (ab BK290.out hb);have NB291_299:=M0 ((by rw [hg];exact Nat.ne_of_lt (a7 BK291.out) : gb291 ≠ gb299));replace BK291:=M0 (ab BK291.out hb);clear hb hbox hg;have hcz32_0:=bcv (v:=.int .i64 0) BK299.out 0 rfl;have hcz32_1:=bcv (v:=.int .i64 0) BK299.out 1 rfl;have hcz32_2:=bcv (v:=.slice none 0 0) BK299.out 2 rfl;have hfz32_0:=ag BK299.out 0;have hfz32_1:=ag BK299.out 1;have hfz32_2:=ag BK299.out 2;obtain ⟨Ao33,co33,eo33⟩:=Kd.bc HO298.out;subst eo33))
     go_loopg [5] kj1 (fun kq v5 w'=>∃ (x5_2 : Int) (x300002_2 : List Int) (u300002 : Value),v5 = .int .i64 x5_2 ∧ Aside0 (an.l0 kq a0_0 x5_2 a0_0 a0_1 l0_2 t294 t295 x300002_2 = some (r1,r2,r3,r4)) ∧ Aside0 (kq ≤ kj1) ∧ Aside0 (Kd.R (Kd.int .i64) 2 w' w.heap.size (fun _=>True) u300002 x300002_2) ∧ Aside0 (w'.heap[gb290]? = some (.cells #[.int .i64 a0_0,.int .i64 a0_1,(.slice A0_2 l0_2.length c0_2)] 27 (0,0))) ∧ Aside0 (w'.heap[gb291]? = some (.cells #[.int .i64 0,.int .i64 0,.int .i64 0,(.slice none 0 0)] 32 (0,0))) ∧ Aside0 (w'.heap[gb299]? = some (.cells #[.int .i64 t294,.int .i64 t295,u300002] 27 (0,0))) ∧ Aside0 (Below w.heap.size w w'))
     case atStart=>exact ⟨(0),(t296),(.slice Ao33 t296.length co33),(by rfl),H',⟨Nat.le_refl _⟩,⟨by exact Kd.bb (Kd.bw (p:=⟨gb299,2,none⟩) (Kd.bw (p:=⟨gb299,1,none⟩) (Kd.bw (p:=⟨gb299,0,none⟩) (Kd.bP HO298.out BK299.out (by decide)) (fun _ hk=>hk.2) (.int .i64 t294)) (fun _ hk=>hk.2) (.int .i64 t295)) (fun _ hk=>hk.2) (.slice Ao33 t296.length co33)) (fun _ hk=>trivial)⟩,⟨by refine aX ?_ NB290_299.out _;refine aX ?_ NB290_299.out _;refine aX ?_ NB290_299.out _;exact BK290.out⟩,⟨by refine aX ?_ NB291_299.out _;refine aX ?_ NB291_299.out _;refine aX ?_ NB291_299.out _;exact BK291.out⟩,⟨by refine aW (cs:=#[.int .i64 t294,.int .i64 t295,.slice none 0 0]) ?_ 2 _ rfl;refine aW (cs:=#[.int .i64 t294,.int .i64 0,.slice none 0 0]) ?_ 1 _ rfl;refine aW (cs:=#[.int .i64 0,.int .i64 0,.slice none 0 0]) ?_ 0 _ rfl;exact BK299.out⟩,⟨by repeat ((with_reducible first|exact HB.out|refine ax ?_ GE299.out))⟩⟩
     case round=>
      clear H'
      (try clear c18b0);(try clear hcz27_0);(try clear hcz27_1);(try clear hcz27_2);(try clear hcz32_0);(try clear hcz32_1);(try clear hcz32_2);(try clear hfz27_0);(try clear hfz27_1);(try clear hfz27_2);(try clear hfz32_0);(try clear hfz32_1);(try clear hfz32_2)
      obtain ⟨x5_2,x300002_2,u300002,rfl,HA,HK2,HO_300002,BK290,BK291,BK299,HB⟩:=hrel
      cases gk with
      | zero=>exact absurd HA.out (by simp [an.l0])
      | succ k2=>
       have H:=HA.out
       clear HA
       simp only [an.l0] at H
       by_cases c34 : x5_2 < a0_0
       ·rw [if_pos c34] at H
        have c34b0:=decide_eq_true c34
        clear c34
        have H':=M0 H
        clear H
        go_wp2
        go_loopg [6] k2 (fun kq v6 w'=>∃ (x6_3 : Int) (x300002_3 : List Int) (u300002 : Value),v6 = .int .i64 x6_3 ∧ Aside0 (an.l1 kq a0_0 x5_2 x6_3 a0_0 a0_1 l0_2 t294 t295 x300002_3 = some (r1,r2,r3,r4)) ∧ Aside0 (kq ≤ k2) ∧ Aside0 (Kd.R (Kd.int .i64) 2 w' w.heap.size (fun _=>True) u300002 x300002_3) ∧ Aside0 (w'.heap[gb290]? = some (.cells #[.int .i64 a0_0,.int .i64 a0_1,(.slice A0_2 l0_2.length c0_2)] 27 (0,0))) ∧ Aside0 (w'.heap[gb291]? = some (.cells #[.int .i64 0,.int .i64 0,.int .i64 0,(.slice none 0 0)] 32 (0,0))) ∧ Aside0 (w'.heap[gb299]? = some (.cells #[.int .i64 t294,.int .i64 t295,u300002] 27 (0,0))) ∧ Aside0 (Below w.heap.size w w'))
        case atStart=>exact ⟨(0),(x300002_2),(u300002),(by rfl),H',⟨Nat.le_refl _⟩,⟨by exact HO_300002.out⟩,⟨by exact BK290.out⟩,⟨by exact BK291.out⟩,⟨by exact BK299.out⟩,⟨HB.out⟩⟩
        case round=>
         clear H'
         (try clear c34b0)
         obtain ⟨x6_3,x300002_3,u300002,rfl,HA,HK3,HO_300002,BK290,BK291,BK299,HB⟩:=hrel
         cases gk with
         | zero=>exact absurd HA.out (by simp [an.l1])
         | succ k3=>
          have H:=HA.out
          clear HA
          simp only [an.l1] at H
          by_cases c35 : x6_3 < a0_0
          ·rw [if_pos c35] at H
           have c35b0:=decide_eq_true c35
           clear c35
           replace H:=Option.bind_eq_some_iff.mp H
           obtain ⟨t300,A360,H⟩:=H
           replace H : (if 0 ≤ (wrap64 ((wrap64 ((wrap64 (x5_2 * 2)) * a0_0)) + x6_3)) then (if (wrap64 ((wrap64 ((wrap64 (x5_2 * 2)) * a0_0)) + x6_3)) < (x300002_3.length : Int) then (an.l1 k3 a0_0 x5_2 (wrap64 (x6_3 + 1)) a0_0 a0_1 l0_2 t294 t295 (x300002_3.set ((wrap64 ((wrap64 ((wrap64 (x5_2 * 2)) * a0_0)) + x6_3)) : Int).toNat t300)) else (none)) else (none)) = some (r1,r2,r3,r4):=H
           have A36:=M0 A360
           clear A360
           obtain ⟨ji37,hji37⟩ : ∃ j_ : Int,(wrap64 ((wrap64 ((wrap64 (x5_2 * 2)) * a0_0)) + x6_3)) = j_:=⟨_,rfl⟩
           replace H : (if 0 ≤ (ji37) then (if (ji37) < (x300002_3.length : Int) then (an.l1 k3 a0_0 x5_2 (wrap64 (x6_3 + 1)) a0_0 a0_1 l0_2 t294 t295 (x300002_3.set ((ji37) : Int).toNat t300)) else (none)) else (none)) = some (r1,r2,r3,r4):=by (rw [hji37] at H;exact H)
           have hji37w : (IntKind.i64.wrap ((wrap64 ((wrap64 (x5_2 * 2)) * a0_0)) + x6_3)) = ji37:=(ae _).trans hji37
           obtain ⟨c38,H⟩:=nn H
           have c38b0:=decide_eq_true c38
           clear c38
           obtain ⟨c39,H⟩:=nn H
           have c39b0:=decide_eq_true c39
           clear c39
           obtain ⟨y301,hy301⟩ : ∃ y_ : List Int,y_ = (x300002_3.set ((ji37) : Int).toNat t300):=⟨_,rfl⟩
           rw [← hy301] at H
           have Ny301:=M0 hy301
           clear hy301
           have H':=M0 H
           clear H
           try go_wp2
           replace HO_300002:=M0 (Kd.cL HO_300002.out)
           replace BK290:=M0 (bl BK290.out)
           replace BK291:=M0 (bl BK291.out)
           replace BK299:=M0 (bl BK299.out)
           replace HB:=M0 (aQ HB.out)
           refine bW (n:=14) (S:=fun w'=>w'.cell? ⟨gb299,0,none⟩ = some (.int .i64 t294) ∧ w'.cell? ⟨gb299,1,none⟩ = some (.int .i64 t295) ∧ w'.cell? ⟨gb299,2,none⟩ = some (u300002) ∧ w'.cell? ⟨gb290,0,none⟩ = some (.int .i64 a0_0) ∧ w'.cell? ⟨gb290,1,none⟩ = some (.int .i64 a0_1) ∧ w'.cell? ⟨gb290,2,none⟩ = some (.slice A0_2 l0_2.length c0_2)) (ds:=[13]) #[O,O,O,O,O,O,O,O,O,O,O,O,O,O] (by kernel_rfl) rfl rfl ⟨(ai BK299.out 0).trans rfl,(ai BK299.out 1).trans rfl,(ai BK299.out 2).trans rfl,(ai BK290.out 0).trans rfl,(ai BK290.out 1).trans rfl,(ai BK290.out 2).trans rfl⟩ (fun hHeld=>?_);refine cr an.tab13 an.bits13 (fun HT_ HW_=>?_)
           generalize wr.drew = w41 at HO_300002 BK290 BK291 BK299 HB hHeld ⊢
           refine aq (i:=0) (N:=some 45) #[I,O,O,O,O,O,O,O,O,O,O,O,O,O] rfl rfl (aM HT_.out (by kernel_rfl)) (fun _ _ _ h=>h) (Or.inl ⟨by rfl,by intro w';go_simp;with_reducible rfl⟩) (by simp only [Act.put,List.setIfInBounds_toArray,List.set_cons_zero,List.set_cons_succ,ae,af];rfl) ?_
           refine aq (i:=2) (N:=some 47) #[I,O,I,O,O,O,O,O,O,O,O,O,O,O] rfl rfl (aM HT_.out (by kernel_rfl)) (fun _ _ _ h=>h) (Or.inl ⟨by rfl,by intro w';go_simp;with_reducible rfl⟩) (by simp only [Act.put,List.setIfInBounds_toArray,List.set_cons_zero,List.set_cons_succ,ae,af];rfl) ?_
           refine aq (i:=3) (N:=some 48) #[I,O,I,I,O,O,O,O,O,O,O,O,O,O] rfl rfl (aM HT_.out (by kernel_rfl)) (fun _ _ _ h=>h) (Or.inl ⟨by rfl,by intro w';go_simp;with_reducible rfl⟩) (by simp only [Act.put,List.setIfInBounds_toArray,List.set_cons_zero,List.set_cons_succ,ae,af];rfl) ?_
           refine aq (i:=4) (N:=some 49) #[I,O,I,I,I,O,O,O,O,O,O,O,O,O] rfl rfl (aM HT_.out (by kernel_rfl)) (fun _ _ _ h=>h) (Or.inl ⟨by rfl,by intro w';go_simp;with_reducible rfl⟩) (by simp only [Act.put,List.setIfInBounds_toArray,List.set_cons_zero,List.set_cons_succ,ae,af];rfl) ?_
           refine aq (i:=5) (N:=some 50) #[I,O,I,I,I,I,O,O,O,O,O,O,O,O] rfl rfl (aM HT_.out (by kernel_rfl)) (fun _ _ _ h=>h) (Or.inl ⟨by rfl,by intro w';go_simp;with_reducible rfl⟩) (by simp only [Act.put,List.setIfInBounds_toArray,List.set_cons_zero,List.set_cons_succ,ae,af];rfl) ?_
           refine aq (i:=6) (N:=some 51) #[I,O,I,I,I,I,I,O,O,O,O,O,O,O] rfl rfl (aM HT_.out (by kernel_rfl)) (fun _ _ _ h=>h) (Or.inl ⟨by rfl,by intro w';go_simp;with_reducible rfl⟩) (by simp only [Act.put,List.setIfInBounds_toArray,List.set_cons_zero,List.set_cons_succ,ae,af];rfl) ?_
           refine aq (i:=7) (N:=some 52) #[I,O,I,I,I,I,I,I,O,O,O,O,O,O] rfl rfl (aM HT_.out (by kernel_rfl)) (fun _ _ _ h=>h) (Or.inl ⟨by rfl,by intro w';go_simp;with_reducible rfl⟩) (by simp only [Act.put,List.setIfInBounds_toArray,List.set_cons_zero,List.set_cons_succ,ae,af];rfl) ?_
           refine aq (i:=9) (N:=some 54) #[I,O,I,I,I,I,I,I,O,I,O,O,O,O] rfl rfl (aM HT_.out (by kernel_rfl)) (fun _ _ _ h=>h) (Or.inl ⟨by rfl,by intro w';go_simp;with_reducible rfl⟩) (by simp only [Act.put,List.setIfInBounds_toArray,List.set_cons_zero,List.set_cons_succ,ae,af];rfl) ?_
           refine aq (i:=10) (N:=some 55) #[I,O,I,I,I,I,I,I,O,I,I,O,O,O] rfl rfl (aM HT_.out (by kernel_rfl)) (fun _ _ _ h=>h) (Or.inl ⟨by rfl,by intro w';go_simp;with_reducible rfl⟩) (by simp only [Act.put,List.setIfInBounds_toArray,List.set_cons_zero,List.set_cons_succ,ae,af];rfl) ?_
           refine bn (i:=1) (N:=some 46) #[I,I,I,I,I,I,I,I,O,I,I,O,O,O] rfl rfl (bC HT_.out HW_.out (by kernel_rfl)) (fun _ _ _ h=>h) (Or.inl ⟨by rfl,by rintro w' ⟨s0,s1,s2,s3,s4,s5⟩;go_simp;with_reducible rfl⟩) hHeld (by simp only [Act.put,List.setIfInBounds_toArray,List.set_cons_zero,List.set_cons_succ,ae,af];rfl) ?_
           refine bn (i:=8) (N:=some 53) #[I,I,I,I,I,I,I,I,I,I,I,O,O,O] rfl rfl (bC HT_.out HW_.out (by kernel_rfl)) (fun _ _ _ h=>h) (Or.inl ⟨by rfl,by rintro w' ⟨s0,s1,s2,s3,s4,s5⟩;go_simp;with_reducible rfl⟩) hHeld (by simp only [Act.put,List.setIfInBounds_toArray,List.set_cons_zero,List.set_cons_succ,ae,af];rfl) ?_
           refine one_ (i:=11) (N:=some 56) #[I,I,I,I,I,I,I,I,I,I,I,I,O,O] rfl rfl (bR HT_.out (by kernel_rfl)) (by decide) (fun K hK=>?_)
           refine cE Try.func67 (by kernel_rfl) rfl #[.agg #[.int .i64 a0_0,.int .i64 a0_1,.slice A0_2 l0_2.length c0_2],.int .i64 x5_2,.int .i64 x6_3] (by rfl) rfl rfl (by (try simp only [List.map_toArray,List.map_cons,List.map_nil]);rfl) ?_
           with_reducible refine (bs.calls a0_0 a0_1 _ _ l0_2 x5_2 x6_3 t300 _ ?side1 ?side2 A36.out).mono ?_
           (case side1=>exact (Kd.a8 HR0_2.out HB.out))
           (case side2=>exact HC0_2.out)
           rintro e w42 ⟨rfl,hb⟩
           refine ⟨_,rfl,?_⟩
           replace HO_300002:=M0 (Kd.aK HO_300002.out hb)
           replace BK290:=M0 (ab BK290.out hb)
           replace BK291:=M0 (ab BK291.out hb)
           replace BK299:=M0 (ab BK299.out hb)
           replace HB:=M0 (aa HB.out hb)
           clear hb
           have p40 : 0 ≤ ((ji37) : Int):=of_decide_eq_true (by with_reducible assumption)
           have q40 : ((ji37) : Int) < ((x300002_3.length : Int) : Int):=of_decide_eq_true (by with_reducible assumption)
           obtain ⟨go40,co40,eo40,gb40,gl40,cl40,HG40⟩:=Kd.du HO_300002.out (by omega)
           (cases eo40)
           have GB40:=M0 gb40
           have GG40:=M0 HG40
           clear gb40 gl40 HG40
           obtain ⟨hx40_0,hf40_0⟩:=Kd.bQ 0 HO_300002.out ((ji37) : Int) p40 q40
           replace p40:=eq_true p40
           replace q40:=eq_true q40
           have HP43:=Kd.R_putn HO_300002.out ((ji37) : Int) t300
           rw [← Ny301.out] at HP43
           have HQ43:=M0 HP43
           clear HP43
           refine hK.out _ _ ⟨(ai BK299.out 0).trans rfl,(ai BK299.out 1).trans rfl,(ai BK299.out 2).trans rfl,(ai BK290.out 0).trans rfl,(ai BK290.out 1).trans rfl,(ai BK290.out 2).trans rfl⟩ (fun hHeld=>?_)
           clear hK K
           refine bz (a':=?_) ?_ ?_
           rotate_left
           ·show Act.put _ (some 56) _ = _
            simp only [Act.put,List.setIfInBounds_toArray,List.set_cons_zero,List.set_cons_succ,ae,af]
            rfl
           refine aq (i:=12) (N:=some 57) #[I,I,I,I,I,I,I,I,I,I,I,I,I,O] rfl rfl (aM HT_.out (by kernel_rfl)) (fun _ _ _ h=>h) (Or.inl ⟨by rfl,by intro w';go_simp;with_reducible rfl⟩) (by simp only [Act.put,List.setIfInBounds_toArray,List.set_cons_zero,List.set_cons_succ,ae,af];rfl) ?_
           refine dX (i:=13) (N:=none) #[I,I,I,I,I,I,I,I,I,I,I,I,I,I] rfl rfl (bR HT_.out (by kernel_rfl)) (by decide) (fun K hK=>?_)
           refine dA (w1:=?_) (by rfl) rfl ?_ ?_
           rotate_left
           ·go_simp
            rfl
           refine hK.out _ _ ?_
           clear hK K
           refine cD (dg HT_.out (by kernel_rfl)) ?_
           try go_wp2
           go_roundg k3
           case measure=>have:=HJ1.out;have:=HK2.out;have:=HK3.out;omega
           case rel=>exact ⟨(wrap64 (x6_3 + 1)),(y301),(.slice (some ⟨go40,0,none⟩) x300002_3.length co40),(by rfl),H',⟨by have:=HJ1.out;have:=HK2.out;have:=HK3.out;omega⟩,⟨by exact HQ43.out⟩,⟨by refine aX ?_ (by have h_:=Kd.R_ne HO_300002.out BK290.out (by decide);intro e_;exact h_ (by rw [e_];rfl)) _;exact BK290.out⟩,⟨by refine aX ?_ (by have h_:=Kd.R_ne HO_300002.out BK291.out (by decide);intro e_;exact h_ (by rw [e_];rfl)) _;exact BK291.out⟩,⟨by refine aX ?_ (by have h_:=Kd.R_ne HO_300002.out BK299.out (by decide);intro e_;exact h_ (by rw [e_];rfl)) _;exact BK299.out⟩,⟨by repeat ((with_reducible first|exact HB.out|refine ax ?_ GB40.out))⟩⟩
          ·rw [if_neg c35] at H
           have c35b0:=decide_eq_false c35
           clear c35
           obtain ⟨ji44,hji44⟩ : ∃ j_ : Int,(wrap64 ((wrap64 ((wrap64 ((wrap64 (x5_2 * 2)) * a0_0)) + a0_0)) + x5_2)) = j_:=⟨_,rfl⟩
           replace H : (if 0 ≤ (ji44) then (if (ji44) < (x300002_3.length : Int) then (an.l0 k3 a0_0 (wrap64 (x5_2 + 1)) a0_0 a0_1 l0_2 t294 t295 (x300002_3.set ((ji44) : Int).toNat 1)) else (none)) else (none)) = some (r1,r2,r3,r4):=by (rw [hji44] at H;exact H)
           have hji44w : (IntKind.i64.wrap ((wrap64 ((wrap64 ((wrap64 (x5_2 * 2)) * a0_0)) + a0_0)) + x5_2)) = ji44:=(ae _).trans hji44
           obtain ⟨c45,H⟩:=nn H
           have c45b0:=decide_eq_true c45
           clear c45
           obtain ⟨c46,H⟩:=nn H
           have c46b0:=decide_eq_true c46
           clear c46
           obtain ⟨y302,hy302⟩ : ∃ y_ : List Int,y_ = (x300002_3.set ((ji44) : Int).toNat 1):=⟨_,rfl⟩
           rw [← hy302] at H
           have Ny302:=M0 hy302
           clear hy302
           have H':=M0 H
           clear H
           have hcz50_2:=bcv (v:=u300002) BK299.out 2 rfl
           have p47 : 0 ≤ ((ji44) : Int):=of_decide_eq_true (by with_reducible assumption)
           have q47 : ((ji44) : Int) < ((x300002_3.length : Int) : Int):=of_decide_eq_true (by with_reducible assumption)
           obtain ⟨go47,co47,eo47,gb47,gl47,cl47,HG47⟩:=Kd.du HO_300002.out (by omega)
           (cases eo47)
           have GB47:=M0 gb47
           have GG47:=M0 HG47
           clear gb47 gl47 HG47
           obtain ⟨hx47_0,hf47_0⟩:=Kd.bQ 0 HO_300002.out ((ji44) : Int) p47 q47
           replace p47:=eq_true p47
           replace q47:=eq_true q47
           have HP51:=Kd.dj HO_300002.out ((ji44) : Int) 1
           go_wp2_with (((with_reducible refine bo (t:=2) (p:=68) rfl ?_);refine bK (t:=2) (p:=68) (v:=?vo_w52) (w1:=(wr.setCell ⟨go47,((ji44) : Int).toNat,none⟩ (.int .i64 1))) ?hg ?ho ?hn ?hr ?_;(case ho=>rfl);(case hg=>rfl);(case hn=>rfl);(case hr=>(go_simp;done));intro w52 hw;have hg : wr.grownBy w52 (some go47):=(by rw [hw];exact HP51.2);have hp_ : Kd.R (Kd.int .i64) 2 w52 w.heap.size (fun _=>True) (.slice (some ⟨go47,0,none⟩) x300002_3.length co47) y302:=(by rw [hw,Ny302.out];exact HP51.1);clear HP51;replace BK290:=M0 (bm (g:=gb290) (o:=.cells #[.int .i64 a0_0,.int .i64 a0_1,.slice A0_2 l0_2.length c0_2] 27 (0,0)) BK290.out hg (Kd.R_ne HO_300002.out BK290.out (by decide)));replace BK291:=M0 (bm (g:=gb291) (o:=.cells #[.int .i64 0,.int .i64 0,.int .i64 0,.slice none 0 0] 32 (0,0)) BK291.out hg (Kd.R_ne HO_300002.out BK291.out (by decide)));replace BK299:=M0 (bm (g:=gb299) (o:=.cells #[.int .i64 t294,.int .i64 t295,.slice (some ⟨go47,0,none⟩) x300002_3.length co47] 27 (0,0)) BK299.out hg (Kd.R_ne HO_300002.out BK299.out (by decide)));replace HO_300002:=M0 (hp_);replace HB:=M0 ((by rw [hw];exact ax (HB.out) GB47.out : Below w.heap.size w w52));clear hg hw hp_))
           go_roundg k3
           case measure=>have:=HJ1.out;have:=HK2.out;have:=HK3.out;omega
           case rel=>exact ⟨(wrap64 (x5_2 + 1)),(y302),(.slice (some ⟨go47,0,none⟩) x300002_3.length co47),(by rfl),H',⟨by have:=HJ1.out;have:=HK2.out;have:=HK3.out;omega⟩,⟨by exact HO_300002.out⟩,⟨by exact BK290.out⟩,⟨by exact BK291.out⟩,⟨by exact BK299.out⟩,⟨HB.out⟩⟩
       ·rw [if_neg c34] at H
        have c34b0:=decide_eq_false c34
        clear c34
        have H':=M0 H
        clear H
        go_wp2
        go_loopg [7] k2 (fun kq v7 w'=>∃ (x7_3 : Int) (x300002_3 : List Int) (u300002 : Value),v7 = .int .i64 x7_3 ∧ Aside0 (an.l2 kq a0_0 x7_3 t294 t295 x300002_3 = some (r1,r2,r3,r4)) ∧ Aside0 (kq ≤ k2) ∧ Aside0 (Kd.R (Kd.int .i64) 2 w' w.heap.size (fun _=>True) u300002 x300002_3) ∧ Aside0 (w'.heap[gb290]? = some (.cells #[.int .i64 a0_0,.int .i64 a0_1,(.slice A0_2 l0_2.length c0_2)] 27 (0,0))) ∧ Aside0 (w'.heap[gb291]? = some (.cells #[.int .i64 0,.int .i64 0,.int .i64 0,(.slice none 0 0)] 32 (0,0))) ∧ Aside0 (w'.heap[gb299]? = some (.cells #[.int .i64 t294,.int .i64 t295,u300002] 27 (0,0))) ∧ Aside0 (Below w.heap.size w w'))
        case atStart=>exact ⟨(0),(x300002_2),(u300002),(by rfl),H',⟨Nat.le_refl _⟩,⟨by exact HO_300002.out⟩,⟨by exact BK290.out⟩,⟨by exact BK291.out⟩,⟨by exact BK299.out⟩,⟨HB.out⟩⟩
        case round=>
         clear H'
         (try clear c34b0)
         obtain ⟨x7_3,x300002_3,u300002,rfl,HA,HK3,HO_300002,BK290,BK291,BK299,HB⟩:=hrel
         cases gk with
         | zero=>exact absurd HA.out (by simp [an.l2])
         | succ k3=>
          have H:=HA.out
          clear HA
          simp only [an.l2] at H
          by_cases c53 : x7_3 < a0_0
          ·rw [if_pos c53] at H
           have c53b0:=decide_eq_true c53
           clear c53
           have H':=M0 H
           clear H
           go_wp2
           go_loopg [8] k3 (fun kq v8 w'=>∃ (x8_4 : Int),v8 = .int .i64 x8_4 ∧ Aside0 (an.l3 kq a0_0 x7_3 x8_4 t294 t295 x300002_3 = some (r1,r2,r3,r4)) ∧ Aside0 (kq ≤ k3) ∧ Aside0 (Kd.R (Kd.int .i64) 2 w' w.heap.size (fun _=>True) u300002 x300002_3) ∧ Aside0 (w'.heap[gb290]? = some (.cells #[.int .i64 a0_0,.int .i64 a0_1,(.slice A0_2 l0_2.length c0_2)] 27 (0,0))) ∧ Aside0 (w'.heap[gb291]? = some (.cells #[.int .i64 0,.int .i64 0,.int .i64 0,(.slice none 0 0)] 32 (0,0))) ∧ Aside0 (w'.heap[gb299]? = some (.cells #[.int .i64 t294,.int .i64 t295,u300002] 27 (0,0))) ∧ Aside0 (Below w.heap.size w w'))
           case atStart=>exact ⟨(x7_3),(by rfl),H',⟨Nat.le_refl _⟩,⟨by exact HO_300002.out⟩,⟨by exact BK290.out⟩,⟨by exact BK291.out⟩,⟨by exact BK299.out⟩,⟨HB.out⟩⟩
           case round=>
            clear H'
            (try clear c53b0)
            obtain ⟨x8_4,rfl,HA,HK4,HO_300002,BK290,BK291,BK299,HB⟩:=hrel
            cases gk with
            | zero=>exact absurd HA.out (by simp [an.l3])
            | succ k4=>
             have H:=HA.out
             clear HA
             simp only [an.l3] at H
             replace H:=Option.bind_eq_some_iff.mp H
             obtain ⟨t303,A540,H⟩:=H
             replace H : (if t303 = 0 then (an.l3 k4 a0_0 x7_3 (wrap64 (x8_4 + 1)) t294 t295 x300002_3) else ((bp.f k4 t294 t295 x300002_3 x7_3 x8_4).bind fun t304=>((ao.f k4 t294 t295 t304 x7_3 x7_3).bind fun t305=>(an.l2 k4 a0_0 (wrap64 (x7_3 + 1)) t294 t295 t305)))) = some (r1,r2,r3,r4):=H
             have A54:=M0 A540
             clear A540
             by_cases c55 : t303 = 0
             ·rw [if_pos c55] at H
              have c55b0 : (t303 == 0) = true:=beq_iff_eq.mpr c55
              clear c55
              have H':=M0 H
              clear H
              have hcz58_0:=bcv (v:=.int .i64 t294) BK299.out 0 rfl
              have hcz58_1:=bcv (v:=.int .i64 t295) BK299.out 1 rfl
              have hcz58_2:=bcv (v:=u300002) BK299.out 2 rfl
              obtain ⟨Ao59,co59,eo59⟩:=Kd.bc HO_300002.out
              subst eo59
              go_wp2_with (((with_reducible refine ah (f:=67) rfl ?_);refine aH (some 78) rfl rfl Try.func67 (by kernel_rfl) rfl #[.agg #[.int .i64 t294,.int .i64 t295,.slice Ao59 x300002_3.length co59],.int .i64 x8_4,.int .i64 x7_3] rfl (by (try simp only [List.map_toArray,List.map_cons,List.map_nil]);rfl) ?_;(with_reducible refine (bs.calls t294 t295 _ _ x300002_3 x8_4 x7_3 t303 _ (Kd.aE HO_300002.out).2.2 (Kd.aE HO_300002.out).2.1 A54.out).mono ?_);rintro e w60 ⟨rfl,hb⟩;refine ⟨_,rfl,?_⟩;replace HO_300002:=M0 (Kd.aK HO_300002.out hb);replace BK290:=M0 (ab BK290.out hb);replace BK291:=M0 (ab BK291.out hb);replace BK299:=M0 (ab BK299.out hb);replace HB:=M0 (aa HB.out hb);clear hb))
              go_roundg k4
              case measure=>have:=HJ1.out;have:=HK2.out;have:=HK3.out;have:=HK4.out;omega
              case rel=>exact ⟨(wrap64 (x8_4 + 1)),(by rfl),H',⟨by have:=HJ1.out;have:=HK2.out;have:=HK3.out;have:=HK4.out;omega⟩,⟨by exact HO_300002.out⟩,⟨by exact BK290.out⟩,⟨by exact BK291.out⟩,⟨by exact BK299.out⟩,⟨HB.out⟩⟩
             ·rw [if_neg c55] at H
              have c55b0 : (t303 == 0) = false:=beq_eq_false_iff_ne.mpr c55
              replace H:=Option.bind_eq_some_iff.mp H
              obtain ⟨t304,A610,H⟩:=H
              replace H : ((ao.f k4 t294 t295 t304 x7_3 x7_3).bind fun t305=>(an.l2 k4 a0_0 (wrap64 (x7_3 + 1)) t294 t295 t305)) = some (r1,r2,r3,r4):=H
              have A61:=M0 A610
              clear A610
              replace H:=Option.bind_eq_some_iff.mp H
              obtain ⟨t305,A620,H⟩:=H
              replace H : (an.l2 k4 a0_0 (wrap64 (x7_3 + 1)) t294 t295 t305) = some (r1,r2,r3,r4):=H
              have A62:=M0 A620
              clear A620
              have H':=M0 H
              clear H
              have hcz65_0:=bcv (v:=.int .i64 t294) BK299.out 0 rfl
              have hcz65_1:=bcv (v:=.int .i64 t295) BK299.out 1 rfl
              have hcz65_2:=bcv (v:=u300002) BK299.out 2 rfl
              obtain ⟨Ao66,co66,eo66⟩:=Kd.bc HO_300002.out
              subst eo66
              go_wp2_with (first|((with_reducible refine ah (f:=67) rfl ?_);refine aH (some 78) rfl rfl Try.func67 (by kernel_rfl) rfl #[.agg #[.int .i64 t294,.int .i64 t295,.slice Ao66 x300002_3.length co66],.int .i64 x8_4,.int .i64 x7_3] rfl (by (try simp only [List.map_toArray,List.map_cons,List.map_nil]);rfl) ?_;(with_reducible refine (bs.calls t294 t295 _ _ x300002_3 x8_4 x7_3 t303 _ (Kd.aE HO_300002.out).2.2 (Kd.aE HO_300002.out).2.1 A54.out).mono ?_);rintro e w67 ⟨rfl,hb⟩;refine ⟨_,rfl,?_⟩;replace HO_300002:=M0 (Kd.aK HO_300002.out hb);replace BK290:=M0 (ab BK290.out hb);replace BK291:=M0 (ab BK291.out hb);replace BK299:=M0 (ab BK299.out hb);replace HB:=M0 (aa HB.out hb);clear hb;have hcz68_0:=bcv (v:=.int .i64 t294) BK299.out 0 rfl;have hcz68_1:=bcv (v:=.int .i64 t295) BK299.out 1 rfl;have hcz68_2:=bcv (v:=.slice Ao66 x300002_3.length co66) BK299.out 2 rfl)|((with_reducible refine ah (f:=68) rfl ?_);refine aH (some 85) rfl rfl Try.func68 (by kernel_rfl) rfl #[.agg #[.int .i64 t294,.int .i64 t295,.slice Ao66 x300002_3.length co66],.int .i64 x7_3,.int .i64 x8_4] rfl (by (try simp only [List.map_toArray,List.map_cons,List.map_nil]);rfl) ?_;(with_reducible refine (bp.calls k4 t294 t295 (fun k_=>some k_ = (.slice Ao66 x300002_3.length co66 : Value).ownBlock) (.slice Ao66 x300002_3.length co66) x300002_3 x7_3 x8_4 t304 w _ ?side1 ?side2 A61.out).mono ?_);(case side1=>exact HB.out);(case side2=>exact Kd.R_tight rfl HO_300002.out);rintro e w69 ⟨rfl,hy0,hb,hkp⟩;refine ⟨_,rfl,?_⟩;replace BK290:=M0 (dQ BK290.out hkp (fun hs_=>(fun e_=>(Kd.R_ne HO_300002.out BK290.out (by decide)) e_) hs_));replace BK291:=M0 (dQ BK291.out hkp (fun hs_=>(fun e_=>(Kd.R_ne HO_300002.out BK291.out (by decide)) e_) hs_));replace BK299:=M0 (dQ BK299.out hkp (fun hs_=>(fun e_=>(Kd.R_ne HO_300002.out BK299.out (by decide)) e_) hs_));replace HO_300002:=M0 (Kd.R_reok rfl hy0 (fun k_ e_=>HO_300002.out.1 k_ e_));replace HB:=M0 (hb);clear hb hkp hy0;have hcz70_0:=bcv (v:=.int .i64 t294) BK299.out 0 rfl;have hcz70_1:=bcv (v:=.int .i64 t295) BK299.out 1 rfl;have hcz70_2:=bcv (v:=.slice Ao66 x300002_3.length co66) BK299.out 2 rfl)|((with_reducible refine ah (f:=69) rfl ?_);refine aH (some 89) rfl rfl Try.func69 (by kernel_rfl) rfl #[.agg #[.int .i64 t294,.int .i64 t295,.slice Ao66 x300002_3.length co66],.int .i64 x7_3,.int .i64 x7_3] rfl (by (try simp only [List.map_toArray,List.map_cons,List.map_nil]);rfl) ?_;(with_reducible refine (ao.calls k4 t294 t295 (fun k_=>some k_ = (.slice Ao66 x300002_3.length co66 : Value).ownBlock) (.slice Ao66 x300002_3.length co66) t304 x7_3 x7_3 t305 w _ ?side1 ?side2 A62.out).mono ?_);(case side1=>exact HB.out);(case side2=>exact Kd.R_tight rfl HO_300002.out);rintro e w71 ⟨rfl,hy0,hb,hkp⟩;refine ⟨_,rfl,?_⟩;replace BK290:=M0 (dQ BK290.out hkp (fun hs_=>(fun e_=>(Kd.R_ne HO_300002.out BK290.out (by decide)) e_) hs_));replace BK291:=M0 (dQ BK291.out hkp (fun hs_=>(fun e_=>(Kd.R_ne HO_300002.out BK291.out (by decide)) e_) hs_));replace BK299:=M0 (dQ BK299.out hkp (fun hs_=>(fun e_=>(Kd.R_ne HO_300002.out BK299.out (by decide)) e_) hs_));replace HO_300002:=M0 (Kd.R_reok rfl hy0 (fun k_ e_=>HO_300002.out.1 k_ e_));replace HB:=M0 (hb);clear hb hkp hy0))
              go_roundg k4
              case measure=>have:=HJ1.out;have:=HK2.out;have:=HK3.out;have:=HK4.out;omega
              case rel=>exact ⟨(wrap64 (x7_3 + 1)),(t305),(.slice Ao66 x300002_3.length co66),(by rfl),H',⟨by have:=HJ1.out;have:=HK2.out;have:=HK3.out;have:=HK4.out;omega⟩,⟨by exact HO_300002.out⟩,⟨by exact BK290.out⟩,⟨by exact BK291.out⟩,⟨by exact BK299.out⟩,⟨HB.out⟩⟩
          ·rw [if_neg c53] at H
           have c53b0:=decide_eq_false c53
           clear c53
           replace H:=Option.bind_eq_some_iff.mp H
           obtain ⟨⟨t306,t307,t308⟩,A720,H⟩:=H
           dsimp only at H
           have A72:=M0 A720
           clear A720
           have H':=M0 H
           clear H
           go_wp2_with (first|((with_reducible refine ah (f:=66) rfl ?_);refine aH (some 92) rfl rfl Try.func66 (by kernel_rfl) rfl #[.int .i64 a0_0,.int .i64 a0_0] rfl (by (try simp only [List.map_toArray,List.map_cons,List.map_nil]);rfl) ?_;(with_reducible refine (cA.calls a0_0 a0_0 t306 t307 t308 _ A72.out).mono ?_);rintro e w73 ⟨v309,rfl,ho0,hb⟩;refine ⟨_,rfl,?_⟩;have HO310:=M0 (Kd.bj (Kd.cZ ho0 (Kd.R_lt HO_300002.out)) (aj HB.out));replace HO_300002:=M0 (Kd.cj HO_300002.out (Kd.cS ho0) hb);replace BK290:=M0 (ab BK290.out hb);replace BK291:=M0 (ab BK291.out hb);replace BK299:=M0 (ab BK299.out hb);replace HB:=M0 (aa HB.out hb);clear hb ho0)|((with_reducible refine ak (N:=9) rfl ?_);refine aw rfl (N:=9) rfl (cs:=#[.int .i64 0,.int .i64 0,.slice none 0 0]) (t:=27) (by go_simp) ?_;intro gb311 hg w74 hbox hb;replace HO_300002:=M0 (Kd.aK HO_300002.out hb);replace HO310:=M0 (Kd.aK HO310.out hb);have BK311:=M0 (hbox);have GW311:=M0 ((by rw [hg];exact (aj HB.out) : w.heap.size ≤ gb311));have GE311:=GW311;replace HB:=M0 (aa HB.out hb);have NB290_311:=M0 ((by rw [hg];exact Nat.ne_of_lt (a7 BK290.out) : gb290 ≠ gb311));replace BK290:=M0 (ab BK290.out hb);have NB291_311:=M0 ((by rw [hg];exact Nat.ne_of_lt (a7 BK291.out) : gb291 ≠ gb311));replace BK291:=M0 (ab BK291.out hb);have NB299_311:=M0 ((by rw [hg];exact Nat.ne_of_lt (a7 BK299.out) : gb299 ≠ gb311));replace BK299:=M0 (ab BK299.out hb);clear hb hbox hg;have hcz78_0:=bcv (v:=.int .i64 0) BK311.out 0 rfl;have hcz78_1:=bcv (v:=.int .i64 0) BK311.out 1 rfl;have hcz78_2:=bcv (v:=.slice none 0 0) BK311.out 2 rfl;have hfz78_0:=ag BK311.out 0;have hfz78_1:=ag BK311.out 1;have hfz78_2:=ag BK311.out 2;obtain ⟨Ao79,co79,eo79⟩:=Kd.bc HO310.out;subst eo79))
           go_loopg [10] k3 (fun kq v10 w'=>∃ (x10_4 : Int) (x300002_4 : List Int) (x312002_4 : List Int) (u300002 : Value) (u312002 : Value),v10 = .int .i64 x10_4 ∧ Aside0 (an.l4 kq a0_0 x10_4 t294 t295 x300002_4 t306 t307 x312002_4 = some (r1,r2,r3,r4)) ∧ Aside0 (kq ≤ k3) ∧ Aside0 (Kd.R (Kd.int .i64) 2 w' w.heap.size (fun k_=>some k_ ≠ (u312002 : Value).ownBlock) u300002 x300002_4) ∧ Aside0 (Kd.R (Kd.int .i64) 2 w' w.heap.size (fun k_=>some k_ ≠ (u300002 : Value).ownBlock) u312002 x312002_4) ∧ Aside0 (w'.heap[gb290]? = some (.cells #[.int .i64 a0_0,.int .i64 a0_1,(.slice A0_2 l0_2.length c0_2)] 27 (0,0))) ∧ Aside0 (w'.heap[gb291]? = some (.cells #[.int .i64 0,.int .i64 0,.int .i64 0,(.slice none 0 0)] 32 (0,0))) ∧ Aside0 (w'.heap[gb299]? = some (.cells #[.int .i64 t294,.int .i64 t295,u300002] 27 (0,0))) ∧ Aside0 (w'.heap[gb311]? = some (.cells #[.int .i64 t306,.int .i64 t307,u312002] 27 (0,0))) ∧ Aside0 (Below w.heap.size w w'))
           case atStart=>exact ⟨(0),(x300002_3),(t308),(u300002),(.slice Ao79 t308.length co79),(by rfl),H',⟨Nat.le_refl _⟩,⟨by exact Kd.bb (Kd.bw (p:=⟨gb311,2,none⟩) (Kd.bw (p:=⟨gb311,1,none⟩) (Kd.bw (p:=⟨gb311,0,none⟩) (Kd.bP HO_300002.out BK311.out (by decide)) (fun _ hk=>hk.2) (.int .i64 t306)) (fun _ hk=>hk.2) (.int .i64 t307)) (fun _ hk=>hk.2) (.slice Ao79 t308.length co79)) (fun _ hk=>hk.1.2)⟩,⟨by exact Kd.bb (Kd.bw (p:=⟨gb311,2,none⟩) (Kd.bw (p:=⟨gb311,1,none⟩) (Kd.bw (p:=⟨gb311,0,none⟩) (Kd.bP HO310.out BK311.out (by decide)) (fun _ hk=>hk.2) (.int .i64 t306)) (fun _ hk=>hk.2) (.int .i64 t307)) (fun _ hk=>hk.2) (.slice Ao79 t308.length co79)) (fun _ hk=>hk.1.2)⟩,⟨by refine aX ?_ NB290_311.out _;refine aX ?_ NB290_311.out _;refine aX ?_ NB290_311.out _;exact BK290.out⟩,⟨by refine aX ?_ NB291_311.out _;refine aX ?_ NB291_311.out _;refine aX ?_ NB291_311.out _;exact BK291.out⟩,⟨by refine aX ?_ NB299_311.out _;refine aX ?_ NB299_311.out _;refine aX ?_ NB299_311.out _;exact BK299.out⟩,⟨by refine aW (cs:=#[.int .i64 t306,.int .i64 t307,.slice none 0 0]) ?_ 2 _ rfl;refine aW (cs:=#[.int .i64 t306,.int .i64 0,.slice none 0 0]) ?_ 1 _ rfl;refine aW (cs:=#[.int .i64 0,.int .i64 0,.slice none 0 0]) ?_ 0 _ rfl;exact BK311.out⟩,⟨by repeat ((with_reducible first|exact HB.out|refine ax ?_ GE311.out))⟩⟩
           case round=>
            clear H'
            (try clear c53b0);(try clear hcz78_0);(try clear hcz78_1);(try clear hcz78_2);(try clear hfz78_0);(try clear hfz78_1);(try clear hfz78_2)
            obtain ⟨x10_4,x300002_4,x312002_4,u300002,u312002,rfl,HA,HK4,HO_300002,HO_312002,BK290,BK291,BK299,BK311,HB⟩:=hrel
            cases gk with
            | zero=>exact absurd HA.out (by simp [an.l4])
            | succ k4=>
             have H:=HA.out
             clear HA
             simp only [an.l4] at H
             by_cases c80 : x10_4 < a0_0
             ·rw [if_pos c80] at H
              have c80b0:=decide_eq_true c80
              clear c80
              have H':=M0 H
              clear H
              go_wp2
              go_loopg [11] k4 (fun kq v11 w'=>∃ (x11_5 : Int) (x300002_5 : List Int) (x312002_5 : List Int) (u300002 : Value) (u312002 : Value),v11 = .int .i64 x11_5 ∧ Aside0 (an.l5 kq a0_0 x10_4 x11_5 t294 t295 x300002_5 t306 t307 x312002_5 = some (r1,r2,r3,r4)) ∧ Aside0 (kq ≤ k4) ∧ Aside0 (Kd.R (Kd.int .i64) 2 w' w.heap.size (fun k_=>some k_ ≠ (u312002 : Value).ownBlock) u300002 x300002_5) ∧ Aside0 (Kd.R (Kd.int .i64) 2 w' w.heap.size (fun k_=>some k_ ≠ (u300002 : Value).ownBlock) u312002 x312002_5) ∧ Aside0 (w'.heap[gb290]? = some (.cells #[.int .i64 a0_0,.int .i64 a0_1,(.slice A0_2 l0_2.length c0_2)] 27 (0,0))) ∧ Aside0 (w'.heap[gb291]? = some (.cells #[.int .i64 0,.int .i64 0,.int .i64 0,(.slice none 0 0)] 32 (0,0))) ∧ Aside0 (w'.heap[gb299]? = some (.cells #[.int .i64 t294,.int .i64 t295,u300002] 27 (0,0))) ∧ Aside0 (w'.heap[gb311]? = some (.cells #[.int .i64 t306,.int .i64 t307,u312002] 27 (0,0))) ∧ Aside0 (Below w.heap.size w w'))
              case atStart=>exact ⟨(0),(x300002_4),(x312002_4),(u300002),(u312002),(by rfl),H',⟨Nat.le_refl _⟩,⟨by exact HO_300002.out⟩,⟨by exact HO_312002.out⟩,⟨by exact BK290.out⟩,⟨by exact BK291.out⟩,⟨by exact BK299.out⟩,⟨by exact BK311.out⟩,⟨HB.out⟩⟩
              case round=>
               clear H'
               (try clear c80b0)
               obtain ⟨x11_5,x300002_5,x312002_5,u300002,u312002,rfl,HA,HK5,HO_300002,HO_312002,BK290,BK291,BK299,BK311,HB⟩:=hrel
               cases gk with
               | zero=>exact absurd HA.out (by simp [an.l5])
               | succ k5=>
                have H:=HA.out
                clear HA
                simp only [an.l5] at H
                by_cases c81 : x11_5 < a0_0
                ·rw [if_pos c81] at H
                 have c81b0:=decide_eq_true c81
                 clear c81
                 replace H:=Option.bind_eq_some_iff.mp H
                 obtain ⟨t312,A820,H⟩:=H
                 replace H : (if 0 ≤ (wrap64 ((wrap64 (x10_4 * a0_0)) + x11_5)) then (if (wrap64 ((wrap64 (x10_4 * a0_0)) + x11_5)) < (x312002_5.length : Int) then (an.l5 k5 a0_0 x10_4 (wrap64 (x11_5 + 1)) t294 t295 x300002_5 t306 t307 (x312002_5.set ((wrap64 ((wrap64 (x10_4 * a0_0)) + x11_5)) : Int).toNat t312)) else (none)) else (none)) = some (r1,r2,r3,r4):=H
                 have A82:=M0 A820
                 clear A820
                 obtain ⟨ji83,hji83⟩ : ∃ j_ : Int,(wrap64 ((wrap64 (x10_4 * a0_0)) + x11_5)) = j_:=⟨_,rfl⟩
                 replace H : (if 0 ≤ (ji83) then (if (ji83) < (x312002_5.length : Int) then (an.l5 k5 a0_0 x10_4 (wrap64 (x11_5 + 1)) t294 t295 x300002_5 t306 t307 (x312002_5.set ((ji83) : Int).toNat t312)) else (none)) else (none)) = some (r1,r2,r3,r4):=by (rw [hji83] at H;exact H)
                 have hji83w : (IntKind.i64.wrap ((wrap64 (x10_4 * a0_0)) + x11_5)) = ji83:=(ae _).trans hji83
                 obtain ⟨c84,H⟩:=nn H
                 have c84b0:=decide_eq_true c84
                 clear c84
                 obtain ⟨c85,H⟩:=nn H
                 have c85b0:=decide_eq_true c85
                 clear c85
                 obtain ⟨y313,hy313⟩ : ∃ y_ : List Int,y_ = (x312002_5.set ((ji83) : Int).toNat t312):=⟨_,rfl⟩
                 rw [← hy313] at H
                 have Ny313:=M0 hy313
                 clear hy313
                 have H':=M0 H
                 clear H
                 try go_wp2
                 replace HO_300002:=M0 (Kd.cL HO_300002.out)
                 replace HO_312002:=M0 (Kd.cL HO_312002.out)
                 replace BK290:=M0 (bl BK290.out)
                 replace BK291:=M0 (bl BK291.out)
                 replace BK299:=M0 (bl BK299.out)
                 replace BK311:=M0 (bl BK311.out)
                 replace HB:=M0 (aQ HB.out)
                 obtain ⟨Ao88,co88,eo88⟩:=Kd.bc HO_300002.out
                 (subst eo88)
                 refine bW (n:=15) (S:=fun w'=>w'.cell? ⟨gb311,0,none⟩ = some (.int .i64 t306) ∧ w'.cell? ⟨gb311,1,none⟩ = some (.int .i64 t307) ∧ w'.cell? ⟨gb311,2,none⟩ = some (u312002) ∧ w'.cell? ⟨gb299,0,none⟩ = some (.int .i64 t294) ∧ w'.cell? ⟨gb299,1,none⟩ = some (.int .i64 t295) ∧ w'.cell? ⟨gb299,2,none⟩ = some (.slice Ao88 x300002_5.length co88)) (ds:=[14]) #[O,O,O,O,O,O,O,O,O,O,O,O,O,O,O] (by kernel_rfl) rfl rfl ⟨(ai BK311.out 0).trans rfl,(ai BK311.out 1).trans rfl,(ai BK311.out 2).trans rfl,(ai BK299.out 0).trans rfl,(ai BK299.out 1).trans rfl,(ai BK299.out 2).trans rfl⟩ (fun hHeld=>?_);refine cr an.tab30 an.bits30 (fun HT_ HW_=>?_)
                 generalize wr.drew = w87 at HO_300002 HO_312002 BK290 BK291 BK299 BK311 HB hHeld ⊢
                 refine aq (i:=0) (N:=some 103) #[I,O,O,O,O,O,O,O,O,O,O,O,O,O,O] rfl rfl (aM HT_.out (by kernel_rfl)) (fun _ _ _ h=>h) (Or.inl ⟨by rfl,by intro w';go_simp;with_reducible rfl⟩) (by simp only [Act.put,List.setIfInBounds_toArray,List.set_cons_zero,List.set_cons_succ,ae,af];rfl) ?_
                 refine aq (i:=2) (N:=some 105) #[I,O,I,O,O,O,O,O,O,O,O,O,O,O,O] rfl rfl (aM HT_.out (by kernel_rfl)) (fun _ _ _ h=>h) (Or.inl ⟨by rfl,by intro w';go_simp;with_reducible rfl⟩) (by simp only [Act.put,List.setIfInBounds_toArray,List.set_cons_zero,List.set_cons_succ,ae,af];rfl) ?_
                 refine aq (i:=3) (N:=some 106) #[I,O,I,I,O,O,O,O,O,O,O,O,O,O,O] rfl rfl (aM HT_.out (by kernel_rfl)) (fun _ _ _ h=>h) (Or.inl ⟨by rfl,by intro w';go_simp;with_reducible rfl⟩) (by simp only [Act.put,List.setIfInBounds_toArray,List.set_cons_zero,List.set_cons_succ,ae,af];rfl) ?_
                 refine aq (i:=4) (N:=some 107) #[I,O,I,I,I,O,O,O,O,O,O,O,O,O,O] rfl rfl (aM HT_.out (by kernel_rfl)) (fun _ _ _ h=>h) (Or.inl ⟨by rfl,by intro w';go_simp;with_reducible rfl⟩) (by simp only [Act.put,List.setIfInBounds_toArray,List.set_cons_zero,List.set_cons_succ,ae,af];rfl) ?_
                 refine aq (i:=5) (N:=some 108) #[I,O,I,I,I,I,O,O,O,O,O,O,O,O,O] rfl rfl (aM HT_.out (by kernel_rfl)) (fun _ _ _ h=>h) (Or.inl ⟨by rfl,by intro w';go_simp;with_reducible rfl⟩) (by simp only [Act.put,List.setIfInBounds_toArray,List.set_cons_zero,List.set_cons_succ,ae,af];rfl) ?_
                 refine aq (i:=6) (N:=some 109) #[I,O,I,I,I,I,I,O,O,O,O,O,O,O,O] rfl rfl (aM HT_.out (by kernel_rfl)) (fun _ _ _ h=>h) (Or.inl ⟨by rfl,by intro w';go_simp;with_reducible rfl⟩) (by simp only [Act.put,List.setIfInBounds_toArray,List.set_cons_zero,List.set_cons_succ,ae,af];rfl) ?_
                 refine aq (i:=8) (N:=some 111) #[I,O,I,I,I,I,I,O,I,O,O,O,O,O,O] rfl rfl (aM HT_.out (by kernel_rfl)) (fun _ _ _ h=>h) (Or.inl ⟨by rfl,by intro w';go_simp;with_reducible rfl⟩) (by simp only [Act.put,List.setIfInBounds_toArray,List.set_cons_zero,List.set_cons_succ,ae,af];rfl) ?_
                 refine aq (i:=9) (N:=some 112) #[I,O,I,I,I,I,I,O,I,I,O,O,O,O,O] rfl rfl (aM HT_.out (by kernel_rfl)) (fun _ _ _ h=>h) (Or.inl ⟨by rfl,by intro w';go_simp;with_reducible rfl⟩) (by simp only [Act.put,List.setIfInBounds_toArray,List.set_cons_zero,List.set_cons_succ,ae,af];rfl) ?_
                 refine aq (i:=10) (N:=some 113) #[I,O,I,I,I,I,I,O,I,I,I,O,O,O,O] rfl rfl (aM HT_.out (by kernel_rfl)) (fun _ _ _ h=>h) (Or.inl ⟨by rfl,by intro w';go_simp;with_reducible rfl⟩) (by simp only [Act.put,List.setIfInBounds_toArray,List.set_cons_zero,List.set_cons_succ,ae,af];rfl) ?_
                 refine aq (i:=11) (N:=some 114) #[I,O,I,I,I,I,I,O,I,I,I,I,O,O,O] rfl rfl (aM HT_.out (by kernel_rfl)) (fun _ _ _ h=>h) (Or.inl ⟨by rfl,by intro w';go_simp;with_reducible rfl⟩) (by simp only [Act.put,List.setIfInBounds_toArray,List.set_cons_zero,List.set_cons_succ,ae,af];rfl) ?_
                 refine bn (i:=1) (N:=some 104) #[I,I,I,I,I,I,I,O,I,I,I,I,O,O,O] rfl rfl (bC HT_.out HW_.out (by kernel_rfl)) (fun _ _ _ h=>h) (Or.inl ⟨by rfl,by rintro w' ⟨s0,s1,s2,s3,s4,s5⟩;go_simp;with_reducible rfl⟩) hHeld (by simp only [Act.put,List.setIfInBounds_toArray,List.set_cons_zero,List.set_cons_succ,ae,af];rfl) ?_
                 refine bn (i:=7) (N:=some 110) #[I,I,I,I,I,I,I,I,I,I,I,I,O,O,O] rfl rfl (bC HT_.out HW_.out (by kernel_rfl)) (fun _ _ _ h=>h) (Or.inl ⟨by rfl,by rintro w' ⟨s0,s1,s2,s3,s4,s5⟩;go_simp;with_reducible rfl⟩) hHeld (by simp only [Act.put,List.setIfInBounds_toArray,List.set_cons_zero,List.set_cons_succ,ae,af];rfl) ?_
                 refine one_ (i:=12) (N:=some 115) #[I,I,I,I,I,I,I,I,I,I,I,I,I,O,O] rfl rfl (bR HT_.out (by kernel_rfl)) (by decide) (fun K hK=>?_)
                 refine cE Try.func67 (by kernel_rfl) rfl #[.agg #[.int .i64 t294,.int .i64 t295,.slice Ao88 x300002_5.length co88],.int .i64 x10_4,.int .i64 (wrap64 (a0_0 + x11_5))] (by rfl) rfl rfl (by (try simp only [List.map_toArray,List.map_cons,List.map_nil]);rfl) ?_
                 with_reducible refine (bs.calls t294 t295 _ _ x300002_5 x10_4 (wrap64 (a0_0 + x11_5)) t312 _ ?side1 ?side2 A82.out).mono ?_
                 (case side1=>exact (Kd.aE HO_300002.out).2.2)
                 (case side2=>exact (Kd.aE HO_300002.out).2.1)
                 rintro e w89 ⟨rfl,hb⟩
                 refine ⟨_,rfl,?_⟩
                 replace HO_300002:=M0 (Kd.aK HO_300002.out hb)
                 replace HO_312002:=M0 (Kd.aK HO_312002.out hb)
                 replace BK290:=M0 (ab BK290.out hb)
                 replace BK291:=M0 (ab BK291.out hb)
                 replace BK299:=M0 (ab BK299.out hb)
                 replace BK311:=M0 (ab BK311.out hb)
                 replace HB:=M0 (aa HB.out hb)
                 clear hb
                 have p86 : 0 ≤ ((ji83) : Int):=of_decide_eq_true (by with_reducible assumption)
                 have q86 : ((ji83) : Int) < ((x312002_5.length : Int) : Int):=of_decide_eq_true (by with_reducible assumption)
                 obtain ⟨go86,co86,eo86,gb86,gl86,cl86,HG86⟩:=Kd.du HO_312002.out (by omega)
                 (cases eo86)
                 have GB86:=M0 gb86
                 have GG86:=M0 HG86
                 clear gb86 gl86 HG86
                 obtain ⟨hx86_0,hf86_0⟩:=Kd.bQ 0 HO_312002.out ((ji83) : Int) p86 q86
                 replace p86:=eq_true p86
                 replace q86:=eq_true q86
                 have HP90:=Kd.R_putn HO_312002.out ((ji83) : Int) t312
                 rw [← Ny313.out] at HP90
                 have HQ90:=M0 HP90
                 clear HP90
                 refine hK.out _ _ ⟨(ai BK311.out 0).trans rfl,(ai BK311.out 1).trans rfl,(ai BK311.out 2).trans rfl,(ai BK299.out 0).trans rfl,(ai BK299.out 1).trans rfl,(ai BK299.out 2).trans rfl⟩ (fun hHeld=>?_)
                 clear hK K
                 refine bz (a':=?_) ?_ ?_
                 rotate_left
                 ·show Act.put _ (some 115) _ = _
                  simp only [Act.put,List.setIfInBounds_toArray,List.set_cons_zero,List.set_cons_succ,ae,af]
                  rfl
                 refine aq (i:=13) (N:=some 116) #[I,I,I,I,I,I,I,I,I,I,I,I,I,I,O] rfl rfl (aM HT_.out (by kernel_rfl)) (fun _ _ _ h=>h) (Or.inl ⟨by rfl,by intro w';go_simp;with_reducible rfl⟩) (by simp only [Act.put,List.setIfInBounds_toArray,List.set_cons_zero,List.set_cons_succ,ae,af];rfl) ?_
                 refine dX (i:=14) (N:=none) #[I,I,I,I,I,I,I,I,I,I,I,I,I,I,I] rfl rfl (bR HT_.out (by kernel_rfl)) (by decide) (fun K hK=>?_)
                 refine dA (w1:=?_) (by rfl) rfl ?_ ?_
                 rotate_left
                 ·go_simp
                  rfl
                 refine hK.out _ _ ?_
                 clear hK K
                 refine cD (dg HT_.out (by kernel_rfl)) ?_
                 try go_wp2
                 go_roundg k5
                 case measure=>have:=HJ1.out;have:=HK2.out;have:=HK3.out;have:=HK4.out;have:=HK5.out;omega
                 case rel=>exact ⟨(wrap64 (x11_5 + 1)),(x300002_5),(y313),(.slice Ao88 x300002_5.length co88),(.slice (some ⟨go86,0,none⟩) x312002_5.length co86),(by rfl),H',⟨by have:=HJ1.out;have:=HK2.out;have:=HK3.out;have:=HK4.out;have:=HK5.out;omega⟩,⟨by exact Kd.bb (Kd.bw (p:=⟨go86,((ji83) : Int).toNat,none⟩) (Kd.bb HO_300002.out (fun k_ hk=>(⟨hk,fun e_=>hk (by rw [e_];rfl)⟩ : _ ∧ k_ ≠ go86))) (fun _ hk=>hk.2) (.int .i64 t312)) (fun _ hk=>hk.1)⟩,⟨by exact HQ90.out⟩,⟨by refine aX ?_ (by have h_:=Kd.R_ne HO_312002.out BK290.out (by decide);intro e_;exact h_ (by rw [e_];rfl)) _;exact BK290.out⟩,⟨by refine aX ?_ (by have h_:=Kd.R_ne HO_312002.out BK291.out (by decide);intro e_;exact h_ (by rw [e_];rfl)) _;exact BK291.out⟩,⟨by refine aX ?_ (by have h_:=Kd.R_ne HO_312002.out BK299.out (by decide);intro e_;exact h_ (by rw [e_];rfl)) _;exact BK299.out⟩,⟨by refine aX ?_ (by have h_:=Kd.R_ne HO_312002.out BK311.out (by decide);intro e_;exact h_ (by rw [e_];rfl)) _;exact BK311.out⟩,⟨by repeat ((with_reducible first|exact HB.out|refine ax ?_ GB86.out))⟩⟩
                ·rw [if_neg c81] at H
                 have c81b0:=decide_eq_false c81
                 clear c81
                 have H':=M0 H
                 clear H
                 go_wp2
                 go_roundg k5
                 case measure=>have:=HJ1.out;have:=HK2.out;have:=HK3.out;have:=HK4.out;have:=HK5.out;omega
                 case rel=>exact ⟨(wrap64 (x10_4 + 1)),(x300002_5),(x312002_5),(u300002),(u312002),(by rfl),H',⟨by have:=HJ1.out;have:=HK2.out;have:=HK3.out;have:=HK4.out;have:=HK5.out;omega⟩,⟨by exact HO_300002.out⟩,⟨by exact HO_312002.out⟩,⟨by exact BK290.out⟩,⟨by exact BK291.out⟩,⟨by exact BK299.out⟩,⟨by exact BK311.out⟩,⟨HB.out⟩⟩
             ·rw [if_neg c80] at H
              have c80b0:=decide_eq_false c80
              clear c80
              simp only [Option.some.injEq,Prod.mk.injEq] at H
              obtain ⟨rfl,rfl,rfl,rfl⟩:=H
              have hcz94_0:=bcv (v:=.int .i64 t306) BK311.out 0 rfl
              have hcz94_1:=bcv (v:=.int .i64 t307) BK311.out 1 rfl
              have hcz94_2:=bcv (v:=u312002) BK311.out 2 rfl
              obtain ⟨Ao95,co95,eo95⟩:=Kd.bc HO_312002.out
              subst eo95
              have hcz98_0:=bcv (v:=.int .i64 0) BK291.out 0 rfl
              have hcz98_1:=bcv (v:=.int .i64 0) BK291.out 1 rfl
              have hcz98_2:=bcv (v:=.int .i64 0) BK291.out 2 rfl
              have hcz98_3:=bcv (v:=.slice none 0 0) BK291.out 3 rfl
              have hfz98_0:=ag BK291.out 0
              have hfz98_1:=ag BK291.out 1
              have hfz98_2:=ag BK291.out 2
              have hfz98_3:=ag BK291.out 3
              go_wp2
              refine bodyPost_ret (results_cell_row rfl _ _ gb291 32 #[.int .i64 0,.int .i64 t306,.int .i64 t307,.slice Ao95 x312002_4.length co95] (0,0) _ rfl (by refine aW (cs:=#[.int .i64 0,.int .i64 t306,.int .i64 t307,.slice none 0 0]) ?_ 3 _ rfl;refine aW (cs:=#[.int .i64 0,.int .i64 t306,.int .i64 0,.slice none 0 0]) ?_ 2 _ rfl;refine aW (cs:=#[.int .i64 0,.int .i64 0,.int .i64 0,.slice none 0 0]) ?_ 1 _ rfl;refine aW (cs:=#[.int .i64 0,.int .i64 0,.int .i64 0,.slice none 0 0]) ?_ 0 _ rfl;exact BK291.out) Try.underlying32 rfl (by kernel_rfl)) rfl ?_
              exact ⟨_,by rfl,by exact Kd.bb (Kd.bw (p:=⟨gb291,3,none⟩) (Kd.bw (p:=⟨gb291,2,none⟩) (Kd.bw (p:=⟨gb291,1,none⟩) (Kd.bw (p:=⟨gb291,0,none⟩) (Kd.bP HO_312002.out BK291.out (by decide)) (fun _ hk=>hk.2) (.int .i64 0)) (fun _ hk=>hk.2) (.int .i64 t306)) (fun _ hk=>hk.2) (.int .i64 t307)) (fun _ hk=>hk.2) (.slice Ao95 x312002_4.length co95)) (fun _ hk=>trivial),by repeat ((with_reducible first|exact HB.out|refine ax ?_ GE291.out))⟩

end Go.Proofs.Ytffhbpepppodeaa.PFnExactJoinObject
