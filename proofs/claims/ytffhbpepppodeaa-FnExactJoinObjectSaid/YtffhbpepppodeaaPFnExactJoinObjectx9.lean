import Derived.Test.YtffhbpepppodeaaPFnExactJoinObjectx0
import Derived.Test.YtffhbpepppodeaaPFnExactJoinObjectx5
import Derived.Test.YtffhbpepppodeaaPFnExactJoinObjectx6
import Derived.Test.YtffhbpepppodeaaPFnExactJoinObjectx7
namespace Go.Proofs.Ytffhbpepppodeaa.PFnExactJoinObject
private theorem nn {α : Type} {c : Prop} [Decidable c] {a : Option α} {r : α} (h : (if c then a else none) = some r) : c ∧ a = some r:=by
 split at h
 ·exact ⟨‹c›,h⟩
 ·cases h
open Go.RowKit Go.Proofs.YtffhbpepppodeaaW.PrintWords Go.Proofs.YtffhbpepppodeaaW.PrintLast Go.Proofs.YtffhbpepppodeaaW.PrintMore
attribute [local go_sem] cF cG cW cX cn cp cI cJ   -- for this text's walks alone
set_option linter.unusedVariables false
set_option linter.unusedSimpArgs false

/-! ### ao: function 69 -/
mutual
def ao.l0 : Nat → Int → Int → Int → Int → Int → Int → List Int → Option (List Int)
 | 0,_,_,_,_,_,_,_=>none
 | k + 1,x1,x2,x6,x7,x220000,x220001,x220002=>if x7 < x220001 then ((bs.f x220000 x220001 x220002 x1 x7).bind fun t222=>((cf.f k x6 t222).bind fun t223=>(if 0 ≤ (wrap64 ((wrap64 (x1 * x220001)) + x7)) then (if (wrap64 ((wrap64 (x1 * x220001)) + x7)) < (x220002.length : Int) then (ao.l0 k x1 x2 x6 (wrap64 (x7 + 1)) x220000 x220001 (x220002.set ((wrap64 ((wrap64 (x1 * x220001)) + x7)) : Int).toNat t223)) else (none)) else (none)))) else (ao.l1 k x1 x2 0 x220000 x220001 x220002)
def ao.l1 : Nat → Int → Int → Int → Int → Int → List Int → Option (List Int)
 | 0,_,_,_,_,_,_=>none
 | k + 1,x1,x2,x8,x220000,x220001,x220002=>if x8 < x220000 then ((bs.f x220000 x220001 x220002 x8 x2).bind fun t225=>(if x8 = x1 then (ao.j2 k x1 x2 x8 t225 true x220000 x220001 x220002) else (ao.j2 k x1 x2 x8 t225 (t225 == 0) x220000 x220001 x220002))) else (some x220002)
def ao.j2 : Nat → Int → Int → Int → Int → Bool → Int → Int → List Int → Option (List Int)
 | 0,_,_,_,_,_,_,_,_=>none
 | k + 1,x1,x2,x8,x9,x53,x220000,x220001,x220002=>if x53 = true then (ao.l1 k x1 x2 (wrap64 (x8 + 1)) x220000 x220001 x220002) else (ao.l2 k x1 x2 x8 x9 0 x220000 x220001 x220002)
def ao.l2 : Nat → Int → Int → Int → Int → Int → Int → Int → List Int → Option (List Int)
 | 0,_,_,_,_,_,_,_,_=>none
 | k + 1,x1,x2,x8,x9,x10,x220000,x220001,x220002=>if x10 < x220001 then ((bs.f x220000 x220001 x220002 x8 x10).bind fun t226=>((bs.f x220000 x220001 x220002 x1 x10).bind fun t227=>((cf.f k x9 t227).bind fun t228=>(if 0 ≤ (wrap64 ((wrap64 (x8 * x220001)) + x10)) then (if (wrap64 ((wrap64 (x8 * x220001)) + x10)) < (x220002.length : Int) then (ao.l2 k x1 x2 x8 x9 (wrap64 (x10 + 1)) x220000 x220001 (x220002.set ((wrap64 ((wrap64 (x8 * x220001)) + x10)) : Int).toNat (Go.bits .xor .i64 t226 t228))) else (none)) else (none))))) else (ao.l1 k x1 x2 (wrap64 (x8 + 1)) x220000 x220001 x220002)
end
def ao.f (k : Nat) (a0_0 : Int) (a0_1 : Int) (l0_2 : List Int) (a1 : Int) (a2 : Int) : Option (List Int):=(bs.f a0_0 a0_1 l0_2 a1 a2).bind fun t220=>((bI.f k t220).bind fun t221=>(ao.l0 k a1 a2 t221 0 a0_0 a0_1 l0_2))
def ao.T5 : Bool × List (List Nat × List Nat):=(true,[([],[]),([0],[0]),([],[]),([],[]),([3],[3]),([2,4],[2,4]),([],[]),([5,6],[5,6]),([],[]),([],[]),([],[]),([],[]),([9,10,11],[9,10,11]),([8,12,12],[8,12]),([1,7,0,1,2,3,4,5,6,7,8,9,10,11,12,13],[1,7]),([14,13,13,0,1,2,3,4,5,6,7,8,9,10,11,12,13],[13,14])])
def ao.B5 : List Nat:=[0,1,0,0,8,28,0,124,0,0,0,0,3584,7936,16383,32767]
theorem ao.tab5 : rtab .any (opsOf Try.f69 5) = ao.T5:=by kernel_rfl
theorem ao.bits5 : cQ ao.T5.2 ao.B5 = true:=by kernel_rfl
def ao.T14 : Bool × List (List Nat × List Nat):=(true,[([],[]),([0],[0]),([],[]),([],[]),([3],[3]),([2,4],[2,4]),([],[]),([5,6],[5,6]),([],[]),([],[]),([],[]),([8,9,10],[8,9,10]),([],[]),([],[]),([],[]),([],[]),([13,14,15,11],[13,14,15]),([12,16,16],[12,16]),([11,17],[11,17]),([1,7,0,1,2,3,4,5,6,7,8,9,10,11,12,13,14,15,16,17,18],[1,7]),([19,18,17,0,1,2,3,4,5,6,7,8,9,10,11,12,13,14,15,16,17,18],[18,19])])
def ao.B14 : List Nat:=[0,1,0,0,8,28,0,124,0,0,0,1792,0,0,0,0,61184,130816,261888,524287,1048575]
theorem ao.tab14 : rtab .any (opsOf Try.f69 14) = ao.T14:=by kernel_rfl
theorem ao.bits14 : cQ ao.T14.2 ao.B14 = true:=by kernel_rfl
set_option maxHeartbeats 8000000 in
set_option maxRecDepth 100000 in
theorem ao.calls (k : Nat) (a0_0 : Int) (a0_1 : Int) (P0_2_ : Nat → Prop) (u9000_ : Value) (l0_2 : List Int) (a1 : Int) (a2 : Int) (r : List Int) (w0 w : World) (hB : Below w0.heap.size w0 w) (ho0_2 : Kd.R (Kd.int .i64) 2 w w0.heap.size P0_2_ u9000_ l0_2) (h : ao.f k a0_0 a0_1 l0_2 a1 a2 = some r) :
  Calls Try.prog 69 #[.agg #[.int .i64 a0_0,.int .i64 a0_1,u9000_],.int .i64 a1,.int .i64 a2] w fun e w'=>e = .returned (.tuple #[]) ∧ Kd.R (Kd.int .i64) 2 w' w0.heap.size (fun k_=>(P0_2_ k_ ∨ w.heap.size ≤ k_)) u9000_ r ∧ Below w0.heap.size w0 w' ∧ Kept w w' (fun k_=>P0_2_ k_):=by
 have HO0_2:=M0 (show Kd.R (Kd.int .i64) 2 w w0.heap.size (fun k_=>(P0_2_ k_ ∨ w.heap.size ≤ k_)) u9000_ l0_2 from Kd.bb ho0_2 (fun k_ hk=>(.inl hk)))
 have HK:=M0 (Kept.refl w (fun k_=>P0_2_ k_))
 have HB:=M0 hB
 clear hB
 have H : ((bs.f a0_0 a0_1 l0_2 a1 a2).bind fun t220=>((bI.f k t220).bind fun t221=>(ao.l0 k a1 a2 t221 0 a0_0 a0_1 l0_2))) = some r:=h
 clear h
 replace H:=Option.bind_eq_some_iff.mp H
 obtain ⟨t220,A40,H⟩:=H
 replace H : ((bI.f k t220).bind fun t221=>(ao.l0 k a1 a2 t221 0 a0_0 a0_1 l0_2)) = some r:=H
 have A4:=M0 A40
 clear A40
 replace H:=Option.bind_eq_some_iff.mp H
 obtain ⟨t221,A50,H⟩:=H
 replace H : (ao.l0 k a1 a2 t221 0 a0_0 a0_1 l0_2) = some r:=H
 have A5:=M0 A50
 clear A50
 have H':=M0 H
 clear H
 obtain ⟨Ao6,co6,eo6⟩:=Kd.bc HO0_2.out
 subst eo6
 go_enter Try.func69,Try.ntmps69
 go_wp2_with (first|((with_reducible refine ak (N:=3) rfl ?_);refine aw rfl (N:=3) rfl (cs:=#[.int .i64 a0_0,.int .i64 a0_1,.slice Ao6 l0_2.length co6]) (t:=27) (by go_simp) ?_;intro gb219 hg w7 hbox hb;replace HO0_2:=M0 (Kd.aK HO0_2.out hb);have BK219:=M0 (hbox);replace HK:=M0 (Kept.below (S:=(fun k_=>P0_2_ k_)) HK.out hb);replace HB:=M0 (aa HB.out hb);clear hb hbox hg;have hcz8_0:=bcv (v:=.int .i64 a0_0) BK219.out 0 rfl;have hcz8_1:=bcv (v:=.int .i64 a0_1) BK219.out 1 rfl;have hcz8_2:=bcv (v:=.slice Ao6 l0_2.length co6) BK219.out 2 rfl;have hfz8_0:=ag BK219.out 0;have hfz8_1:=ag BK219.out 1;have hfz8_2:=ag BK219.out 2)|((with_reducible refine ah (f:=67) rfl ?_);refine aH (some 14) rfl rfl Try.func67 (by kernel_rfl) rfl #[.agg #[.int .i64 a0_0,.int .i64 a0_1,.slice Ao6 l0_2.length co6],.int .i64 a1,.int .i64 a2] rfl (by (try simp only [List.map_toArray,List.map_cons,List.map_nil]);rfl) ?_;(with_reducible refine (bs.calls a0_0 a0_1 _ _ l0_2 a1 a2 t220 _ (Kd.aE HO0_2.out).2.2 (Kd.aE HO0_2.out).2.1 A4.out).mono ?_);rintro e w9 ⟨rfl,hb⟩;refine ⟨_,rfl,?_⟩;replace HO0_2:=M0 (Kd.aK HO0_2.out hb);replace BK219:=M0 (ab BK219.out hb);replace HK:=M0 (Kept.below (S:=(fun k_=>P0_2_ k_)) HK.out hb);replace HB:=M0 (aa HB.out hb);clear hb)|((with_reducible refine ah (f:=123) rfl ?_);refine aH (some 15) rfl rfl Try.func123 (by kernel_rfl) rfl #[.int .i64 t220] rfl (by (try simp only [List.map_toArray,List.map_cons,List.map_nil]);rfl) ?_;(with_reducible refine (bI.calls k t220 t221 _ A5.out).mono ?_);rintro e w' ⟨rfl,⟨nd,rfl⟩⟩;refine ⟨_,rfl,?_⟩))
 go_loopg [7] k (fun kq v7 w'=>∃ (x7_1 : Int) (x220002_1 : List Int),v7 = .int .i64 x7_1 ∧ Aside0 (ao.l0 kq a1 a2 t221 x7_1 a0_0 a0_1 x220002_1 = some r) ∧ Aside0 (kq ≤ k) ∧ Aside0 (Kd.R (Kd.int .i64) 2 w' w0.heap.size (fun k_=>(P0_2_ k_ ∨ w.heap.size ≤ k_)) (.slice Ao6 l0_2.length co6) x220002_1) ∧ Aside0 (w'.heap[gb219]? = some (.cells #[.int .i64 a0_0,.int .i64 a0_1,(.slice Ao6 l0_2.length co6)] 27 (0,0))) ∧ Aside0 (Kept w w' (fun k_=>P0_2_ k_)) ∧ Aside0 (Below w0.heap.size w0 w'))
 case atStart=>exact ⟨(0),(l0_2),(by rfl),H',⟨Nat.le_refl _⟩,⟨by (with_reducible repeat (apply Kd.R_drewN));exact HO0_2.out⟩,⟨by (with_reducible repeat (refine bM ?_ _));exact BK219.out⟩,⟨by repeat ((with_reducible first|exact HK.out|apply Kept.drewN))⟩,⟨by repeat ((with_reducible first|exact HB.out|apply aN))⟩⟩
 case round=>
  clear H'
  (try clear hcz8_0);(try clear hcz8_1);(try clear hcz8_2);(try clear hfz8_0);(try clear hfz8_1);(try clear hfz8_2)
  obtain ⟨x7_1,x220002_1,rfl,HA,HK1,HO_220002,BK219,HK,HB⟩:=hrel
  have hl220002_1:=(Kd.aE HO_220002.out).1
  rw [hl220002_1] at HO_220002
  (try simp only [hl220002_1])
  (try simp only [hl220002_1] at BK219)
  cases gk with
  | zero=>exact absurd HA.out (by simp [ao.l0])
  | succ k1=>
   have H:=HA.out
   clear HA
   simp only [ao.l0] at H
   by_cases c10 : x7_1 < a0_1
   ·rw [if_pos c10] at H
    have c10b0:=decide_eq_true c10
    clear c10
    replace H:=Option.bind_eq_some_iff.mp H
    obtain ⟨t222,A110,H⟩:=H
    replace H : ((cf.f k1 t221 t222).bind fun t223=>(if 0 ≤ (wrap64 ((wrap64 (a1 * a0_1)) + x7_1)) then (if (wrap64 ((wrap64 (a1 * a0_1)) + x7_1)) < (x220002_1.length : Int) then (ao.l0 k1 a1 a2 t221 (wrap64 (x7_1 + 1)) a0_0 a0_1 (x220002_1.set ((wrap64 ((wrap64 (a1 * a0_1)) + x7_1)) : Int).toNat t223)) else (none)) else (none))) = some r:=H
    have A11:=M0 A110
    clear A110
    replace H:=Option.bind_eq_some_iff.mp H
    obtain ⟨t223,A120,H⟩:=H
    replace H : (if 0 ≤ (wrap64 ((wrap64 (a1 * a0_1)) + x7_1)) then (if (wrap64 ((wrap64 (a1 * a0_1)) + x7_1)) < (x220002_1.length : Int) then (ao.l0 k1 a1 a2 t221 (wrap64 (x7_1 + 1)) a0_0 a0_1 (x220002_1.set ((wrap64 ((wrap64 (a1 * a0_1)) + x7_1)) : Int).toNat t223)) else (none)) else (none)) = some r:=H
    have A12:=M0 A120
    clear A120
    obtain ⟨ji13,hji13⟩ : ∃ j_ : Int,(wrap64 ((wrap64 (a1 * a0_1)) + x7_1)) = j_:=⟨_,rfl⟩
    replace H : (if 0 ≤ (ji13) then (if (ji13) < (x220002_1.length : Int) then (ao.l0 k1 a1 a2 t221 (wrap64 (x7_1 + 1)) a0_0 a0_1 (x220002_1.set ((ji13) : Int).toNat t223)) else (none)) else (none)) = some r:=by (rw [hji13] at H;exact H)
    have hji13w : (IntKind.i64.wrap ((wrap64 (a1 * a0_1)) + x7_1)) = ji13:=(ae _).trans hji13
    obtain ⟨c14,H⟩:=nn H
    have c14b0:=decide_eq_true c14
    clear c14
    obtain ⟨c15,H⟩:=nn H
    have c15b0:=decide_eq_true c15
    clear c15
    obtain ⟨y224,hy224⟩ : ∃ y_ : List Int,y_ = (x220002_1.set ((ji13) : Int).toNat t223):=⟨_,rfl⟩
    rw [← hy224] at H
    have Ny224:=M0 hy224
    clear hy224
    have H':=M0 H
    clear H
    have hcz17_1:=bcv (v:=.int .i64 a0_1) BK219.out 1 rfl
    have hcz17_2:=bcv (v:=.slice Ao6 x220002_1.length co6) BK219.out 2 rfl
    try go_wp2
    replace HO_220002:=M0 (Kd.cL HO_220002.out)
    replace BK219:=M0 (bl BK219.out)
    replace HK:=M0 (Kept.drew HK.out)
    replace HB:=M0 (aQ HB.out)
    refine bW (n:=16) (S:=fun w'=>w'.cell? ⟨gb219,0,none⟩ = some (.int .i64 a0_0) ∧ w'.cell? ⟨gb219,1,none⟩ = some (.int .i64 a0_1) ∧ w'.cell? ⟨gb219,2,none⟩ = some (.slice Ao6 x220002_1.length co6)) (ds:=[15]) #[O,O,O,O,O,O,O,O,O,O,O,O,O,O,O,O] (by kernel_rfl) rfl rfl ⟨(ai BK219.out 0).trans rfl,(ai BK219.out 1).trans rfl,(ai BK219.out 2).trans rfl⟩ (fun hHeld=>?_);refine cr ao.tab5 ao.bits5 (fun HT_ HW_=>?_)
    generalize wr.drew = w18 at HO_220002 BK219 HK HB hHeld ⊢
    refine aq (i:=0) (N:=some 22) #[I,O,O,O,O,O,O,O,O,O,O,O,O,O,O,O] rfl rfl (aM HT_.out (by kernel_rfl)) (fun _ _ _ h=>h) (Or.inl ⟨by rfl,by intro w';go_simp;with_reducible rfl⟩) (by simp only [Act.put,List.setIfInBounds_toArray,List.set_cons_zero,List.set_cons_succ,ae,af];rfl) ?_
    refine aq (i:=2) (N:=some 24) #[I,O,I,O,O,O,O,O,O,O,O,O,O,O,O,O] rfl rfl (aM HT_.out (by kernel_rfl)) (fun _ _ _ h=>h) (Or.inl ⟨by rfl,by intro w';go_simp;with_reducible rfl⟩) (by simp only [Act.put,List.setIfInBounds_toArray,List.set_cons_zero,List.set_cons_succ,ae,af];rfl) ?_
    refine aq (i:=3) (N:=some 25) #[I,O,I,I,O,O,O,O,O,O,O,O,O,O,O,O] rfl rfl (aM HT_.out (by kernel_rfl)) (fun _ _ _ h=>h) (Or.inl ⟨by rfl,by intro w';go_simp;with_reducible rfl⟩) (by simp only [Act.put,List.setIfInBounds_toArray,List.set_cons_zero,List.set_cons_succ,ae,af];rfl) ?_
    refine aq (i:=6) (N:=some 28) #[I,O,I,I,O,O,I,O,O,O,O,O,O,O,O,O] rfl rfl (aM HT_.out (by kernel_rfl)) (fun _ _ _ h=>h) (Or.inl ⟨by rfl,by intro w';go_simp;with_reducible rfl⟩) (by simp only [Act.put,List.setIfInBounds_toArray,List.set_cons_zero,List.set_cons_succ,ae,af];rfl) ?_
    refine aq (i:=8) (N:=some 30) #[I,O,I,I,O,O,I,O,I,O,O,O,O,O,O,O] rfl rfl (aM HT_.out (by kernel_rfl)) (fun _ _ _ h=>h) (Or.inl ⟨by rfl,by intro w';go_simp;with_reducible rfl⟩) (by simp only [Act.put,List.setIfInBounds_toArray,List.set_cons_zero,List.set_cons_succ,ae,af];rfl) ?_
    refine aq (i:=10) (N:=some 32) #[I,O,I,I,O,O,I,O,I,O,I,O,O,O,O,O] rfl rfl (aM HT_.out (by kernel_rfl)) (fun _ _ _ h=>h) (Or.inl ⟨by rfl,by intro w';go_simp;with_reducible rfl⟩) (by simp only [Act.put,List.setIfInBounds_toArray,List.set_cons_zero,List.set_cons_succ,ae,af];rfl) ?_
    refine aq (i:=11) (N:=some 33) #[I,O,I,I,O,O,I,O,I,O,I,I,O,O,O,O] rfl rfl (aM HT_.out (by kernel_rfl)) (fun _ _ _ h=>h) (Or.inl ⟨by rfl,by intro w';go_simp;with_reducible rfl⟩) (by simp only [Act.put,List.setIfInBounds_toArray,List.set_cons_zero,List.set_cons_succ,ae,af];rfl) ?_
    refine bn (i:=1) (N:=some 23) #[I,I,I,I,O,O,I,O,I,O,I,I,O,O,O,O] rfl rfl (bC HT_.out HW_.out (by kernel_rfl)) (fun _ _ _ h=>h) (Or.inl ⟨by rfl,by rintro w' ⟨s0,s1,s2⟩;go_simp;with_reducible rfl⟩) hHeld (by simp only [Act.put,List.setIfInBounds_toArray,List.set_cons_zero,List.set_cons_succ,ae,af];rfl) ?_
    refine bn (i:=4) (N:=some 26) #[I,I,I,I,I,O,I,O,I,O,I,I,O,O,O,O] rfl rfl (bC HT_.out HW_.out (by kernel_rfl)) (fun _ _ _ h=>h) (Or.inl ⟨by rfl,by rintro w' ⟨s0,s1,s2⟩;go_simp;with_reducible rfl⟩) hHeld (by simp only [Act.put,List.setIfInBounds_toArray,List.set_cons_zero,List.set_cons_succ,ae,af];rfl) ?_
    refine aq (i:=5) (N:=some 27) #[I,I,I,I,I,I,I,O,I,O,I,I,O,O,O,O] rfl rfl (aM HT_.out (by kernel_rfl)) (fun _ _ _ h=>h) (Or.inl ⟨by rfl,by intro w';go_simp;with_reducible rfl⟩) (by simp only [Act.put,List.setIfInBounds_toArray,List.set_cons_zero,List.set_cons_succ,ae,af];rfl) ?_
    refine aq (i:=7) (N:=some 29) #[I,I,I,I,I,I,I,I,I,O,I,I,O,O,O,O] rfl rfl (aM HT_.out (by kernel_rfl)) (fun _ _ _ h=>h) (Or.inl ⟨by rfl,by intro w';go_simp;with_reducible rfl⟩) (by simp only [Act.put,List.setIfInBounds_toArray,List.set_cons_zero,List.set_cons_succ,ae,af];rfl) ?_
    refine bn (i:=9) (N:=some 31) #[I,I,I,I,I,I,I,I,I,I,I,I,O,O,O,O] rfl rfl (bC HT_.out HW_.out (by kernel_rfl)) (fun _ _ _ h=>h) (Or.inl ⟨by rfl,by rintro w' ⟨s0,s1,s2⟩;go_simp;with_reducible rfl⟩) hHeld (by simp only [Act.put,List.setIfInBounds_toArray,List.set_cons_zero,List.set_cons_succ,ae,af];rfl) ?_
    refine one_ (i:=12) (N:=some 34) #[I,I,I,I,I,I,I,I,I,I,I,I,I,O,O,O] rfl rfl (bR HT_.out (by kernel_rfl)) (by decide) (fun K hK=>?_)
    refine cE Try.func67 (by kernel_rfl) rfl #[.agg #[.int .i64 a0_0,.int .i64 a0_1,.slice Ao6 x220002_1.length co6],.int .i64 a1,.int .i64 x7_1] (by rfl) rfl rfl (by (try simp only [List.map_toArray,List.map_cons,List.map_nil]);rfl) ?_
    with_reducible refine (bs.calls a0_0 a0_1 _ _ x220002_1 a1 x7_1 t222 _ ?side1 ?side2 A11.out).mono ?_
    (case side1=>exact (Kd.aE HO_220002.out).2.2)
    (case side2=>exact (Kd.aE HO_220002.out).2.1)
    rintro e w19 ⟨rfl,hb⟩
    refine ⟨_,rfl,?_⟩
    replace HO_220002:=M0 (Kd.aK HO_220002.out hb)
    replace BK219:=M0 (ab BK219.out hb)
    replace HK:=M0 (Kept.below (S:=(fun k_=>P0_2_ k_)) HK.out hb)
    replace HB:=M0 (aa HB.out hb)
    clear hb
    refine hK.out _ _ ⟨(ai BK219.out 0).trans rfl,(ai BK219.out 1).trans rfl,(ai BK219.out 2).trans rfl⟩ (fun hHeld=>?_)
    clear hK K
    refine bz (a':=?_) ?_ ?_
    rotate_left
    ·show Act.put _ (some 34) _ = _
     simp only [Act.put,List.setIfInBounds_toArray,List.set_cons_zero,List.set_cons_succ,ae,af]
     rfl
    refine one_ (i:=13) (N:=some 35) #[I,I,I,I,I,I,I,I,I,I,I,I,I,I,O,O] rfl rfl (bR HT_.out (by kernel_rfl)) (by decide) (fun K hK=>?_)
    refine cE Try.func124 (by kernel_rfl) rfl #[.int .i64 t221,.int .i64 t222] (by rfl) rfl rfl (by (try simp only [List.map_toArray,List.map_cons,List.map_nil]);rfl) ?_
    with_reducible refine (cf.calls k1 t221 t222 t223 _ A12.out).mono ?_
    rintro e w' ⟨rfl,⟨nd,rfl⟩⟩
    refine ⟨_,rfl,?_⟩
    have p16 : 0 ≤ ((ji13) : Int):=of_decide_eq_true (by with_reducible assumption)
    have q16 : ((ji13) : Int) < ((x220002_1.length : Int) : Int):=of_decide_eq_true (by with_reducible assumption)
    obtain ⟨go16,co16,eo16,gb16,gl16,cl16,HG16⟩:=Kd.du HO_220002.out (by omega)
    (cases eo16)
    have GB16:=M0 gb16
    have GG16:=M0 HG16
    clear gb16 gl16 HG16
    have HMgo16:=M0 (show (P0_2_ go16 ∨ w.heap.size ≤ go16) from (HO_220002.out.1 _ rfl))
    obtain ⟨hx16_0,hf16_0⟩:=Kd.bQ 0 HO_220002.out ((ji13) : Int) p16 q16
    replace p16:=eq_true p16
    replace q16:=eq_true q16
    have HP20:=Kd.R_putn HO_220002.out ((ji13) : Int) t223
    rw [← Ny224.out] at HP20
    have HQ20:=M0 HP20
    clear HP20
    refine hK.out _ _ ⟨(ai BK219.out 0).trans rfl,(ai BK219.out 1).trans rfl,(ai BK219.out 2).trans rfl⟩ (fun hHeld=>?_)
    clear hK K
    refine bz (a':=?_) ?_ ?_
    rotate_left
    ·show Act.put _ (some 35) _ = _
     simp only [Act.put,List.setIfInBounds_toArray,List.set_cons_zero,List.set_cons_succ,ae,af]
     rfl
    refine aq (i:=14) (N:=some 36) #[I,I,I,I,I,I,I,I,I,I,I,I,I,I,I,O] rfl rfl (aM HT_.out (by kernel_rfl)) (fun _ _ _ h=>h) (Or.inl ⟨by rfl,by intro w';go_simp;with_reducible rfl⟩) (by simp only [Act.put,List.setIfInBounds_toArray,List.set_cons_zero,List.set_cons_succ,ae,af];rfl) ?_
    refine dX (i:=15) (N:=none) #[I,I,I,I,I,I,I,I,I,I,I,I,I,I,I,I] rfl rfl (bR HT_.out (by kernel_rfl)) (by decide) (fun K hK=>?_)
    refine dA (w1:=?_) (by rfl) rfl ?_ ?_
    rotate_left
    ·go_simp
     rfl
    refine hK.out _ _ ?_
    clear hK K
    refine cD (dg HT_.out (by kernel_rfl)) ?_
    try go_wp2
    (try simp only [← hl220002_1])
    go_roundg k1
    case measure=>have:=HK1.out;omega
    case rel=>exact ⟨(wrap64 (x7_1 + 1)),(y224),(by rfl),H',⟨by have:=HK1.out;omega⟩,⟨by (try simp only [hl220002_1]);exact HQ20.out⟩,⟨by (try simp only [hl220002_1]);refine aX ?_ (by have h_:=Kd.R_ne HO_220002.out BK219.out (by decide);intro e_;exact h_ (by rw [e_];rfl)) _;(with_reducible repeat (refine bM ?_ _));exact BK219.out⟩,⟨by repeat ((with_reducible first|exact HK.out|apply Kept.drewN|refine Kept.setCell ?_ HMgo16.out _))⟩,⟨by repeat ((with_reducible first|exact HB.out|apply aN|refine ax ?_ GB16.out))⟩⟩
   ·rw [if_neg c10] at H
    have c10b0:=decide_eq_false c10
    clear c10
    have H':=M0 H
    clear H
    have hcz21_0:=bcv (v:=.int .i64 a0_0) BK219.out 0 rfl
    have hcz21_1:=bcv (v:=.int .i64 a0_1) BK219.out 1 rfl
    have hcz21_2:=bcv (v:=.slice Ao6 x220002_1.length co6) BK219.out 2 rfl
    have hfz21_0:=ag BK219.out 0
    have hfz21_1:=ag BK219.out 1
    have hfz21_2:=ag BK219.out 2
    go_wp2
    go_loopg [8] k1 (fun kq v8 w'=>∃ (x8_2 : Int) (x220002_2 : List Int),v8 = .int .i64 x8_2 ∧ Aside0 (ao.l1 kq a1 a2 x8_2 a0_0 a0_1 x220002_2 = some r) ∧ Aside0 (kq ≤ k1) ∧ Aside0 (Kd.R (Kd.int .i64) 2 w' w0.heap.size (fun k_=>(P0_2_ k_ ∨ w.heap.size ≤ k_)) (.slice Ao6 x220002_1.length co6) x220002_2) ∧ Aside0 (w'.heap[gb219]? = some (.cells #[.int .i64 a0_0,.int .i64 a0_1,(.slice Ao6 x220002_1.length co6)] 27 (0,0))) ∧ Aside0 (Kept w w' (fun k_=>P0_2_ k_)) ∧ Aside0 (Below w0.heap.size w0 w'))
    case atStart=>exact ⟨(0),(x220002_1),(by rfl),H',⟨Nat.le_refl _⟩,⟨by exact HO_220002.out⟩,⟨by exact BK219.out⟩,⟨HK.out⟩,⟨HB.out⟩⟩
    case round=>
     clear H'
     (try clear c10b0);(try clear hcz21_0);(try clear hcz21_1);(try clear hcz21_2);(try clear hfz21_0);(try clear hfz21_1);(try clear hfz21_2)
     obtain ⟨x8_2,x220002_2,rfl,HA,HK2,HO_220002,BK219,HK,HB⟩:=hrel
     have hl220002_2:=(Kd.aE HO_220002.out).1
     rw [hl220002_2] at HO_220002
     (try simp only [hl220002_2])
     (try simp only [hl220002_2] at BK219)
     cases gk with
     | zero=>exact absurd HA.out (by simp [ao.l1])
     | succ k2=>
      have H:=HA.out
      clear HA
      simp only [ao.l1] at H
      by_cases c22 : x8_2 < a0_0
      ·rw [if_pos c22] at H
       have c22b0:=decide_eq_true c22
       clear c22
       replace H:=Option.bind_eq_some_iff.mp H
       obtain ⟨t225,A230,H⟩:=H
       replace H : (if x8_2 = a1 then (ao.j2 k2 a1 a2 x8_2 t225 true a0_0 a0_1 x220002_2) else (ao.j2 k2 a1 a2 x8_2 t225 (t225 == 0) a0_0 a0_1 x220002_2)) = some r:=H
       have A23:=M0 A230
       clear A230
       have HC24:=M0 H
       clear H
       have hcz25_0:=bcv (v:=.int .i64 a0_0) BK219.out 0 rfl
       have hcz25_1:=bcv (v:=.int .i64 a0_1) BK219.out 1 rfl
       have hcz25_2:=bcv (v:=.slice Ao6 x220002_2.length co6) BK219.out 2 rfl
       have hfz25_0:=ag BK219.out 0
       have hfz25_1:=ag BK219.out 1
       have hfz25_2:=ag BK219.out 2
       go_upto_region 10 with (((with_reducible refine ah (f:=67) rfl ?_);refine aH (some 46) rfl rfl Try.func67 (by kernel_rfl) rfl #[.agg #[.int .i64 a0_0,.int .i64 a0_1,.slice Ao6 x220002_2.length co6],.int .i64 x8_2,.int .i64 a2] rfl (by (try simp only [List.map_toArray,List.map_cons,List.map_nil]);rfl) ?_;(with_reducible refine (bs.calls a0_0 a0_1 _ _ x220002_2 x8_2 a2 t225 _ (Kd.aE HO_220002.out).2.2 (Kd.aE HO_220002.out).2.1 A23.out).mono ?_);rintro e w26 ⟨rfl,hb⟩;refine ⟨_,rfl,?_⟩;replace HO_220002:=M0 (Kd.aK HO_220002.out hb);replace BK219:=M0 (ab BK219.out hb);replace HK:=M0 (Kept.below (S:=(fun k_=>P0_2_ k_)) HK.out hb);replace HB:=M0 (aa HB.out hb);clear hb))
       go_cut [53] (fun v53 wc=>∃ (kq : Nat) (x53_23 : Bool),v53 = .bool x53_23 ∧ Aside0 (ao.j2 kq a1 a2 x8_2 t225 x53_23 a0_0 a0_1 x220002_2 = some r) ∧ Aside0 (kq ≤ k2) ∧ Aside0 (Kd.R (Kd.int .i64) 2 wc w0.heap.size (fun k_=>(P0_2_ k_ ∨ w.heap.size ≤ k_)) (.slice Ao6 x220002_2.length co6) x220002_2) ∧ Aside0 (wc.heap[gb219]? = some (.cells #[.int .i64 a0_0,.int .i64 a0_1,(.slice Ao6 x220002_2.length co6)] 27 (0,0))) ∧ Aside0 (Kept w wc (fun k_=>P0_2_ k_)) ∧ Aside0 (Below w0.heap.size w0 wc))
       case first=>
        have H:=HC24.out
        clear HC24
        by_cases c27 : x8_2 = a1
        ·rw [if_pos c27] at H
         have c27b0 : (x8_2 == a1) = true:=beq_iff_eq.mpr c27
         clear c27
         (skip)
         have H':=M0 H
         clear H
         go_wp2
         go_meet
         case rel=>exact ⟨_,(true),(by rfl),H',⟨by have:=HK1.out;have:=HK2.out;omega⟩,⟨by exact HO_220002.out⟩,⟨by exact BK219.out⟩,⟨HK.out⟩,⟨HB.out⟩⟩
        ·rw [if_neg c27] at H
         have c27b0 : (x8_2 == a1) = false:=beq_eq_false_iff_ne.mpr c27
         (skip)
         have H':=M0 H
         clear H
         go_wp2
         go_meet
         case rel=>exact ⟨_,((t225 == 0)),(by rfl),H',⟨by have:=HK1.out;have:=HK2.out;omega⟩,⟨by exact HO_220002.out⟩,⟨by exact BK219.out⟩,⟨HK.out⟩,⟨HB.out⟩⟩
       case rest=>
        clear HC24
        (try clear c22b0);(try clear hcz25_0);(try clear hcz25_1);(try clear hcz25_2);(try clear hfz25_0);(try clear hfz25_1);(try clear hfz25_2)
        obtain ⟨kq,x53_23,rfl,HA,HJ23,HO_220002,BK219,HK,HB⟩:=hcut
        cases kq with
        | zero=>exact absurd HA.out (by simp [ao.j2])
        | succ kj23=>
         have H:=HA.out
         clear HA
         simp only [ao.j2] at H
         by_cases c28 : x53_23 = true
         ·subst c28
          have H1 : (ao.l1 kj23 a1 a2 (wrap64 (x8_2 + 1)) a0_0 a0_1 x220002_2) = some r:=by rw [if_pos rfl] at H;exact H
          clear H
          have H:=H1
          clear H1
          have H':=M0 H
          clear H
          go_wp2
          (try simp only [← hl220002_2])
          go_roundg kj23
          case measure=>have:=HK1.out;have:=HK2.out;have:=HJ23.out;omega
          case rel=>exact ⟨(wrap64 (x8_2 + 1)),(x220002_2),(by rfl),H',⟨by have:=HK1.out;have:=HK2.out;have:=HJ23.out;omega⟩,⟨by (try simp only [hl220002_2]);exact HO_220002.out⟩,⟨by (try simp only [hl220002_2]);exact BK219.out⟩,⟨HK.out⟩,⟨HB.out⟩⟩
         ·replace c28:=Bool.eq_false_iff.mpr c28
          subst c28
          have H1 : (ao.l2 kj23 a1 a2 x8_2 t225 0 a0_0 a0_1 x220002_2) = some r:=by rw [if_neg (show ¬ (false = true) by decide)] at H;exact H
          clear H
          have H:=H1
          clear H1
          have H':=M0 H
          clear H
          go_wp2
          go_loopg [10] kj23 (fun kq v10 w'=>∃ (x10_4 : Int) (x220002_4 : List Int),v10 = .int .i64 x10_4 ∧ Aside0 (ao.l2 kq a1 a2 x8_2 t225 x10_4 a0_0 a0_1 x220002_4 = some r) ∧ Aside0 (kq ≤ kj23) ∧ Aside0 (Kd.R (Kd.int .i64) 2 w' w0.heap.size (fun k_=>(P0_2_ k_ ∨ w.heap.size ≤ k_)) (.slice Ao6 x220002_2.length co6) x220002_4) ∧ Aside0 (w'.heap[gb219]? = some (.cells #[.int .i64 a0_0,.int .i64 a0_1,(.slice Ao6 x220002_2.length co6)] 27 (0,0))) ∧ Aside0 (Kept w w' (fun k_=>P0_2_ k_)) ∧ Aside0 (Below w0.heap.size w0 w'))
          case atStart=>exact ⟨(0),(x220002_2),(by rfl),H',⟨Nat.le_refl _⟩,⟨by exact HO_220002.out⟩,⟨by exact BK219.out⟩,⟨HK.out⟩,⟨HB.out⟩⟩
          case round=>
           clear H'
           obtain ⟨x10_4,x220002_4,rfl,HA,HK4,HO_220002,BK219,HK,HB⟩:=hrel
           have hl220002_4:=(Kd.aE HO_220002.out).1
           rw [hl220002_4] at HO_220002
           (try simp only [hl220002_4])
           (try simp only [hl220002_4] at BK219)
           cases gk with
           | zero=>exact absurd HA.out (by simp [ao.l2])
           | succ k4=>
            have H:=HA.out
            clear HA
            simp only [ao.l2] at H
            by_cases c29 : x10_4 < a0_1
            ·rw [if_pos c29] at H
             have c29b0:=decide_eq_true c29
             clear c29
             replace H:=Option.bind_eq_some_iff.mp H
             obtain ⟨t226,A300,H⟩:=H
             replace H : ((bs.f a0_0 a0_1 x220002_4 a1 x10_4).bind fun t227=>((cf.f k4 t225 t227).bind fun t228=>(if 0 ≤ (wrap64 ((wrap64 (x8_2 * a0_1)) + x10_4)) then (if (wrap64 ((wrap64 (x8_2 * a0_1)) + x10_4)) < (x220002_4.length : Int) then (ao.l2 k4 a1 a2 x8_2 t225 (wrap64 (x10_4 + 1)) a0_0 a0_1 (x220002_4.set ((wrap64 ((wrap64 (x8_2 * a0_1)) + x10_4)) : Int).toNat (Go.bits .xor .i64 t226 t228))) else (none)) else (none)))) = some r:=H
             have A30:=M0 A300
             clear A300
             replace H:=Option.bind_eq_some_iff.mp H
             obtain ⟨t227,A310,H⟩:=H
             replace H : ((cf.f k4 t225 t227).bind fun t228=>(if 0 ≤ (wrap64 ((wrap64 (x8_2 * a0_1)) + x10_4)) then (if (wrap64 ((wrap64 (x8_2 * a0_1)) + x10_4)) < (x220002_4.length : Int) then (ao.l2 k4 a1 a2 x8_2 t225 (wrap64 (x10_4 + 1)) a0_0 a0_1 (x220002_4.set ((wrap64 ((wrap64 (x8_2 * a0_1)) + x10_4)) : Int).toNat (Go.bits .xor .i64 t226 t228))) else (none)) else (none))) = some r:=H
             have A31:=M0 A310
             clear A310
             replace H:=Option.bind_eq_some_iff.mp H
             obtain ⟨t228,A320,H⟩:=H
             replace H : (if 0 ≤ (wrap64 ((wrap64 (x8_2 * a0_1)) + x10_4)) then (if (wrap64 ((wrap64 (x8_2 * a0_1)) + x10_4)) < (x220002_4.length : Int) then (ao.l2 k4 a1 a2 x8_2 t225 (wrap64 (x10_4 + 1)) a0_0 a0_1 (x220002_4.set ((wrap64 ((wrap64 (x8_2 * a0_1)) + x10_4)) : Int).toNat (Go.bits .xor .i64 t226 t228))) else (none)) else (none)) = some r:=H
             have A32:=M0 A320
             clear A320
             obtain ⟨ji33,hji33⟩ : ∃ j_ : Int,(wrap64 ((wrap64 (x8_2 * a0_1)) + x10_4)) = j_:=⟨_,rfl⟩
             replace H : (if 0 ≤ (ji33) then (if (ji33) < (x220002_4.length : Int) then (ao.l2 k4 a1 a2 x8_2 t225 (wrap64 (x10_4 + 1)) a0_0 a0_1 (x220002_4.set ((ji33) : Int).toNat (Go.bits .xor .i64 t226 t228))) else (none)) else (none)) = some r:=by (rw [hji33] at H;exact H)
             have hji33w : (IntKind.i64.wrap ((wrap64 (x8_2 * a0_1)) + x10_4)) = ji33:=(ae _).trans hji33
             obtain ⟨c34,H⟩:=nn H
             have c34b0:=decide_eq_true c34
             clear c34
             obtain ⟨c35,H⟩:=nn H
             have c35b0:=decide_eq_true c35
             clear c35
             obtain ⟨y229,hy229⟩ : ∃ y_ : List Int,y_ = (x220002_4.set ((ji33) : Int).toNat (Go.bits .xor .i64 t226 t228)):=⟨_,rfl⟩
             rw [← hy229] at H
             have Ny229:=M0 hy229
             clear hy229
             have H':=M0 H
             clear H
             have hcz37_1:=bcv (v:=.int .i64 a0_1) BK219.out 1 rfl
             have hcz37_2:=bcv (v:=.slice Ao6 x220002_4.length co6) BK219.out 2 rfl
             try go_wp2
             replace HO_220002:=M0 (Kd.cL HO_220002.out)
             replace BK219:=M0 (bl BK219.out)
             replace HK:=M0 (Kept.drew HK.out)
             replace HB:=M0 (aQ HB.out)
             refine bW (n:=21) (S:=fun w'=>w'.cell? ⟨gb219,0,none⟩ = some (.int .i64 a0_0) ∧ w'.cell? ⟨gb219,1,none⟩ = some (.int .i64 a0_1) ∧ w'.cell? ⟨gb219,2,none⟩ = some (.slice Ao6 x220002_4.length co6)) (ds:=[20]) #[O,O,O,O,O,O,O,O,O,O,O,O,O,O,O,O,O,O,O,O,O] (by kernel_rfl) rfl rfl ⟨(ai BK219.out 0).trans rfl,(ai BK219.out 1).trans rfl,(ai BK219.out 2).trans rfl⟩ (fun hHeld=>?_);refine cr ao.tab14 ao.bits14 (fun HT_ HW_=>?_)
             generalize wr.drew = w38 at HO_220002 BK219 HK HB hHeld ⊢
             refine aq (i:=0) (N:=some 60) #[I,O,O,O,O,O,O,O,O,O,O,O,O,O,O,O,O,O,O,O,O] rfl rfl (aM HT_.out (by kernel_rfl)) (fun _ _ _ h=>h) (Or.inl ⟨by rfl,by intro w';go_simp;with_reducible rfl⟩) (by simp only [Act.put,List.setIfInBounds_toArray,List.set_cons_zero,List.set_cons_succ,ae,af];rfl) ?_
             refine aq (i:=2) (N:=some 62) #[I,O,I,O,O,O,O,O,O,O,O,O,O,O,O,O,O,O,O,O,O] rfl rfl (aM HT_.out (by kernel_rfl)) (fun _ _ _ h=>h) (Or.inl ⟨by rfl,by intro w';go_simp;with_reducible rfl⟩) (by simp only [Act.put,List.setIfInBounds_toArray,List.set_cons_zero,List.set_cons_succ,ae,af];rfl) ?_
             refine aq (i:=3) (N:=some 63) #[I,O,I,I,O,O,O,O,O,O,O,O,O,O,O,O,O,O,O,O,O] rfl rfl (aM HT_.out (by kernel_rfl)) (fun _ _ _ h=>h) (Or.inl ⟨by rfl,by intro w';go_simp;with_reducible rfl⟩) (by simp only [Act.put,List.setIfInBounds_toArray,List.set_cons_zero,List.set_cons_succ,ae,af];rfl) ?_
             refine aq (i:=6) (N:=some 66) #[I,O,I,I,O,O,I,O,O,O,O,O,O,O,O,O,O,O,O,O,O] rfl rfl (aM HT_.out (by kernel_rfl)) (fun _ _ _ h=>h) (Or.inl ⟨by rfl,by intro w';go_simp;with_reducible rfl⟩) (by simp only [Act.put,List.setIfInBounds_toArray,List.set_cons_zero,List.set_cons_succ,ae,af];rfl) ?_
             refine aq (i:=9) (N:=some 69) #[I,O,I,I,O,O,I,O,O,I,O,O,O,O,O,O,O,O,O,O,O] rfl rfl (aM HT_.out (by kernel_rfl)) (fun _ _ _ h=>h) (Or.inl ⟨by rfl,by intro w';go_simp;with_reducible rfl⟩) (by simp only [Act.put,List.setIfInBounds_toArray,List.set_cons_zero,List.set_cons_succ,ae,af];rfl) ?_
             refine aq (i:=10) (N:=some 70) #[I,O,I,I,O,O,I,O,O,I,I,O,O,O,O,O,O,O,O,O,O] rfl rfl (aM HT_.out (by kernel_rfl)) (fun _ _ _ h=>h) (Or.inl ⟨by rfl,by intro w';go_simp;with_reducible rfl⟩) (by simp only [Act.put,List.setIfInBounds_toArray,List.set_cons_zero,List.set_cons_succ,ae,af];rfl) ?_
             refine aq (i:=12) (N:=some 72) #[I,O,I,I,O,O,I,O,O,I,I,O,I,O,O,O,O,O,O,O,O] rfl rfl (aM HT_.out (by kernel_rfl)) (fun _ _ _ h=>h) (Or.inl ⟨by rfl,by intro w';go_simp;with_reducible rfl⟩) (by simp only [Act.put,List.setIfInBounds_toArray,List.set_cons_zero,List.set_cons_succ,ae,af];rfl) ?_
             refine aq (i:=14) (N:=some 74) #[I,O,I,I,O,O,I,O,O,I,I,O,I,O,I,O,O,O,O,O,O] rfl rfl (aM HT_.out (by kernel_rfl)) (fun _ _ _ h=>h) (Or.inl ⟨by rfl,by intro w';go_simp;with_reducible rfl⟩) (by simp only [Act.put,List.setIfInBounds_toArray,List.set_cons_zero,List.set_cons_succ,ae,af];rfl) ?_
             refine aq (i:=15) (N:=some 75) #[I,O,I,I,O,O,I,O,O,I,I,O,I,O,I,I,O,O,O,O,O] rfl rfl (aM HT_.out (by kernel_rfl)) (fun _ _ _ h=>h) (Or.inl ⟨by rfl,by intro w';go_simp;with_reducible rfl⟩) (by simp only [Act.put,List.setIfInBounds_toArray,List.set_cons_zero,List.set_cons_succ,ae,af];rfl) ?_
             refine bn (i:=1) (N:=some 61) #[I,I,I,I,O,O,I,O,O,I,I,O,I,O,I,I,O,O,O,O,O] rfl rfl (bC HT_.out HW_.out (by kernel_rfl)) (fun _ _ _ h=>h) (Or.inl ⟨by rfl,by rintro w' ⟨s0,s1,s2⟩;go_simp;with_reducible rfl⟩) hHeld (by simp only [Act.put,List.setIfInBounds_toArray,List.set_cons_zero,List.set_cons_succ,ae,af];rfl) ?_
             refine bn (i:=4) (N:=some 64) #[I,I,I,I,I,O,I,O,O,I,I,O,I,O,I,I,O,O,O,O,O] rfl rfl (bC HT_.out HW_.out (by kernel_rfl)) (fun _ _ _ h=>h) (Or.inl ⟨by rfl,by rintro w' ⟨s0,s1,s2⟩;go_simp;with_reducible rfl⟩) hHeld (by simp only [Act.put,List.setIfInBounds_toArray,List.set_cons_zero,List.set_cons_succ,ae,af];rfl) ?_
             refine aq (i:=5) (N:=some 65) #[I,I,I,I,I,I,I,O,O,I,I,O,I,O,I,I,O,O,O,O,O] rfl rfl (aM HT_.out (by kernel_rfl)) (fun _ _ _ h=>h) (Or.inl ⟨by rfl,by intro w';go_simp;with_reducible rfl⟩) (by simp only [Act.put,List.setIfInBounds_toArray,List.set_cons_zero,List.set_cons_succ,ae,af];rfl) ?_
             refine aq (i:=7) (N:=some 67) #[I,I,I,I,I,I,I,I,O,I,I,O,I,O,I,I,O,O,O,O,O] rfl rfl (aM HT_.out (by kernel_rfl)) (fun _ _ _ h=>h) (Or.inl ⟨by rfl,by intro w';go_simp;with_reducible rfl⟩) (by simp only [Act.put,List.setIfInBounds_toArray,List.set_cons_zero,List.set_cons_succ,ae,af];rfl) ?_
             refine bn (i:=8) (N:=some 68) #[I,I,I,I,I,I,I,I,I,I,I,O,I,O,I,I,O,O,O,O,O] rfl rfl (bC HT_.out HW_.out (by kernel_rfl)) (fun _ _ _ h=>h) (Or.inl ⟨by rfl,by rintro w' ⟨s0,s1,s2⟩;go_simp;with_reducible rfl⟩) hHeld (by simp only [Act.put,List.setIfInBounds_toArray,List.set_cons_zero,List.set_cons_succ,ae,af];rfl) ?_
             refine bn (i:=13) (N:=some 73) #[I,I,I,I,I,I,I,I,I,I,I,O,I,I,I,I,O,O,O,O,O] rfl rfl (bC HT_.out HW_.out (by kernel_rfl)) (fun _ _ _ h=>h) (Or.inl ⟨by rfl,by rintro w' ⟨s0,s1,s2⟩;go_simp;with_reducible rfl⟩) hHeld (by simp only [Act.put,List.setIfInBounds_toArray,List.set_cons_zero,List.set_cons_succ,ae,af];rfl) ?_
             refine one_ (i:=11) (N:=some 71) #[I,I,I,I,I,I,I,I,I,I,I,I,I,I,I,I,O,O,O,O,O] rfl rfl (bR HT_.out (by kernel_rfl)) (by decide) (fun K hK=>?_)
             refine cE Try.func67 (by kernel_rfl) rfl #[.agg #[.int .i64 a0_0,.int .i64 a0_1,.slice Ao6 x220002_4.length co6],.int .i64 x8_2,.int .i64 x10_4] (by rfl) rfl rfl (by (try simp only [List.map_toArray,List.map_cons,List.map_nil]);rfl) ?_
             with_reducible refine (bs.calls a0_0 a0_1 _ _ x220002_4 x8_2 x10_4 t226 _ ?side1 ?side2 A30.out).mono ?_
             (case side1=>exact (Kd.aE HO_220002.out).2.2)
             (case side2=>exact (Kd.aE HO_220002.out).2.1)
             rintro e w39 ⟨rfl,hb⟩
             refine ⟨_,rfl,?_⟩
             replace HO_220002:=M0 (Kd.aK HO_220002.out hb)
             replace BK219:=M0 (ab BK219.out hb)
             replace HK:=M0 (Kept.below (S:=(fun k_=>P0_2_ k_)) HK.out hb)
             replace HB:=M0 (aa HB.out hb)
             clear hb
             refine hK.out _ _ ⟨(ai BK219.out 0).trans rfl,(ai BK219.out 1).trans rfl,(ai BK219.out 2).trans rfl⟩ (fun hHeld=>?_)
             clear hK K
             refine bz (a':=?_) ?_ ?_
             rotate_left
             ·show Act.put _ (some 71) _ = _
              simp only [Act.put,List.setIfInBounds_toArray,List.set_cons_zero,List.set_cons_succ,ae,af]
              rfl
             refine one_ (i:=16) (N:=some 76) #[I,I,I,I,I,I,I,I,I,I,I,I,I,I,I,I,I,O,O,O,O] rfl rfl (bR HT_.out (by kernel_rfl)) (by decide) (fun K hK=>?_)
             refine cE Try.func67 (by kernel_rfl) rfl #[.agg #[.int .i64 a0_0,.int .i64 a0_1,.slice Ao6 x220002_4.length co6],.int .i64 a1,.int .i64 x10_4] (by rfl) rfl rfl (by (try simp only [List.map_toArray,List.map_cons,List.map_nil]);rfl) ?_
             with_reducible refine (bs.calls a0_0 a0_1 _ _ x220002_4 a1 x10_4 t227 _ ?side1 ?side2 A31.out).mono ?_
             (case side1=>exact (Kd.aE HO_220002.out).2.2)
             (case side2=>exact (Kd.aE HO_220002.out).2.1)
             rintro e w40 ⟨rfl,hb⟩
             refine ⟨_,rfl,?_⟩
             replace HO_220002:=M0 (Kd.aK HO_220002.out hb)
             replace BK219:=M0 (ab BK219.out hb)
             replace HK:=M0 (Kept.below (S:=(fun k_=>P0_2_ k_)) HK.out hb)
             replace HB:=M0 (aa HB.out hb)
             clear hb
             refine hK.out _ _ ⟨(ai BK219.out 0).trans rfl,(ai BK219.out 1).trans rfl,(ai BK219.out 2).trans rfl⟩ (fun hHeld=>?_)
             clear hK K
             refine bz (a':=?_) ?_ ?_
             rotate_left
             ·show Act.put _ (some 76) _ = _
              simp only [Act.put,List.setIfInBounds_toArray,List.set_cons_zero,List.set_cons_succ,ae,af]
              rfl
             refine one_ (i:=17) (N:=some 77) #[I,I,I,I,I,I,I,I,I,I,I,I,I,I,I,I,I,I,O,O,O] rfl rfl (bR HT_.out (by kernel_rfl)) (by decide) (fun K hK=>?_)
             refine cE Try.func124 (by kernel_rfl) rfl #[.int .i64 t225,.int .i64 t227] (by rfl) rfl rfl (by (try simp only [List.map_toArray,List.map_cons,List.map_nil]);rfl) ?_
             with_reducible refine (cf.calls k4 t225 t227 t228 _ A32.out).mono ?_
             rintro e w' ⟨rfl,⟨nd,rfl⟩⟩
             refine ⟨_,rfl,?_⟩
             have p36 : 0 ≤ ((ji33) : Int):=of_decide_eq_true (by with_reducible assumption)
             have q36 : ((ji33) : Int) < ((x220002_4.length : Int) : Int):=of_decide_eq_true (by with_reducible assumption)
             obtain ⟨go36,co36,eo36,gb36,gl36,cl36,HG36⟩:=Kd.du HO_220002.out (by omega)
             (cases eo36)
             have GB36:=M0 gb36
             have GG36:=M0 HG36
             clear gb36 gl36 HG36
             have HMgo36:=M0 (show (P0_2_ go36 ∨ w.heap.size ≤ go36) from (HO_220002.out.1 _ rfl))
             obtain ⟨hx36_0,hf36_0⟩:=Kd.bQ 0 HO_220002.out ((ji33) : Int) p36 q36
             replace p36:=eq_true p36
             replace q36:=eq_true q36
             have HP41:=Kd.R_putn HO_220002.out ((ji33) : Int) (Go.bits .xor .i64 t226 t228)
             rw [← Ny229.out] at HP41
             have HQ41:=M0 HP41
             clear HP41
             refine hK.out _ _ ⟨(ai BK219.out 0).trans rfl,(ai BK219.out 1).trans rfl,(ai BK219.out 2).trans rfl⟩ (fun hHeld=>?_)
             clear hK K
             refine bz (a':=?_) ?_ ?_
             rotate_left
             ·show Act.put _ (some 77) _ = _
              simp only [Act.put,List.setIfInBounds_toArray,List.set_cons_zero,List.set_cons_succ,ae,af]
              rfl
             refine aq (i:=18) (N:=some 78) #[I,I,I,I,I,I,I,I,I,I,I,I,I,I,I,I,I,I,I,O,O] rfl rfl (aM HT_.out (by kernel_rfl)) (fun _ _ _ h=>h) (Or.inl ⟨by rfl,by intro w';go_simp;with_reducible rfl⟩) (by simp only [Act.put,List.setIfInBounds_toArray,List.set_cons_zero,List.set_cons_succ,ae,af];rfl) ?_
             refine aq (i:=19) (N:=some 79) #[I,I,I,I,I,I,I,I,I,I,I,I,I,I,I,I,I,I,I,I,O] rfl rfl (aM HT_.out (by kernel_rfl)) (fun _ _ _ h=>h) (Or.inl ⟨by rfl,by intro w';go_simp;with_reducible rfl⟩) (by simp only [Act.put,List.setIfInBounds_toArray,List.set_cons_zero,List.set_cons_succ,ae,af];rfl) ?_
             refine dX (i:=20) (N:=none) #[I,I,I,I,I,I,I,I,I,I,I,I,I,I,I,I,I,I,I,I,I] rfl rfl (bR HT_.out (by kernel_rfl)) (by decide) (fun K hK=>?_)
             refine dA (w1:=?_) (by rfl) rfl ?_ ?_
             rotate_left
             ·go_simp
              rfl
             refine hK.out _ _ ?_
             clear hK K
             refine cD (dg HT_.out (by kernel_rfl)) ?_
             try go_wp2
             (try simp only [← hl220002_4])
             go_roundg k4
             case measure=>have:=HK1.out;have:=HK2.out;have:=HJ23.out;have:=HK4.out;omega
             case rel=>exact ⟨(wrap64 (x10_4 + 1)),(y229),(by rfl),H',⟨by have:=HK1.out;have:=HK2.out;have:=HJ23.out;have:=HK4.out;omega⟩,⟨by (try simp only [hl220002_4]);exact HQ41.out⟩,⟨by (try simp only [hl220002_4]);refine aX ?_ (by have h_:=Kd.R_ne HO_220002.out BK219.out (by decide);intro e_;exact h_ (by rw [e_];rfl)) _;(with_reducible repeat (refine bM ?_ _));exact BK219.out⟩,⟨by repeat ((with_reducible first|exact HK.out|apply Kept.drewN|refine Kept.setCell ?_ HMgo36.out _))⟩,⟨by repeat ((with_reducible first|exact HB.out|apply aN|refine ax ?_ GB36.out))⟩⟩
            ·rw [if_neg c29] at H
             have c29b0:=decide_eq_false c29
             clear c29
             have H':=M0 H
             clear H
             have hcz42_1:=bcv (v:=.int .i64 a0_1) BK219.out 1 rfl
             go_wp2
             (try simp only [← hl220002_2,← hl220002_4])
             go_roundg k4
             case measure=>have:=HK1.out;have:=HK2.out;have:=HJ23.out;have:=HK4.out;omega
             case rel=>exact ⟨(wrap64 (x8_2 + 1)),(x220002_4),(by rfl),H',⟨by have:=HK1.out;have:=HK2.out;have:=HJ23.out;have:=HK4.out;omega⟩,⟨by (try simp only [hl220002_2]);(try simp only [hl220002_4]);exact HO_220002.out⟩,⟨by (try simp only [hl220002_2]);(try simp only [hl220002_4]);exact BK219.out⟩,⟨HK.out⟩,⟨HB.out⟩⟩
      ·rw [if_neg c22] at H
       have c22b0:=decide_eq_false c22
       clear c22
       obtain rfl:=Option.some.inj H
       have hcz43_0:=bcv (v:=.int .i64 a0_0) BK219.out 0 rfl
       go_wp2
       go_end0
       exact ⟨by rfl,HO_220002.out,HB.out,HK.out⟩

end Go.Proofs.Ytffhbpepppodeaa.PFnExactJoinObject
