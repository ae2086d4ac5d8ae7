import Derived.Test.YtffhbpepppodeaaPFnExactJoinObjectx0
import Derived.Test.YtffhbpepppodeaaPFnExactJoinObjectx6
import Derived.Test.YtffhbpepppodeaaPFnExactJoinObjectx7
import Derived.Test.YtffhbpepppodeaaPFnExactJoinObjectx13
namespace Go.Proofs.Ytffhbpepppodeaa.PFnExactJoinObject
private theorem nn {α : Type} {c : Prop} [Decidable c] {a : Option α} {r : α} (h : (if c then a else none) = some r) : c ∧ a = some r:=by
 split at h
 ·exact ⟨‹c›,h⟩
 ·cases h
open Go.RowKit Go.Proofs.YtffhbpepppodeaaW.PrintWords Go.Proofs.YtffhbpepppodeaaW.PrintLast Go.Proofs.YtffhbpepppodeaaW.PrintMore
attribute [local go_sem] cF cG cW cX cn cp cI cJ   -- for this text's walks alone
set_option linter.unusedVariables false
set_option linter.unusedSimpArgs false

/-! ### aZ: function 104 -/
mutual
def aZ.l0 : Nat → List ByteArray → List Int → Int → List Int → List ByteArray → Int → Int → Int → Int → Option (List ByteArray)
 | 0,_,_,_,_,_,_,_,_,_=>none
 | k + 1,x1,x2,x3,x9,x10,x11,x315000,x315001,x315002=>if x11 < (x2.length : Int) then (if 0 ≤ x11 then ((aG.f k x315000 x315001 x315002 (rd x2 x11)).bind fun t322=>(if x9.length + t322.length < 17592186044416 then (if 0 ≤ (rd x2 x11) then (if (rd x2 x11) < (x1.length : Int) then (if x10.length < 8796093022208 then (aZ.l0 k x1 x2 x3 (x9 ++ t322) (x10 ++ [rdOf ByteArray.empty x1 (rd x2 x11)]) (wrap64 (x11 + 1)) x315000 x315001 x315002) else (none)) else (none)) else (none)) else (none))) else (none)) else ((an.f k x315000 x315000 x9).bind fun bt333=>(aZ.l1 k x3 x10 (([] : List ByteArray)) 0 x315000 x315001 x315002 bt333.2.1 bt333.2.2.1 bt333.2.2.2))
def aZ.l1 : Nat → Int → List ByteArray → List ByteArray → Int → Int → Int → Int → Int → Int → List Int → Option (List ByteArray)
 | 0,_,_,_,_,_,_,_,_,_,_=>none
 | k + 1,x3,x10,x13,x14,x315000,x315001,x315002,x340000,x340001,x340002=>if x14 < x315000 then (if 0 ≤ (wrap64 (x14 * x315000)) then (if (wrap64 (x14 * x315000)) ≤ (wrap64 ((wrap64 (x14 * x315000)) + x315000)) then (if (wrap64 ((wrap64 (x14 * x315000)) + x315000)) ≤ (x340002.length : Int) then ((a5.f k ((x340002.take ((wrap64 ((wrap64 (x14 * x315000)) + x315000)) : Int).toNat).drop ((wrap64 (x14 * x315000)) : Int).toNat) x10 x3).bind fun t347=>(if x13.length < 8796093022208 then (aZ.l1 k x3 x10 (x13 ++ [t347]) (wrap64 (x14 + 1)) x315000 x315001 x315002 x340000 x340001 x340002) else (none))) else (none)) else (none)) else (none)) else (some x13)
end
def aZ.f (k : Nat) (a0_0 : Int) (a0_1 : Int) (a0_2 : Int) (l1 : List ByteArray) (l2 : List Int) (a3 : Int) : Option (List ByteArray):=aZ.l0 k l1 l2 a3 (([] : List Int)) (([] : List ByteArray)) 0 a0_0 a0_1 a0_2
def aZ.T6 : Bool × List (List Nat × List Nat):=(true,[([],[]),([],[]),([],[]),([],[]),([2,3],[2,3]),([4],[4]),([1,5],[1,5]),([0,6,6],[0,6]),([7,7,0,1,2,3,4,5,6,7],[0,7])])
def aZ.B6 : List Nat:=[0,0,0,0,12,28,62,127,255]
theorem aZ.tab6 : rtab .any (opsOf Try.f104 6) = aZ.T6:=by kernel_rfl
theorem aZ.bits6 : cQ aZ.T6.2 aZ.B6 = true:=by kernel_rfl
set_option maxHeartbeats 8000000 in
set_option maxRecDepth 100000 in
theorem aZ.calls (k : Nat) (a0_0 : Int) (a0_1 : Int) (a0_2 : Int) (A1 : Option Addr) (c1 : Nat) (l1 : List ByteArray) (A2 : Option Addr) (c2 : Nat) (l2 : List Int) (a3 : Int) (r : List ByteArray) (w : World) (hr1 : Kd.C Kd.string w A1 l1.length l1) (hc1 : l1.length ≤ c1) (hr2 : Kd.C (Kd.int .i64) w A2 l2.length l2) (hc2 : l2.length ≤ c2) (h : aZ.f k a0_0 a0_1 a0_2 l1 l2 a3 = some r) :
  Calls Try.prog 104 #[.agg #[.int .i64 a0_0,.int .i64 a0_1,.int .i64 a0_2],.slice A1 l1.length c1,.slice A2 l2.length c2,.int .i64 a3] w fun e w'=>∃ v0_ : Value,e = .returned (v0_) ∧ Kd.R Kd.string 9 w' w.heap.size (fun _=>True) v0_ r ∧ Below w.heap.size w w':=by
 have hfd1 : ∀ (a b c : Int) (v : Value) (w : World),(Instr.field 32 (.agg #[.int .i64 a,.int .i64 b,.int .i64 c,v]) 1).run Try.prog w = .ok (.agg #[.int .i64 b,.int .i64 c,v]) w:=fun _ _ _ _ _=>by kernel_rfl
 have HR1:=M0 hr1
 have HC1:=M0 hc1
 clear hr1 hc1
 have HR2:=M0 hr2
 have HC2:=M0 hc2
 clear hr2 hc2
 have HB:=M0 (Below.refl w.heap.size w)
 have H : (aZ.l0 k l1 l2 a3 (([] : List Int)) (([] : List ByteArray)) 0 a0_0 a0_1 a0_2) = some r:=h
 clear h
 obtain ⟨y315,hy315⟩ : ∃ y_ : List Int,y_ = (([] : List Int)):=⟨_,rfl⟩
 rw [← hy315] at H
 have Ny315:=M0 hy315
 clear hy315
 obtain ⟨y318,hy318⟩ : ∃ y_ : List ByteArray,y_ = (([] : List ByteArray)):=⟨_,rfl⟩
 rw [← hy318] at H
 have Ny318:=M0 hy318
 clear hy318
 have H':=M0 H
 clear H
 go_enter Try.func104,Try.ntmps104
 go_wp2_with (first|((with_reducible refine ak (N:=4) rfl ?_);refine aw rfl (N:=4) rfl (cs:=#[.int .i64 a0_0,.int .i64 a0_1,.int .i64 a0_2]) (t:=43) (by go_simp) ?_;intro gb314 hg w5 hbox hb;have BK314:=M0 (hbox);replace HB:=M0 (aa HB.out hb);clear hb hbox hg)|((with_reducible refine ak (N:=15) rfl ?_);refine Kd.R_lit (Kd.int .i64) _ 2 ?hg (N:=15) ?hd (xs:=([] : List Int)) (inner:=[]) (ok:=fun _=>True) (okp:=fun _=>True) ?hr ?hp (fun _ hk=>hk) trivial (Below.refl _ _) (Nat.le_refl _) (by simp) ?_;(case hd=>rfl);(case hg=>rfl);(case hr=>(go_simp;done));(case hp=>exact (Reps.none _ _));intro v316 w6 ho7 hb hg_ hnew_;clear hg_ hnew_;(rw [← Ny315.out] at ho7);have HO317:=M0 (Kd.bj ho7 (aj HB.out));replace BK314:=M0 (ab BK314.out hb);replace HB:=M0 (aa HB.out hb);clear hb ho7)|((with_reducible refine ak (N:=16) rfl ?_);refine Kd.R_lit Kd.string _ 9 ?hg (N:=16) ?hd (xs:=([] : List ByteArray)) (inner:=[]) (ok:=fun _=>True) (okp:=fun _=>True) ?hr ?hp (fun _ hk=>hk) trivial (Below.refl _ _) (Nat.le_refl _) (by simp) ?_;(case hd=>rfl);(case hg=>rfl);(case hr=>(go_simp;done));(case hp=>exact (Reps.none _ _));intro v319 w8 ho9 hb hg_ hnew_;clear hg_ hnew_;(rw [← Ny318.out] at ho9);replace HO317:=M0 (Kd.aK HO317.out hb);have HO320:=M0 (Kd.bj ho9 (aj HB.out));replace BK314:=M0 (ab BK314.out hb);replace HB:=M0 (aa HB.out hb);clear hb ho9))
 go_loopg [9,10,11] k (fun kq v9 v10 v11 w'=>∃ (x9_1 : List Int) (x10_1 : List ByteArray) (x11_1 : Int),v11 = .int .i64 x11_1 ∧ Aside0 (aZ.l0 kq l1 l2 a3 x9_1 x10_1 x11_1 a0_0 a0_1 a0_2 = some r) ∧ Aside0 (kq ≤ k) ∧ Aside0 (Kd.R (Kd.int .i64) 2 w' w.heap.size (fun _=>True) v9 x9_1) ∧ Aside0 (Kd.R Kd.string 9 w' w.heap.size (fun _=>True) v10 x10_1) ∧ Aside0 (w'.heap[gb314]? = some (.cells #[.int .i64 a0_0,.int .i64 a0_1,.int .i64 a0_2] 43 (0,0))) ∧ Aside0 (Below w.heap.size w w'))
 case atStart=>exact ⟨(y315),(y318),(0),(by rfl),H',⟨Nat.le_refl _⟩,⟨by exact HO317.out⟩,⟨by exact HO320.out⟩,⟨by exact BK314.out⟩,⟨HB.out⟩⟩
 case round=>
  clear H'
  obtain ⟨x9_1,x10_1,x11_1,rfl,HA,HK1,HO_9,HO_10,BK314,HB⟩:=hrel
  cases gk with
  | zero=>exact absurd HA.out (by simp [aZ.l0])
  | succ k1=>
   have H:=HA.out
   clear HA
   simp only [aZ.l0] at H
   by_cases c10 : x11_1 < (l2.length : Int)
   ·rw [if_pos c10] at H
    have c10b0:=decide_eq_true c10
    clear c10
    obtain ⟨c11,H⟩:=nn H
    have c11b0:=decide_eq_true c11
    clear c11
    replace H:=Option.bind_eq_some_iff.mp H
    obtain ⟨t322,A120,H⟩:=H
    replace H : (if x9_1.length + t322.length < 17592186044416 then (if 0 ≤ (rd l2 x11_1) then (if (rd l2 x11_1) < (l1.length : Int) then (if x10_1.length < 8796093022208 then (aZ.l0 k1 l1 l2 a3 (x9_1 ++ t322) (x10_1 ++ [rdOf ByteArray.empty l1 (rd l2 x11_1)]) (wrap64 (x11_1 + 1)) a0_0 a0_1 a0_2) else (none)) else (none)) else (none)) else (none)) = some r:=H
    have A12:=M0 A120
    clear A120
    obtain ⟨c13,H⟩:=nn H
    have LMc13:=M0 c13
    clear c13
    obtain ⟨y325,hy325⟩ : ∃ y_ : List Int,y_ = (x9_1 ++ t322):=⟨_,rfl⟩
    rw [← hy325] at H
    have Ny325:=M0 hy325
    clear hy325
    obtain ⟨c14,H⟩:=nn H
    have c14b0:=decide_eq_true c14
    clear c14
    obtain ⟨c15,H⟩:=nn H
    have c15b0:=decide_eq_true c15
    clear c15
    obtain ⟨c16,H⟩:=nn H
    have LMc16:=M0 c16
    clear c16
    obtain ⟨y330,hy330⟩ : ∃ y_ : List ByteArray,y_ = (x10_1 ++ [rdOf ByteArray.empty l1 (rd l2 x11_1)]):=⟨_,rfl⟩
    rw [← hy330] at H
    have Ny330:=M0 hy330
    clear hy330
    have H':=M0 H
    clear H
    try go_wp2
    replace HO_9:=M0 (Kd.cL HO_9.out)
    replace HO_10:=M0 (Kd.cL HO_10.out)
    replace BK314:=M0 (bl BK314.out)
    replace HB:=M0 (aQ HB.out)
    have p321 : 0 ≤ (x11_1 : Int):=of_decide_eq_true (by with_reducible assumption)
    have q321 : x11_1 < (l2.length : Int):=of_decide_eq_true (by with_reducible assumption)
    obtain ⟨ad321,e321,hx321_0⟩:=Kd.at_int HR2.out x11_1 p321 q321
    have hw321_0:=hx321_0
    cases e321
    replace hx321_0:=(HB.out.cell (World.block_lt_of_cell? w _ hx321_0)).trans hx321_0
    replace p321:=eq_true p321
    replace q321:=eq_true q321
    refine bW (n:=9) (S:=fun w'=>w'.cell? ⟨gb314,0,none⟩ = some (.int .i64 a0_0) ∧ w'.cell? ⟨gb314,1,none⟩ = some (.int .i64 a0_1) ∧ w'.cell? ⟨gb314,2,none⟩ = some (.int .i64 a0_2) ∧ w'.cell? (ad321.add (x11_1).toNat) = some (.int .i64 (rd l2 x11_1))) (ds:=[]) #[O,O,O,O,O,O,O,O,O] (by kernel_rfl) rfl rfl ⟨(ai BK314.out 0).trans rfl,(ai BK314.out 1).trans rfl,(ai BK314.out 2).trans rfl,((HB.out.cell (World.block_lt_of_cell? w _ hw321_0)).trans hw321_0)⟩ (fun hHeld=>?_);refine cr aZ.tab6 aZ.bits6 (fun HT_ HW_=>?_)
    generalize wr.drew = w17 at HO_9 HO_10 BK314 HB hx321_0 hHeld ⊢
    refine aq (i:=0) (N:=some 23) #[I,O,O,O,O,O,O,O,O] rfl rfl (aM HT_.out (by kernel_rfl)) (fun _ _ _ h=>h) (Or.inl ⟨by rfl,by intro w';go_simp;with_reducible rfl⟩) (by simp only [Act.put,List.setIfInBounds_toArray,List.set_cons_zero,List.set_cons_succ,ae,af];rfl) ?_
    refine aq (i:=2) (N:=some 25) #[I,O,I,O,O,O,O,O,O] rfl rfl (aM HT_.out (by kernel_rfl)) (fun _ _ _ h=>h) (Or.inl ⟨by rfl,by intro w';go_simp;with_reducible rfl⟩) (by simp only [Act.put,List.setIfInBounds_toArray,List.set_cons_zero,List.set_cons_succ,ae,af];rfl) ?_
    refine aq (i:=3) (N:=some 26) #[I,O,I,I,O,O,O,O,O] rfl rfl (aM HT_.out (by kernel_rfl)) (fun _ _ _ h=>h) (Or.inl ⟨by rfl,by intro w';go_simp;with_reducible rfl⟩) (by simp only [Act.put,List.setIfInBounds_toArray,List.set_cons_zero,List.set_cons_succ,ae,af];rfl) ?_
    refine aq (i:=4) (N:=some 27) #[I,O,I,I,I,O,O,O,O] rfl rfl (aM HT_.out (by kernel_rfl)) (fun _ _ _ h=>h) (Or.inl ⟨by rfl,by intro w';go_simp;with_reducible rfl⟩) (by simp only [Act.put,List.setIfInBounds_toArray,List.set_cons_zero,List.set_cons_succ,ae,af];rfl) ?_
    refine bn (i:=1) (N:=some 24) #[I,I,I,I,I,O,O,O,O] rfl rfl (bC HT_.out HW_.out (by kernel_rfl)) (fun _ _ _ h=>h) (Or.inl ⟨by rfl,by rintro w' ⟨s0,s1,s2,s3⟩;go_simp;with_reducible rfl⟩) hHeld (by simp only [Act.put,List.setIfInBounds_toArray,List.set_cons_zero,List.set_cons_succ,ae,af];rfl) ?_
    refine bn (i:=5) (N:=some 28) #[I,I,I,I,I,I,O,O,O] rfl rfl (bC HT_.out HW_.out (by kernel_rfl)) (fun _ _ _ h=>h) (Or.inl ⟨by rfl,by rintro w' ⟨s0,s1,s2,s3⟩;go_simp;with_reducible rfl⟩) hHeld (by simp only [Act.put,List.setIfInBounds_toArray,List.set_cons_zero,List.set_cons_succ,ae,af];rfl) ?_
    refine one_ (i:=6) (N:=some 29) #[I,I,I,I,I,I,I,O,O] rfl rfl (bR HT_.out (by kernel_rfl)) (by decide) (fun K hK=>?_)
    refine cE Try.func128 (by kernel_rfl) rfl #[.agg #[.int .i64 a0_0,.int .i64 a0_1,.int .i64 a0_2],.int .i64 (rd l2 x11_1)] (by rfl) rfl rfl (by (try simp only [List.map_toArray,List.map_cons,List.map_nil]);rfl) ?_
    with_reducible refine (aG.calls k1 a0_0 a0_1 a0_2 (rd l2 x11_1) t322 _ A12.out).mono ?_
    rintro e w18 ⟨v323,rfl,ho0,hb⟩
    refine ⟨_,rfl,?_⟩
    replace HO_10:=M0 (Kd.aK HO_10.out hb)
    have HO324:=M0 (Kd.bj (Kd.cZ ho0 (Kd.R_lt HO_9.out)) (aj HB.out))
    replace HO_9:=M0 (Kd.cj HO_9.out (Kd.cS ho0) hb)
    replace BK314:=M0 (ab BK314.out hb)
    replace HB:=M0 (aa HB.out hb)
    clear hb ho0
    obtain ⟨Ao20,co20,eo20⟩:=Kd.bc HO324.out
    (subst eo20)
    refine hK.out _ _ ⟨(ai BK314.out 0).trans rfl,(ai BK314.out 1).trans rfl,(ai BK314.out 2).trans rfl,((HB.out.cell (World.block_lt_of_cell? w _ hw321_0)).trans hw321_0)⟩ (fun hHeld=>?_)
    clear hK K
    refine bz (a':=?_) ?_ ?_
    rotate_left
    ·show Act.put _ (some 29) _ = _
     simp only [Act.put,List.setIfInBounds_toArray,List.set_cons_zero,List.set_cons_succ,ae,af]
     rfl
    refine one_ (i:=7) (N:=some 30) #[I,I,I,I,I,I,I,I,O] rfl rfl (bR HT_.out (by kernel_rfl)) (by decide) (fun K hK=>?_)
    refine Kd.bZ (Kd.int .i64) (w0:=w) w.heap.size (by rfl) (.tmp 23) (.tmp 29) 22 2 (.int .i64 0) 8 rfl Try.underlying22 dY rfl (by decide) (by omega) u9 x9_1 t322 _ _ _ (fun k_=>some k_ ≠ (.slice Ao20 t322.length co20 : Value).ownBlock) (fun _=>False) rfl rfl ?aO ?aR (fun _ _ h=>h) (fun _ h=>h.elim) ?aF ?aB ?aS ?aL ?_
    (case aR=>exact (Kd.aE HO324.out).2.2)
    (case aB=>exact HB.out)
    (case aF=>exact (fun k_ hk=>Kd.dL (Kd.R_lt HO324.out) k_ hk))
    (case aO=>exact (by exact Kd.bb HO_9.out (fun _ hk=>hk.2)))
    (case aS=>exact (aj HB.out))
    (case aL=>have:=LMc13.out;omega)
    intro v326 w19 ho hb hg hat
    rw [← Ny325.out] at ho
    have n0_:=M0 (Kd.df HO_10.out (Kd.cV HO_9.out) (by decide) hg)
    have n1_:=M0 (bm (g:=gb314) (o:=.cells #[.int .i64 a0_0,.int .i64 a0_1,.int .i64 a0_2] 43 (0,0)) BK314.out hg (Kd.R_ne HO_9.out BK314.out (by decide)))
    have n2_:=M0 (Kd.de (ok:=(fun _=>True)) HO324.out hg hat)
    have n3_:=M0 (hb)
    have n4_:=M0 (ho)
    clear HO_10 BK314 HO324 HB HO_9
    have HO_10:=n0_
    have BK314:=n1_
    have HO324:=n2_
    have HB:=n3_
    have HO327:=n4_
    clear n0_ n1_ n2_ n3_ n4_ ho hb hg hat
    refine hK.out _ _ ⟨(ai BK314.out 0).trans rfl,(ai BK314.out 1).trans rfl,(ai BK314.out 2).trans rfl,((HB.out.cell (World.block_lt_of_cell? w _ hw321_0)).trans hw321_0)⟩ (fun hHeld=>?_)
    clear hK K
    refine bz (a':=?_) ?_ ?_
    rotate_left
    ·show Act.put _ (some 30) _ = _
     simp only [Act.put,List.setIfInBounds_toArray,List.set_cons_zero,List.set_cons_succ,ae,af]
     rfl
    refine aq (i:=8) (N:=some 9) #[I,I,I,I,I,I,I,I,I] rfl rfl (aM HT_.out (by kernel_rfl)) (fun _ _ _ h=>h) (Or.inl ⟨by rfl,by intro w';go_simp;with_reducible rfl⟩) (by simp only [Act.put,List.setIfInBounds_toArray,List.set_cons_zero,List.set_cons_succ,ae,af];rfl) ?_
    refine cD (dg HT_.out (by kernel_rfl)) ?_
    have p328 : 0 ≤ (x11_1 : Int):=of_decide_eq_true (by with_reducible assumption)
    have q328 : x11_1 < (l2.length : Int):=of_decide_eq_true (by with_reducible assumption)
    obtain ⟨ad328,e328,hx328_0⟩:=Kd.at_int HR2.out x11_1 p328 q328
    obtain rfl : ad321 = ad328:=(by injection e328)
    replace hx328_0:=(HB.out.cell (World.block_lt_of_cell? w _ hx328_0)).trans hx328_0
    replace p328:=eq_true p328
    replace q328:=eq_true q328
    have p329 : 0 ≤ ((rd l2 x11_1) : Int):=of_decide_eq_true (by with_reducible assumption)
    have q329 : (rd l2 x11_1) < (l1.length : Int):=of_decide_eq_true (by with_reducible assumption)
    obtain ⟨ad329,e329,hx329_0⟩:=Kd.bu HR1.out (rd l2 x11_1) p329 q329
    cases e329
    replace hx329_0:=(HB.out.cell (World.block_lt_of_cell? w _ hx329_0)).trans hx329_0
    replace p329:=eq_true p329
    replace q329:=eq_true q329
    try go_wp2_with (((with_reducible refine dw (b:=.append) (xs:=#[.tmp 31,.tmp 39]) rfl ?_);at_builtin;refine Kd.R_append Kd.string (w0:=w) w.heap.size rfl (.tmp 31) (.tmp 39) 56 9 (.string ⟨#[]⟩) 16 rfl Try.underlying56 info9 rfl (by decide) (by omega) u10 x10_1 (rdOf ByteArray.empty l1 (rd l2 x11_1)) [.string (rdOf ByteArray.empty l1 (rd l2 x11_1))] (fun _=>True) (fun _=>False) rfl rfl ?aP (fun _ hk=>hk.elim) ?aF ?aO ?aB ?aS ?aL ?_;(case aP=>exact rfl);(case aB=>exact HB.out);(case aF=>exact (fun _ _=>trivial));(case aO=>exact HO_10.out);(case aS=>exact (aj HB.out));(case aL=>have:=LMc16.out;omega);intro v331 w21 ho hb hg hat;rw [← Ny330.out] at ho;have n0_:=M0 (bm (g:=gb314) (o:=.cells #[.int .i64 a0_0,.int .i64 a0_1,.int .i64 a0_2] 43 (0,0)) BK314.out hg (Kd.R_ne HO_10.out BK314.out (by decide)));have n1_:=M0 (Kd.df HO324.out (Kd.cV HO_10.out) (by decide) hg);have n2_:=M0 (Kd.df HO327.out (Kd.cV HO_10.out) (by decide) hg);have n3_:=M0 (hb);have n4_:=M0 (ho);clear BK314 HO324 HO327 HB HO_10;have BK314:=n0_;have HO324:=n1_;have HO327:=n2_;have HB:=n3_;have HO332:=n4_;clear n0_ n1_ n2_ n3_ n4_ ho hb hg hat))
    go_roundg k1
    case measure=>have:=HK1.out;omega
    case rel=>exact ⟨(y325),(y330),(wrap64 (x11_1 + 1)),(by rfl),H',⟨by have:=HK1.out;omega⟩,⟨by exact Kd.bb HO327.out (fun _ hk=>trivial)⟩,⟨by exact HO332.out⟩,⟨by exact BK314.out⟩,⟨HB.out⟩⟩
   ·rw [if_neg c10] at H
    have c10b0:=decide_eq_false c10
    clear c10
    replace H:=Option.bind_eq_some_iff.mp H
    obtain ⟨⟨t333,t334,t335,t336⟩,A220,H⟩:=H
    dsimp only at H
    have A22:=M0 A220
    clear A220
    obtain ⟨y340,hy340⟩ : ∃ y_ : List ByteArray,y_ = (([] : List ByteArray)):=⟨_,rfl⟩
    rw [← hy340] at H
    have Ny340:=M0 hy340
    clear hy340
    have H':=M0 H
    clear H
    have hcz23_0:=bcv (v:=.int .i64 a0_0) BK314.out 0 rfl
    have hcz23_1:=bcv (v:=.int .i64 a0_1) BK314.out 1 rfl
    have hcz23_2:=bcv (v:=.int .i64 a0_2) BK314.out 2 rfl
    have hfz23_0:=ag BK314.out 0
    have hfz23_1:=ag BK314.out 1
    have hfz23_2:=ag BK314.out 2
    obtain ⟨Ao24,co24,eo24⟩:=Kd.bc HO_9.out
    subst eo24
    go_wp2_with (first|((with_reducible refine ah (f:=17) rfl ?_);refine aH (some 47) rfl rfl Try.func17 (by kernel_rfl) rfl #[.agg #[.int .i64 a0_0,.int .i64 a0_0,.slice Ao24 x9_1.length co24]] rfl (by (try simp only [List.map_toArray,List.map_cons,List.map_nil]);rfl) ?_;(with_reducible refine (an.calls k1 a0_0 a0_0 _ _ x9_1 t333 t334 t335 t336 _ (Kd.aE HO_9.out).2.2 (Kd.aE HO_9.out).2.1 A22.out).mono ?_);rintro e w25 ⟨v337,rfl,ho0,hb⟩;refine ⟨_,rfl,?_⟩;replace HO_10:=M0 (Kd.aK HO_10.out hb);have HO338:=M0 (Kd.bj (Kd.cZ ho0 (Kd.R_lt HO_9.out)) (aj HB.out));replace HO_9:=M0 (Kd.cj HO_9.out (Kd.cS ho0) hb);replace BK314:=M0 (ab BK314.out hb);replace HB:=M0 (aa HB.out hb);clear hb ho0)|((with_reducible refine ak (N:=12) rfl ?_);refine aw rfl (N:=12) rfl (cs:=#[.int .i64 0,.int .i64 0,.slice none 0 0]) (t:=27) (by go_simp) ?_;intro gb339 hg w26 hbox hb;replace HO_9:=M0 (Kd.aK HO_9.out hb);replace HO_10:=M0 (Kd.aK HO_10.out hb);replace HO338:=M0 (Kd.aK HO338.out hb);have BK339:=M0 (hbox);have GW339:=M0 ((by rw [hg];exact (aj HB.out) : w.heap.size ≤ gb339));have GE339:=GW339;replace HB:=M0 (aa HB.out hb);have NB314_339:=M0 ((by rw [hg];exact Nat.ne_of_lt (a7 BK314.out) : gb314 ≠ gb339));replace BK314:=M0 (ab BK314.out hb);clear hb hbox hg;have hcz28_0:=bcv (v:=.int .i64 0) BK339.out 0 rfl;have hcz28_1:=bcv (v:=.int .i64 0) BK339.out 1 rfl;have hcz28_2:=bcv (v:=.slice none 0 0) BK339.out 2 rfl;have hfz28_0:=ag BK339.out 0;have hfz28_1:=ag BK339.out 1;have hfz28_2:=ag BK339.out 2;obtain ⟨Ao29,co29,eo29⟩:=Kd.bc HO338.out;subst eo29)|((with_reducible refine ak (N:=49) rfl ?_);refine Kd.R_lit Kd.string _ 9 ?hg (N:=49) ?hd (xs:=([] : List ByteArray)) (inner:=[]) (ok:=fun _=>True) (okp:=fun _=>True) ?hr ?hp (fun _ hk=>hk) trivial (Below.refl _ _) (Nat.le_refl _) (by simp) ?_;(case hd=>rfl);(case hg=>rfl);(case hr=>(go_simp;done));(case hp=>exact (Reps.none _ _));intro v341 w30 ho31 hb hg_ hnew_;clear hg_ hnew_;(rw [← Ny340.out] at ho31);replace HO_9:=M0 (Kd.aK (by exact (Kd.bb (Kd.bw (p:=⟨gb339,2,none⟩) (Kd.bw (p:=⟨gb339,1,none⟩) (Kd.bw (p:=⟨gb339,0,none⟩) (Kd.bP HO_9.out BK339.out (by decide)) (fun _ hk=>hk.2) (.int .i64 t334)) (fun _ hk=>hk.2) (.int .i64 t335)) (fun _ hk=>hk.2) (.slice Ao29 t336.length co29)) (fun _ h_=>h_.1))) hb);replace HO338:=M0 (Kd.aK (by exact (Kd.bb (Kd.bw (p:=⟨gb339,2,none⟩) (Kd.bw (p:=⟨gb339,1,none⟩) (Kd.bw (p:=⟨gb339,0,none⟩) (Kd.bP HO338.out BK339.out (by decide)) (fun _ hk=>hk.2) (.int .i64 t334)) (fun _ hk=>hk.2) (.int .i64 t335)) (fun _ hk=>hk.2) (.slice Ao29 t336.length co29)) (fun _ h_=>h_.1))) hb);have HO342:=M0 (Kd.bj (Kd.cZ ho31 (Kd.R_lt (by exact (Kd.bb (Kd.bw (p:=⟨gb339,2,none⟩) (Kd.bw (p:=⟨gb339,1,none⟩) (Kd.bw (p:=⟨gb339,0,none⟩) (Kd.bP HO_10.out BK339.out (by decide)) (fun _ hk=>hk.2) (.int .i64 t334)) (fun _ hk=>hk.2) (.int .i64 t335)) (fun _ hk=>hk.2) (.slice Ao29 t336.length co29)) (fun _ h_=>h_.1))))) (aj (by repeat ((with_reducible first|exact HB.out|refine ax ?_ GE339.out)))));replace HO_10:=M0 (Kd.cj (by exact (Kd.bb (Kd.bw (p:=⟨gb339,2,none⟩) (Kd.bw (p:=⟨gb339,1,none⟩) (Kd.bw (p:=⟨gb339,0,none⟩) (Kd.bP HO_10.out BK339.out (by decide)) (fun _ hk=>hk.2) (.int .i64 t334)) (fun _ hk=>hk.2) (.int .i64 t335)) (fun _ hk=>hk.2) (.slice Ao29 t336.length co29)) (fun _ h_=>h_.1))) (Kd.cS ho31) hb);replace BK314:=M0 (ab (g:=gb314) (o:=.cells #[.int .i64 a0_0,.int .i64 a0_1,.int .i64 a0_2] 43 (0,0)) (by refine aX ?_ NB314_339.out _;refine aX ?_ NB314_339.out _;refine aX ?_ NB314_339.out _;exact BK314.out) hb);replace BK339:=M0 (ab (g:=gb339) (o:=.cells #[.int .i64 t334,.int .i64 t335,.slice Ao29 t336.length co29] 27 (0,0)) (by refine aW (cs:=#[.int .i64 t334,.int .i64 t335,.slice none 0 0]) ?_ 2 _ rfl;refine aW (cs:=#[.int .i64 t334,.int .i64 0,.slice none 0 0]) ?_ 1 _ rfl;refine aW (cs:=#[.int .i64 0,.int .i64 0,.slice none 0 0]) ?_ 0 _ rfl;exact BK339.out) hb);replace HB:=M0 (aa (by repeat ((with_reducible first|exact HB.out|refine ax ?_ GE339.out))) hb);clear hb ho31))
    go_loopg [13,14] k1 (fun kq v13 v14 w'=>∃ (x13_2 : List ByteArray) (x14_2 : Int),v14 = .int .i64 x14_2 ∧ Aside0 (aZ.l1 kq a3 x10_1 x13_2 x14_2 a0_0 a0_1 a0_2 t334 t335 t336 = some r) ∧ Aside0 (kq ≤ k1) ∧ Aside0 (Kd.R Kd.string 9 w' w.heap.size (fun k_=>some k_ ≠ (v13 : Value).ownBlock) u10 x10_1) ∧ Aside0 (Kd.R Kd.string 9 w' w.heap.size (fun k_=>some k_ ≠ (u10 : Value).ownBlock) v13 x13_2) ∧ Aside0 (Kd.R (Kd.int .i64) 2 w' w.heap.size (fun _=>True) (.slice Ao29 t336.length co29) t336) ∧ Aside0 (w'.heap[gb314]? = some (.cells #[.int .i64 a0_0,.int .i64 a0_1,.int .i64 a0_2] 43 (0,0))) ∧ Aside0 (w'.heap[gb339]? = some (.cells #[.int .i64 t334,.int .i64 t335,(.slice Ao29 t336.length co29)] 27 (0,0))) ∧ Aside0 (Below w.heap.size w w'))
    case atStart=>exact ⟨(y340),(0),(by rfl),H',⟨Nat.le_refl _⟩,⟨by exact Kd.bb HO_10.out (fun _ hk=>hk.2)⟩,⟨by exact Kd.bb HO342.out (fun _ hk=>hk.2)⟩,⟨by exact Kd.bb HO338.out (fun _ hk=>trivial)⟩,⟨by exact BK314.out⟩,⟨by exact BK339.out⟩,⟨HB.out⟩⟩
    case round=>
     clear H'
     (try clear c10b0);(try clear hcz23_0);(try clear hcz23_1);(try clear hcz23_2);(try clear hcz28_0);(try clear hcz28_1);(try clear hcz28_2);(try clear hfz23_0);(try clear hfz23_1);(try clear hfz23_2);(try clear hfz28_0);(try clear hfz28_1);(try clear hfz28_2)
     obtain ⟨x13_2,x14_2,rfl,HA,HK2,HO_10,HO_13,HO_340002,BK314,BK339,HB⟩:=hrel
     cases gk with
     | zero=>exact absurd HA.out (by simp [aZ.l1])
     | succ k2=>
      have H:=HA.out
      clear HA
      simp only [aZ.l1] at H
      by_cases c32 : x14_2 < a0_0
      ·rw [if_pos c32] at H
       have c32b0:=decide_eq_true c32
       clear c32
       obtain ⟨ji33,hji33⟩ : ∃ j_ : Int,(wrap64 (x14_2 * a0_0)) = j_:=⟨_,rfl⟩
       replace H : (if 0 ≤ (ji33) then (if (ji33) ≤ (wrap64 ((ji33) + a0_0)) then (if (wrap64 ((ji33) + a0_0)) ≤ (t336.length : Int) then ((a5.f k2 ((t336.take ((wrap64 ((ji33) + a0_0)) : Int).toNat).drop ((ji33) : Int).toNat) x10_1 a3).bind fun t347=>(if x13_2.length < 8796093022208 then (aZ.l1 k2 a3 x10_1 (x13_2 ++ [t347]) (wrap64 (x14_2 + 1)) a0_0 a0_1 a0_2 t334 t335 t336) else (none))) else (none)) else (none)) else (none)) = some r:=by (rw [hji33] at H;exact H)
       have hji33w : (IntKind.i64.wrap (x14_2 * a0_0)) = ji33:=(ae _).trans hji33
       obtain ⟨c34,H⟩:=nn H
       have c34b1:=decide_eq_true c34
       clear c34
       obtain ⟨c35,H⟩:=nn H
       have c35b1:=decide_eq_true c35
       obtain ⟨c36,H⟩:=nn H
       have c36b1:=decide_eq_true c36
       obtain ⟨y343,hy343⟩ : ∃ y_ : List Int,y_ = ((t336.take ((wrap64 ((ji33) + a0_0)) : Int).toNat).drop ((ji33) : Int).toNat):=⟨_,rfl⟩
       rw [← hy343] at H
       have Ny343:=M0 hy343
       clear hy343
       replace H:=Option.bind_eq_some_iff.mp H
       obtain ⟨t347,A370,H⟩:=H
       replace H : (if x13_2.length < 8796093022208 then (aZ.l1 k2 a3 x10_1 (x13_2 ++ [t347]) (wrap64 (x14_2 + 1)) a0_0 a0_1 a0_2 t334 t335 t336) else (none)) = some r:=H
       have A37:=M0 A370
       clear A370
       obtain ⟨c38,H⟩:=nn H
       have LMc38:=M0 c38
       clear c38
       obtain ⟨y348,hy348⟩ : ∃ y_ : List ByteArray,y_ = (x13_2 ++ [t347]):=⟨_,rfl⟩
       rw [← hy348] at H
       have Ny348:=M0 hy348
       clear hy348
       have H':=M0 H
       clear H
       have hcz40_0:=bcv (v:=.int .i64 a0_0) BK314.out 0 rfl
       have hcz41_2:=bcv (v:=.slice Ao29 t336.length co29) BK339.out 2 rfl
       have q42 : ((wrap64 ((ji33) + a0_0)) : Int) ≤ ((t336.length : Int) : Int):=of_decide_eq_true (by with_reducible assumption)
       obtain ⟨i042,hi042,_,hsz42,_⟩:=info_parts dY
       have hroom42 : t336.length ≤ co29:=(Kd.aE HO_340002.out).2.1
       have hC42 : Kd.C (Kd.int .i64) _ Ao29 t336.length t336:=(Kd.aE HO_340002.out).2.2
       have ql42 : ((ji33) : Int) ≤ ((wrap64 ((ji33) + a0_0)) : Int):=of_decide_eq_true (by with_reducible assumption)
       have q042 : (0 : Int) ≤ ((ji33) : Int):=of_decide_eq_true (by with_reducible assumption)
       have hcut42:=cut_mid (P:=Try.prog) 22 2 .i64 .i64 Try.underlying22 hi042 1 hsz42 Ao29 t336.length co29 (ji33) (wrap64 ((ji33) + a0_0)) q042 ql42 q42 hroom42
       have hr42:=Kd.C_mid (lo:=((ji33) : Int).toNat) (hi:=((wrap64 ((ji33) + a0_0)) : Int).toNat) (c:=co29) hC42 (by omega) (by omega) hroom42
       obtain ⟨A42,hA42⟩ : ∃ A1,A1 = (if co29 = ((ji33) : Int).toNat then Ao29 else (Ao29 : Option Addr).map (·.add (((ji33) : Int).toNat * 1))):=⟨_,rfl⟩
       obtain ⟨c42,hc42⟩ : ∃ c1,c1 = co29 - ((ji33) : Int).toNat:=⟨_,rfl⟩
       have hy42 : y343.length = ((wrap64 ((ji33) + a0_0)) : Int).toNat - ((ji33) : Int).toNat:=(by rw [Ny343.out,List.length_drop,List.length_take] <;> omega)
       rw [show ((t336).take ((wrap64 ((ji33) + a0_0)) : Int).toNat).drop ((ji33) : Int).toNat = y343 from Ny343.out.symm] at hr42
       replace hr42 : Kd.C (Kd.int .i64) _ A42 y343.length y343:=(by rw [hA42];exact hr42)
       rw [← hy42,← hA42,← hc42] at hcut42
       have HR346:=M0 hr42
       have HC346:=M0 (show y343.length ≤ c42 from by rw [hy42,hc42];exact Nat.sub_le_sub_right (Nat.le_trans (by omega) hroom42) _)
       clear hr42 hC42 hroom42 hi042 hsz42 hc42
       have KY42:=M0 hy42
       have KA42:=M0 hA42
       clear hy42 hA42
       have KL42:=M0 (show ((wrap64 ((ji33) + a0_0)) : Int).toNat ≤ t336.length from by omega)
       have KM42:=M0 (show ((ji33) : Int).toNat ≤ ((wrap64 ((ji33) + a0_0)) : Int).toNat from by omega)
       replace q42:=eq_true q42
       obtain ⟨Ao43,co43,eo43⟩:=Kd.bc HO_10.out
       subst eo43
       go_wp2_with (first|((with_reducible refine ah (f:=127) rfl ?_);refine aH (some 73) rfl rfl Try.func127 (by kernel_rfl) rfl #[.slice A42 y343.length c42,.slice Ao43 x10_1.length co43,.int .i64 a3] rfl (by (try simp only [List.map_toArray,List.map_cons,List.map_nil]);rfl) ?_;(with_reducible refine (a5.calls k2 _ _ y343 _ _ x10_1 a3 t347 _ (by exact  HR346.out) HC346.out (Kd.aE HO_10.out).2.2 (Kd.aE HO_10.out).2.1 A37.out).mono ?_);rintro e w44 ⟨rfl,hb⟩;refine ⟨_,rfl,?_⟩;replace HO_10:=M0 (Kd.aK HO_10.out hb);replace HO_13:=M0 (Kd.aK HO_13.out hb);replace HO_340002:=M0 (Kd.aK HO_340002.out hb);replace BK314:=M0 (ab BK314.out hb);replace BK339:=M0 (ab BK339.out hb);replace HR346:=M0 (Kd.a8 (by exact  HR346.out) hb);replace HB:=M0 (aa HB.out hb);clear hb)|((with_reducible refine dw (b:=.append) (xs:=#[.tmp 56,.tmp 74]) rfl ?_);at_builtin;refine Kd.R_append Kd.string (w0:=w) w.heap.size rfl (.tmp 56) (.tmp 74) 56 9 (.string ⟨#[]⟩) 16 rfl Try.underlying56 info9 rfl (by decide) (by omega) u13 x13_2 t347 [.string t347] (fun k_=>some k_ ≠ (.slice Ao43 x10_1.length co43 : Value).ownBlock) (fun _=>False) rfl rfl ?aP (fun _ hk=>hk.elim) ?aF ?aO ?aB ?aS ?aL ?_;(case aP=>exact rfl);(case aB=>exact HB.out);(case aF=>exact (fun k_ hk=>Kd.dL (Kd.R_lt HO_10.out) k_ hk));(case aO=>exact HO_13.out);(case aS=>exact (aj HB.out));(case aL=>have:=LMc38.out;omega);intro v349 w45 ho hb hg hat;rw [← Ny348.out] at ho;have n0_:=M0 (Kd.de (ok:=(fun _=>True)) (by exact Kd.bb HO_10.out (fun _ hk=>⟨trivial,hk⟩)) hg hat);have n1_:=M0 (Kd.df HO_340002.out (Kd.cV HO_13.out) (by decide) hg);have n2_:=M0 (bm (g:=gb314) (o:=.cells #[.int .i64 a0_0,.int .i64 a0_1,.int .i64 a0_2] 43 (0,0)) BK314.out hg (Kd.R_ne HO_13.out BK314.out (by decide)));have n3_:=M0 (bm (g:=gb339) (o:=.cells #[.int .i64 t334,.int .i64 t335,.slice Ao29 t336.length co29] 27 (0,0)) BK339.out hg (Kd.R_ne HO_13.out BK339.out (by decide)));have n4_:=M0 (hb);have n5_:=M0 ((show Kd.C (Kd.int .i64) w45 A42 y343.length y343 from by rw [Ny343.out,KA42.out];exact Kd.C_mid (lo:=((ji33) : Int).toNat) (hi:=((wrap64 ((ji33) + a0_0)) : Int).toNat) (c:=co29) ((Kd.aE (Kd.df HO_340002.out (Kd.cV HO_13.out) (by decide) hg)).2.2) KM42.out KL42.out ((Kd.aE (Kd.df HO_340002.out (Kd.cV HO_13.out) (by decide) hg)).2.1)));have n6_:=M0 (ho);clear HO_10 HO_340002 BK314 BK339 HB HR346 HO_13;have HO_10:=n0_;have HO_340002:=n1_;have BK314:=n2_;have BK339:=n3_;have HB:=n4_;have HR346:=n5_;have HO350:=n6_;clear n0_ n1_ n2_ n3_ n4_ n5_ n6_ ho hb hg hat))
       go_roundg k2
       case measure=>have:=HK1.out;have:=HK2.out;omega
       case rel=>exact ⟨(y348),(wrap64 (x14_2 + 1)),(by rfl),H',⟨by have:=HK1.out;have:=HK2.out;omega⟩,⟨by exact Kd.bb HO_10.out (fun _ hk=>hk.2)⟩,⟨by exact HO350.out⟩,⟨by exact HO_340002.out⟩,⟨by exact BK314.out⟩,⟨by exact BK339.out⟩,⟨HB.out⟩⟩
      ·rw [if_neg c32] at H
       have c32b0:=decide_eq_false c32
       clear c32
       obtain rfl:=Option.some.inj H
       have hcz47_0:=bcv (v:=.int .i64 a0_0) BK314.out 0 rfl
       go_wp2
       go_ret
       exact ⟨_,by rfl,by exact Kd.bb HO_13.out (fun _ hk=>trivial),HB.out⟩

end Go.Proofs.Ytffhbpepppodeaa.PFnExactJoinObject
