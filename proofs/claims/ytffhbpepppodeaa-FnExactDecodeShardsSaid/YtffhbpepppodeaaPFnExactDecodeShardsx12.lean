import Derived.Test.YtffhbpepppodeaaPFnExactDecodeShardsx0
import Derived.Test.YtffhbpepppodeaaPFnExactDecodeShardsx4
import Derived.Test.YtffhbpepppodeaaPFnExactDecodeShardsx5
import Derived.Test.YtffhbpepppodeaaPFnExactDecodeShardsx11
namespace Go.Proofs.Ytffhbpepppodeaa.PFnExactDecodeShards
private theorem nn {α : Type} {c : Prop} [Decidable c] {a : Option α} {r : α} (h : (if c then a else none) = some r) : c ∧ a = some r:=by
 split at h
 ·exact ⟨‹c›,h⟩
 ·cases h
open Go.RowKit Go.Proofs.YtffhbpepppodeaaW.PrintWords Go.Proofs.YtffhbpepppodeaaW.PrintLast Go.Proofs.YtffhbpepppodeaaW.PrintMore
attribute [local go_sem] max2_int min2_int max_two min_two max_three min_three max_four min_four   -- for this text's walks alone
set_option linter.unusedVariables false
set_option linter.unusedSimpArgs false

/-! ### spec_l04Data: function 104 -/
mutual
def spec_l04Data.l0 : Nat → List ByteArray → List Int → Int → List Int → List ByteArray → Int → Int → Int → Int → Option (List ByteArray)
 | 0,_,_,_,_,_,_,_,_,_=>none
 | k + 1,x1,x2,x3,x9,x10,x11,x280000,x280001,x280002=>if x11 < (x2.length : Int) then (if 0 ≤ x11 then ((spec_CodeRow.f k x280000 x280001 x280002 (rd x2 x11)).bind fun t287=>(if x9.length + t287.length < 17592186044416 then (if 0 ≤ (rd x2 x11) then (if (rd x2 x11) < (x1.length : Int) then (if x10.length < 8796093022208 then (spec_l04Data.l0 k x1 x2 x3 (x9 ++ t287) (x10 ++ [rdOf ByteArray.empty x1 (rd x2 x11)]) (wrap64 (x11 + 1)) x280000 x280001 x280002) else (none)) else (none)) else (none)) else (none))) else (none)) else ((spec_MatInv.f k x280000 x280000 x9).bind fun bt298=>(spec_l04Data.l1 k x3 x10 (([] : List ByteArray)) 0 x280000 x280001 x280002 bt298.2.1 bt298.2.2.1 bt298.2.2.2))
def spec_l04Data.l1 : Nat → Int → List ByteArray → List ByteArray → Int → Int → Int → Int → Int → Int → List Int → Option (List ByteArray)
 | 0,_,_,_,_,_,_,_,_,_,_=>none
 | k + 1,x3,x10,x13,x14,x280000,x280001,x280002,x305000,x305001,x305002=>if x14 < x280000 then (if 0 ≤ (wrap64 (x14 * x280000)) then (if (wrap64 (x14 * x280000)) ≤ (wrap64 ((wrap64 (x14 * x280000)) + x280000)) then (if (wrap64 ((wrap64 (x14 * x280000)) + x280000)) ≤ (x305002.length : Int) then ((spec_l04Mix.f k ((x305002.take ((wrap64 ((wrap64 (x14 * x280000)) + x280000)) : Int).toNat).drop ((wrap64 (x14 * x280000)) : Int).toNat) x10 x3).bind fun t312=>(if x13.length < 8796093022208 then (spec_l04Data.l1 k x3 x10 (x13 ++ [t312]) (wrap64 (x14 + 1)) x280000 x280001 x280002 x305000 x305001 x305002) else (none))) else (none)) else (none)) else (none)) else (some x13)
end
def spec_l04Data.f (k : Nat) (a0_0 : Int) (a0_1 : Int) (a0_2 : Int) (l1 : List ByteArray) (l2 : List Int) (a3 : Int) : Option (List ByteArray):=spec_l04Data.l0 k l1 l2 a3 (([] : List Int)) (([] : List ByteArray)) 0 a0_0 a0_1 a0_2
def spec_l04Data.T6 : Bool × List (List Nat × List Nat):=(true,[([],[]),([],[]),([],[]),([],[]),([2,3],[2,3]),([4],[4]),([1,5],[1,5]),([0,6,6],[0,6]),([7,7,0,1,2,3,4,5,6,7],[0,7])])
def spec_l04Data.B6 : List Nat:=[0,0,0,0,12,28,62,127,255]
theorem spec_l04Data.tab6 : rtab .any (opsOf Try.f104 6) = spec_l04Data.T6:=by kernel_rfl
theorem spec_l04Data.bits6 : waitsOk spec_l04Data.T6.2 spec_l04Data.B6 = true:=by kernel_rfl
set_option maxHeartbeats 8000000 in
set_option maxRecDepth 100000 in
theorem spec_l04Data.calls (k : Nat) (a0_0 : Int) (a0_1 : Int) (a0_2 : Int) (A1 : Option Addr) (c1 : Nat) (l1 : List ByteArray) (A2 : Option Addr) (c2 : Nat) (l2 : List Int) (a3 : Int) (r : List ByteArray) (w : World) (hr1 : Kd.C Kd.string w A1 l1.length l1) (hc1 : l1.length ≤ c1) (hr2 : Kd.C (Kd.int .i64) w A2 l2.length l2) (hc2 : l2.length ≤ c2) (h : spec_l04Data.f k a0_0 a0_1 a0_2 l1 l2 a3 = some r) :
  Calls Try.prog 104 #[.agg #[.int .i64 a0_0,.int .i64 a0_1,.int .i64 a0_2],.slice A1 l1.length c1,.slice A2 l2.length c2,.int .i64 a3] w fun e w'=>∃ v0_ : Value,e = .returned (v0_) ∧ Kd.R Kd.string 9 w' w.heap.size (fun _=>True) v0_ r ∧ Below w.heap.size w w':=by
 have hu43:=Try.underlying43
 have hu27:=Try.underlying27
 have hfd1 : ∀ (a b c : Int) (v : Value) (w : World),(Instr.field 32 (.agg #[.int .i64 a,.int .i64 b,.int .i64 c,v]) 1).run Try.prog w = .ok (.agg #[.int .i64 b,.int .i64 c,v]) w:=fun _ _ _ _ _=>by kernel_rfl
 have HR1:=Aside0.mk hr1
 have HC1:=Aside0.mk hc1
 clear hr1 hc1
 have HR2:=Aside0.mk hr2
 have HC2:=Aside0.mk hc2
 clear hr2 hc2
 have HB:=Aside0.mk (Below.refl w.heap.size w)
 have H : (spec_l04Data.l0 k l1 l2 a3 (([] : List Int)) (([] : List ByteArray)) 0 a0_0 a0_1 a0_2) = some r:=h
 clear h
 obtain ⟨y280,hy280⟩ : ∃ y_ : List Int,y_ = (([] : List Int)):=⟨_,rfl⟩
 rw [← hy280] at H
 have Ny280:=Aside0.mk hy280
 clear hy280
 obtain ⟨y283,hy283⟩ : ∃ y_ : List ByteArray,y_ = (([] : List ByteArray)):=⟨_,rfl⟩
 rw [← hy283] at H
 have Ny283:=Aside0.mk hy283
 clear hy283
 have H':=Aside0.mk H
 clear H
 go_enter Try.func104,Try.ntmps104
 go_wp2_with (first|((with_reducible refine gate_dst (N:=4) rfl ?_);refine box_event ?hg (N:=4) ?hd (cs:=#[.int .i64 a0_0,.int .i64 a0_1,.int .i64 a0_2]) (t:=43) ?hr ?_;(case hd=>rfl);(case hg=>rfl);(case hr=>(go_simp;done));intro gb279 hg w5 hbox hb;have BK279:=Aside0.mk (hbox);have GW279:=Aside0.mk ((by rw [hg];exact (below_size HB.out) : w.heap.size ≤ gb279));have GE279:=Aside0.mk ((by rw [hg];exact (below_size HB.out) : w.heap.size ≤ gb279));replace HB:=Aside0.mk (below_step HB.out hb);clear hb hbox hg)|((with_reducible refine gate_dst (N:=15) rfl ?_);refine Kd.R_lit (Kd.int .i64) _ 2 ?hg (N:=15) ?hd (xs:=([] : List Int)) (inner:=[]) (ok:=fun _=>True) (okp:=fun _=>True) ?hr ?hp (fun _ hk=>hk) trivial (Below.refl _ _) (Nat.le_refl _) (by simp) ?_;(case hd=>rfl);(case hg=>rfl);(case hr=>(go_simp;done));(case hp=>exact (Reps.none _ _));intro v281 w6 ho7 hb hg_ hnew_;clear hg_ hnew_;(rw [← Ny280.out] at ho7);have HO282:=Aside0.mk (Kd.R_lower ho7 (below_size HB.out));replace BK279:=Aside0.mk (blk_below BK279.out hb);replace HB:=Aside0.mk (below_step HB.out hb);clear hb ho7)|((with_reducible refine gate_dst (N:=16) rfl ?_);refine Kd.R_lit Kd.string _ 9 ?hg (N:=16) ?hd (xs:=([] : List ByteArray)) (inner:=[]) (ok:=fun _=>True) (okp:=fun _=>True) ?hr ?hp (fun _ hk=>hk) trivial (Below.refl _ _) (Nat.le_refl _) (by simp) ?_;(case hd=>rfl);(case hg=>rfl);(case hr=>(go_simp;done));(case hp=>exact (Reps.none _ _));intro v284 w8 ho9 hb hg_ hnew_;clear hg_ hnew_;(rw [← Ny283.out] at ho9);replace HO282:=Aside0.mk (Kd.R_below HO282.out hb);have HO285:=Aside0.mk (Kd.R_lower ho9 (below_size HB.out));replace BK279:=Aside0.mk (blk_below BK279.out hb);replace HB:=Aside0.mk (below_step HB.out hb);clear hb ho9))
 go_loopg [9,10,11] k (fun kq v9 v10 v11 w'=>∃ (x9_1 : List Int) (x10_1 : List ByteArray) (x11_1 : Int),v11 = .int .i64 x11_1 ∧ Aside0 (spec_l04Data.l0 kq l1 l2 a3 x9_1 x10_1 x11_1 a0_0 a0_1 a0_2 = some r) ∧ Aside0 (kq ≤ k) ∧ Aside0 (Kd.R (Kd.int .i64) 2 w' w.heap.size (fun _=>True) v9 x9_1) ∧ Aside0 (Kd.R Kd.string 9 w' w.heap.size (fun _=>True) v10 x10_1) ∧ Aside0 (w'.heap[gb279]? = some (.cells #[.int .i64 a0_0,.int .i64 a0_1,.int .i64 a0_2] 43 (0,0))) ∧ Aside0 (Below w.heap.size w w'))
 case atStart=>exact ⟨(y280),(y283),(0),(by rfl),H',⟨Nat.le_refl _⟩,⟨by exact HO282.out⟩,⟨by exact HO285.out⟩,⟨by exact BK279.out⟩,⟨HB.out⟩⟩
 case round=>
  clear H'
  obtain ⟨x9_1,x10_1,x11_1,rfl,HA,HK1,HO_9,HO_10,BK279,HB⟩:=hrel
  cases gk with
  | zero=>exact absurd HA.out (by simp [spec_l04Data.l0])
  | succ k1=>
   have H:=HA.out
   clear HA
   simp only [spec_l04Data.l0] at H
   by_cases c10 : x11_1 < (l2.length : Int)
   ·rw [if_pos c10] at H
    have c10b0:=decide_eq_true c10
    clear c10
    obtain ⟨c11,H⟩:=nn H
    have c11b0:=decide_eq_true c11
    clear c11
    replace H:=Option.bind_eq_some_iff.mp H
    obtain ⟨t287,A120,H⟩:=H
    replace H : (if x9_1.length + t287.length < 17592186044416 then (if 0 ≤ (rd l2 x11_1) then (if (rd l2 x11_1) < (l1.length : Int) then (if x10_1.length < 8796093022208 then (spec_l04Data.l0 k1 l1 l2 a3 (x9_1 ++ t287) (x10_1 ++ [rdOf ByteArray.empty l1 (rd l2 x11_1)]) (wrap64 (x11_1 + 1)) a0_0 a0_1 a0_2) else (none)) else (none)) else (none)) else (none)) = some r:=H
    have A12:=Aside0.mk A120
    clear A120
    obtain ⟨c13,H⟩:=nn H
    have LMc13:=Aside0.mk c13
    clear c13
    obtain ⟨y290,hy290⟩ : ∃ y_ : List Int,y_ = (x9_1 ++ t287):=⟨_,rfl⟩
    rw [← hy290] at H
    have Ny290:=Aside0.mk hy290
    clear hy290
    obtain ⟨c14,H⟩:=nn H
    have c14b0:=decide_eq_true c14
    clear c14
    obtain ⟨c15,H⟩:=nn H
    have c15b0:=decide_eq_true c15
    clear c15
    obtain ⟨c16,H⟩:=nn H
    have LMc16:=Aside0.mk c16
    clear c16
    obtain ⟨y295,hy295⟩ : ∃ y_ : List ByteArray,y_ = (x10_1 ++ [rdOf ByteArray.empty l1 (rd l2 x11_1)]):=⟨_,rfl⟩
    rw [← hy295] at H
    have Ny295:=Aside0.mk hy295
    clear hy295
    have H':=Aside0.mk H
    clear H
    try go_wp2
    replace HO_9:=Aside0.mk (Kd.R_drew HO_9.out)
    replace HO_10:=Aside0.mk (Kd.R_drew HO_10.out)
    replace BK279:=Aside0.mk (blk_drew BK279.out)
    replace HB:=Aside0.mk (below_drew1 HB.out)
    have p286 : 0 ≤ (x11_1 : Int):=of_decide_eq_true (by with_reducible assumption)
    have q286 : x11_1 < (l2.length : Int):=of_decide_eq_true (by with_reducible assumption)
    obtain ⟨ad286,e286,hx286_0⟩:=Kd.at_int HR2.out x11_1 p286 q286
    have hw286_0:=hx286_0
    cases e286
    replace hx286_0:=(HB.out.cell (World.block_lt_of_cell? w _ hx286_0)).trans hx286_0
    replace p286:=eq_true p286
    replace q286:=eq_true q286
    refine start_ (n:=9) (S:=fun w'=>w'.cell? ⟨gb279,0,none⟩ = some (.int .i64 a0_0) ∧ w'.cell? ⟨gb279,1,none⟩ = some (.int .i64 a0_1) ∧ w'.cell? ⟨gb279,2,none⟩ = some (.int .i64 a0_2) ∧ w'.cell? (ad286.add (x11_1).toNat) = some (.int .i64 (rd l2 x11_1))) (ds:=[]) #[false,false,false,false,false,false,false,false,false] (by kernel_rfl) rfl rfl ⟨(blk_cell BK279.out 0).trans rfl,(blk_cell BK279.out 1).trans rfl,(blk_cell BK279.out 2).trans rfl,((HB.out.cell (World.block_lt_of_cell? w _ hw286_0)).trans hw286_0)⟩ (fun hHeld=>?_);refine with_tabW spec_l04Data.tab6 spec_l04Data.bits6 (fun HT_ HW_=>?_)
    generalize wr.drew = w17 at HO_9 HO_10 BK279 HB hx286_0 hHeld ⊢
    refine pure_ (i:=0) (N:=some 23) #[true,false,false,false,false,false,false,false,false] rfl rfl (any_of HT_.out (by kernel_rfl)) (fun _ _ _ h=>h) (Or.inl ⟨by rfl,by intro w';go_simp;with_reducible rfl⟩) (by simp only [Act.put,List.setIfInBounds_toArray,List.set_cons_zero,List.set_cons_succ,i64_w,i32_w];rfl) ?_
    refine pure_ (i:=2) (N:=some 25) #[true,false,true,false,false,false,false,false,false] rfl rfl (any_of HT_.out (by kernel_rfl)) (fun _ _ _ h=>h) (Or.inl ⟨by rfl,by intro w';go_simp;with_reducible rfl⟩) (by simp only [Act.put,List.setIfInBounds_toArray,List.set_cons_zero,List.set_cons_succ,i64_w,i32_w];rfl) ?_
    refine pure_ (i:=3) (N:=some 26) #[true,false,true,true,false,false,false,false,false] rfl rfl (any_of HT_.out (by kernel_rfl)) (fun _ _ _ h=>h) (Or.inl ⟨by rfl,by intro w';go_simp;with_reducible rfl⟩) (by simp only [Act.put,List.setIfInBounds_toArray,List.set_cons_zero,List.set_cons_succ,i64_w,i32_w];rfl) ?_
    refine pure_ (i:=4) (N:=some 27) #[true,false,true,true,true,false,false,false,false] rfl rfl (any_of HT_.out (by kernel_rfl)) (fun _ _ _ h=>h) (Or.inl ⟨by rfl,by intro w';go_simp;with_reducible rfl⟩) (by simp only [Act.put,List.setIfInBounds_toArray,List.set_cons_zero,List.set_cons_succ,i64_w,i32_w];rfl) ?_
    refine take_ (i:=1) (N:=some 24) #[true,true,true,true,true,false,false,false,false] rfl rfl (take_ofW HT_.out HW_.out (by kernel_rfl)) (fun _ _ _ h=>h) (Or.inl ⟨by rfl,by rintro w' ⟨s0,s1,s2,s3⟩;go_simp;with_reducible rfl⟩) hHeld (by simp only [Act.put,List.setIfInBounds_toArray,List.set_cons_zero,List.set_cons_succ,i64_w,i32_w];rfl) ?_
    refine take_ (i:=5) (N:=some 28) #[true,true,true,true,true,true,false,false,false] rfl rfl (take_ofW HT_.out HW_.out (by kernel_rfl)) (fun _ _ _ h=>h) (Or.inl ⟨by rfl,by rintro w' ⟨s0,s1,s2,s3⟩;go_simp;with_reducible rfl⟩) hHeld (by simp only [Act.put,List.setIfInBounds_toArray,List.set_cons_zero,List.set_cons_succ,i64_w,i32_w];rfl) ?_
    refine one_ (i:=6) (N:=some 29) #[true,true,true,true,true,true,true,false,false] rfl rfl (one_of HT_.out (by kernel_rfl)) (by decide) (fun K hK=>?_)
    refine goes_ Try.func128 (by kernel_rfl) rfl #[.agg #[.int .i64 a0_0,.int .i64 a0_1,.int .i64 a0_2],.int .i64 (rd l2 x11_1)] (by rfl) rfl rfl (by (try simp only [List.map_toArray,List.map_cons,List.map_nil]);rfl) ?_
    with_reducible refine (spec_CodeRow.calls k1 a0_0 a0_1 a0_2 (rd l2 x11_1) t287 _ A12.out).mono ?_
    rintro e w18 ⟨v288,rfl,ho0,hb⟩
    refine ⟨_,rfl,?_⟩
    replace HO_10:=Aside0.mk (Kd.R_below HO_10.out hb)
    have HO289:=Aside0.mk (Kd.R_lower (Kd.R_new' ho0 (Kd.R_lt HO_9.out)) (below_size HB.out))
    replace HO_9:=Aside0.mk (Kd.R_elder' HO_9.out (Kd.R_base ho0) hb)
    replace BK279:=Aside0.mk (blk_below BK279.out hb)
    replace HB:=Aside0.mk (below_step HB.out hb)
    (try clear hb);(try clear ho0)
    obtain ⟨Ao20,co20,eo20⟩:=Kd.R_slice HO289.out
    (subst eo20)
    refine hK.out _ _ ⟨(blk_cell BK279.out 0).trans rfl,(blk_cell BK279.out 1).trans rfl,(blk_cell BK279.out 2).trans rfl,((HB.out.cell (World.block_lt_of_cell? w _ hw286_0)).trans hw286_0)⟩ (fun hHeld=>?_)
    clear hK K
    refine norm_ (a':=?_) ?_ ?_
    rotate_left
    ·show Act.put _ (some 29) _ = _
     simp only [Act.put,List.setIfInBounds_toArray,List.set_cons_zero,List.set_cons_succ,i64_w,i32_w]
     rfl
    refine one_ (i:=7) (N:=some 30) #[true,true,true,true,true,true,true,true,false] rfl rfl (one_of HT_.out (by kernel_rfl)) (by decide) (fun K hK=>?_)
    refine Kd.R_append_rows_step (Kd.int .i64) (w0:=w) w.heap.size (by rfl) (.tmp 23) (.tmp 29) 22 2 (.int .i64 0) 8 rfl Try.underlying22 info2 rfl (by decide) (by omega) u9 x9_1 t287 _ _ _ (fun k_=>some k_ ≠ (.slice Ao20 t287.length co20 : Value).ownBlock) (fun _=>False) rfl rfl ?aO ?aR (fun _ _ h=>h) (fun _ h=>h.elim) ?aF ?aB ?aS ?aL ?_
    (case aR=>exact (Kd.R_reads' HO289.out).2.2)
    (case aB=>exact HB.out)
    (case aF=>exact (fun k_ hk=>Kd.fresh' (Kd.R_lt HO289.out) k_ hk))
    (case aO=>exact (by exact Kd.R_mono HO_9.out (fun _ hk=>hk.2)))
    (case aS=>exact (below_size HB.out))
    (case aL=>have:=LMc13.out;omega)
    intro v291 w19 ho hb hg hat
    rw [← Ny290.out] at ho
    have n0_:=Aside0.mk (Kd.R_over' HO_10.out (Kd.R_typed HO_9.out) (by decide) hg)
    have n1_:=Aside0.mk (blk_grown (g:=gb279) (o:=.cells #[.int .i64 a0_0,.int .i64 a0_1,.int .i64 a0_2] 43 (0,0)) BK279.out hg (Kd.R_ne HO_9.out BK279.out (by decide)))
    have n2_:=Aside0.mk (Kd.R_after (ok:=(fun _=>True)) HO289.out hg hat)
    have n3_:=Aside0.mk (hb)
    have n4_:=Aside0.mk (ho)
    clear HO_10 BK279 HO289 HB HO_9
    have HO_10:=n0_
    have BK279:=n1_
    have HO289:=n2_
    have HB:=n3_
    have HO292:=n4_
    clear n0_ n1_ n2_ n3_ n4_ ho hb hg hat
    refine hK.out _ _ ⟨(blk_cell BK279.out 0).trans rfl,(blk_cell BK279.out 1).trans rfl,(blk_cell BK279.out 2).trans rfl,((HB.out.cell (World.block_lt_of_cell? w _ hw286_0)).trans hw286_0)⟩ (fun hHeld=>?_)
    clear hK K
    refine norm_ (a':=?_) ?_ ?_
    rotate_left
    ·show Act.put _ (some 30) _ = _
     simp only [Act.put,List.setIfInBounds_toArray,List.set_cons_zero,List.set_cons_succ,i64_w,i32_w]
     rfl
    refine pure_ (i:=8) (N:=some 9) #[true,true,true,true,true,true,true,true,true] rfl rfl (any_of HT_.out (by kernel_rfl)) (fun _ _ _ h=>h) (Or.inl ⟨by rfl,by intro w';go_simp;with_reducible rfl⟩) (by simp only [Act.put,List.setIfInBounds_toArray,List.set_cons_zero,List.set_cons_succ,i64_w,i32_w];rfl) ?_
    refine done_ (done_of HT_.out (by kernel_rfl)) ?_
    have p293 : 0 ≤ (x11_1 : Int):=of_decide_eq_true (by with_reducible assumption)
    have q293 : x11_1 < (l2.length : Int):=of_decide_eq_true (by with_reducible assumption)
    obtain ⟨ad293,e293,hx293_0⟩:=Kd.at_int HR2.out x11_1 p293 q293
    obtain rfl : ad286 = ad293:=(by injection e293)
    replace hx293_0:=(HB.out.cell (World.block_lt_of_cell? w _ hx293_0)).trans hx293_0
    replace p293:=eq_true p293
    replace q293:=eq_true q293
    have p294 : 0 ≤ ((rd l2 x11_1) : Int):=of_decide_eq_true (by with_reducible assumption)
    have q294 : (rd l2 x11_1) < (l1.length : Int):=of_decide_eq_true (by with_reducible assumption)
    obtain ⟨ad294,e294,hx294_0⟩:=Kd.at_string HR1.out (rd l2 x11_1) p294 q294
    cases e294
    replace hx294_0:=(HB.out.cell (World.block_lt_of_cell? w _ hx294_0)).trans hx294_0
    replace p294:=eq_true p294
    replace q294:=eq_true q294
    try go_wp2_with (((with_reducible refine gate_builtin (b:=.append) (xs:=#[.tmp 31,.tmp 39]) rfl ?_);at_builtin;refine Kd.R_append Kd.string (w0:=w) w.heap.size rfl (.tmp 31) (.tmp 39) 56 9 (.string ⟨#[]⟩) 16 rfl Try.underlying56 info9 rfl (by decide) (by omega) u10 x10_1 (rdOf ByteArray.empty l1 (rd l2 x11_1)) [.string (rdOf ByteArray.empty l1 (rd l2 x11_1))] (fun _=>True) (fun _=>False) rfl rfl ?aP (fun _ hk=>hk.elim) ?aF ?aO ?aB ?aS ?aL ?_;(case aP=>exact rfl);(case aB=>exact HB.out);(case aF=>exact (fun _ _=>trivial));(case aO=>exact HO_10.out);(case aS=>exact (below_size HB.out));(case aL=>have:=LMc16.out;omega);intro v296 w21 ho hb hg hat;rw [← Ny295.out] at ho;have n0_:=Aside0.mk (blk_grown (g:=gb279) (o:=.cells #[.int .i64 a0_0,.int .i64 a0_1,.int .i64 a0_2] 43 (0,0)) BK279.out hg (Kd.R_ne HO_10.out BK279.out (by decide)));have n1_:=Aside0.mk (Kd.R_over' HO289.out (Kd.R_typed HO_10.out) (by decide) hg);have n2_:=Aside0.mk (Kd.R_over' HO292.out (Kd.R_typed HO_10.out) (by decide) hg);have n3_:=Aside0.mk (hb);have n4_:=Aside0.mk (ho);clear BK279 HO289 HO292 HB HO_10;have BK279:=n0_;have HO289:=n1_;have HO292:=n2_;have HB:=n3_;have HO297:=n4_;clear n0_ n1_ n2_ n3_ n4_ ho hb hg hat))
    go_roundg k1
    case measure=>have:=HK1.out;omega
    case rel=>exact ⟨(y290),(y295),(wrap64 (x11_1 + 1)),(by rfl),H',⟨by have:=HK1.out;omega⟩,⟨by exact Kd.R_mono HO292.out (fun _ hk=>trivial)⟩,⟨by exact HO297.out⟩,⟨by exact BK279.out⟩,⟨HB.out⟩⟩
   ·rw [if_neg c10] at H
    have c10b0:=decide_eq_false c10
    clear c10
    replace H:=Option.bind_eq_some_iff.mp H
    obtain ⟨⟨t298,t299,t300,t301⟩,A220,H⟩:=H
    dsimp only at H
    have A22:=Aside0.mk A220
    clear A220
    obtain ⟨y305,hy305⟩ : ∃ y_ : List ByteArray,y_ = (([] : List ByteArray)):=⟨_,rfl⟩
    rw [← hy305] at H
    have Ny305:=Aside0.mk hy305
    clear hy305
    have H':=Aside0.mk H
    clear H
    have hcz23_0 : wr.cell? ⟨gb279,0,none⟩ = some (.int .i64 a0_0):=(blk_cell BK279.out 0).trans rfl
    have hcz23_1 : wr.cell? ⟨gb279,1,none⟩ = some (.int .i64 a0_1):=(blk_cell BK279.out 1).trans rfl
    have hcz23_2 : wr.cell? ⟨gb279,2,none⟩ = some (.int .i64 a0_2):=(blk_cell BK279.out 2).trans rfl
    have hfz23_0:=blk_frozen BK279.out 0
    have hfz23_1:=blk_frozen BK279.out 1
    have hfz23_2:=blk_frozen BK279.out 2
    obtain ⟨Ao24,co24,eo24⟩:=Kd.R_slice HO_9.out
    subst eo24
    go_wp2_with (first|((with_reducible refine gate_callee (f:=17) rfl ?_);refine goesL_ (some 47) rfl rfl Try.func17 (by kernel_rfl) rfl #[.agg #[.int .i64 a0_0,.int .i64 a0_0,.slice Ao24 x9_1.length co24]] rfl (by (try simp only [List.map_toArray,List.map_cons,List.map_nil]);rfl) ?_;(with_reducible refine (spec_MatInv.calls k1 a0_0 a0_0 _ _ x9_1 t298 t299 t300 t301 _ ?side1 ?side2 A22.out).mono ?_);(case side1=>exact (Kd.R_reads' HO_9.out).2.2);(case side2=>exact (Kd.R_reads' HO_9.out).2.1);rintro e w25 ⟨v302,rfl,ho0,hb⟩;refine ⟨_,rfl,?_⟩;replace HO_10:=Aside0.mk (Kd.R_below HO_10.out hb);have HO303:=Aside0.mk (Kd.R_lower (Kd.R_new' ho0 (Kd.R_lt HO_9.out)) (below_size HB.out));replace HO_9:=Aside0.mk (Kd.R_elder' HO_9.out (Kd.R_base ho0) hb);replace BK279:=Aside0.mk (blk_below BK279.out hb);replace HB:=Aside0.mk (below_step HB.out hb);(try clear hb);(try clear ho0))|((with_reducible refine gate_dst (N:=12) rfl ?_);refine box_event ?hg (N:=12) ?hd (cs:=#[.int .i64 0,.int .i64 0,.slice none 0 0]) (t:=27) ?hr ?_;(case hd=>rfl);(case hg=>rfl);(case hr=>(go_simp;done));intro gb304 hg w26 hbox hb;replace HO_9:=Aside0.mk (Kd.R_below HO_9.out hb);replace HO_10:=Aside0.mk (Kd.R_below HO_10.out hb);replace HO303:=Aside0.mk (Kd.R_below HO303.out hb);have BK304:=Aside0.mk (hbox);have GW304:=Aside0.mk ((by rw [hg];exact (below_size HB.out) : w.heap.size ≤ gb304));have GE304:=Aside0.mk ((by rw [hg];exact (below_size HB.out) : w.heap.size ≤ gb304));replace HB:=Aside0.mk (below_step HB.out hb);have NB279_304:=Aside0.mk ((by rw [hg];exact Nat.ne_of_lt (blk_lt BK279.out) : gb279 ≠ gb304));have NB304_279:=Aside0.mk ((by rw [hg];exact Nat.ne_of_gt (blk_lt BK279.out) : gb304 ≠ gb279));replace BK279:=Aside0.mk (blk_below BK279.out hb);clear hb hbox hg;have hnb27:=NB304_279.out;have hnc27:=NB279_304.out;have hcz28_0 : w26.cell? ⟨gb304,0,none⟩ = some (.int .i64 0):=(blk_cell BK304.out 0).trans rfl;have hcz28_1 : w26.cell? ⟨gb304,1,none⟩ = some (.int .i64 0):=(blk_cell BK304.out 1).trans rfl;have hcz28_2 : w26.cell? ⟨gb304,2,none⟩ = some (.slice none 0 0):=(blk_cell BK304.out 2).trans rfl;have hfz28_0:=blk_frozen BK304.out 0;have hfz28_1:=blk_frozen BK304.out 1;have hfz28_2:=blk_frozen BK304.out 2;obtain ⟨Ao29,co29,eo29⟩:=Kd.R_slice HO303.out;subst eo29)|((with_reducible refine gate_dst (N:=49) rfl ?_);refine Kd.R_lit Kd.string _ 9 ?hg (N:=49) ?hd (xs:=([] : List ByteArray)) (inner:=[]) (ok:=fun _=>True) (okp:=fun _=>True) ?hr ?hp (fun _ hk=>hk) trivial (Below.refl _ _) (Nat.le_refl _) (by simp) ?_;(case hd=>rfl);(case hg=>rfl);(case hr=>(go_simp;done));(case hp=>exact (Reps.none _ _));intro v306 w30 ho31 hb hg_ hnew_;clear hg_ hnew_;(rw [← Ny305.out] at ho31);replace HO_9:=Aside0.mk (Kd.R_below (by exact (Kd.R_mono (Kd.R_far (p:=⟨gb304,2,none⟩) (Kd.R_far (p:=⟨gb304,1,none⟩) (Kd.R_far (p:=⟨gb304,0,none⟩) (Kd.R_types HO_9.out BK304.out (by decide)) (fun _ hk=>hk.2) (.int .i64 t299)) (fun _ hk=>hk.2) (.int .i64 t300)) (fun _ hk=>hk.2) (.slice Ao29 t301.length co29)) (fun _ h_=>h_.1))) hb);replace HO303:=Aside0.mk (Kd.R_below (by exact (Kd.R_mono (Kd.R_far (p:=⟨gb304,2,none⟩) (Kd.R_far (p:=⟨gb304,1,none⟩) (Kd.R_far (p:=⟨gb304,0,none⟩) (Kd.R_types HO303.out BK304.out (by decide)) (fun _ hk=>hk.2) (.int .i64 t299)) (fun _ hk=>hk.2) (.int .i64 t300)) (fun _ hk=>hk.2) (.slice Ao29 t301.length co29)) (fun _ h_=>h_.1))) hb);have HO307:=Aside0.mk (Kd.R_lower (Kd.R_new' ho31 (Kd.R_lt (by exact (Kd.R_mono (Kd.R_far (p:=⟨gb304,2,none⟩) (Kd.R_far (p:=⟨gb304,1,none⟩) (Kd.R_far (p:=⟨gb304,0,none⟩) (Kd.R_types HO_10.out BK304.out (by decide)) (fun _ hk=>hk.2) (.int .i64 t299)) (fun _ hk=>hk.2) (.int .i64 t300)) (fun _ hk=>hk.2) (.slice Ao29 t301.length co29)) (fun _ h_=>h_.1))))) (below_size (by repeat ((with_reducible first|exact HB.out|refine below_set ?_ GE304.out)))));replace HO_10:=Aside0.mk (Kd.R_elder' (by exact (Kd.R_mono (Kd.R_far (p:=⟨gb304,2,none⟩) (Kd.R_far (p:=⟨gb304,1,none⟩) (Kd.R_far (p:=⟨gb304,0,none⟩) (Kd.R_types HO_10.out BK304.out (by decide)) (fun _ hk=>hk.2) (.int .i64 t299)) (fun _ hk=>hk.2) (.int .i64 t300)) (fun _ hk=>hk.2) (.slice Ao29 t301.length co29)) (fun _ h_=>h_.1))) (Kd.R_base ho31) hb);replace BK279:=Aside0.mk (blk_below (g:=gb279) (o:=.cells #[.int .i64 a0_0,.int .i64 a0_1,.int .i64 a0_2] 43 (0,0)) (by refine blk_far ?_ NB279_304.out _;refine blk_far ?_ NB279_304.out _;refine blk_far ?_ NB279_304.out _;exact BK279.out) hb);replace BK304:=Aside0.mk (blk_below (g:=gb304) (o:=.cells #[.int .i64 t299,.int .i64 t300,.slice Ao29 t301.length co29] 27 (0,0)) (by refine blk_put (cs:=#[.int .i64 t299,.int .i64 t300,.slice none 0 0]) ?_ 2 _ rfl;refine blk_put (cs:=#[.int .i64 t299,.int .i64 0,.slice none 0 0]) ?_ 1 _ rfl;refine blk_put (cs:=#[.int .i64 0,.int .i64 0,.slice none 0 0]) ?_ 0 _ rfl;exact BK304.out) hb);replace HB:=Aside0.mk (below_step (by repeat ((with_reducible first|exact HB.out|refine below_set ?_ GE304.out))) hb);clear hb ho31))
    go_loopg [13,14] k1 (fun kq v13 v14 w'=>∃ (x13_2 : List ByteArray) (x14_2 : Int),v14 = .int .i64 x14_2 ∧ Aside0 (spec_l04Data.l1 kq a3 x10_1 x13_2 x14_2 a0_0 a0_1 a0_2 t299 t300 t301 = some r) ∧ Aside0 (kq ≤ k1) ∧ Aside0 (Kd.R Kd.string 9 w' w.heap.size (fun k_=>some k_ ≠ (v13 : Value).ownBlock) u10 x10_1) ∧ Aside0 (Kd.R Kd.string 9 w' w.heap.size (fun k_=>some k_ ≠ (u10 : Value).ownBlock) v13 x13_2) ∧ Aside0 (Kd.R (Kd.int .i64) 2 w' w.heap.size (fun _=>True) (.slice Ao29 t301.length co29) t301) ∧ Aside0 (w'.heap[gb279]? = some (.cells #[.int .i64 a0_0,.int .i64 a0_1,.int .i64 a0_2] 43 (0,0))) ∧ Aside0 (w'.heap[gb304]? = some (.cells #[.int .i64 t299,.int .i64 t300,(.slice Ao29 t301.length co29)] 27 (0,0))) ∧ Aside0 (Below w.heap.size w w'))
    case atStart=>exact ⟨(y305),(0),(by rfl),H',⟨Nat.le_refl _⟩,⟨by exact Kd.R_mono HO_10.out (fun _ hk=>hk.2)⟩,⟨by exact Kd.R_mono HO307.out (fun _ hk=>hk.2)⟩,⟨by exact Kd.R_mono HO303.out (fun _ hk=>trivial)⟩,⟨by exact BK279.out⟩,⟨by exact BK304.out⟩,⟨HB.out⟩⟩
    case round=>
     clear H'
     (try clear c10b0);(try clear hcz23_0);(try clear hcz23_1);(try clear hcz23_2);(try clear hcz28_0);(try clear hcz28_1);(try clear hcz28_2);(try clear hfz23_0);(try clear hfz23_1);(try clear hfz23_2);(try clear hfz28_0);(try clear hfz28_1);(try clear hfz28_2)
     obtain ⟨x13_2,x14_2,rfl,HA,HK2,HO_10,HO_13,HO_305002,BK279,BK304,HB⟩:=hrel
     cases gk with
     | zero=>exact absurd HA.out (by simp [spec_l04Data.l1])
     | succ k2=>
      have H:=HA.out
      clear HA
      simp only [spec_l04Data.l1] at H
      by_cases c32 : x14_2 < a0_0
      ·rw [if_pos c32] at H
       have c32b0:=decide_eq_true c32
       clear c32
       obtain ⟨ji33,hji33⟩ : ∃ j_ : Int,(wrap64 (x14_2 * a0_0)) = j_:=⟨_,rfl⟩
       replace H : (if 0 ≤ (ji33) then (if (ji33) ≤ (wrap64 ((ji33) + a0_0)) then (if (wrap64 ((ji33) + a0_0)) ≤ (t301.length : Int) then ((spec_l04Mix.f k2 ((t301.take ((wrap64 ((ji33) + a0_0)) : Int).toNat).drop ((ji33) : Int).toNat) x10_1 a3).bind fun t312=>(if x13_2.length < 8796093022208 then (spec_l04Data.l1 k2 a3 x10_1 (x13_2 ++ [t312]) (wrap64 (x14_2 + 1)) a0_0 a0_1 a0_2 t299 t300 t301) else (none))) else (none)) else (none)) else (none)) = some r:=by (rw [hji33] at H;exact H)
       have hji33w : (IntKind.i64.wrap (x14_2 * a0_0)) = ji33:=(i64_w _).trans hji33
       obtain ⟨c34,H⟩:=nn H
       have c34b0:=eq_true c34
       have c34b1:=decide_eq_true c34
       clear c34
       obtain ⟨c35,H⟩:=nn H
       have c35b0:=eq_true c35
       have c35b1:=decide_eq_true c35
       obtain ⟨c36,H⟩:=nn H
       have c36b0:=eq_true c36
       have c36b1:=decide_eq_true c36
       obtain ⟨y308,hy308⟩ : ∃ y_ : List Int,y_ = ((t301.take ((wrap64 ((ji33) + a0_0)) : Int).toNat).drop ((ji33) : Int).toNat):=⟨_,rfl⟩
       rw [← hy308] at H
       have Ny308:=Aside0.mk hy308
       clear hy308
       replace H:=Option.bind_eq_some_iff.mp H
       obtain ⟨t312,A370,H⟩:=H
       replace H : (if x13_2.length < 8796093022208 then (spec_l04Data.l1 k2 a3 x10_1 (x13_2 ++ [t312]) (wrap64 (x14_2 + 1)) a0_0 a0_1 a0_2 t299 t300 t301) else (none)) = some r:=H
       have A37:=Aside0.mk A370
       clear A370
       obtain ⟨c38,H⟩:=nn H
       have LMc38:=Aside0.mk c38
       clear c38
       obtain ⟨y313,hy313⟩ : ∃ y_ : List ByteArray,y_ = (x13_2 ++ [t312]):=⟨_,rfl⟩
       rw [← hy313] at H
       have Ny313:=Aside0.mk hy313
       clear hy313
       have H':=Aside0.mk H
       clear H
       have hnb39:=NB279_304.out
       have hnc39:=NB304_279.out
       have hcz40_0 : wr.cell? ⟨gb279,0,none⟩ = some (.int .i64 a0_0):=(blk_cell BK279.out 0).trans rfl
       have hcz40_1 : wr.cell? ⟨gb279,1,none⟩ = some (.int .i64 a0_1):=(blk_cell BK279.out 1).trans rfl
       have hcz40_2 : wr.cell? ⟨gb279,2,none⟩ = some (.int .i64 a0_2):=(blk_cell BK279.out 2).trans rfl
       have hfz40_0:=blk_frozen BK279.out 0
       have hfz40_1:=blk_frozen BK279.out 1
       have hfz40_2:=blk_frozen BK279.out 2
       have hcz41_0 : wr.cell? ⟨gb304,0,none⟩ = some (.int .i64 t299):=(blk_cell BK304.out 0).trans rfl
       have hcz41_1 : wr.cell? ⟨gb304,1,none⟩ = some (.int .i64 t300):=(blk_cell BK304.out 1).trans rfl
       have hcz41_2 : wr.cell? ⟨gb304,2,none⟩ = some (.slice Ao29 t301.length co29):=(blk_cell BK304.out 2).trans rfl
       have hfz41_0:=blk_frozen BK304.out 0
       have hfz41_1:=blk_frozen BK304.out 1
       have hfz41_2:=blk_frozen BK304.out 2
       have q42 : ((wrap64 ((ji33) + a0_0)) : Int) ≤ ((t301.length : Int) : Int):=of_decide_eq_true (by with_reducible assumption)
       obtain ⟨i042,hi042,_,hsz42,_⟩:=info_parts info2
       have hroom42 : t301.length ≤ co29:=(Kd.R_reads' HO_305002.out).2.1
       have hC42 : Kd.C (Kd.int .i64) _ Ao29 t301.length t301:=(Kd.R_reads' HO_305002.out).2.2
       have ql42 : ((ji33) : Int) ≤ ((wrap64 ((ji33) + a0_0)) : Int):=of_decide_eq_true (by with_reducible assumption)
       have q042 : (0 : Int) ≤ ((ji33) : Int):=of_decide_eq_true (by with_reducible assumption)
       have hcut42:=cut_mid (P:=Try.prog) 22 2 .i64 .i64 Try.underlying22 hi042 1 hsz42 Ao29 t301.length co29 (ji33) (wrap64 ((ji33) + a0_0)) q042 ql42 q42 hroom42
       have hr42:=Kd.C_mid (lo:=((ji33) : Int).toNat) (hi:=((wrap64 ((ji33) + a0_0)) : Int).toNat) (c:=co29) hC42 (by omega) (by omega) hroom42
       obtain ⟨A42,hA42⟩ : ∃ A1,A1 = (if co29 = ((ji33) : Int).toNat then Ao29 else (Ao29 : Option Addr).map (·.add (((ji33) : Int).toNat * 1))):=⟨_,rfl⟩
       obtain ⟨c42,hc42⟩ : ∃ c1,c1 = co29 - ((ji33) : Int).toNat:=⟨_,rfl⟩
       have hy42 : y308.length = ((wrap64 ((ji33) + a0_0)) : Int).toNat - ((ji33) : Int).toNat:=(by rw [Ny308.out,List.length_drop,List.length_take] <;> omega)
       rw [show ((t301).take ((wrap64 ((ji33) + a0_0)) : Int).toNat).drop ((ji33) : Int).toNat = y308 from Ny308.out.symm] at hr42
       replace hr42 : Kd.C (Kd.int .i64) _ A42 y308.length y308:=(by rw [hA42];exact hr42)
       rw [← hy42,← hA42,← hc42] at hcut42
       have HR311:=Aside0.mk hr42
       have HC311:=Aside0.mk (show y308.length ≤ c42 from by rw [hy42,hc42];exact Nat.sub_le_sub_right (Nat.le_trans (by omega) hroom42) _)
       clear hr42 hC42 hroom42 hi042 hsz42 hc42
       have KY42:=Aside0.mk hy42
       have KA42:=Aside0.mk hA42
       clear hy42 hA42
       have KL42:=Aside0.mk (show ((wrap64 ((ji33) + a0_0)) : Int).toNat ≤ t301.length from by omega)
       have KM42:=Aside0.mk (show ((ji33) : Int).toNat ≤ ((wrap64 ((ji33) + a0_0)) : Int).toNat from by omega)
       replace q42:=eq_true q42
       obtain ⟨Ao43,co43,eo43⟩:=Kd.R_slice HO_10.out
       subst eo43
       go_wp2_with (first|((with_reducible refine gate_callee (f:=127) rfl ?_);refine goesL_ (some 73) rfl rfl Try.func127 (by kernel_rfl) rfl #[.slice A42 y308.length c42,.slice Ao43 x10_1.length co43,.int .i64 a3] rfl (by (try simp only [List.map_toArray,List.map_cons,List.map_nil]);rfl) ?_;(with_reducible refine (spec_l04Mix.calls k2 _ _ y308 _ _ x10_1 a3 t312 _ ?side1 ?side2 ?side3 ?side4 A37.out).mono ?_);(case side1=>repeat (exact HR311.out));(case side2=>exact HC311.out);(case side3=>exact (Kd.R_reads' HO_10.out).2.2);(case side4=>exact (Kd.R_reads' HO_10.out).2.1);rintro e w44 ⟨rfl,hb⟩;refine ⟨_,rfl,?_⟩;replace HO_10:=Aside0.mk (Kd.R_below HO_10.out hb);replace HO_13:=Aside0.mk (Kd.R_below HO_13.out hb);replace HO_305002:=Aside0.mk (Kd.R_below HO_305002.out hb);replace BK279:=Aside0.mk (blk_below BK279.out hb);replace BK304:=Aside0.mk (blk_below BK304.out hb);replace HR311:=Aside0.mk (Kd.C_below HR311.out hb);replace HB:=Aside0.mk (below_step HB.out hb);(try clear hb))|((with_reducible refine gate_builtin (b:=.append) (xs:=#[.tmp 56,.tmp 74]) rfl ?_);at_builtin;refine Kd.R_append Kd.string (w0:=w) w.heap.size rfl (.tmp 56) (.tmp 74) 56 9 (.string ⟨#[]⟩) 16 rfl Try.underlying56 info9 rfl (by decide) (by omega) u13 x13_2 t312 [.string t312] (fun k_=>some k_ ≠ (.slice Ao43 x10_1.length co43 : Value).ownBlock) (fun _=>False) rfl rfl ?aP (fun _ hk=>hk.elim) ?aF ?aO ?aB ?aS ?aL ?_;(case aP=>exact rfl);(case aB=>exact HB.out);(case aF=>exact (fun k_ hk=>Kd.fresh' (Kd.R_lt HO_10.out) k_ hk));(case aO=>exact HO_13.out);(case aS=>exact (below_size HB.out));(case aL=>have:=LMc38.out;omega);intro v314 w45 ho hb hg hat;rw [← Ny313.out] at ho;have n0_:=Aside0.mk (Kd.R_after (ok:=(fun _=>True)) (by exact Kd.R_mono HO_10.out (fun _ hk=>⟨trivial,hk⟩)) hg hat);have n1_:=Aside0.mk (Kd.R_over' HO_305002.out (Kd.R_typed HO_13.out) (by decide) hg);have n2_:=Aside0.mk (blk_grown (g:=gb279) (o:=.cells #[.int .i64 a0_0,.int .i64 a0_1,.int .i64 a0_2] 43 (0,0)) BK279.out hg (Kd.R_ne HO_13.out BK279.out (by decide)));have n3_:=Aside0.mk (blk_grown (g:=gb304) (o:=.cells #[.int .i64 t299,.int .i64 t300,.slice Ao29 t301.length co29] 27 (0,0)) BK304.out hg (Kd.R_ne HO_13.out BK304.out (by decide)));have n4_:=Aside0.mk (hb);have n5_:=Aside0.mk ((show Kd.C (Kd.int .i64) w45 A42 y308.length y308 from by rw [Ny308.out,KA42.out];exact Kd.C_mid (lo:=((ji33) : Int).toNat) (hi:=((wrap64 ((ji33) + a0_0)) : Int).toNat) (c:=co29) ((Kd.R_reads' (Kd.R_over' HO_305002.out (Kd.R_typed HO_13.out) (by decide) hg)).2.2) KM42.out KL42.out ((Kd.R_reads' (Kd.R_over' HO_305002.out (Kd.R_typed HO_13.out) (by decide) hg)).2.1)));have n6_:=Aside0.mk (ho);clear HO_10 HO_305002 BK279 BK304 HB HR311 HO_13;have HO_10:=n0_;have HO_305002:=n1_;have BK279:=n2_;have BK304:=n3_;have HB:=n4_;have HR311:=n5_;have HO315:=n6_;clear n0_ n1_ n2_ n3_ n4_ n5_ n6_ ho hb hg hat))
       go_roundg k2
       case measure=>have:=HK1.out;have:=HK2.out;omega
       case rel=>exact ⟨(y313),(wrap64 (x14_2 + 1)),(by rfl),H',⟨by have:=HK1.out;have:=HK2.out;omega⟩,⟨by exact Kd.R_mono HO_10.out (fun _ hk=>hk.2)⟩,⟨by exact HO315.out⟩,⟨by exact HO_305002.out⟩,⟨by exact BK279.out⟩,⟨by exact BK304.out⟩,⟨HB.out⟩⟩
      ·rw [if_neg c32] at H
       have c32b0:=decide_eq_false c32
       clear c32
       obtain rfl:=Option.some.inj H
       have hnb46:=NB279_304.out
       have hnc46:=NB304_279.out
       have hcz47_0 : wr.cell? ⟨gb279,0,none⟩ = some (.int .i64 a0_0):=(blk_cell BK279.out 0).trans rfl
       have hcz47_1 : wr.cell? ⟨gb279,1,none⟩ = some (.int .i64 a0_1):=(blk_cell BK279.out 1).trans rfl
       have hcz47_2 : wr.cell? ⟨gb279,2,none⟩ = some (.int .i64 a0_2):=(blk_cell BK279.out 2).trans rfl
       have hfz47_0:=blk_frozen BK279.out 0
       have hfz47_1:=blk_frozen BK279.out 1
       have hfz47_2:=blk_frozen BK279.out 2
       go_wp2
       go_ret
       exact ⟨_,by rfl,by exact Kd.R_mono HO_13.out (fun _ hk=>trivial),HB.out⟩

end Go.Proofs.Ytffhbpepppodeaa.PFnExactDecodeShards
