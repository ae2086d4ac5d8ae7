import Derived.Test.YtffhbpepppodeaaPlant2FnExactJoinObject
import Derived.Great.BuildSlice
namespace Go.Proofs.Ytffhbpepppodeaa.Plant3
open Go.RowKit Go.Proofs.YtffhbpepppodeaaW.PrintWords Go.Proofs.YtffhbpepppodeaaW.PrintLast Go.Proofs.YtffhbpepppodeaaW.PrintMore Go.Proofs.Ytffhbpepppodeaa.Hs Go.Proofs.Ytffhbpepppodeaa.Gf Go.Proofs.Ytffhbpepppodeaa.Grid Go.Proofs.Ytffhbpepppodeaa.Reduce Go.Proofs.Ytffhbpepppodeaa.Plant Go.Proofs.Ytffhbpepppodeaa.Plant2
set_option linter.unusedVariables false
set_option linter.unusedSimpArgs false
def cT (K m j0 : Nat) : List Value:=.int .i64 ((K : Int) + (m : Int)) :: (List.range 32).map fun j=>.int .u8 (if j < j0 then rowG (K + m) j else 0)
theorem gcells_len (K m j0 : Nat) : (cT K m j0).length = 33:=by simp [cT]
theorem gcells_get (K m j0 j : Nat) (h : j < 32) : (cT K m j0)[1 + j]? = some (.int .u8 (if j < j0 then rowG (K + m) j else 0)):=by
 rw [Nat.add_comm];simp [cT,h]
theorem gcells_set (K m j : Nat) (h : j < 32) : (cT K m j).toArray.setIfInBounds (1 + j) (.int .u8 (rowG (K + m) j)) = (cT K m (j + 1)).toArray:=by
 apply Array.ext_getElem?
 intro i
 rw [List.setIfInBounds_toArray,List.getElem?_toArray,List.getElem?_toArray]
 by_cases c : i = 1 + j
 ·subst c
  rw [List.getElem?_set_self (by rw [gcells_len];omega),gcells_get _ _ _ _ h,if_pos (by omega)]
 ·rw [List.getElem?_set_ne (fun e=>c e.symm)]
  rcases Nat.eq_zero_or_pos i with rfl|hp
  ·simp [cT]
  ·obtain ⟨q,rfl⟩ : ∃ q,i = 1 + q:=⟨i - 1,by omega⟩
   by_cases hq : q < 32
   ·rw [gcells_get _ _ _ _ hq,gcells_get _ _ _ _ hq]
    by_cases d : q < j
    ·rw [if_pos d,if_pos (by omega)]
    ·rw [if_neg d,if_neg (by omega)]
   ·rw [List.getElem?_eq_none (by rw [gcells_len];omega),List.getElem?_eq_none (by rw [gcells_len];omega)]
theorem gcells_one (K m j0 : Nat) : ∀ u ∈ cT K m j0,u.oneCell' = true:=by
 intro u hu
 unfold cT at hu
 rcases List.mem_cons.1 hu with rfl|hu
 ·rfl
 ·obtain ⟨z,_,rfl⟩:=List.mem_map.1 hu;rfl
def lcells (K M m : Nat) : List Value:=[.int .i64 ((K : Int) + (M : Int) + (m : Int)),.int .i64 (m : Int)]
theorem lcells_one (K M m : Nat) : ∀ u ∈ lcells K M m,u.oneCell' = true:=by
 intro u hu
 simp only [lcells,List.mem_cons,List.not_mem_nil,or_false] at hu
 rcases hu with rfl|rfl <;> rfl
def globs (K i : Nat) : List Value:=(List.range i).flatMap fun m=>cT K m K
theorem globs_succ (K i : Nat) : globs K (i + 1) = globs K i ++ cT K i K:=by simp [globs,List.range_succ]
def locs (K M i : Nat) : List Value:=(List.range i).flatMap fun m=>lcells K M m
theorem locs_succ (K M i : Nat) : locs K M (i + 1) = locs K M i ++ lcells K M i:=by simp [locs,List.range_succ]
theorem load_run {P : Program} {a : Act} {o : Oper} {w : World} (ty : TypeId) (x : Operand) (ho : o.op = .load ty x) (g : Nat) (hx : a.eval x = .pointer (some ⟨g,0,none⟩)) (t : TypeId) (cs : Array Value) (fr : Nat × Nat) (d : TypeDesc) (hg : w.heap[g]? = some (.cells cs t fr))
  (hu : P.underlying ty = some d) (hd : (match d with|.struct _|.array _ _=>true|_=>false) = true) (hi : (P.info? ty).map (·.size) = some cs.size) : (execOp a.eval o).run P w = .ok (.value (.agg cs)) w:=by
 unfold execOp
 simp only [ho,hx,Instr.loadAt,Instr.sureAddr,Sem.run_bind,Sem.run_pure,Result.andThen_ok,run_loadVar_row w g t ty cs fr d hg hu hd hi]
def gzA (n : Int) : Array Value:=#[.int .i64 n,.int .u8 0,.int .u8 0,.int .u8 0,.int .u8 0,.int .u8 0,.int .u8 0,.int .u8 0,.int .u8 0,.int .u8 0,.int .u8 0,.int .u8 0,.int .u8 0,.int .u8 0,.int .u8 0,.int .u8 0,.int .u8 0,.int .u8 0,.int .u8 0,.int .u8 0,.int .u8 0,.int .u8 0,.int .u8 0,.int .u8 0,.int .u8 0,.int .u8 0,.int .u8 0,.int .u8 0,.int .u8 0,.int .u8 0,.int .u8 0,.int .u8 0,.int .u8 0]
theorem build_run {a : Act} {o : Oper} {w : World} (m K : Nat) (ho : o.op = .buildSlice 172 1 #[(0,.tmp 49)]) (hx : a.eval (.tmp 49) = .agg (cT K m K).toArray) : (execOp a.eval o).run Try.prog w = .ok (.value (.slice (some ⟨w.heap.size,0,none⟩) 1 1)) (w.alloc (.cells (cT K m K).toArray 180)):=by
 obtain ⟨ie,h1,h2⟩:=Option.map_eq_some_iff.1 (show (Try.prog.info? 180).map (fun i=>(i.size,i.zero)) = some (33,some (.agg (gzA 0))) by kernel_rfl)
 have hs : ie.size = 33:=congrArg Prod.fst h2
 have hz : ie.zero = some (.agg (gzA 0)):=congrArg Prod.snd h2
 have hr:=run_buildSlice (P:=Try.prog) w 172 180 1 #[(0,.agg (cT K m K).toArray)] (cT K m K).toArray ie (.agg (gzA 0)) Try.underlying172 h1 hz (by rw [hs];decide) (by rw [hs];decide) (by rw [hs];kernel_rfl)
 unfold execOp
 simp only [ho,List.map_toArray,List.map_cons,List.map_nil,hx,Sem.run_bind,hr,Result.andThen_ok]
 rfl

set_option maxHeartbeats 8000000 in
set_option maxRecDepth 100000 in
theorem newPlant_calls (K M G : Nat) (w : World) (hk1 : 1 ≤ K) (hk2 : K ≤ 32) (hms : M ≤ 16) (hgk : G ≤ K) : Calls Try.prog 84 #[.agg #[.int .i64 K,.int .i64 M,.int .i64 G]] w fun e w'=>∃ gt gp vg vl,e = .returned (.pointer (some ⟨gp,0,none⟩)) ∧ PlantAt w' gt gp K M G vg vl ∧ Below w.heap.size w w':=by
 have hu1:=Try.underlying43
 have hu2:=Try.underlying175
 have hu3:=Try.underlying180
 have hu4:=Try.underlying182
 have H:=Aside0.mk (Hs.nil w)
 have k0 : 0 ≤ (K : Int):=by omega
 have k1 : (K : Int) ≤ 32:=by omega
 have k2 : 0 ≤ (M : Int):=by omega
 have k3 : (M : Int) ≤ 16:=by omega
 have k4 : 0 ≤ (G : Int):=by omega
 have k5 : (G : Int) ≤ 32:=by omega
 go_enter Try.func84,Try.ntmps84
 go_wp2_with (first
  | ((with_reducible refine ak (N:=1) rfl ?_);(try (refine au (by rfl) ?_;dsimp only));refine aw ?hg (N:=1) ?hd (cs:=#[.int .i64 K,.int .i64 M,.int .i64 G]) (t:=43) ?hr ?_;(case hd=>rfl);(case hg=>rfl);(case hr=>first|(go_simp;done)|(go_simp;rfl));intro gc hg w1 hbox hb;have H_:=Aside0.mk (Hs.push H.out (Nat.le_of_eq hg.symm) hbox hb);clear hbox hb hg H;have H:=H_;clear H_;have hx0_0:=H.out.aJ (v:=.int .i64 K) 0 rfl 0 rfl;have hc0:=H.out.aJ (v:=.int .i64 K) 0 rfl 0 rfl;have hc1:=H.out.aJ (v:=.int .i64 M) 0 rfl 1 rfl;have hc2:=H.out.aJ (v:=.int .i64 G) 0 rfl 2 rfl))
 refine bW (n:=5) (S:=fun w'=>w'.cell? ⟨gc,0,none⟩ = some (.int .i64 K) ∧ w'.cell? ⟨gc,1,none⟩ = some (.int .i64 M) ∧ w'.cell? ⟨gc,2,none⟩ = some (.int .i64 G)) (ds:=[]) #[false,false,false,false,false] (by kernel_rfl) rfl rfl ⟨hc0,hc1,hc2⟩ (fun hHeld=>?_)
 have H_:=Aside0.mk H.out.drew
 clear H hc0 hc1 hc2
 have H:=H_
 clear H_
 generalize w1.drew = wd at H hHeld ⊢
 refine bn (i:=1) (N:=some 9) #[false,true,false,false,false] rfl rfl (by kernel_rfl) (fun _ _ _ h=>h) (Or.inl ⟨by rfl,by rintro w' ⟨s0,s1,s2⟩;go_simp;with_reducible rfl⟩) hHeld (by simp only [Act.put,List.setIfInBounds_toArray,List.set_cons_zero,List.set_cons_succ,ae,af];rfl) ?_
 refine one_ (i:=0) (N:=some 8) #[true,true,false,false,false] rfl rfl (by kernel_rfl) (by decide) (fun Kc hK=>?_)
 refine cE Try.func63 (by kernel_rfl) rfl #[] (by rfl) rfl rfl (by first|(simp only [List.map_toArray,List.map_cons,List.map_nil];done)|rfl|(simp only [List.map_toArray,List.map_cons,List.map_nil];rfl)) ?_
 with_reducible refine (make_calls w _ _ H.out).mono ?_
 rintro e wt ⟨gt,rfl,hH⟩
 refine ⟨_,rfl,?_⟩
 have H_:=Aside0.mk hH
 clear hH H
 have H:=H_
 clear H_
 refine hK.out _ _ ⟨(H.out.aJ 1 rfl 0 rfl),(H.out.aJ 1 rfl 1 rfl),(H.out.aJ 1 rfl 2 rfl)⟩ (fun hHeld=>?_)
 clear hK Kc
 refine bz (a':=?_) ?_ ?_
 rotate_left
 ·show Act.put _ (some 8) _ = _
  simp only [Act.put,List.setIfInBounds_toArray,List.set_cons_zero,List.set_cons_succ,ae,af]
  rfl
 refine aq (i:=2) (N:=some 10) #[true,true,true,false,false] rfl rfl (by kernel_rfl) (fun _ _ _ h=>h) (Or.inl ⟨by rfl,by intro w';go_simp;with_reducible rfl⟩) (by simp only [Act.put,List.setIfInBounds_toArray,List.set_cons_zero,List.set_cons_succ,ae,af];rfl) ?_
 refine one_ (i:=3) (N:=some 11) #[true,true,true,true,false] rfl rfl (by kernel_rfl) (by decide) (fun Kc hK=>?_)
 refine value_ (w1:=?_) (v:=?_) (by rfl) rfl ?_ ?_
 rotate_left 2
 ·go_simp
  constructor
  ·rfl
  ·rfl
 have H_:=Aside0.mk (H.out.alloc (.cells #[.pointer (some ⟨gt,0,none⟩),.int .i64 K,.int .i64 M,.int .i64 G,.slice none 0 0,.slice none 0 0] 175 (0,0)))
 clear H
 have H:=H_
 clear H_
 refine hK.out _ _ ⟨(H.out.aJ 2 rfl 0 rfl),(H.out.aJ 2 rfl 1 rfl),(H.out.aJ 2 rfl 2 rfl)⟩ (fun hHeld=>?_)
 clear hK Kc
 refine bz (a':=?_) ?_ ?_
 rotate_left
 ·show Act.put _ (some 11) _ = _
  simp only [Act.put,List.setIfInBounds_toArray,List.set_cons_zero,List.set_cons_succ,ae,af]
  rfl
 refine aq (i:=4) (N:=some 3) #[true,true,true,true,true] rfl rfl (by kernel_rfl) (fun _ _ _ h=>h) (Or.inl ⟨by rfl,by intro w';go_simp;with_reducible rfl⟩) (by simp only [Act.put,List.setIfInBounds_toArray,List.set_cons_zero,List.set_cons_succ,ae,af];rfl) ?_
 refine cD (by kernel_rfl) ?_
 have hc0:=H.out.aJ (v:=.int .i64 K) 2 rfl 0 rfl
 have hc1:=H.out.aJ (v:=.int .i64 M) 2 rfl 1 rfl
 go_wp2
 clear hc0 hc1
 go_loopw [14] (fun v14 wr=>∃ (i : Nat) (vg : Value) (Bg : List Blk),i ≤ M ∧ v14 = .int .i64 i ∧ Aside0 (RowB 180 33 vg i (globs K i) Bg) ∧ Aside0 (Hs w wr (Bg ++ ((wt.heap.size,.cells #[.pointer (some ⟨gt,0,none⟩),.int .i64 K,.int .i64 M,.int .i64 G,vg,.slice none 0 0] 175 (0,0)) :: (gt,.cells (tabN 255) 162 (0,0)) :: (gc,.cells #[.int .i64 K,.int .i64 M,.int .i64 G] 43 (0,0)) :: [])))) (fun i _=>M - (intOf i).toNat)
 case atStart=>exact ⟨0,.slice none 0 0,[],by omega,rfl,Aside0.mk (RowB.nil _ _),H⟩
 case round=>
  clear H
  obtain ⟨i,vg,Bg,hi,rfl,hB,H⟩:=hrel
  obtain ⟨Ag,cg,rfl⟩:=hB.out.slice
  have i0 : 0 ≤ (i : Int):=by omega
  have hc1 : wr.cell? ⟨gc,1,none⟩ = some (.int .i64 M):=H.out.left.aJ 2 rfl 1 rfl
  have hc0 : wr.cell? ⟨gc,0,none⟩ = some (.int .i64 K):=H.out.left.aJ 2 rfl 0 rfl
  by_cases hlt : i < M
  ·have i1 : (i : Int) < (M : Int):=by omega
   go_wp2_with (first
    | ((with_reducible refine ak (N:=22) rfl ?_);refine cY (.agg (gzA ((K : Int) + (i : Int)))) ?hg ?hr ?_;(case hg=>rfl);(case hr=>kernel_rfl))
    | ((with_reducible refine ak (N:=5) rfl ?_);refine aw ?hg (N:=5) ?hd (cs:=gzA 0) (t:=180) ?hr ?_;(case hd=>rfl);(case hg=>rfl);(case hr=>kernel_rfl);intro gx hg w2 hbox hb;have H_:=Aside0.mk (Hs.push H.out (Nat.le_of_eq hg.symm) hbox hb);clear hbox hb hg H;have H:=H_;clear H_)
    | ((with_reducible refine bo (p:=5) rfl ?_);refine wpList_store_row rfl 180 (.tmp 5) (.tmp 22) rfl gx (gzA ((K : Int) + (i : Int))) rfl rfl 180 (gzA 0) (H.out.get 0 rfl) (by kernel_rfl) rfl (by kernel_rfl) ?_;have H_:=Aside0.mk (Hs.setRow H.out 0 rfl (gzA ((K : Int) + (i : Int))));clear H;have H:=H_;clear H_;generalize World.setRow _ gx _ = w3 at H ⊢;have hq0 : w3.cell? ⟨gc,0,none⟩ = some (.int .i64 K):=(Hs.left (B:=_ :: Bg) H.out).aJ 2 rfl 0 rfl))
   clear hc0 hc1
   go_loopw [25] (fun v25 wr=>∃ j : Nat,j ≤ K ∧ v25 = .int .i64 j ∧ Aside0 (Hs w wr ((gx,.cells (cT K i j).toArray 180 (0,0)) :: (Bg ++ ((wt.heap.size,.cells #[.pointer (some ⟨gt,0,none⟩),.int .i64 K,.int .i64 M,.int .i64 G,.slice Ag i cg,.slice none 0 0] 175 (0,0)) :: (gt,.cells (tabN 255) 162 (0,0)) :: (gc,.cells #[.int .i64 K,.int .i64 M,.int .i64 G] 43 (0,0)) :: []))))) (fun j _=>K - (intOf j).toNat)
   case atStart=>exact ⟨0,by omega,rfl,H⟩
   case round=>
    clear H hq0
    obtain ⟨j,hj,rfl,H⟩:=hrel
    have j0 : 0 ≤ (j : Int):=by omega
    have hc1 : wr.cell? ⟨gc,0,none⟩ = some (.int .i64 K):=(Hs.left (B:=_ :: Bg) H.out).aJ 2 rfl 0 rfl
    by_cases hjl : j < K
    ·have j1 : (j : Int) < (K : Int):=by omega
     have j2 : (j : Int) < 32:=by omega
     have hc0 : wr.cell? ⟨wt.heap.size,0,none⟩ = some (.pointer (some ⟨gt,0,none⟩)):=(Hs.left (B:=_ :: Bg) H.out).aJ 0 rfl 0 rfl
     have hgz:=Aside0.mk (show (cT K i j).toArray[1 + j]? = some (.int .u8 0) by rw [List.getElem?_toArray,gcells_get _ _ _ _ (by omega),if_neg (by omega)])
     have hxr:=Aside0.mk (show 0 ≤ Go.bits .xor .i64 ((K : Int) + (i : Int)) (j : Int) ∧ Go.bits .xor .i64 ((K : Int) + (i : Int)) (j : Int) ≤ 255 by have:=xor_small (K + i) (by omega) j (by omega);rw [Int.natCast_add] at this;exact this)
     have l1 : wrap64 ((K : Int) + (i : Int)) = (K : Int) + (i : Int):=by unfold wrap64;omega
     have l2 : IntKind.u8.wrap (Go.bits .xor .i64 ((K : Int) + (i : Int)) (j : Int)) = Go.bits .xor .i64 ((K : Int) + (i : Int)) (j : Int):=IntWalk.u8_in _ hxr.out
     go_wp2_with fail
     refine bW (n:=16) (S:=fun w'=>w'.cell? ⟨wt.heap.size,0,none⟩ = some (.pointer (some ⟨gt,0,none⟩)) ∧ w'.cell? ⟨gc,0,none⟩ = some (.int .i64 K)) (ds:=[15]) #[false,false,false,false,false,false,false,false,false,false,false,false,false,false,false,false] (by kernel_rfl) rfl rfl ⟨hc0,hc1⟩ (fun hHeld=>?_)
     have H_:=Aside0.mk H.out.drew
     clear H hc0 hc1
     have H:=H_
     clear H_
     generalize wr.drew = wd at H hHeld ⊢
     refine aq (i:=0) (N:=some 28) #[true,false,false,false,false,false,false,false,false,false,false,false,false,false,false,false] rfl rfl (by kernel_rfl) (fun _ _ _ h=>h) (Or.inl ⟨by rfl,by intro w';go_simp;with_reducible rfl⟩) (by simp only [Act.put,List.setIfInBounds_toArray,List.set_cons_zero,List.set_cons_succ,ae,af];rfl) ?_
     refine aq (i:=1) (N:=some 29) #[true,true,false,false,false,false,false,false,false,false,false,false,false,false,false,false] rfl rfl (by kernel_rfl) (fun _ _ _ h=>h) (Or.inl ⟨by rfl,by intro w';go_simp;with_reducible rfl⟩) (by simp only [Act.put,List.setIfInBounds_toArray,List.set_cons_zero,List.set_cons_succ,ae,af];rfl) ?_
     refine aq (i:=2) (N:=some 30) #[true,true,true,false,false,false,false,false,false,false,false,false,false,false,false,false] rfl rfl (by kernel_rfl) (fun _ _ _ h=>h) (Or.inl ⟨by rfl,by intro w';go_simp;with_reducible rfl⟩) (by simp only [Act.put,List.setIfInBounds_toArray,List.set_cons_zero,List.set_cons_succ,ae,af];rfl) ?_
     refine aq (i:=3) (N:=some 31) #[true,true,true,true,false,false,false,false,false,false,false,false,false,false,false,false] rfl rfl (by kernel_rfl) (fun _ _ _ h=>h) (Or.inl ⟨by rfl,by intro w';go_simp;with_reducible rfl⟩) (by simp only [Act.put,List.setIfInBounds_toArray,List.set_cons_zero,List.set_cons_succ,ae,af];rfl) ?_
     refine aq (i:=5) (N:=some 33) #[true,true,true,true,false,true,false,false,false,false,false,false,false,false,false,false] rfl rfl (by kernel_rfl) (fun _ _ _ h=>h) (Or.inl ⟨by rfl,by intro w';go_simp;with_reducible rfl⟩) (by simp only [Act.put,List.setIfInBounds_toArray,List.set_cons_zero,List.set_cons_succ,ae,af];rfl) ?_
     refine aq (i:=7) (N:=some 35) #[true,true,true,true,false,true,false,true,false,false,false,false,false,false,false,false] rfl rfl (by kernel_rfl) (fun _ _ _ h=>h) (Or.inl ⟨by rfl,by intro w';go_simp;with_reducible rfl⟩) (by simp only [Act.put,List.setIfInBounds_toArray,List.set_cons_zero,List.set_cons_succ,ae,af];rfl) ?_
     refine aq (i:=9) (N:=some 37) #[true,true,true,true,false,true,false,true,false,true,false,false,false,false,false,false] rfl rfl (by kernel_rfl) (fun _ _ _ h=>h) (Or.inl ⟨by rfl,by intro w';go_simp;with_reducible rfl⟩) (by simp only [Act.put,List.setIfInBounds_toArray,List.set_cons_zero,List.set_cons_succ,ae,af];rfl) ?_
     refine aq (i:=13) (N:=some 41) #[true,true,true,true,false,true,false,true,false,true,false,false,false,true,false,false] rfl rfl (by kernel_rfl) (fun _ _ _ h=>h) (Or.inl ⟨by rfl,by intro w';go_simp;with_reducible rfl⟩) (by simp only [Act.put,List.setIfInBounds_toArray,List.set_cons_zero,List.set_cons_succ,ae,af];rfl) ?_
     refine bn (i:=4) (N:=some 32) #[true,true,true,true,true,true,false,true,false,true,false,false,false,true,false,false] rfl rfl (by kernel_rfl) (fun _ _ _ h=>h) (Or.inl ⟨by rfl,by rintro w' ⟨s0,s1⟩;go_simp;with_reducible rfl⟩) hHeld (by simp only [Act.put,List.setIfInBounds_toArray,List.set_cons_zero,List.set_cons_succ,ae,af];rfl) ?_
     refine bn (i:=6) (N:=some 34) #[true,true,true,true,true,true,true,true,false,true,false,false,false,true,false,false] rfl rfl (by kernel_rfl) (fun _ _ _ h=>h) (Or.inl ⟨by rfl,by rintro w' ⟨s0,s1⟩;go_simp;with_reducible rfl⟩) hHeld (by simp only [Act.put,List.setIfInBounds_toArray,List.set_cons_zero,List.set_cons_succ,ae,af];rfl) ?_
     refine aq (i:=8) (N:=some 36) #[true,true,true,true,true,true,true,true,true,true,false,false,false,true,false,false] rfl rfl (by kernel_rfl) (fun _ _ _ h=>h) (Or.inl ⟨by rfl,by intro w';go_simp;with_reducible rfl⟩) (by simp only [Act.put,List.setIfInBounds_toArray,List.set_cons_zero,List.set_cons_succ,ae,af];rfl) ?_
     refine aq (i:=10) (N:=some 38) #[true,true,true,true,true,true,true,true,true,true,true,false,false,true,false,false] rfl rfl (by kernel_rfl) (fun _ _ _ h=>h) (Or.inl ⟨by rfl,by intro w';go_simp;with_reducible rfl⟩) (by simp only [Act.put,List.setIfInBounds_toArray,List.set_cons_zero,List.set_cons_succ,ae,af];rfl) ?_
     refine aq (i:=11) (N:=some 39) #[true,true,true,true,true,true,true,true,true,true,true,true,false,true,false,false] rfl rfl (by kernel_rfl) (fun _ _ _ h=>h) (Or.inl ⟨by rfl,by intro w';go_simp;with_reducible rfl⟩) (by simp only [Act.put,List.setIfInBounds_toArray,List.set_cons_zero,List.set_cons_succ,ae,af];rfl) ?_
     refine one_ (i:=12) (N:=some 40) #[true,true,true,true,true,true,true,true,true,true,true,true,true,true,false,false] rfl rfl (by kernel_rfl) (by decide) (fun Kc hK=>?_)
     refine cE Try.func120 (by kernel_rfl) rfl #[.pointer (some ⟨gt,0,none⟩),.int .u8 (Go.bits .xor .i64 ((K : Int) + (i : Int)) (j : Int))] (by rfl) rfl rfl (by first|(simp only [List.map_toArray,List.map_cons,List.map_nil];done)|(simp only [List.map_toArray,List.map_cons,List.map_nil];rfl)) ?_
     with_reducible refine (inv_calls gt (Go.bits .xor .i64 ((K : Int) + (i : Int)) (j : Int)) _ ((Hs.left (B:=_ :: Bg) H.out).get 1 rfl) hxr.out.1 hxr.out.2).mono ?_
     rintro e wm ⟨rfl,hd⟩
     refine ⟨_,rfl,?_⟩
     have H1:=Aside0.mk (H.out.draw hd)
     clear hd
     have hx1 : wm.cell? ⟨gx,1 + j,none⟩ = some (.int .u8 0):=H1.out.aJ 0 rfl (1 + j) hgz.out
     have hxf:=H1.out.frozen 0 rfl (1 + j)
     refine hK.out _ _ ⟨((Hs.left (B:=_ :: Bg) H1.out).aJ 0 rfl 0 rfl),((Hs.left (B:=_ :: Bg) H1.out).aJ 2 rfl 0 rfl)⟩ (fun hHeld=>?_)
     clear hK Kc
     refine bz (a':=?_) ?_ ?_
     rotate_left
     ·show Act.put _ (some 40) _ = _
      simp only [Act.put,List.setIfInBounds_toArray,List.set_cons_zero,List.set_cons_succ,ae,af]
      rfl
     refine aq (i:=14) (N:=some 42) #[true,true,true,true,true,true,true,true,true,true,true,true,true,true,true,false] rfl rfl (by kernel_rfl) (fun _ _ _ h=>h) (Or.inl ⟨by rfl,by intro w';go_simp;with_reducible rfl⟩) (by simp only [Act.put,List.setIfInBounds_toArray,List.set_cons_zero,List.set_cons_succ,ae,af];rfl) ?_
     refine dX (i:=15) (N:=none) #[true,true,true,true,true,true,true,true,true,true,true,true,true,true,true,true] rfl rfl (by kernel_rfl) (by decide) (fun Kc hK=>?_)
     refine dA (w1:=?_) (by rfl) rfl ?_ ?_
     rotate_left
     ·go_simp
      rfl
     refine hK.out _ _ ?_
     clear hK Kc
     refine cD (by kernel_rfl) ?_
     clear l1 l2
     go_wp2
     go_roundw
     case rel=>exact ⟨j + 1,by omega,by go_num,Aside0.mk (by
      have h_:=H1.out.set 0 rfl (1 + j) (.int .u8 (rowG (K + i) j))
      rw [List.set_cons_zero,gcells_set _ _ _ (by omega)] at h_
      exact h_)⟩
     case measure=>simp [intOf];omega
    ·obtain rfl : K = j:=by omega
     have j1 : decide ((K : Int) < (K : Int)) = false:=decide_eq_false (by omega)
     go_wp2_with fail
     clear hc1
     have hc0 : wr.cell? ⟨wt.heap.size,4,none⟩ = some (.slice Ag i cg):=(Hs.left (B:=_ :: Bg) H.out).aJ 0 rfl 4 rfl
     have hc1:=H.out.get 0 rfl
     refine bW (n:=11) (S:=fun w'=>w'.cell? ⟨wt.heap.size,4,none⟩ = some (.slice Ag i cg) ∧ w'.heap[gx]? = some (.cells (cT K i K).toArray 180 (0,0))) (ds:=[10]) #[false,false,false,false,false,false,false,false,false,false,false] (by kernel_rfl) rfl rfl ⟨hc0,hc1⟩ (fun hHeld=>?_)
     have H_:=Aside0.mk H.out.drew
     clear H hc0 hc1
     have H:=H_
     clear H_
     generalize wr.drew = we at H hHeld ⊢
     refine aq (i:=0) (N:=some 44) #[true,false,false,false,false,false,false,false,false,false,false] rfl rfl (by kernel_rfl) (fun _ _ _ h=>h) (Or.inl ⟨by rfl,by intro w';go_simp;with_reducible rfl⟩) (by simp only [Act.put,List.setIfInBounds_toArray,List.set_cons_zero,List.set_cons_succ,ae,af];rfl) ?_
     refine aq (i:=1) (N:=some 45) #[true,true,false,false,false,false,false,false,false,false,false] rfl rfl (by kernel_rfl) (fun _ _ _ h=>h) (Or.inl ⟨by rfl,by intro w';go_simp;with_reducible rfl⟩) (by simp only [Act.put,List.setIfInBounds_toArray,List.set_cons_zero,List.set_cons_succ,ae,af];rfl) ?_
     refine aq (i:=2) (N:=some 46) #[true,true,true,false,false,false,false,false,false,false,false] rfl rfl (by kernel_rfl) (fun _ _ _ h=>h) (Or.inl ⟨by rfl,by intro w';go_simp;with_reducible rfl⟩) (by simp only [Act.put,List.setIfInBounds_toArray,List.set_cons_zero,List.set_cons_succ,ae,af];rfl) ?_
     refine aq (i:=3) (N:=some 47) #[true,true,true,true,false,false,false,false,false,false,false] rfl rfl (by kernel_rfl) (fun _ _ _ h=>h) (Or.inl ⟨by rfl,by intro w';go_simp;with_reducible rfl⟩) (by simp only [Act.put,List.setIfInBounds_toArray,List.set_cons_zero,List.set_cons_succ,ae,af];rfl) ?_
     refine bn (i:=4) (N:=some 48) #[true,true,true,true,true,false,false,false,false,false,false] rfl rfl (by kernel_rfl) (fun _ _ _ h=>h) (Or.inl ⟨by rfl,by rintro w' ⟨s0,s1⟩;go_simp;with_reducible rfl⟩) hHeld (by simp only [Act.put,List.setIfInBounds_toArray,List.set_cons_zero,List.set_cons_succ,ae,af];rfl) ?_
     refine bn (i:=5) (N:=some 49) (v:=?_) (a':=?_) #[true,true,true,true,true,true,false,false,false,false,false] rfl rfl (by kernel_rfl) (fun _ _ _ h=>h) (Or.inl ⟨by rfl,?_⟩) hHeld ?_ ?_
     rotate_left
     ·rintro w' ⟨s0,s1⟩
      refine load_run 180 (.tmp 5) ?_ gx ?_ 180 _ _ _ s1 Try.underlying180 rfl (by kernel_rfl)
      ·rfl
      ·rfl
     rotate_left
     ·simp only [Act.put,List.setIfInBounds_toArray,List.set_cons_zero,List.set_cons_succ,ae,af]
      rfl
     refine one_ (i:=6) (N:=some 50) #[true,true,true,true,true,true,true,false,false,false,false] rfl rfl (by kernel_rfl) (by decide) (fun Kc hK=>?_)
     refine value_ (w1:=?_) (v:=?_) (by rfl) rfl ?_ ?_
     rotate_left 2
     ·refine build_run i K ?_ ?_ <;> rfl
     have hD : World.cell? (World.alloc we (.cells (cT K i K).toArray 180 (0,0))) ⟨wt.heap.size,4,none⟩ = some (.slice Ag i cg):=dP (ba (Below.refl _ _) _) hHeld.1
     have hE : (World.alloc we (.cells (cT K i K).toArray 180 (0,0))).heap[gx]? = some (.cells (cT K i K).toArray 180 (0,0)):=ab hHeld.2 (ba (Below.refl _ _) _)
     refine hK.out _ _ ⟨hD,hE⟩ (fun hHeld=>?_)
     clear hK Kc
     refine bz (a':=?_) ?_ ?_
     rotate_left
     ·show Act.put _ (some 50) _ = _
      simp only [Act.put,List.setIfInBounds_toArray,List.set_cons_zero,List.set_cons_succ,ae,af]
      rfl
     refine one_ (i:=7) (N:=some 51) #[true,true,true,true,true,true,true,true,false,false,false] rfl rfl (by kernel_rfl) (by decide) (fun Kc hK=>?_)
     refine append_stp (w0:=w) (by rfl) (.tmp 48) (.tmp 50) 172 180 (.agg (gzA 0)) 33 40 rfl Try.underlying172 (by kernel_rfl) rfl (by decide) (by decide) (.slice Ag i cg) i (globs K i) (cT K i K) rfl rfl (gcells_len _ _ _) (gcells_one _ _ _) hB.out (hs_cons H.out) (by omega) ?_
     intro A1 z1 w1 B1 hB1 hH1
     have H1:=Aside0.mk hH1
     have hB1':=Aside0.mk hB1
     clear hH1 hB1
     have hc1 : w1.cell? ⟨wt.heap.size,4,none⟩ = some (.slice Ag i cg):=H1.out.left.aJ 1 rfl 4 rfl
     have hf1 : w1.frozen? ⟨wt.heap.size,4,none⟩ = false:=H1.out.left.frozen 1 rfl 4
     have hg1:=H1.out.left.get 0 rfl
     refine hK.out _ _ ⟨hc1,hg1⟩ (fun hHeld=>?_)
     clear hK Kc
     refine bz (a':=?_) ?_ ?_
     rotate_left
     ·show Act.put _ (some 51) _ = _
      simp only [Act.put,List.setIfInBounds_toArray,List.set_cons_zero,List.set_cons_succ,ae,af]
      rfl
     refine aq (i:=8) (N:=some 52) #[true,true,true,true,true,true,true,true,true,false,false] rfl rfl (by kernel_rfl) (fun _ _ _ h=>h) (Or.inl ⟨by rfl,by intro w';go_simp;with_reducible rfl⟩) (by simp only [Act.put,List.setIfInBounds_toArray,List.set_cons_zero,List.set_cons_succ,ae,af];rfl) ?_
     refine aq (i:=9) (N:=some 53) #[true,true,true,true,true,true,true,true,true,true,false] rfl rfl (by kernel_rfl) (fun _ _ _ h=>h) (Or.inl ⟨by rfl,by intro w';go_simp;with_reducible rfl⟩) (by simp only [Act.put,List.setIfInBounds_toArray,List.set_cons_zero,List.set_cons_succ,ae,af];rfl) ?_
     refine dX (i:=10) (N:=none) #[true,true,true,true,true,true,true,true,true,true,true] rfl rfl (by kernel_rfl) (by decide) (fun Kc hK=>?_)
     refine dA (w1:=?_) (by rfl) rfl ?_ ?_
     rotate_left
     ·go_simp
      rfl
     refine hK.out _ _ ?_
     clear hK Kc
     refine cD (by kernel_rfl) ?_
     go_wp2
     go_roundw
     case rel=>exact ⟨i + 1,.slice A1 (i + 1) z1,B1,by omega,by go_num,Aside0.mk (by rw [globs_succ];exact hB1'.out),Aside0.mk ((H1.out.perm List.perm_middle).tail.setM 4 _)⟩
     case measure=>simp [intOf];omega
  ·obtain rfl : M = i:=by omega
   have i1 : decide ((M : Int) < (M : Int)) = false:=decide_eq_false (by omega)
   clear hc0
   have hc2 : wr.cell? ⟨gc,2,none⟩ = some (.int .i64 G):=H.out.left.aJ 2 rfl 2 rfl
   go_wp2_with fail
   clear hc1 hc2
   go_loopw [57] (fun v57 wr=>∃ (i : Nat) (vl : Value) (Bl : List Blk),i ≤ G ∧ v57 = .int .i64 i ∧ Aside0 (RowB 182 2 vl i (locs K M i) Bl) ∧ Aside0 (Hs w wr (Bl ++ (Bg ++ ((wt.heap.size,.cells #[.pointer (some ⟨gt,0,none⟩),.int .i64 K,.int .i64 M,.int .i64 G,.slice Ag M cg,vl] 175 (0,0)) :: (gt,.cells (tabN 255) 162 (0,0)) :: (gc,.cells #[.int .i64 K,.int .i64 M,.int .i64 G] 43 (0,0)) :: []))))) (fun i _=>G - (intOf i).toNat)
   case atStart=>exact ⟨0,.slice none 0 0,[],by omega,rfl,Aside0.mk (RowB.nil _ _),H⟩
   case round=>
    clear H
    obtain ⟨i,vl,Bl,hi,rfl,hL,H⟩:=hrel
    obtain ⟨Al,cl,rfl⟩:=hL.out.slice
    have i0 : 0 ≤ (i : Int):=by omega
    by_cases hlt : i < G
    ·have i2 : (i : Int) < (G : Int):=by omega
     have hc0 : wr.cell? ⟨wt.heap.size,5,none⟩ = some (.slice Al i cl):=H.out.left.left.aJ 0 rfl 5 rfl
     have hc1 : wr.cell? ⟨gc,0,none⟩ = some (.int .i64 K):=H.out.left.left.aJ 2 rfl 0 rfl
     have hc2 : wr.cell? ⟨gc,1,none⟩ = some (.int .i64 M):=H.out.left.left.aJ 2 rfl 1 rfl
     have l1 : wrap64 ((K : Int) + (M : Int)) = (K : Int) + (M : Int):=by unfold wrap64;omega
     have l2 : wrap64 ((K : Int) + (M : Int) + (i : Int)) = (K : Int) + (M : Int) + (i : Int):=by unfold wrap64;omega
     have hq:=Aside0.mk (show (i + 1) * 16 ≤ 140737488355328 by omega)
     go_wp2_with fail
     refine bW (n:=20) (S:=fun w'=>w'.cell? ⟨wt.heap.size,5,none⟩ = some (.slice Al i cl) ∧ w'.cell? ⟨gc,0,none⟩ = some (.int .i64 K) ∧ w'.cell? ⟨gc,1,none⟩ = some (.int .i64 M)) (ds:=[19]) #[false,false,false,false,false,false,false,false,false,false,false,false,false,false,false,false,false,false,false,false] (by kernel_rfl) rfl rfl ⟨hc0,hc1,hc2⟩ (fun hHeld=>?_)
     have H_:=Aside0.mk H.out.drew
     clear H hc0 hc1 hc2
     have H:=H_
     clear H_
     generalize wr.drew = we at H hHeld ⊢
     refine aq (i:=0) (N:=some 60) #[true,false,false,false,false,false,false,false,false,false,false,false,false,false,false,false,false,false,false,false] rfl rfl (by kernel_rfl) (fun _ _ _ h=>h) (Or.inl ⟨by rfl,by intro w';go_simp;with_reducible rfl⟩) (by simp only [Act.put,List.setIfInBounds_toArray,List.set_cons_zero,List.set_cons_succ,ae,af];rfl) ?_
     refine aq (i:=1) (N:=some 61) #[true,true,false,false,false,false,false,false,false,false,false,false,false,false,false,false,false,false,false,false] rfl rfl (by kernel_rfl) (fun _ _ _ h=>h) (Or.inl ⟨by rfl,by intro w';go_simp;with_reducible rfl⟩) (by simp only [Act.put,List.setIfInBounds_toArray,List.set_cons_zero,List.set_cons_succ,ae,af];rfl) ?_
     refine aq (i:=2) (N:=some 62) #[true,true,true,false,false,false,false,false,false,false,false,false,false,false,false,false,false,false,false,false] rfl rfl (by kernel_rfl) (fun _ _ _ h=>h) (Or.inl ⟨by rfl,by intro w';go_simp;with_reducible rfl⟩) (by simp only [Act.put,List.setIfInBounds_toArray,List.set_cons_zero,List.set_cons_succ,ae,af];rfl) ?_
     refine aq (i:=3) (N:=some 63) #[true,true,true,true,false,false,false,false,false,false,false,false,false,false,false,false,false,false,false,false] rfl rfl (by kernel_rfl) (fun _ _ _ h=>h) (Or.inl ⟨by rfl,by intro w';go_simp;with_reducible rfl⟩) (by simp only [Act.put,List.setIfInBounds_toArray,List.set_cons_zero,List.set_cons_succ,ae,af];rfl) ?_
     refine aq (i:=5) (N:=some 65) #[true,true,true,true,false,true,false,false,false,false,false,false,false,false,false,false,false,false,false,false] rfl rfl (by kernel_rfl) (fun _ _ _ h=>h) (Or.inl ⟨by rfl,by intro w';go_simp;with_reducible rfl⟩) (by simp only [Act.put,List.setIfInBounds_toArray,List.set_cons_zero,List.set_cons_succ,ae,af];rfl) ?_
     refine aq (i:=7) (N:=some 67) #[true,true,true,true,false,true,false,true,false,false,false,false,false,false,false,false,false,false,false,false] rfl rfl (by kernel_rfl) (fun _ _ _ h=>h) (Or.inl ⟨by rfl,by intro w';go_simp;with_reducible rfl⟩) (by simp only [Act.put,List.setIfInBounds_toArray,List.set_cons_zero,List.set_cons_succ,ae,af];rfl) ?_
     refine aq (i:=10) (N:=some 70) #[true,true,true,true,false,true,false,true,false,false,true,false,false,false,false,false,false,false,false,false] rfl rfl (by kernel_rfl) (fun _ _ _ h=>h) (Or.inl ⟨by rfl,by intro w';go_simp;with_reducible rfl⟩) (by simp only [Act.put,List.setIfInBounds_toArray,List.set_cons_zero,List.set_cons_succ,ae,af];rfl) ?_
     refine aq (i:=13) (N:=some 73) #[true,true,true,true,false,true,false,true,false,false,true,false,false,true,false,false,false,false,false,false] rfl rfl (by kernel_rfl) (fun _ _ _ h=>h) (Or.inl ⟨by rfl,by intro w';go_simp;with_reducible rfl⟩) (by simp only [Act.put,List.setIfInBounds_toArray,List.set_cons_zero,List.set_cons_succ,ae,af];rfl) ?_
     refine bn (i:=4) (N:=some 64) #[true,true,true,true,true,true,false,true,false,false,true,false,false,true,false,false,false,false,false,false] rfl rfl (by kernel_rfl) (fun _ _ _ h=>h) (Or.inl ⟨by rfl,by rintro w' ⟨s0,s1,s2⟩;go_simp;with_reducible rfl⟩) hHeld (by simp only [Act.put,List.setIfInBounds_toArray,List.set_cons_zero,List.set_cons_succ,ae,af];rfl) ?_
     refine bn (i:=6) (N:=some 66) #[true,true,true,true,true,true,true,true,false,false,true,false,false,true,false,false,false,false,false,false] rfl rfl (by kernel_rfl) (fun _ _ _ h=>h) (Or.inl ⟨by rfl,by rintro w' ⟨s0,s1,s2⟩;go_simp;with_reducible rfl⟩) hHeld (by simp only [Act.put,List.setIfInBounds_toArray,List.set_cons_zero,List.set_cons_succ,ae,af];rfl) ?_
     refine bn (i:=8) (N:=some 68) #[true,true,true,true,true,true,true,true,true,false,true,false,false,true,false,false,false,false,false,false] rfl rfl (by kernel_rfl) (fun _ _ _ h=>h) (Or.inl ⟨by rfl,by rintro w' ⟨s0,s1,s2⟩;go_simp;with_reducible rfl⟩) hHeld (by simp only [Act.put,List.setIfInBounds_toArray,List.set_cons_zero,List.set_cons_succ,ae,af];rfl) ?_
     refine aq (i:=9) (N:=some 69) #[true,true,true,true,true,true,true,true,true,true,true,false,false,true,false,false,false,false,false,false] rfl rfl (by kernel_rfl) (fun _ _ _ h=>h) (Or.inl ⟨by rfl,by intro w';go_simp;with_reducible rfl⟩) (by simp only [Act.put,List.setIfInBounds_toArray,List.set_cons_zero,List.set_cons_succ,ae,af];rfl) ?_
     refine aq (i:=11) (N:=some 71) #[true,true,true,true,true,true,true,true,true,true,true,true,false,true,false,false,false,false,false,false] rfl rfl (by kernel_rfl) (fun _ _ _ h=>h) (Or.inl ⟨by rfl,by intro w';go_simp;with_reducible rfl⟩) (by simp only [Act.put,List.setIfInBounds_toArray,List.set_cons_zero,List.set_cons_succ,ae,af];rfl) ?_
     refine aq (i:=12) (N:=some 72) #[true,true,true,true,true,true,true,true,true,true,true,true,true,true,false,false,false,false,false,false] rfl rfl (by kernel_rfl) (fun _ _ _ h=>h) (Or.inl ⟨by rfl,by intro w';go_simp;with_reducible rfl⟩) (by simp only [Act.put,List.setIfInBounds_toArray,List.set_cons_zero,List.set_cons_succ,ae,af];rfl) ?_
     refine aq (i:=14) (N:=some 74) #[true,true,true,true,true,true,true,true,true,true,true,true,true,true,true,false,false,false,false,false] rfl rfl (by kernel_rfl) (fun _ _ _ h=>h) (Or.inl ⟨by rfl,by intro w';go_simp;with_reducible rfl⟩) (by simp only [Act.put,List.setIfInBounds_toArray,List.set_cons_zero,List.set_cons_succ,ae,af];rfl) ?_
     refine one_ (i:=15) (N:=some 75) #[true,true,true,true,true,true,true,true,true,true,true,true,true,true,true,true,false,false,false,false] rfl rfl (by kernel_rfl) (by decide) (fun Kc hK=>?_)
     refine value_ (w1:=?_) (v:=?_) (by rfl) rfl ?_ ?_
     rotate_left 2
     ·go_simp
      constructor
      ·rfl
      ·rfl
     have hD:=Aside0.mk (H.out.alloc (.cells #[.int .i64 ((K : Int) + (M : Int) + (i : Int)),.int .i64 (i : Int)] 182 (0,0)))
     refine hK.out _ _ ⟨(hD.out.tail.left.left.aJ 0 rfl 5 rfl),(hD.out.tail.left.left.aJ 2 rfl 0 rfl),(hD.out.tail.left.left.aJ 2 rfl 1 rfl)⟩ (fun hHeld=>?_)
     clear hK Kc
     refine bz (a':=?_) ?_ ?_
     rotate_left
     ·show Act.put _ (some 75) _ = _
      simp only [Act.put,List.setIfInBounds_toArray,List.set_cons_zero,List.set_cons_succ,ae,af]
      rfl
     refine one_ (i:=16) (N:=some 76) #[true,true,true,true,true,true,true,true,true,true,true,true,true,true,true,true,true,false,false,false] rfl rfl (by kernel_rfl) (by decide) (fun Kc hK=>?_)
     refine append_stp (w0:=w) (by rfl) (.tmp 64) (.tmp 75) 173 182 (.agg #[.int .i64 0,.int .i64 0]) 2 16 rfl Try.underlying173 (by kernel_rfl) rfl (by decide) (by decide) (.slice Al i cl) i (locs K M i) (lcells K M i) rfl rfl rfl (lcells_one _ _ _) hL.out H.out hq.out ?_
     intro A1 z1 w1 B1 hB1 hH1
     have H1:=Aside0.mk hH1
     have hB1':=Aside0.mk hB1
     clear hH1 hB1 hD
     have hc1 : w1.cell? ⟨wt.heap.size,5,none⟩ = some (.slice Al i cl):=H1.out.left.left.aJ 0 rfl 5 rfl
     have hf1 : w1.frozen? ⟨wt.heap.size,5,none⟩ = false:=H1.out.left.left.frozen 0 rfl 5
     refine hK.out _ _ ⟨(H1.out.left.left.aJ 0 rfl 5 rfl),(H1.out.left.left.aJ 2 rfl 0 rfl),(H1.out.left.left.aJ 2 rfl 1 rfl)⟩ (fun hHeld=>?_)
     clear hK Kc
     refine bz (a':=?_) ?_ ?_
     rotate_left
     ·show Act.put _ (some 76) _ = _
      simp only [Act.put,List.setIfInBounds_toArray,List.set_cons_zero,List.set_cons_succ,ae,af]
      rfl
     refine aq (i:=17) (N:=some 77) #[true,true,true,true,true,true,true,true,true,true,true,true,true,true,true,true,true,true,false,false] rfl rfl (by kernel_rfl) (fun _ _ _ h=>h) (Or.inl ⟨by rfl,by intro w';go_simp;with_reducible rfl⟩) (by simp only [Act.put,List.setIfInBounds_toArray,List.set_cons_zero,List.set_cons_succ,ae,af];rfl) ?_
     refine aq (i:=18) (N:=some 78) #[true,true,true,true,true,true,true,true,true,true,true,true,true,true,true,true,true,true,true,false] rfl rfl (by kernel_rfl) (fun _ _ _ h=>h) (Or.inl ⟨by rfl,by intro w';go_simp;with_reducible rfl⟩) (by simp only [Act.put,List.setIfInBounds_toArray,List.set_cons_zero,List.set_cons_succ,ae,af];rfl) ?_
     refine dX (i:=19) (N:=none) #[true,true,true,true,true,true,true,true,true,true,true,true,true,true,true,true,true,true,true,true] rfl rfl (by kernel_rfl) (by decide) (fun Kc hK=>?_)
     refine dA (w1:=?_) (by rfl) rfl ?_ ?_
     rotate_left
     ·go_simp
      rfl
     refine hK.out _ _ ?_
     clear hK Kc
     refine cD (by kernel_rfl) ?_
     clear l1 l2
     go_wp2
     go_roundw
     case rel=>exact ⟨i + 1,.slice A1 (i + 1) z1,B1,by omega,by go_num,Aside0.mk (by rw [locs_succ];exact hB1'.out),Aside0.mk (by
      have h_:=H1.out
      rw [← List.append_assoc] at h_
      have h2:=h_.setM 5 (.slice A1 (i + 1) z1)
      rw [List.append_assoc] at h2
      exact h2)⟩
     case measure=>simp [intOf];omega
    ·obtain rfl : G = i:=by omega
     have i2 : decide ((G : Int) < (G : Int)) = false:=decide_eq_false (by omega)
     go_wp2_with fail
     go_ret
     refine ⟨gt,wt.heap.size,.slice Ag M cg,.slice Al G cl,rfl,⟨H.out.left.left.get 1 rfl,H.out.left.left.get 0 rfl,fun hm=>?_,fun hm=>?_⟩,H.out.below⟩
     ·obtain ⟨g,cap,cur,e1,e2,e3,e4,e5,e6⟩:=hB.out.form hm
      have h3:=H.out
      rw [e2] at h3
      refine ⟨g,cap,cur,e1,e3,h3.left.get 0 rfl,fun i j hi hj=>?_⟩
      rw [e6 _ (by have:=Nat.mul_le_mul_right 33 hi;rw [Nat.succ_mul] at this;omega)]
      exact (flat_get (fun m=>cT K m K) 33 (fun m=>gcells_len _ _ _) (List.range M) i (1 + j) i (List.getElem?_range hi) (by omega)).trans (gcells_get K i K j hj)
     ·obtain ⟨g,cap,cur,e1,e2,e3,e4,e5,e6⟩:=hL.out.form hm
      have h3:=H.out
      rw [e2] at h3
      refine ⟨g,cap,cur,e1,e3,h3.get 0 rfl,fun i hi=>?_⟩
      have hl:=Nat.mul_le_mul_right 2 hi
      rw [Nat.succ_mul] at hl
      rw [e6 _ (by omega),e6 _ (by omega)]
      have f1:=flat_get (fun m=>lcells K M m) 2 (fun m=>rfl) (List.range G) i 0 i (List.getElem?_range hi) (by omega)
      have f2:=flat_get (fun m=>lcells K M m) 2 (fun m=>rfl) (List.range G) i 1 i (List.getElem?_range hi) (by omega)
      rw [Nat.add_zero] at f1
      refine ⟨f1.trans ?_,f2⟩
      show some (Value.int .i64 ((K : Int) + (M : Int) + (i : Int))) = _
      rw [show ((K + M + i : Nat) : Int) = (K : Int) + (M : Int) + (i : Int) by omega]
end Go.Proofs.Ytffhbpepppodeaa.Plant3
