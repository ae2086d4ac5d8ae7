import Derived.Test.YtffhbpepppodeaaGfFnExactJoinObject
namespace Go.Proofs.Ytffhbpepppodeaa.Grid
open Go.RowKit Go.Proofs.YtffhbpepppodeaaW.PrintWords Go.Proofs.YtffhbpepppodeaaW.PrintLast Go.Proofs.YtffhbpepppodeaaW.PrintMore Go.Proofs.Ytffhbpepppodeaa.Hs Go.Proofs.Ytffhbpepppodeaa.Gf
set_option linter.unusedVariables false
set_option linter.unusedSimpArgs false
def GridB (gt g R C : Nat) (M : Nat → Nat → Int) (B : List Blk) : Prop:=∃ (gr ga cR : Nat) (rc dc : Array Value) (off cap : Nat → Nat),
 B = [(g,.cells #[.slice (some ⟨gr,0,none⟩) R cR,.pointer (some ⟨gt,0,none⟩)] 111 (0,0)),(gr,.cells rc 37 (0,0)),(ga,.cells dc 5 (0,0))] ∧ R ≤ cR ∧ rc.size = cR ∧ cR ≤ maxLen ∧
 (∀ i,i < R → rc[i]? = some (.slice (some ⟨ga,off i,none⟩) C (cap i)) ∧ C ≤ cap i ∧ cap i ≤ maxLen) ∧
 (∀ i j,i < R → j < C → dc[off i + j]? = some (.int .u8 (M i j))) ∧
 (∀ i j i' j',i < R → i' < R → j < C → j' < C → off i + j = off i' + j' → i = i' ∧ j = j')
abbrev TabIn (w0 : World) (L : List Blk) (gt : Nat) : Prop:=∀ W,Hs w0 W L → W.heap[gt]? = some (.cells (tabN 255) 162 (0,0))
abbrev bD (M : Nat → Nat → Int) : Prop:=∀ i j,0 ≤ M i j ∧ M i j ≤ 255
def newRows (ga R C k : Nat) : List Value:=(List.range k).map fun i=>.slice (some ⟨ga,i * C,none⟩) C (R * C - i * C)
theorem newRows_succ (ga R C k : Nat) : newRows ga R C (k + 1) = newRows ga R C k ++ [.slice (some ⟨ga,k * C,none⟩) C (R * C - k * C)]:=by simp [newRows,List.range_succ]
theorem newRows_get (ga R C k i : Nat) (h : i < k) : (newRows ga R C k)[i]? = some (.slice (some ⟨ga,i * C,none⟩) C (R * C - i * C)):=by simp [newRows,h]
theorem cells_apart {C i j i' j' : Nat} (h : j < C) (h' : j' < C) (e : i * C + j = i' * C + j') : i = i' ∧ j = j':=by
 rcases Nat.lt_trichotomy i i' with hl|hl|hl
 ·have:=Nat.mul_le_mul_right C hl;rw [Nat.succ_mul] at this;omega
 ·subst hl;exact ⟨rfl,by omega⟩
 ·have:=Nat.mul_le_mul_right C hl;rw [Nat.succ_mul] at this;omega
theorem newGrid_is {gt g ga R C n : Nat} {vk : Value} {Bk : List Blk} (r1 : 1 ≤ R) (c1 : 1 ≤ C) (hn : n = R * C) (hq : n ≤ 4096) (h : RowB 37 1 vk R (newRows ga R C R) Bk) :
  GridB gt g R C (fun _ _=>0) ((g,.cells #[vk,.pointer (some ⟨gt,0,none⟩)] 111 (0,0)) :: Bk ++ [(ga,.cells (madeCells #[.int .u8 0] n) 5 (0,0))]):=by
 rcases h.2 with ⟨_,h0,_⟩|⟨gr,cap,cur,rfl,rfl,h3,h4,h5,h6⟩
 ·omega
 have hlt : ∀ i,i < R → i * C + C ≤ R * C:=fun i hi=>by have:=Nat.mul_le_mul_right C hi;rwa [Nat.succ_mul] at this
 have hmax : maxLen = 9223372036854775807:=rfl
 refine ⟨gr,ga,cap,cur,madeCells #[.int .u8 0] n,fun i=>i * C,fun i=>R * C - i * C,rfl,h3,by omega,h4,fun i hi=>⟨?_,by have:=hlt i hi;show C ≤ R * C - i * C;omega,?_⟩,fun i j hi hj=>?_,fun i j i' j' _ _ hj hj' e=>cells_apart hj hj' e⟩
 ·rw [Nat.mul_one] at h6
  have e:=newRows_get ga R C R i hi
  rw [← h6,List.getElem?_take,if_pos hi,Array.getElem?_toList] at e
  exact e
 ·show R * C - i * C ≤ maxLen;omega
 ·exact made_at _ _ _ (by have:=hlt i hi;show i * C + j < n;omega)
theorem newGrid_hs {gt g ga R C n : Nat} {vk : Value} {Bk L : List Blk} {w0 w : World} (r1 : 1 ≤ R) (h : RowB 37 1 vk R (newRows ga R C R) Bk) (H : Hs w0 w (Bk ++ (g,.cells #[vk,.pointer (some ⟨gt,0,none⟩)] 111 (0,0)) :: (ga,.cells (madeCells #[.int .u8 0] n) 5 (0,0)) :: L)) :
  Hs w0 w ((g,.cells #[vk,.pointer (some ⟨gt,0,none⟩)] 111 (0,0)) :: Bk ++ [(ga,.cells (madeCells #[.int .u8 0] n) 5 (0,0))] ++ L):=by
 rcases h.2 with ⟨_,h0,_⟩|⟨gr,cap,cur,rfl,rfl,_⟩
 ·omega
 exact H.swap

set_option maxHeartbeats 8000000 in
set_option maxRecDepth 100000 in
theorem newGrid_calls (gt R C : Nat) (w0 w : World) (L : List Blk) (hL : Hs w0 w L) (r1 : 1 ≤ R) (r2 : R ≤ 64) (c1 : 1 ≤ C) (c2 : C ≤ 64) :
  Calls Try.prog 70 #[.pointer (some ⟨gt,0,none⟩),.int .i64 R,.int .i64 C] w fun e w'=>∃ g B,e = .returned (.pointer (some ⟨g,0,none⟩)) ∧ GridB gt g R C (fun _ _=>0) B ∧ Hs w0 w' (B ++ L):=by
 have hu1:=Try.underlying111
 have q1 : R * C ≤ 4096:=Nat.mul_le_mul r2 c2
 have p1 : (R : Int) * (C : Int) ≤ 4096:=by exact_mod_cast q1
 have p0 : 0 ≤ (R : Int) * (C : Int):=by exact_mod_cast Nat.zero_le (R * C)
 obtain ⟨n,hn0⟩ : ∃ n,n = R * C:=⟨_,rfl⟩
 have hn1:=Aside0.mk hn0
 have q2 : n ≤ 4096:=by omega
 have hn:=Aside0.mk (show (R : Int) * (C : Int) = (n : Int) by rw [hn0,Int.natCast_mul])
 clear hn0 q1
 have H:=Aside0.mk hL
 clear hL
 go_enter Try.func70,Try.ntmps70
 go_wp2_with (first
  | ((with_reducible refine ak (N:=12) rfl ?_);(try (refine au (by rfl) ?_;dsimp only));refine aw ?hg (N:=12) ?hd (cs:=#[.slice none 0 0,.pointer (some ⟨gt,0,none⟩)]) (t:=111) ?hr ?_;(case hd=>rfl);(case hg=>rfl);(case hr=>first|(go_simp;done)|(go_simp;rfl));intro g hg w1 hbox hb;have H_:=Aside0.mk (Hs.push H.out (Nat.le_of_eq hg.symm) hbox hb);clear hbox hb hg H;have H:=H_;clear H_)
  | ((with_reducible refine ak (N:=16) rfl ?_);(try (refine au (by rfl) ?_;dsimp only));refine make_ev ?hg 37 5 (.tmp 15) (.tmp 15) ?ho ((R : Int) * (C : Int)) (n) ?hx ?hy (hn.out) Try.underlying37 (.int .u8 0) 1 ?hi rfl (by decide) (by omega) ?_;(case hg=>rfl);(case ho=>rfl);(case hx=>rfl);(case hy=>rfl);(case hi=>kernel_rfl);intro ga hg w2 hbox hb;have H_:=Aside0.mk (Hs.push H.out (Nat.le_of_eq hg.symm) hbox hb);clear hbox hb hg H;have H:=H_;clear H_))
 go_loopw [18] (fun v18 wr=>∃ (k : Nat) (vk : Value) (Bk : List Blk),k ≤ R ∧ v18 = .int .i64 k ∧ Aside0 (RowB 37 1 vk k (newRows ga R C k) Bk) ∧ Aside0 (Hs w0 wr (Bk ++ (g,.cells #[vk,.pointer (some ⟨gt,0,none⟩)] 111 (0,0)) :: (ga,.cells (madeCells #[.int .u8 0] n) 5 (0,0)) :: L))) (fun i _=>R - (intOf i).toNat)
 case atStart=>exact ⟨0,.slice none 0 0,[],by omega,rfl,Aside0.mk (RowB.nil _ _),Aside0.mk H.out.swap⟩
 case round=>
  clear H
  obtain ⟨k,vk,Bk,hk,rfl,hB,H⟩:=hrel
  by_cases hlt : k < R
  ·have hc0 : wr.cell? ⟨g,0,none⟩ = some vk:=H.out.left.aJ 0 rfl 0 rfl
   obtain ⟨lo,hlo0⟩ : ∃ lo,lo = k * C:=⟨_,rfl⟩
   obtain ⟨hi,hhi0⟩ : ∃ hi,hi = lo + C:=⟨_,rfl⟩
   have hlo:=Aside0.mk hlo0
   have k1 : hi ≤ n:=by have h2:=Nat.mul_le_mul_right C hlt;rw [Nat.succ_mul] at h2;have h3:=hn1.out;omega
   have w1 : wrap64 ((k : Int) * (C : Int)) = (lo : Int):=by rw [← Int.natCast_mul,← hlo0];unfold wrap64;omega
   have w2 : wrap64 (wrap64 ((k : Int) + 1) * (C : Int)) = (hi : Int):=by
    have e1 : wrap64 ((k : Int) + 1) = ((k + 1 : Nat) : Int):=by unfold wrap64;omega
    have e2 : (k + 1) * C = hi:=by rw [Nat.succ_mul];omega
    rw [e1,← Int.natCast_mul,e2];unfold wrap64;omega
   have hne : (n = lo) = False:=eq_false (by omega)
   have hC : hi - lo = C:=by omega
   have k2 : lo ≤ hi:=by omega
   have k3 : (lo : Int) ≤ (hi : Int):=by omega
   have k4 : (hi : Int) ≤ (n : Int):=by omega
   have k5 : 0 ≤ (lo : Int):=by omega
   have k6 : 0 ≤ (hi : Int):=by omega
   clear hlo0 hhi0
   go_wp2_with fail
   refine bW (n:=19) (S:=fun w'=>w'.cell? ⟨g,0,none⟩ = some vk) (ds:=[18]) #[false,false,false,false,false,false,false,false,false,false,false,false,false,false,false,false,false,false,false] (by kernel_rfl) rfl rfl (hc0) (fun hHeld=>?_)
   have H_:=Aside0.mk H.out.drew
   clear H hc0
   have H:=H_
   clear H_
   generalize wr.drew = wd at H hHeld ⊢
   refine aq (i:=0) (N:=some 21) #[true,false,false,false,false,false,false,false,false,false,false,false,false,false,false,false,false,false,false] rfl rfl (by kernel_rfl) (fun _ _ _ h=>h) (Or.inl ⟨by rfl,by intro w';go_simp;with_reducible rfl⟩) (by simp only [Act.put,List.setIfInBounds_toArray,List.set_cons_zero,List.set_cons_succ,ae,af];rfl) ?_
   refine aq (i:=1) (N:=some 22) #[true,true,false,false,false,false,false,false,false,false,false,false,false,false,false,false,false,false,false] rfl rfl (by kernel_rfl) (fun _ _ _ h=>h) (Or.inl ⟨by rfl,by intro w';go_simp;with_reducible rfl⟩) (by simp only [Act.put,List.setIfInBounds_toArray,List.set_cons_zero,List.set_cons_succ,ae,af];rfl) ?_
   refine aq (i:=2) (N:=some 23) #[true,true,true,false,false,false,false,false,false,false,false,false,false,false,false,false,false,false,false] rfl rfl (by kernel_rfl) (fun _ _ _ h=>h) (Or.inl ⟨by rfl,by intro w';go_simp;with_reducible rfl⟩) (by simp only [Act.put,List.setIfInBounds_toArray,List.set_cons_zero,List.set_cons_succ,ae,af];rfl) ?_
   refine aq (i:=3) (N:=some 24) #[true,true,true,true,false,false,false,false,false,false,false,false,false,false,false,false,false,false,false] rfl rfl (by kernel_rfl) (fun _ _ _ h=>h) (Or.inl ⟨by rfl,by intro w';go_simp;with_reducible rfl⟩) (by simp only [Act.put,List.setIfInBounds_toArray,List.set_cons_zero,List.set_cons_succ,ae,af];rfl) ?_
   refine aq (i:=5) (N:=some 26) #[true,true,true,true,false,true,false,false,false,false,false,false,false,false,false,false,false,false,false] rfl rfl (by kernel_rfl) (fun _ _ _ h=>h) (Or.inl ⟨by rfl,by intro w';go_simp;with_reducible rfl⟩) (by simp only [Act.put,List.setIfInBounds_toArray,List.set_cons_zero,List.set_cons_succ,ae,af];rfl) ?_
   refine aq (i:=6) (N:=some 27) #[true,true,true,true,false,true,true,false,false,false,false,false,false,false,false,false,false,false,false] rfl rfl (by kernel_rfl) (fun _ _ _ h=>h) (Or.inl ⟨by rfl,by intro w';go_simp;with_reducible rfl⟩) (by simp only [Act.put,List.setIfInBounds_toArray,List.set_cons_zero,List.set_cons_succ,ae,af];rfl) ?_
   refine aq (i:=7) (N:=some 28) #[true,true,true,true,false,true,true,true,false,false,false,false,false,false,false,false,false,false,false] rfl rfl (by kernel_rfl) (fun _ _ _ h=>h) (Or.inl ⟨by rfl,by intro w';go_simp;with_reducible rfl⟩) (by simp only [Act.put,List.setIfInBounds_toArray,List.set_cons_zero,List.set_cons_succ,ae,af];rfl) ?_
   refine aq (i:=8) (N:=some 29) #[true,true,true,true,false,true,true,true,true,false,false,false,false,false,false,false,false,false,false] rfl rfl (by kernel_rfl) (fun _ _ _ h=>h) (Or.inl ⟨by rfl,by intro w';go_simp;with_reducible rfl⟩) (by simp only [Act.put,List.setIfInBounds_toArray,List.set_cons_zero,List.set_cons_succ,ae,af];rfl) ?_
   refine aq (i:=9) (N:=some 30) #[true,true,true,true,false,true,true,true,true,true,false,false,false,false,false,false,false,false,false] rfl rfl (by kernel_rfl) (fun _ _ _ h=>h) (Or.inl ⟨by rfl,by intro w';go_simp;with_reducible rfl⟩) (by simp only [Act.put,List.setIfInBounds_toArray,List.set_cons_zero,List.set_cons_succ,ae,af];rfl) ?_
   refine aq (i:=10) (N:=some 31) #[true,true,true,true,false,true,true,true,true,true,true,false,false,false,false,false,false,false,false] rfl rfl (by kernel_rfl) (fun _ _ _ h=>h) (Or.inl ⟨by rfl,by intro w';go_simp;with_reducible rfl⟩) (by simp only [Act.put,List.setIfInBounds_toArray,List.set_cons_zero,List.set_cons_succ,ae,af];rfl) ?_
   refine aq (i:=11) (N:=some 32) #[true,true,true,true,false,true,true,true,true,true,true,true,false,false,false,false,false,false,false] rfl rfl (by kernel_rfl) (fun _ _ _ h=>h) (Or.inl ⟨by rfl,by intro w';go_simp;with_reducible rfl⟩) (by simp only [Act.put,List.setIfInBounds_toArray,List.set_cons_zero,List.set_cons_succ,ae,af];rfl) ?_
   refine aq (i:=12) (N:=some 33) #[true,true,true,true,false,true,true,true,true,true,true,true,true,false,false,false,false,false,false] rfl rfl (by kernel_rfl) (fun _ _ _ h=>h) (Or.inl ⟨by rfl,by intro w';go_simp;with_reducible rfl⟩) (by simp only [Act.put,List.setIfInBounds_toArray,List.set_cons_zero,List.set_cons_succ,ae,af];rfl) ?_
   refine aq (i:=13) (N:=some 34) #[true,true,true,true,false,true,true,true,true,true,true,true,true,true,false,false,false,false,false] rfl rfl (by kernel_rfl) (fun _ _ _ h=>h) (Or.inl ⟨by rfl,by intro w';go_simp;with_reducible rfl⟩) (by simp only [Act.put,List.setIfInBounds_toArray,List.set_cons_zero,List.set_cons_succ,ae,af];rfl) ?_
   refine bn (i:=4) (N:=some 25) #[true,true,true,true,true,true,true,true,true,true,true,true,true,true,false,false,false,false,false] rfl rfl (by kernel_rfl) (fun _ _ _ h=>h) (Or.inl ⟨by rfl,by intro w' s0;go_simp;with_reducible rfl⟩) hHeld (by simp only [Act.put,List.setIfInBounds_toArray,List.set_cons_zero,List.set_cons_succ,ae,af];rfl) ?_
   refine one_ (i:=14) (N:=some 35) #[true,true,true,true,true,true,true,true,true,true,true,true,true,true,true,false,false,false,false] rfl rfl (by kernel_rfl) (by decide) (fun K hK=>?_)
   refine value_ (w1:=?_) (v:=?_) (by rfl) rfl ?_ ?_
   rotate_left 2
   ·go_simp
    constructor
    ·rfl
    ·rfl
   have hD : World.cell? (World.alloc wd (.cells #[.slice (some ⟨ga,lo,none⟩) C (n - lo)] 37 (0,0))) ⟨g,0,none⟩ = some vk:=dP (ba (Below.refl _ _) _) hHeld
   refine hK.out _ _ (hD) (fun hHeld=>?_)
   clear hK K
   refine bz (a':=?_) ?_ ?_
   rotate_left
   ·show Act.put _ (some 35) _ = _
    simp only [Act.put,List.setIfInBounds_toArray,List.set_cons_zero,List.set_cons_succ,ae,af]
    rfl
   refine one_ (i:=15) (N:=some 36) #[true,true,true,true,true,true,true,true,true,true,true,true,true,true,true,true,false,false,false] rfl rfl (by kernel_rfl) (by decide) (fun K hK=>?_)
   refine step_append_cells (w0:=w0) w0.heap.size (by rfl) (.tmp 25) (.tmp 35) 109 37 (.slice none 0 0) 1 24 rfl Try.underlying109 (by kernel_rfl) rfl (by decide) (by decide) vk k (newRows ga R C k) [.slice (some ⟨ga,lo,none⟩) C (n - lo)] rfl rfl rfl (by simp [Value.oneCell']) (hB.out.owns H.out) H.out.below H.out.below.size (by omega) ?_
   intro v1 w1 hown hb hg hat
   obtain ⟨A1,z1,rfl⟩:=own_slice hown
   obtain ⟨B1,hB1,hH1⟩:=hB.out.back H.out hown hb hg hat
   have H1:=Aside0.mk hH1
   have hB1':=Aside0.mk hB1
   clear hH1 hB1 hown hb hg hat
   have hc1 : w1.cell? ⟨g,0,none⟩ = some vk:=H1.out.left.aJ 0 rfl 0 rfl
   have hf1 : w1.frozen? ⟨g,0,none⟩ = false:=H1.out.left.frozen 0 rfl 0
   refine hK.out _ _ (hc1) (fun hHeld=>?_)
   clear hK K
   refine bz (a':=?_) ?_ ?_
   rotate_left
   ·show Act.put _ (some 36) _ = _
    simp only [Act.put,List.setIfInBounds_toArray,List.set_cons_zero,List.set_cons_succ,ae,af]
    rfl
   refine aq (i:=16) (N:=some 37) #[true,true,true,true,true,true,true,true,true,true,true,true,true,true,true,true,true,false,false] rfl rfl (by kernel_rfl) (fun _ _ _ h=>h) (Or.inl ⟨by rfl,by intro w';go_simp;with_reducible rfl⟩) (by simp only [Act.put,List.setIfInBounds_toArray,List.set_cons_zero,List.set_cons_succ,ae,af];rfl) ?_
   refine aq (i:=17) (N:=some 38) #[true,true,true,true,true,true,true,true,true,true,true,true,true,true,true,true,true,true,false] rfl rfl (by kernel_rfl) (fun _ _ _ h=>h) (Or.inl ⟨by rfl,by intro w';go_simp;with_reducible rfl⟩) (by simp only [Act.put,List.setIfInBounds_toArray,List.set_cons_zero,List.set_cons_succ,ae,af];rfl) ?_
   refine dX (i:=18) (N:=none) #[true,true,true,true,true,true,true,true,true,true,true,true,true,true,true,true,true,true,true] rfl rfl (by kernel_rfl) (by decide) (fun K hK=>?_)
   refine dA (w1:=?_) (by rfl) rfl ?_ ?_
   rotate_left
   ·go_simp
    rfl
   refine hK.out _ _ ?_
   clear hK K
   refine cD (by kernel_rfl) ?_
   go_wp2
   go_roundw
   case rel=>exact ⟨k + 1,.slice A1 (k + 1) z1,B1,by omega,by go_num,Aside0.mk (by rw [newRows_succ,← hlo.out,← hn1.out];exact hB1'.out),Aside0.mk (H1.out.setM 0 _)⟩
   case measure=>simp [intOf];omega
  ·obtain rfl : k = R:=by omega
   go_wp2
   go_ret
   refine ⟨g,_,rfl,newGrid_is r1 c1 hn1.out q2 hB.out,?_⟩
   exact newGrid_hs r1 hB.out H.out

theorem set_gridL {R C : Nat} {dk : Array Value} {off : Nat → Nat} {N N' : Nat → Nat → Int} {row k : Nat} {x : Int} (hdk : ∀ i j,i < R → j < C → dk[off i + j]? = some (.int .u8 (N i j)))
  (hap : ∀ i j i' j',i < R → i' < R → j < C → j' < C → off i + j = off i' + j' → i = i' ∧ j = j') (hr : row < R) (hk : k < C) (h1 : N' row k = x) (h2 : ∀ i j,i < R → j < C → ¬ (i = row ∧ j = k) → N' i j = N i j) :
  ∀ i j,i < R → j < C → (dk.setIfInBounds (off row + k) (.int .u8 x))[off i + j]? = some (.int .u8 (N' i j)):=by
 intro i j hi hj
 by_cases e : i = row ∧ j = k
 ·obtain ⟨rfl,rfl⟩:=e
  have hb:=(Array.getElem?_eq_some_iff.1 (hdk i j hi hj)).1
  rw [Array.getElem?_setIfInBounds_self_of_lt hb,h1]
 ·rw [Array.getElem?_setIfInBounds_ne (fun e'=>e (by obtain ⟨h3,h4⟩:=hap row k i j hr hi hk hj e';exact ⟨h3.symm,h4.symm⟩)),h2 i j hi hj e]
  exact hdk i j hi hj
def sclK (M : Nat → Nat → Int) (row : Nat) (b : Int) (k i j : Nat) : Int:=if i = row ∧ j < k then tmul (M i j) b else M i j
theorem sclK_zero (M : Nat → Nat → Int) (row : Nat) (b : Int) (i j : Nat) : sclK M row b 0 i j = M i j:=by unfold sclK;rw [if_neg (by omega)]
theorem sclK_now (M : Nat → Nat → Int) (row : Nat) (b : Int) (k : Nat) : sclK M row b k row k = M row k:=by unfold sclK;rw [if_neg (by omega)]
theorem sclK_hit (M : Nat → Nat → Int) (row : Nat) (b : Int) (k : Nat) : sclK M row b (k + 1) row k = tmul (M row k) b:=by unfold sclK;rw [if_pos ⟨rfl,by omega⟩]
theorem sclK_miss (M : Nat → Nat → Int) (row : Nat) (b : Int) (k i j : Nat) (h : ¬ (i = row ∧ j = k)) : sclK M row b (k + 1) i j = sclK M row b k i j:=by
 unfold sclK
 by_cases c : i = row ∧ j < k
 ·rw [if_pos c,if_pos ⟨c.1,by omega⟩]
 ·rw [if_neg c,if_neg (fun e=>h ⟨e.1,by have:=e.2;have : ¬ j < k:=fun h'=>c ⟨e.1,h'⟩;omega⟩)]
theorem set_grid {R C : Nat} {dk : Array Value} {off : Nat → Nat} {N N' : Nat → Nat → Int} {row k : Nat} {x : Int} (hdk : ∀ i j,i < R → j < C → dk[off i + j]? = some (.int .u8 (N i j)))
  (hap : ∀ i j i' j',i < R → i' < R → j < C → j' < C → off i + j = off i' + j' → i = i' ∧ j = j') (hr : row < R) (hk : k < C) (h1 : N' row k = x) (h2 : ∀ i j,¬ (i = row ∧ j = k) → N' i j = N i j) :
  ∀ i j,i < R → j < C → (dk.setIfInBounds (off row + k) (.int .u8 x))[off i + j]? = some (.int .u8 (N' i j)):=set_gridL hdk hap hr hk h1 (fun i j _ _ h=>h2 i j h)

set_option maxHeartbeats 8000000 in
set_option maxRecDepth 100000 in
theorem scale_calls (gt g R C : Nat) (M : Nat → Nat → Int) (B L : List Blk) (row : Nat) (b : Int) (w0 w : World) (hG : GridB gt g R C M B) (hM0 : bD M) (hr0 : row < R) (hC : C ≤ 64) (hR : R ≤ 64) (b0 : 0 ≤ b) (b1 : b ≤ 255) (hT0 : TabIn w0 L gt) (hH : Hs w0 w (B ++ L)) :
  Calls Try.prog 121 #[.pointer (some ⟨g,0,none⟩),.int .i64 row,.int .u8 b] w fun e w'=>e = .returned (.tuple #[]) ∧ ∃ B',GridB gt g R C (sclK M row b C) B' ∧ Hs w0 w' (B' ++ L):=by
 have hu1:=Try.underlying111
 obtain ⟨gr,ga,cR,rc,dc,off,cap,rfl,hRc,hsz,hmx,hrc0,hdc,hap0⟩:=hG
 have H:=Aside0.mk (show Hs w0 w ((g,.cells #[.slice (some ⟨gr,0,none⟩) R cR,.pointer (some ⟨gt,0,none⟩)] 111 (0,0)) :: (gr,.cells rc 37 (0,0)) :: (ga,.cells dc 5 (0,0)) :: L) from hH)
 have hM:=Aside0.mk hM0
 have hr:=Aside0.mk hr0
 have hT:=Aside0.mk hT0
 have hrc:=hrc0
 have hap:=Aside0.mk hap0
 have hdk0:=Aside0.mk hdc
 have hs1:=Aside0.mk hsz
 have hs2:=Aside0.mk hmx
 have hc0 : w.cell? ⟨g,0,none⟩ = some (.slice (some ⟨gr,0,none⟩) R cR):=H.out.aJ 0 rfl 0 rfl
 have hc2 : w.cell? ⟨gr,row,none⟩ = some (.slice (some ⟨ga,off row,none⟩) C (cap row)):=H.out.aJ 1 rfl row (hrc row hr.out).1
 have hr1 : (row : Int) < (R : Int):=by omega
 have hr2 : 0 ≤ (row : Int):=by omega
 replace hrc:=Aside0.mk hrc
 clear hH hM0 hT0 hrc0 hdc hap0 hsz hmx hr0
 go_enter Try.func121,Try.ntmps121
 go_wp2_with fail
 clear hc0 hc2
 go_loopw [16] (fun v16 wr=>∃ (k : Nat) (dk : Array Value),k ≤ C ∧ v16 = .int .i64 k ∧ Aside0 (∀ i j,i < R → j < C → dk[off i + j]? = some (.int .u8 (sclK M row b k i j))) ∧ Aside0 (Hs w0 wr ((g,.cells #[.slice (some ⟨gr,0,none⟩) R cR,.pointer (some ⟨gt,0,none⟩)] 111 (0,0)) :: (gr,.cells rc 37 (0,0)) :: (ga,.cells dk 5 (0,0)) :: L))) (fun i _=>C - (intOf i).toNat)
 case atStart=>exact ⟨0,dc,by omega,rfl,Aside0.mk (fun i j hi hj=>by rw [sclK_zero];exact hdk0.out i j hi hj),H⟩
 case round=>
  clear H hdk0
  obtain ⟨k,dk,hk,rfl,hdk,H⟩:=hrel
  by_cases hlt : k < C
  ·have hc0 : wr.cell? ⟨g,0,none⟩ = some (.slice (some ⟨gr,0,none⟩) R cR):=H.out.aJ 0 rfl 0 rfl
   have hc1 : wr.cell? ⟨g,1,none⟩ = some (.pointer (some ⟨gt,0,none⟩)):=H.out.aJ 0 rfl 1 rfl
   have hc2 : wr.cell? ⟨gr,row,none⟩ = some (.slice (some ⟨ga,off row,none⟩) C (cap row)):=H.out.aJ 1 rfl row (hrc.out row hr.out).1
   have hd0 : wr.cell? ⟨ga,off row + k,none⟩ = some (.int .u8 (M row k)):=H.out.aJ 2 rfl (off row + k) (by rw [hdk.out row k hr.out hlt,sclK_now])
   have l1 : (k : Int) < (C : Int):=by omega
   have l2 : 0 ≤ (k : Int):=by omega
   go_wp2_with fail
   refine bW (n:=17) (S:=fun w'=>w'.cell? ⟨g,0,none⟩ = some (.slice (some ⟨gr,0,none⟩) R cR) ∧ w'.cell? ⟨gr,row,none⟩ = some (.slice (some ⟨ga,off row,none⟩) C (cap row)) ∧ w'.cell? ⟨g,1,none⟩ = some (.pointer (some ⟨gt,0,none⟩))) (ds:=[16]) #[false,false,false,false,false,false,false,false,false,false,false,false,false,false,false,false,false] (by kernel_rfl) rfl rfl ⟨hc0,hc2,hc1⟩ (fun hHeld=>?_)
   have H_:=Aside0.mk H.out.drew
   clear H hc0 hc1 hc2 hd0
   have H:=H_
   clear H_
   generalize wr.drew = wd at H hHeld ⊢
   refine aq (i:=0) (N:=some 21) #[true,false,false,false,false,false,false,false,false,false,false,false,false,false,false,false,false] rfl rfl (by kernel_rfl) (fun _ _ _ h=>h) (Or.inl ⟨by rfl,by intro w';go_simp;with_reducible rfl⟩) (by simp only [Act.put,List.setIfInBounds_toArray,List.set_cons_zero,List.set_cons_succ,ae,af];rfl) ?_
   refine aq (i:=1) (N:=some 22) #[true,true,false,false,false,false,false,false,false,false,false,false,false,false,false,false,false] rfl rfl (by kernel_rfl) (fun _ _ _ h=>h) (Or.inl ⟨by rfl,by intro w';go_simp;with_reducible rfl⟩) (by simp only [Act.put,List.setIfInBounds_toArray,List.set_cons_zero,List.set_cons_succ,ae,af];rfl) ?_
   refine aq (i:=2) (N:=some 23) #[true,true,true,false,false,false,false,false,false,false,false,false,false,false,false,false,false] rfl rfl (by kernel_rfl) (fun _ _ _ h=>h) (Or.inl ⟨by rfl,by intro w';go_simp;with_reducible rfl⟩) (by simp only [Act.put,List.setIfInBounds_toArray,List.set_cons_zero,List.set_cons_succ,ae,af];rfl) ?_
   refine aq (i:=4) (N:=some 25) #[true,true,true,false,true,false,false,false,false,false,false,false,false,false,false,false,false] rfl rfl (by kernel_rfl) (fun _ _ _ h=>h) (Or.inl ⟨by rfl,by intro w';go_simp;with_reducible rfl⟩) (by simp only [Act.put,List.setIfInBounds_toArray,List.set_cons_zero,List.set_cons_succ,ae,af];rfl) ?_
   refine aq (i:=7) (N:=some 28) #[true,true,true,false,true,false,false,true,false,false,false,false,false,false,false,false,false] rfl rfl (by kernel_rfl) (fun _ _ _ h=>h) (Or.inl ⟨by rfl,by intro w';go_simp;with_reducible rfl⟩) (by simp only [Act.put,List.setIfInBounds_toArray,List.set_cons_zero,List.set_cons_succ,ae,af];rfl) ?_
   refine aq (i:=8) (N:=some 29) #[true,true,true,false,true,false,false,true,true,false,false,false,false,false,false,false,false] rfl rfl (by kernel_rfl) (fun _ _ _ h=>h) (Or.inl ⟨by rfl,by intro w';go_simp;with_reducible rfl⟩) (by simp only [Act.put,List.setIfInBounds_toArray,List.set_cons_zero,List.set_cons_succ,ae,af];rfl) ?_
   refine aq (i:=9) (N:=some 30) #[true,true,true,false,true,false,false,true,true,true,false,false,false,false,false,false,false] rfl rfl (by kernel_rfl) (fun _ _ _ h=>h) (Or.inl ⟨by rfl,by intro w';go_simp;with_reducible rfl⟩) (by simp only [Act.put,List.setIfInBounds_toArray,List.set_cons_zero,List.set_cons_succ,ae,af];rfl) ?_
   refine aq (i:=10) (N:=some 31) #[true,true,true,false,true,false,false,true,true,true,true,false,false,false,false,false,false] rfl rfl (by kernel_rfl) (fun _ _ _ h=>h) (Or.inl ⟨by rfl,by intro w';go_simp;with_reducible rfl⟩) (by simp only [Act.put,List.setIfInBounds_toArray,List.set_cons_zero,List.set_cons_succ,ae,af];rfl) ?_
   refine aq (i:=12) (N:=some 33) #[true,true,true,false,true,false,false,true,true,true,true,false,true,false,false,false,false] rfl rfl (by kernel_rfl) (fun _ _ _ h=>h) (Or.inl ⟨by rfl,by intro w';go_simp;with_reducible rfl⟩) (by simp only [Act.put,List.setIfInBounds_toArray,List.set_cons_zero,List.set_cons_succ,ae,af];rfl) ?_
   refine aq (i:=13) (N:=some 34) #[true,true,true,false,true,false,false,true,true,true,true,false,true,true,false,false,false] rfl rfl (by kernel_rfl) (fun _ _ _ h=>h) (Or.inl ⟨by rfl,by intro w';go_simp;with_reducible rfl⟩) (by simp only [Act.put,List.setIfInBounds_toArray,List.set_cons_zero,List.set_cons_succ,ae,af];rfl) ?_
   refine bn (i:=3) (N:=some 24) #[true,true,true,true,true,false,false,true,true,true,true,false,true,true,false,false,false] rfl rfl (by kernel_rfl) (fun _ _ _ h=>h) (Or.inl ⟨by rfl,by rintro w' ⟨s0,s1,s2⟩;go_simp;with_reducible rfl⟩) hHeld (by simp only [Act.put,List.setIfInBounds_toArray,List.set_cons_zero,List.set_cons_succ,ae,af];rfl) ?_
   refine aq (i:=5) (N:=some 26) #[true,true,true,true,true,true,false,true,true,true,true,false,true,true,false,false,false] rfl rfl (by kernel_rfl) (fun _ _ _ h=>h) (Or.inl ⟨by rfl,by intro w';go_simp;with_reducible rfl⟩) (by simp only [Act.put,List.setIfInBounds_toArray,List.set_cons_zero,List.set_cons_succ,ae,af];rfl) ?_
   refine bn (i:=6) (N:=some 27) #[true,true,true,true,true,true,true,true,true,true,true,false,true,true,false,false,false] rfl rfl (by kernel_rfl) (fun _ _ _ h=>h) (Or.inl ⟨by rfl,by rintro w' ⟨s0,s1,s2⟩;go_simp;with_reducible rfl⟩) hHeld (by simp only [Act.put,List.setIfInBounds_toArray,List.set_cons_zero,List.set_cons_succ,ae,af];rfl) ?_
   refine bn (i:=11) (N:=some 32) #[true,true,true,true,true,true,true,true,true,true,true,true,true,true,false,false,false] rfl rfl (by kernel_rfl) (fun _ _ _ h=>h) (Or.inl ⟨by rfl,by rintro w' ⟨s0,s1,s2⟩;go_simp;with_reducible rfl⟩) hHeld (by simp only [Act.put,List.setIfInBounds_toArray,List.set_cons_zero,List.set_cons_succ,ae,af];rfl) ?_
   refine one_ (i:=14) (N:=some 35) #[true,true,true,true,true,true,true,true,true,true,true,true,true,true,true,false,false] rfl rfl (by kernel_rfl) (by decide) (fun K hK=>?_)
   refine cE Try.func80 (by kernel_rfl) rfl #[.pointer (some ⟨gt,0,none⟩),.int .u8 (M row k),.int .u8 b] (by rfl) rfl rfl (by simp only [List.map_toArray,List.map_cons,List.map_nil];rfl) ?_
   with_reducible refine (mul_calls gt (M row k) b _ (hT.out _ H.out.tail.tail.tail) (hM.out row k).1 (hM.out row k).2 b0 b1).mono ?_
   rintro e wm ⟨rfl,hd⟩
   refine ⟨_,rfl,?_⟩
   have H1:=Aside0.mk (H.out.draw hd)
   clear hd
   have hx1 : wm.cell? ⟨ga,off row + k,none⟩ = some (.int .u8 (sclK M row b k row k)):=H1.out.aJ 2 rfl (off row + k) (hdk.out row k hr.out hlt)
   have hx2:=H1.out.frozen 2 rfl (off row + k)
   refine hK.out _ _ ⟨(H1.out.aJ 0 rfl 0 rfl),(H1.out.aJ 1 rfl row (hrc.out row hr.out).1),(H1.out.aJ 0 rfl 1 rfl)⟩ (fun hHeld=>?_)
   clear hK K
   refine bz (a':=?_) ?_ ?_
   rotate_left
   ·show Act.put _ (some 35) _ = _
    simp only [Act.put,List.setIfInBounds_toArray,List.set_cons_zero,List.set_cons_succ,ae,af]
    rfl
   refine aq (i:=15) (N:=some 36) #[true,true,true,true,true,true,true,true,true,true,true,true,true,true,true,true,false] rfl rfl (by kernel_rfl) (fun _ _ _ h=>h) (Or.inl ⟨by rfl,by intro w';go_simp;with_reducible rfl⟩) (by simp only [Act.put,List.setIfInBounds_toArray,List.set_cons_zero,List.set_cons_succ,ae,af];rfl) ?_
   refine dX (i:=16) (N:=none) #[true,true,true,true,true,true,true,true,true,true,true,true,true,true,true,true,true] rfl rfl (by kernel_rfl) (by decide) (fun K hK=>?_)
   refine dA (w1:=?_) (by rfl) rfl ?_ ?_
   rotate_left
   ·go_simp
    rfl
   refine hK.out _ _ ?_
   clear hK K
   refine cD (by kernel_rfl) ?_
   go_wp2
   go_roundw
   case rel=>exact ⟨k + 1,dk.setIfInBounds (off row + k) (.int .u8 (tmul (M row k) b)),by omega,by go_num,Aside0.mk (set_grid hdk.out hap.out hr.out hlt (sclK_hit M row b k) (fun i j h=>sclK_miss M row b k i j h)),Aside0.mk (H1.out.set 2 rfl _ _)⟩
   case measure=>simp [intOf];omega
  ·obtain rfl : k = C:=by omega
   go_wp2
   go_end0
   exact ⟨rfl,_,⟨gr,ga,cR,rc,dk,off,cap,rfl,hRc,hs1.out,hs2.out,hrc.out,hdk.out,hap.out⟩,H.out⟩

def addK (M : Nat → Nat → Int) (tt frm : Nat) (b : Int) (k i j : Nat) : Int:=if i = tt ∧ j < k then Go.bits .xor .u8 (M tt j) (tmul (M frm j) b) else M i j
theorem addK_zero (M : Nat → Nat → Int) (tt frm : Nat) (b : Int) (i j : Nat) : addK M tt frm b 0 i j = M i j:=by unfold addK;rw [if_neg (by omega)]
theorem addK_now (M : Nat → Nat → Int) (tt frm : Nat) (b : Int) (k : Nat) : addK M tt frm b k tt k = M tt k:=by unfold addK;rw [if_neg (by omega)]
theorem addK_other (M : Nat → Nat → Int) (tt frm : Nat) (b : Int) (k i j : Nat) (h : i ≠ tt) : addK M tt frm b k i j = M i j:=by unfold addK;rw [if_neg (fun e=>h e.1)]
theorem addK_hit (M : Nat → Nat → Int) (tt frm : Nat) (b : Int) (k : Nat) : addK M tt frm b (k + 1) tt k = Go.bits .xor .u8 (M tt k) (tmul (M frm k) b):=by unfold addK;rw [if_pos ⟨rfl,by omega⟩]
theorem addK_miss (M : Nat → Nat → Int) (tt frm : Nat) (b : Int) (k i j : Nat) (h : ¬ (i = tt ∧ j = k)) : addK M tt frm b (k + 1) i j = addK M tt frm b k i j:=by
 unfold addK
 by_cases c : i = tt ∧ j < k
 ·rw [if_pos c,if_pos ⟨c.1,by omega⟩]
 ·rw [if_neg c,if_neg (fun e=>h ⟨e.1,by have:=e.2;have : ¬ j < k:=fun h'=>c ⟨e.1,h'⟩;omega⟩)]

set_option maxHeartbeats 8000000 in
set_option maxRecDepth 100000 in
theorem add_calls (gt g R C : Nat) (M : Nat → Nat → Int) (B L : List Blk) (tt frm : Nat) (b : Int) (w0 w : World) (hG : GridB gt g R C M B) (hM0 : bD M) (ht0 : tt < R) (hf0 : frm < R) (hne0 : tt ≠ frm) (hC : C ≤ 64) (hR : R ≤ 64) (b0 : 0 ≤ b) (b1 : b ≤ 255) (hT0 : TabIn w0 L gt) (hH : Hs w0 w (B ++ L)) :
  Calls Try.prog 122 #[.pointer (some ⟨g,0,none⟩),.int .i64 tt,.int .i64 frm,.int .u8 b] w fun e w'=>e = .returned (.tuple #[]) ∧ ∃ B',GridB gt g R C (addK M tt frm b C) B' ∧ Hs w0 w' (B' ++ L):=by
 have hu1:=Try.underlying111
 obtain ⟨gr,ga,cR,rc,dc,off,cap,rfl,hRc,hsz,hmx,hrc0,hdc,hap0⟩:=hG
 have H:=Aside0.mk (show Hs w0 w ((g,.cells #[.slice (some ⟨gr,0,none⟩) R cR,.pointer (some ⟨gt,0,none⟩)] 111 (0,0)) :: (gr,.cells rc 37 (0,0)) :: (ga,.cells dc 5 (0,0)) :: L) from hH)
 have hM:=Aside0.mk hM0
 have ht:=Aside0.mk ht0
 have hf:=Aside0.mk hf0
 have hne:=Aside0.mk hne0
 have hT:=Aside0.mk hT0
 have hrc:=Aside0.mk hrc0
 have hap:=Aside0.mk hap0
 have hdk0:=Aside0.mk hdc
 have hs1:=Aside0.mk hsz
 have hs2:=Aside0.mk hmx
 have hc0 : w.cell? ⟨g,0,none⟩ = some (.slice (some ⟨gr,0,none⟩) R cR):=H.out.aJ 0 rfl 0 rfl
 have hc2 : w.cell? ⟨gr,frm,none⟩ = some (.slice (some ⟨ga,off frm,none⟩) C (cap frm)):=H.out.aJ 1 rfl frm (hrc.out frm hf.out).1
 have hr1 : (frm : Int) < (R : Int):=by omega
 have hr2 : 0 ≤ (frm : Int):=by omega
 have hr3 : (tt : Int) < (R : Int):=by omega
 have hr4 : 0 ≤ (tt : Int):=by omega
 clear hH hM0 hT0 hrc0 hdc hap0 hsz hmx ht0 hf0 hne0
 go_enter Try.func122,Try.ntmps122
 go_wp2_with fail
 clear hc0 hc2
 go_loopw [18] (fun v18 wr=>∃ (k : Nat) (dk : Array Value),k ≤ C ∧ v18 = .int .i64 k ∧ Aside0 (∀ i j,i < R → j < C → dk[off i + j]? = some (.int .u8 (addK M tt frm b k i j))) ∧ Aside0 (Hs w0 wr ((g,.cells #[.slice (some ⟨gr,0,none⟩) R cR,.pointer (some ⟨gt,0,none⟩)] 111 (0,0)) :: (gr,.cells rc 37 (0,0)) :: (ga,.cells dk 5 (0,0)) :: L))) (fun i _=>C - (intOf i).toNat)
 case atStart=>exact ⟨0,dc,by omega,rfl,Aside0.mk (fun i j hi hj=>by rw [addK_zero];exact hdk0.out i j hi hj),H⟩
 case round=>
  clear H hdk0
  obtain ⟨k,dk,hk,rfl,hdk,H⟩:=hrel
  by_cases hlt : k < C
  ·have hdto:=Aside0.mk (show dk[off tt + k]? = some (.int .u8 (M tt k)) by rw [hdk.out tt k ht.out hlt,addK_now])
   have hc0 : wr.cell? ⟨g,0,none⟩ = some (.slice (some ⟨gr,0,none⟩) R cR):=H.out.aJ 0 rfl 0 rfl
   have hc1 : wr.cell? ⟨g,1,none⟩ = some (.pointer (some ⟨gt,0,none⟩)):=H.out.aJ 0 rfl 1 rfl
   have hc2 : wr.cell? ⟨gr,tt,none⟩ = some (.slice (some ⟨ga,off tt,none⟩) C (cap tt)):=H.out.aJ 1 rfl tt (hrc.out tt ht.out).1
   have hc3 : wr.cell? ⟨ga,off tt + k,none⟩ = some (.int .u8 (M tt k)):=H.out.aJ 2 rfl (off tt + k) hdto.out
   have hd0 : wr.cell? ⟨ga,off frm + k,none⟩ = some (.int .u8 (M frm k)):=H.out.aJ 2 rfl (off frm + k) (by rw [hdk.out frm k hf.out hlt,addK_other _ _ _ _ _ _ _ (Ne.symm hne.out)])
   have l1 : (k : Int) < (C : Int):=by omega
   have l2 : 0 ≤ (k : Int):=by omega
   go_wp2_with fail
   refine bW (n:=20) (S:=fun w'=>w'.cell? ⟨g,0,none⟩ = some (.slice (some ⟨gr,0,none⟩) R cR) ∧ w'.cell? ⟨gr,tt,none⟩ = some (.slice (some ⟨ga,off tt,none⟩) C (cap tt)) ∧ w'.cell? ⟨ga,off tt + k,none⟩ = some (.int .u8 (M tt k)) ∧ w'.cell? ⟨g,1,none⟩ = some (.pointer (some ⟨gt,0,none⟩))) (ds:=[19]) #[false,false,false,false,false,false,false,false,false,false,false,false,false,false,false,false,false,false,false,false] (by kernel_rfl) rfl rfl ⟨hc0,hc2,hc3,hc1⟩ (fun hHeld=>?_)
   have H_:=Aside0.mk H.out.drew
   clear H hc0 hc1 hc2 hc3 hd0
   have H:=H_
   clear H_
   generalize wr.drew = wd at H hHeld ⊢
   refine aq (i:=0) (N:=some 23) #[true,false,false,false,false,false,false,false,false,false,false,false,false,false,false,false,false,false,false,false] rfl rfl (by kernel_rfl) (fun _ _ _ h=>h) (Or.inl ⟨by rfl,by intro w';go_simp;with_reducible rfl⟩) (by simp only [Act.put,List.setIfInBounds_toArray,List.set_cons_zero,List.set_cons_succ,ae,af];rfl) ?_
   refine aq (i:=1) (N:=some 24) #[true,true,false,false,false,false,false,false,false,false,false,false,false,false,false,false,false,false,false,false] rfl rfl (by kernel_rfl) (fun _ _ _ h=>h) (Or.inl ⟨by rfl,by intro w';go_simp;with_reducible rfl⟩) (by simp only [Act.put,List.setIfInBounds_toArray,List.set_cons_zero,List.set_cons_succ,ae,af];rfl) ?_
   refine aq (i:=2) (N:=some 25) #[true,true,true,false,false,false,false,false,false,false,false,false,false,false,false,false,false,false,false,false] rfl rfl (by kernel_rfl) (fun _ _ _ h=>h) (Or.inl ⟨by rfl,by intro w';go_simp;with_reducible rfl⟩) (by simp only [Act.put,List.setIfInBounds_toArray,List.set_cons_zero,List.set_cons_succ,ae,af];rfl) ?_
   refine aq (i:=4) (N:=some 27) #[true,true,true,false,true,false,false,false,false,false,false,false,false,false,false,false,false,false,false,false] rfl rfl (by kernel_rfl) (fun _ _ _ h=>h) (Or.inl ⟨by rfl,by intro w';go_simp;with_reducible rfl⟩) (by simp only [Act.put,List.setIfInBounds_toArray,List.set_cons_zero,List.set_cons_succ,ae,af];rfl) ?_
   refine aq (i:=7) (N:=some 30) #[true,true,true,false,true,false,false,true,false,false,false,false,false,false,false,false,false,false,false,false] rfl rfl (by kernel_rfl) (fun _ _ _ h=>h) (Or.inl ⟨by rfl,by intro w';go_simp;with_reducible rfl⟩) (by simp only [Act.put,List.setIfInBounds_toArray,List.set_cons_zero,List.set_cons_succ,ae,af];rfl) ?_
   refine aq (i:=10) (N:=some 33) #[true,true,true,false,true,false,false,true,false,false,true,false,false,false,false,false,false,false,false,false] rfl rfl (by kernel_rfl) (fun _ _ _ h=>h) (Or.inl ⟨by rfl,by intro w';go_simp;with_reducible rfl⟩) (by simp only [Act.put,List.setIfInBounds_toArray,List.set_cons_zero,List.set_cons_succ,ae,af];rfl) ?_
   refine aq (i:=11) (N:=some 34) #[true,true,true,false,true,false,false,true,false,false,true,true,false,false,false,false,false,false,false,false] rfl rfl (by kernel_rfl) (fun _ _ _ h=>h) (Or.inl ⟨by rfl,by intro w';go_simp;with_reducible rfl⟩) (by simp only [Act.put,List.setIfInBounds_toArray,List.set_cons_zero,List.set_cons_succ,ae,af];rfl) ?_
   refine aq (i:=12) (N:=some 35) #[true,true,true,false,true,false,false,true,false,false,true,true,true,false,false,false,false,false,false,false] rfl rfl (by kernel_rfl) (fun _ _ _ h=>h) (Or.inl ⟨by rfl,by intro w';go_simp;with_reducible rfl⟩) (by simp only [Act.put,List.setIfInBounds_toArray,List.set_cons_zero,List.set_cons_succ,ae,af];rfl) ?_
   refine aq (i:=14) (N:=some 37) #[true,true,true,false,true,false,false,true,false,false,true,true,true,false,true,false,false,false,false,false] rfl rfl (by kernel_rfl) (fun _ _ _ h=>h) (Or.inl ⟨by rfl,by intro w';go_simp;with_reducible rfl⟩) (by simp only [Act.put,List.setIfInBounds_toArray,List.set_cons_zero,List.set_cons_succ,ae,af];rfl) ?_
   refine aq (i:=15) (N:=some 38) #[true,true,true,false,true,false,false,true,false,false,true,true,true,false,true,true,false,false,false,false] rfl rfl (by kernel_rfl) (fun _ _ _ h=>h) (Or.inl ⟨by rfl,by intro w';go_simp;with_reducible rfl⟩) (by simp only [Act.put,List.setIfInBounds_toArray,List.set_cons_zero,List.set_cons_succ,ae,af];rfl) ?_
   refine bn (i:=3) (N:=some 26) #[true,true,true,true,true,false,false,true,false,false,true,true,true,false,true,true,false,false,false,false] rfl rfl (by kernel_rfl) (fun _ _ _ h=>h) (Or.inl ⟨by rfl,by rintro w' ⟨s0,s1,s2,s3⟩;go_simp;with_reducible rfl⟩) hHeld (by simp only [Act.put,List.setIfInBounds_toArray,List.set_cons_zero,List.set_cons_succ,ae,af];rfl) ?_
   refine aq (i:=5) (N:=some 28) #[true,true,true,true,true,true,false,true,false,false,true,true,true,false,true,true,false,false,false,false] rfl rfl (by kernel_rfl) (fun _ _ _ h=>h) (Or.inl ⟨by rfl,by intro w';go_simp;with_reducible rfl⟩) (by simp only [Act.put,List.setIfInBounds_toArray,List.set_cons_zero,List.set_cons_succ,ae,af];rfl) ?_
   refine bn (i:=6) (N:=some 29) #[true,true,true,true,true,true,true,true,false,false,true,true,true,false,true,true,false,false,false,false] rfl rfl (by kernel_rfl) (fun _ _ _ h=>h) (Or.inl ⟨by rfl,by rintro w' ⟨s0,s1,s2,s3⟩;go_simp;with_reducible rfl⟩) hHeld (by simp only [Act.put,List.setIfInBounds_toArray,List.set_cons_zero,List.set_cons_succ,ae,af];rfl) ?_
   refine aq (i:=8) (N:=some 31) #[true,true,true,true,true,true,true,true,true,false,true,true,true,false,true,true,false,false,false,false] rfl rfl (by kernel_rfl) (fun _ _ _ h=>h) (Or.inl ⟨by rfl,by intro w';go_simp;with_reducible rfl⟩) (by simp only [Act.put,List.setIfInBounds_toArray,List.set_cons_zero,List.set_cons_succ,ae,af];rfl) ?_
   refine bn (i:=9) (N:=some 32) #[true,true,true,true,true,true,true,true,true,true,true,true,true,false,true,true,false,false,false,false] rfl rfl (by kernel_rfl) (fun _ _ _ h=>h) (Or.inl ⟨by rfl,by rintro w' ⟨s0,s1,s2,s3⟩;go_simp;with_reducible rfl⟩) hHeld (by simp only [Act.put,List.setIfInBounds_toArray,List.set_cons_zero,List.set_cons_succ,ae,af];rfl) ?_
   refine bn (i:=13) (N:=some 36) #[true,true,true,true,true,true,true,true,true,true,true,true,true,true,true,true,false,false,false,false] rfl rfl (by kernel_rfl) (fun _ _ _ h=>h) (Or.inl ⟨by rfl,by rintro w' ⟨s0,s1,s2,s3⟩;go_simp;with_reducible rfl⟩) hHeld (by simp only [Act.put,List.setIfInBounds_toArray,List.set_cons_zero,List.set_cons_succ,ae,af];rfl) ?_
   refine one_ (i:=16) (N:=some 39) #[true,true,true,true,true,true,true,true,true,true,true,true,true,true,true,true,true,false,false,false] rfl rfl (by kernel_rfl) (by decide) (fun K hK=>?_)
   refine cE Try.func80 (by kernel_rfl) rfl #[.pointer (some ⟨gt,0,none⟩),.int .u8 (M frm k),.int .u8 b] (by rfl) rfl rfl (by simp only [List.map_toArray,List.map_cons,List.map_nil];rfl) ?_
   with_reducible refine (mul_calls gt (M frm k) b _ (hT.out _ H.out.tail.tail.tail) (hM.out frm k).1 (hM.out frm k).2 b0 b1).mono ?_
   rintro e wm ⟨rfl,hd⟩
   refine ⟨_,rfl,?_⟩
   have H1:=Aside0.mk (H.out.draw hd)
   clear hd
   have hx1 : wm.cell? ⟨ga,off tt + k,none⟩ = some (.int .u8 (M tt k)):=H1.out.aJ 2 rfl (off tt + k) hdto.out
   have hx2:=H1.out.frozen 2 rfl (off tt + k)
   refine hK.out _ _ ⟨(H1.out.aJ 0 rfl 0 rfl),(H1.out.aJ 1 rfl tt (hrc.out tt ht.out).1),(H1.out.aJ 2 rfl (off tt + k) hdto.out),(H1.out.aJ 0 rfl 1 rfl)⟩ (fun hHeld=>?_)
   clear hK K
   refine bz (a':=?_) ?_ ?_
   rotate_left
   ·show Act.put _ (some 39) _ = _
    simp only [Act.put,List.setIfInBounds_toArray,List.set_cons_zero,List.set_cons_succ,ae,af]
    rfl
   refine aq (i:=17) (N:=some 40) #[true,true,true,true,true,true,true,true,true,true,true,true,true,true,true,true,true,true,false,false] rfl rfl (by kernel_rfl) (fun _ _ _ h=>h) (Or.inl ⟨by rfl,by intro w';go_simp;with_reducible rfl⟩) (by simp only [Act.put,List.setIfInBounds_toArray,List.set_cons_zero,List.set_cons_succ,ae,af];rfl) ?_
   refine aq (i:=18) (N:=some 41) #[true,true,true,true,true,true,true,true,true,true,true,true,true,true,true,true,true,true,true,false] rfl rfl (by kernel_rfl) (fun _ _ _ h=>h) (Or.inl ⟨by rfl,by intro w';go_simp;with_reducible rfl⟩) (by simp only [Act.put,List.setIfInBounds_toArray,List.set_cons_zero,List.set_cons_succ,ae,af];rfl) ?_
   refine dX (i:=19) (N:=none) #[true,true,true,true,true,true,true,true,true,true,true,true,true,true,true,true,true,true,true,true] rfl rfl (by kernel_rfl) (by decide) (fun K hK=>?_)
   refine dA (w1:=?_) (by rfl) rfl ?_ ?_
   rotate_left
   ·go_simp
    rfl
   refine hK.out _ _ ?_
   clear hK K
   refine cD (by kernel_rfl) ?_
   go_wp2
   go_roundw
   case rel=>exact ⟨k + 1,dk.setIfInBounds (off tt + k) (.int .u8 (Go.bits .xor .u8 (M tt k) (tmul (M frm k) b))),by omega,by go_num,Aside0.mk (set_grid hdk.out hap.out ht.out hlt (addK_hit M tt frm b k) (fun i j h=>addK_miss M tt frm b k i j h)),Aside0.mk (H1.out.set 2 rfl _ _)⟩
   case measure=>simp [intOf];omega
  ·obtain rfl : k = C:=by omega
   go_wp2
   go_end0
   exact ⟨rfl,_,⟨gr,ga,cR,rc,dk,off,cap,rfl,hRc,hs1.out,hs2.out,hrc.out,hdk.out,hap.out⟩,H.out⟩

end Go.Proofs.Ytffhbpepppodeaa.Grid
