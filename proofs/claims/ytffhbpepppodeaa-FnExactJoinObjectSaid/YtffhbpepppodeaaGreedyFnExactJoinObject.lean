import Derived.Test.YtffhbpepppodeaaCodedFnExactJoinObject
namespace Go.Proofs.Ytffhbpepppodeaa.Greedy
open Go.RowKit Go.Proofs.YtffhbpepppodeaaW.PrintWords Go.Proofs.YtffhbpepppodeaaW.PrintLast Go.Proofs.YtffhbpepppodeaaW.PrintMore Go.Proofs.Ytffhbpepppodeaa.Base
open Go.Proofs.Ytffhbpepppodeaa.Gf Go.Proofs.Ytffhbpepppodeaa.Reduce Go.Proofs.Ytffhbpepppodeaa.Grid Go.Proofs.Ytffhbpepppodeaa.Field Go.Proofs.Ytffhbpepppodeaa.Elim Go.Proofs.Ytffhbpepppodeaa.Cauchy Go.Proofs.Ytffhbpepppodeaa.Plant Go.Proofs.Ytffhbpepppodeaa.Plant2 Go.Proofs.Ytffhbpepppodeaa.Plant4 Go.Proofs.Ytffhbpepppodeaa.Plant5 Go.Proofs.Ytffhbpepppodeaa.Plant6 Go.Proofs.Ytffhbpepppodeaa.Coded

theorem cnt_mono {M M' : MatN} {R R' C : Nat} (h : ∀ j,j < C → Dep M' R' C j → Dep M R C j) : ∀ k,k ≤ C → cnt M R C k ≤ cnt M' R' C k
 | 0,_=>Nat.le_refl _
 | k + 1,hk=>by
  have ih:=cnt_mono h k (by omega)
  have h1:=h k (by omega)
  unfold cnt
  by_cases c : Dep M' R' C k
  ·rw [if_pos c,if_pos (h1 c)];exact ih
  ·rw [if_neg c]
   split
   ·omega
   ·omega
theorem cnt_strict {M M' : MatN} {R R' C : Nat} (h : ∀ j,j < C → Dep M' R' C j → Dep M R C j) {j0 : Nat} (hd : Dep M R C j0) (hn : ¬ Dep M' R' C j0) : ∀ k,k ≤ C → j0 < k → cnt M R C k + 1 ≤ cnt M' R' C k
 | 0,_,hj=>by omega
 | k + 1,hk,hj=>by
  by_cases e : j0 = k
  ·subst e
   have:=cnt_mono h j0 (by omega)
   unfold cnt
   rw [if_pos hd,if_neg hn];omega
  ·have ih:=cnt_strict h hd hn k (by omega) (by omega)
   have h1:=h k (by omega)
   unfold cnt
   by_cases c : Dep M' R' C k
   ·rw [if_pos c,if_pos (h1 c)];exact ih
   ·rw [if_neg c]
    split
    ·omega
    ·omega
theorem gm_sw {a b c : Nat} (ha : a < 256) (hb : b < 256) (hc : c < 256) : gm a (gm b c) = gm b (gm a c):=by
 rw [← gm_assoc ha hb hc,dD ha hb,gm_assoc hb ha hc]
theorem dot_gr (C : Nat) {b : Nat} {r c : Nat → Nat} (hb : b < 256) (hr : ByV r) (hc : ByV c) : dot C r (fun j=>gm b (c j)) = gm b (dot C r c):=by
 unfold dot
 rw [sumN_gm]
 exact dx C fun j _=>gm_sw (hr j) hb (hc j)
theorem dot_nul (C : Nat) {r c : Nat → Nat} (h : ∀ j,j < C → c j = 0) : dot C r c = 0:=sumN_zero C fun j hj=>by show gm _ _ = 0;rw [h j hj,dE]
theorem ker_sub {M M' : MatN} {R R' C : Nat} (hM : ByM M) (hM' : ByM M') (h : ∀ c,ByV c → Ker M' R' C c → Ker M R C c) (hd : ∀ j,j < C → Dep M R C j → Dep M' R' C j) : ∀ k,k ≤ C → ∀ c,ByV c → (∀ l,k ≤ l → c l = 0) → Ker M R C c → Ker M' R' C c
 | 0,_,c,hc,hz,hK=>fun i _=>dot_nul C fun j _=>hz j (Nat.zero_le _)
 | k + 1,hk,c,hc,hz,hK=>by
  by_cases h0 : c k = 0
  ·exact ker_sub hM hM' h hd k (by omega) c hc (fun l hl=>by
    by_cases e : l = k
    ·rw [e];exact h0
    ·exact hz l (by omega)) hK
  ·obtain ⟨d,d1,d2,d3,d4⟩:=hd k (by omega) ⟨c,hc,fun l hl=>hz l (by omega),h0,hK⟩
   have hi:=dn (d k)
   have hb : gm (c k) (invN (d k)) < 256:=dr _ (hc k)
   have d5:=h d d1 d4
   have he : ByV (fun j=>c j ^^^ gm (gm (c k) (invN (d k))) (d j)):=fun j=>xlt (hc j) (dr _ hb)
   have h1:=ker_sub hM hM' h hd k (by omega) _ he (fun l hl=>by
    show c l ^^^ gm (gm (c k) (invN (d k))) (d l) = 0
    by_cases e : l = k
    ·subst e
     rw [gm_assoc (hc l) hi (d1 l),Field.inv_all _ (d1 l) d3,dD (hc l) (by omega),gm_one (hc l),Nat.xor_self]
    ·rw [hz l (by omega),d2 l (by omega),dE,Nat.xor_zero]) (fun i hi=>by
    rw [dot_xr,hK i hi,dot_gr C hb (hM i) d1,d5 i hi,dE,Nat.xor_zero])
   intro i hi
   have h2:=h1 i hi
   rw [dot_xr,dot_gr C hb (hM' i) d1,d4 i hi,dE,Nat.xor_zero] at h2
   exact h2
theorem cnt_step {M M' : MatN} {R R' C : Nat} (hM : ByM M) (hM' : ByM M') (h : ∀ c,ByV c → Ker M' R' C c → Ker M R C c) {c : Nat → Nat} (hc : ByV c) (hk : Ker M R C c) (hn : ¬ Ker M' R' C c) : cnt M R C C + 1 ≤ cnt M' R' C C:=by
 have hD : ∀ j,j < C → Dep M' R' C j → Dep M R C j:=fun j _ ⟨d,d1,d2,d3,d4⟩=>⟨d,d1,d2,d3,h d d1 d4⟩
 by_cases hall : ∀ j,j < C → Dep M R C j → Dep M' R' C j
 ·refine absurd (fun i hi=>?_) hn
  have h1:=ker_sub hM hM' h hall C (Nat.le_refl _) (fun j=>if j < C then c j else 0) (fun j=>by
   show (if j < C then c j else 0) < 256
   split
   ·exact hc j
   ·omega) (fun l hl=>if_neg (by omega)) (fun i hi=>by rw [← dot_cut];exact hk i hi) i hi
  rw [← dot_cut] at h1;exact h1
 ·obtain ⟨j,hj⟩:=Classical.not_forall.1 hall
  obtain ⟨hj,h2⟩:=Classical.not_imp.1 hj
  obtain ⟨h2,h3⟩:=Classical.not_imp.1 h2
  exact cnt_strict hD h2 h3 C (Nat.le_refl _) hj
theorem cnt_same {M M' : MatN} {R R' C : Nat} (h : ∀ c,ByV c → (Ker M' R' C c ↔ Ker M R C c)) : cnt M R C C = cnt M' R' C C:=by
 have h1:=cnt_mono (M:=M) (M':=M') (R:=R) (R':=R') (C:=C) (fun j _ ⟨d,d1,d2,d3,d4⟩=>⟨d,d1,d2,d3,(h d d1).1 d4⟩) C (Nat.le_refl _)
 have h2:=cnt_mono (M:=M') (M':=M) (R:=R') (R':=R) (C:=C) (fun j _ ⟨d,d1,d2,d3,d4⟩=>⟨d,d1,d2,d3,(h d d1).2 d4⟩) C (Nat.le_refl _)
 omega
theorem cnt_rows {M : MatN} {R C : Nat} (h : ByM M) : cnt M R C C ≤ R:=by
 have hb : bD (fun i j=>(M i j : Int)):=fun i j=>by have h1 : M i j < 256:=h i j;exact ⟨by show (0 : Int) ≤ (M i j : Int);omega,by show (M i j : Int) ≤ 255;omega⟩
 have hg:=(dK (R:=R) (C:=C) (C2:=C) hb idM_byt C (Nat.le_refl _)).1
 have h1:=hg.le
 rw [hg.cnt] at h1
 have e : (toN fun i j=>(M i j : Int)) = M:=by funext i j;show (M i j : Int).toNat = _;simp
 rwa [e] at h1
/-! ### the ladder of the steps -/
def Ladder (K : Nat) : List (Nat → Int) → Prop
 | []=>True
 | s :: S=>bx K s < K ∧ s (bx K s) = 1 ∧ (∀ x ∈ S,x (bx K s) = 0) ∧ Ladder K S
theorem solve {K : Nat} : ∀ {S : List (Nat → Int)},Ladder K S → (∀ s ∈ S,cN s) → ∀ {c0 : Nat → Nat},ByV c0 → ∃ c,ByV c ∧ (∀ s ∈ S,dot K (tn s) c = 0) ∧ ∀ r : Nat → Int,(∀ s ∈ S,r (bx K s) = 0) → dot K (tn r) c = dot K (tn r) c0
 | [],_,_,c0,h0=>⟨c0,h0,fun s m=>by simp at m,fun _ _=>rfl⟩
 | s :: S,⟨l1,l2,l3,l4⟩,hb,c0,h0=>by
  obtain ⟨c,c1,c2,c3⟩:=solve l4 (fun x m=>hb x (by simp [m])) h0
  have hs:=tn_byt (hb s (by simp))
  have hx : dot K (tn s) c < 256:=dot_lt hs
  refine ⟨fun j=>c j ^^^ (if j = bx K s then dot K (tn s) c else 0),fun j=>xlt (c1 j) (by split <;> omega),fun x m=>?_,fun r hr=>?_⟩
  ·rw [dot_xr,dot_unit K _ _ l1]
   rcases List.mem_cons.1 m with rfl|m
   ·have e : tn x (bx K x) = 1:=by show (x (bx K x)).toNat = 1;rw [l2];rfl
    rw [e,gm_one hx,Nat.xor_self]
   ·have e : tn x (bx K s) = 0:=by show (x (bx K s)).toNat = 0;rw [l3 x m];rfl
    rw [e,gm_zl,Nat.xor_zero];exact c2 x m
  ·have e : tn r (bx K s) = 0:=by show (r (bx K s)).toNat = 0;rw [hr s (by simp)];rfl
   rw [dot_xr,dot_unit K _ _ l1,e,gm_zl,Nat.xor_zero]
   exact c3 r fun x m=>hr x (by simp [m])
theorem redOne_keep {K l : Nat} {r s : Nat → Int} (h : r l = 0) (h2 : s l = 0) : dG K r s l = 0:=by
 unfold dG
 split
 ·exact h
 ·show Go.bits .xor .u8 (r l) (tmul (r (bx K s)) (s l)) = 0
  rw [h,h2,tmul_z];rfl
theorem redAll_keep {K l : Nat} : ∀ {S : List (Nat → Int)} {r : Nat → Int},r l = 0 → (∀ x ∈ S,x l = 0) → cC K S r l = 0
 | [],_,h,_=>h
 | s :: S,r,h,h2=>redAll_keep (S:=S) (redOne_keep h (h2 s (by simp))) fun x m=>h2 x (by simp [m])
theorem redOne_zero {K : Nat} {r s : Nat → Int} (hr : cN r) (h : s (bx K s) = 1) : dG K r s (bx K s) = 0:=by
 unfold dG
 split
 ·assumption
 ·show Go.bits .xor .u8 (r (bx K s)) (tmul (r (bx K s)) (s (bx K s))) = 0
  have h1:=hr (bx K s)
  rw [h,tmul_gm h1 ⟨by omega,by omega⟩]
  have e : gm (r (bx K s)).toNat (1 : Int).toNat = (r (bx K s)).toNat:=by
   show gm (r (bx K s)).toNat 1 = _
   rw [dD (by omega) (by omega),gm_one (by omega)]
  rw [e,xor8 h1 ⟨by omega,by omega⟩,Int.toNat_natCast,Nat.xor_self];rfl
theorem redAll_zero {K : Nat} : ∀ {S : List (Nat → Int)},Ladder K S → ∀ {r : Nat → Int},cN r → ∀ s ∈ S,cC K S r (bx K s) = 0
 | [],_,_,_,s,m=>by simp at m
 | s :: S,⟨l1,l2,l3,l4⟩,r,hr,x,m=>by
  show cC K S (dG K r s) (bx K x) = 0
  rcases List.mem_cons.1 m with rfl|m
  ·exact redAll_keep (redOne_zero hr l2) l3
  ·exact redAll_zero l4 (redOne_byte hr) x m
theorem ladder_snoc {K : Nat} : ∀ {S : List (Nat → Int)} {r : Nat → Int},Ladder K S → bx K r < K → r (bx K r) = 1 → (∀ s ∈ S,r (bx K s) = 0) → Ladder K (S ++ [r])
 | [],r,_,h1,h2,_=>⟨h1,h2,fun x m=>by simp at m,trivial⟩
 | s :: S,r,⟨l1,l2,l3,l4⟩,h1,h2,h3=>⟨l1,l2,fun x m=>by
   rcases List.mem_append.1 m with m|m
   ·exact l3 x m
   ·rw [List.mem_singleton.1 m];exact h3 s (by simp),ladder_snoc l4 h1 h2 fun x m=>h3 x (by simp [m])⟩
theorem nrm_nil {K j : Nat} {r : Nat → Int} (h : r j = 0) : nrm K r j = 0:=by
 show tmul (r j) _ = 0
 rw [h];unfold tmul;rw [if_pos (Or.inl rfl)]
theorem nrm_one {K : Nat} {r : Nat → Int} (hr : cN r) (hl : bx K r < K) : nrm K r (bx K r) = 1:=by
 have h1:=hr (bx K r)
 have h2:=leadN_ne hl
 have hi:=dn (r (bx K r)).toNat
 show tmul (r (bx K r)) (tinv (r (bx K r))) = 1
 rw [tinv_gm h1,tmul_gm h1 ⟨by omega,by omega⟩,Int.toNat_natCast,dD (by omega) hi,Field.inv_all _ (by omega) (by omega)];rfl
theorem nrm_lead {K : Nat} {r : Nat → Int} (hr : cN r) (hl : bx K r < K) : bx K (nrm K r) = bx K r:=
 leadN_hit hl (fun j hj=>nrm_nil (leadN_lt hj)) (by rw [nrm_one hr hl];decide)
/-! ### the greedy choice by rank -/
abbrev rk (K M G : Nat) (T : List Nat) : Nat → Nat → Nat:=toN (takM K M G T)
theorem ker_rk {K M G : Nat} {T : List Nat} {c : Nat → Nat} : Ker (rk K M G T) T.length K c ↔ ∀ t ∈ T,dot K (tn (rowN K M G t)) c = 0:=by
 constructor
 ·intro h t m
  obtain ⟨a,ha,rfl⟩:=List.getElem_of_mem m
  have:=h a ha
  have e : rk K M G T a = tn (rowN K M G T[a]):=by
   funext j
   show (rowN K M G (T.getD a 0) j).toNat = _
   rw [List.getD_eq_getElem?_getD,List.getElem?_eq_getElem ha];rfl
  rw [e] at this;exact this
 ·intro h a ha
  have e : rk K M G T a = tn (rowN K M G T[a]):=by
   funext j
   show (rowN K M G (T.getD a 0) j).toNat = _
   rw [List.getD_eq_getElem?_getD,List.getElem?_eq_getElem ha];rfl
  rw [e];exact h _ (List.getElem_mem ha)
open Classical in
noncomputable def gStep (K M G : Nat) (hv : List Bool) (T : List Nat) (i : Nat) : List Nat:=
 if rdOf false hv (i : Int) = false ∨ T.length = K then T else if cnt (rk K M G (T ++ [i])) (T.length + 1) K K = T.length + 1 then T ++ [i] else T
noncomputable def cP (K M G : Nat) (hv : List Bool) : Nat → List Nat
 | 0=>[]
 | i + 1=>gStep K M G hv (cP K M G hv i) i
structure GInv (K M G : Nat) (st : BSt) : Prop extends BInv K M G st where
 lad : Ladder K st.2
 cnt : cnt (rk K M G st.1) st.1.length K K = st.1.length
theorem grow {K M G : Nat} (hN : K + M ≤ 64) {st : BSt} (h : GInv K M G st) (i : Nat) :
  (bx K (cC K st.2 (rowN K M G i)) = K → ¬ Elim.cnt (rk K M G (st.1 ++ [i])) (st.1.length + 1) K K = st.1.length + 1) ∧
  (bx K (cC K st.2 (rowN K M G i)) < K → Elim.cnt (rk K M G (st.1 ++ [i])) (st.1.length + 1) K K = st.1.length + 1):=by
 have hb : ByM (rk K M G st.1):=dJ (takM_byt (G:=G) hN st.1)
 have hb' : ByM (rk K M G (st.1 ++ [i])):=dJ (takM_byt (G:=G) hN (st.1 ++ [i]))
 have hl : (st.1 ++ [i]).length = st.1.length + 1:=by simp
 have hk2 : ∀ c,Ker (rk K M G (st.1 ++ [i])) (st.1.length + 1) K c ↔ (∀ t ∈ st.1,dot K (tn (rowN K M G t)) c = 0) ∧ dot K (tn (rowN K M G i)) c = 0:=fun c=>by
  rw [← hl,ker_rk]
  constructor
  ·intro H;exact ⟨fun t m=>H t (by simp [m]),H i (by simp)⟩
  ·rintro ⟨H1,H2⟩ t m
   rcases List.mem_append.1 m with m|m
   ·exact H1 t m
   ·rw [List.mem_singleton.1 m];exact H2
 have hrow : cN (rowN K M G i):=dI hN
 constructor
 ·intro hz he
  have:=cnt_same (M:=rk K M G st.1) (M':=rk K M G (st.1 ++ [i])) (R:=st.1.length) (R':=st.1.length + 1) (C:=K) fun c hc=>by
   rw [hk2,ker_rk]
   constructor
   ·exact fun H=>H.1
   ·intro H
    refine ⟨H,?_⟩
    rw [← dot_all hc hrow h.byt ((h.ker c hc).2 H)]
    exact dot_zero hz c
  rw [h.cnt] at this
  omega
 ·intro hl2
  have hR:=redAll_byte (K:=K) (S:=st.2) hrow
  obtain ⟨c,c1,c2,c3⟩:=solve h.lad h.byt (c0:=fun j=>if j = bx K (cC K st.2 (rowN K M G i)) then 1 else 0) (fun j=>by show (if _ then 1 else 0) < 256;split <;> omega)
  have h1:=c3 _ (redAll_zero h.lad hrow)
  rw [dot_unit K _ _ hl2,dot_all c1 hrow h.byt c2,dD (tn_byt hR _) (by omega),gm_one (tn_byt hR _)] at h1
  have h2:=leadN_ne hl2
  have h3:=hR (bx K (cC K st.2 (rowN K M G i)))
  have h4:=cnt_step hb hb' (R:=st.1.length) (R':=st.1.length + 1) (C:=K) (fun c hc H=>ker_rk.2 ((hk2 c).1 H).1) c1 (ker_rk.2 ((h.ker c c1).1 c2)) (fun H=>by
   have:=((hk2 c).1 H).2
   rw [h1] at this
   have : (cC K st.2 (rowN K M G i) (bx K (cC K st.2 (rowN K M G i)))).toNat = 0:=this
   omega)
  have h5:=cnt_rows (R:=st.1.length + 1) (C:=K) hb'
  rw [h.cnt] at h4
  omega
theorem gstep {K M G : Nat} (hN : K + M ≤ 64) {hv : List Bool} {st : BSt} (h : GInv K M G st) (i : Nat) : GInv K M G (bStep K M G hv st i) ∧ (bStep K M G hv st i).1 = gStep K M G hv st.1 i:=by
 have hB:=bstep_inv hN (hv:=hv) h.toBInv i
 have hg:=grow hN h i
 revert hB
 unfold bStep gStep
 by_cases c : rdOf false hv (i : Int) = false ∨ st.1.length = K
 ·rw [if_pos c,if_pos c];exact fun _=>⟨h,rfl⟩
 ·rw [if_neg c,if_neg c]
  by_cases d : bx K (cC K st.2 (rowN K M G i)) = K
  ·rw [if_pos d,if_neg (hg.1 d)];exact fun _=>⟨h,rfl⟩
  ·have hl : bx K (cC K st.2 (rowN K M G i)) < K:=by have:=leadN_le K (cC K st.2 (rowN K M G i));omega
   have hR : cN (cC K st.2 (rowN K M G i)):=redAll_byte (dI hN)
   rw [if_neg d,if_pos (hg.2 hl)]
   refine fun hB=>⟨⟨hB,?_,?_⟩,rfl⟩
   ·refine ladder_snoc h.lad (by rw [nrm_lead hR hl];exact hl) (by rw [nrm_lead hR hl];exact nrm_one hR hl) fun s m=>nrm_nil (redAll_zero h.lad (dI hN) s m)
   ·have:=hg.2 hl
    show Elim.cnt (rk K M G (st.1 ++ [i])) (st.1 ++ [i]).length K K = (st.1 ++ [i]).length
    rw [List.length_append,List.length_singleton];exact this
theorem ginv0 {K M G : Nat} : GInv K M G ([],[]):=⟨⟨fun s m=>by simp at m,fun c _=>⟨fun _ t m=>by simp at m,fun _ s m=>by simp at m⟩⟩,trivial,by
 have:=cnt_rows (M:=fun _ _=>0) (R:=0) (C:=K) (fun _ _=>by show (0 : Nat) < 256;omega)
 have e : cnt (rk K M G []) 0 K K = cnt (fun _ _=>0) 0 K K:=cnt_same fun c _=>⟨fun _ i hi=>by omega,fun _ i hi=>by omega⟩
 show cnt (rk K M G []) 0 K K = 0
 omega⟩
theorem basis_greedy {K M G : Nat} (hN : K + M ≤ 64) (hv : List Bool) : ∀ n,GInv K M G (b9 K M G hv n) ∧ (b9 K M G hv n).1 = cP K M G hv n
 | 0=>⟨ginv0,rfl⟩
 | n + 1=>by
  obtain ⟨h1,h2⟩:=basis_greedy hN hv n
  obtain ⟨h3,h4⟩:=gstep hN h1 (hv:=hv) n
  refine ⟨h3,h4.trans ?_⟩
  show _ = gStep K M G hv (cP K M G hv n) n
  rw [h2]
theorem gTake_le (K M G : Nat) (hv : List Bool) : ∀ n,(cP K M G hv n).length ≤ K ∧ ∀ t ∈ cP K M G hv n,t < n ∧ rdOf false hv (t : Int) = true
 | 0=>⟨Nat.zero_le _,fun t m=>by simp [cP] at m⟩
 | n + 1=>by
  obtain ⟨h1,h2⟩:=gTake_le K M G hv n
  show (gStep K M G hv (cP K M G hv n) n).length ≤ K ∧ ∀ t ∈ gStep K M G hv (cP K M G hv n) n,_
  unfold gStep
  by_cases c : rdOf false hv (n : Int) = false ∨ (cP K M G hv n).length = K
  ·rw [if_pos c];exact ⟨h1,fun t m=>⟨by have:=(h2 t m).1;omega,(h2 t m).2⟩⟩
  ·rw [if_neg c]
   split
   ·refine ⟨by rw [List.length_append,List.length_singleton];omega,fun t m=>?_⟩
    rcases List.mem_append.1 m with m|m
    ·exact ⟨by have:=(h2 t m).1;omega,(h2 t m).2⟩
    ·rw [List.mem_singleton.1 m]
     exact ⟨by omega,by simpa using fun e=>c (.inl e)⟩
   ·exact ⟨h1,fun t m=>⟨by have:=(h2 t m).1;omega,(h2 t m).2⟩⟩
end Go.Proofs.Ytffhbpepppodeaa.Greedy
