import Derived.Test.YtffhbpepppodeaaInvFnDecoded
namespace Go.Proofs.Ytffhbpepppodeaa.Cauchy
open Go.Proofs.Ytffhbpepppodeaa.Gf Go.Proofs.Ytffhbpepppodeaa.Reduce Go.Proofs.Ytffhbpepppodeaa.Grid Go.Proofs.Ytffhbpepppodeaa.Field Go.Proofs.Ytffhbpepppodeaa.Elim

def ls (l : List Nat) (f : Nat → Nat) : Nat:=l.foldr (fun y a=>f y ^^^ a) 0
theorem dX (y : Nat) (l : List Nat) (f : Nat → Nat) : ls (y :: l) f = f y ^^^ ls l f:=rfl
theorem ls_lt {f : Nat → Nat} : ∀ {l : List Nat},(∀ y ∈ l,f y < 256) → ls l f < 256
 | [],_=>by show 0 < 256;omega
 | y :: l,h=>xlt (h y (by simp)) (ls_lt fun z hz=>h z (by simp [hz]))
theorem ls_xor (f g : Nat → Nat) : ∀ l,ls l (fun y=>f y ^^^ g y) = ls l f ^^^ ls l g
 | []=>by show 0 = 0 ^^^ 0;rfl
 | y :: l=>by rw [dX,dX,dX,ls_xor f g l,x4]
theorem ls_gm (b : Nat) (f : Nat → Nat) : ∀ l,gm b (ls l f) = ls l (fun y=>gm b (f y))
 | []=>dj b
 | y :: l=>by rw [dX,dX,gm_xr,ls_gm b f l]
theorem ls_congr {f g : Nat → Nat} : ∀ {l : List Nat},(∀ y ∈ l,f y = g y) → ls l f = ls l g
 | [],_=>rfl
 | y :: l,h=>by rw [dX,dX,h y (by simp),ls_congr fun z hz=>h z (by simp [hz])]
theorem ls_zero {f : Nat → Nat} {l : List Nat} (h : ∀ y ∈ l,f y = 0) : ls l f = 0:=by
 rw [ls_congr h]
 induction l with
 | nil=>rfl
 | cons y l ih=>rw [dX,ih fun z hz=>h z (by simp [hz])];rfl
def v (x y : Nat) : Nat:=invN (x ^^^ y)
theorem v_lt (x y : Nat) : v x y < 256:=dr _
theorem xne {x y : Nat} (h : x ≠ y) : x ^^^ y ≠ 0:=fun e=>h (xor_eq e)
theorem v_one {x y : Nat} (hx : x < 256) (hy : y < 256) (h : x ≠ y) : gm (x ^^^ y) (v x y) = 1:=by
 rw [cu (xlt hx hy) (v_lt x y)];exact dM _ (xlt hx hy) (xne h)
theorem v_ne {x y : Nat} (hx : x < 256) (hy : y < 256) (h : x ≠ y) : v x y ≠ 0:=fun e=>by
 have:=v_one hx hy h
 rw [e,dj] at this;omega
theorem nz_l {a b : Nat} (ha : a < 256) (hb : b < 256) (h : gm a b = 0) (h0 : b ≠ 0) : a = 0:=gm_nz hb ha (by rw [cu hb ha];exact h) h0
theorem v_cut {x y d : Nat} (hx : x < 256) (hy : y < 256) (hd : d < 256) (h : x ≠ y) : gm (x ^^^ y) (gm d (v x y)) = d:=by
 rw [← dC (xlt hx hy) hd (v_lt x y),cu (xlt hx hy) hd,dC hd (xlt hx hy) (v_lt x y),v_one hx hy h,cu hd (by omega),dQ hd]
theorem v_sum {x x0 y : Nat} (hx : x < 256) (hx0 : x0 < 256) (hy : y < 256) (h : x ≠ y) (h0 : x0 ≠ y) : v x y ^^^ v x0 y = gm (x ^^^ x0) (gm (v x0 y) (v x y)):=by
 have e : x ^^^ x0 = (x ^^^ y) ^^^ (x0 ^^^ y):=by
  rw [Nat.xor_comm x0 y,Nat.xor_assoc,← Nat.xor_assoc y y,Nat.xor_self,Nat.zero_xor]
 rw [e,gm_xl _ (xlt hx hy) (xlt hx0 hy),v_cut hx hy (v_lt _ _) h,cu (v_lt x0 y) (v_lt x y),v_cut hx0 hy (v_lt _ _) h0,Nat.xor_comm]
theorem v_step {x y y0 d : Nat} (hx : x < 256) (hy : y < 256) (hy0 : y0 < 256) (hd : d < 256) (h : x ≠ y) : gm (x ^^^ y0) (gm d (v x y)) = d ^^^ gm (gm d (y ^^^ y0)) (v x y):=by
 have e : x ^^^ y0 = (x ^^^ y) ^^^ (y ^^^ y0):=by
  rw [Nat.xor_assoc,← Nat.xor_assoc y y,Nat.xor_self,Nat.zero_xor]
 rw [e,gm_xl _ (xlt hx hy) (xlt hy hy0),v_cut hx hy hd h,← dC (xlt hy hy0) hd (v_lt x y),cu (xlt hy hy0) hd]
theorem cauchy : ∀ (ys xs : List Nat) (d : Nat → Nat),(∀ y ∈ ys,y < 256) → (∀ x ∈ xs,x < 256) → ys.Nodup → xs.Nodup → (∀ x ∈ xs,∀ y ∈ ys,x ≠ y) → ys.length ≤ xs.length → (∀ y ∈ ys,d y < 256) →
  (∀ x ∈ xs,ls ys (fun y=>gm (d y) (v x y)) = 0) → ∀ y ∈ ys,d y = 0
 | [],_,_,_,_,_,_,_,_,_,_=>fun y h=>by simp at h
 | y0 :: ys,[],_,_,_,_,_,_,h,_,_=>by simp at h
 | y0 :: ys,x0 :: xs,d,hy,hx,ny,nx,hne,hl,hd,h=>by
  have hy0:=hy y0 (by simp)
  have hx0:=hx x0 (by simp)
  have hd0:=hd y0 (by simp)
  have hy' : ∀ y ∈ ys,y < 256:=fun y m=>hy y (by simp [m])
  have hd' : ∀ y ∈ ys,d y < 256:=fun y m=>hd y (by simp [m])
  have hn0 : ∀ y ∈ ys,x0 ≠ y:=fun y m=>hne x0 (by simp) y (by simp [m])
  obtain ⟨ny1,ny2⟩:=List.nodup_cons.1 ny
  obtain ⟨nx1,nx2⟩:=List.nodup_cons.1 nx
  have A : ∀ x ∈ x0 :: xs,d y0 ^^^ (ls ys d ^^^ ls ys (fun y=>gm (gm (d y) (y ^^^ y0)) (v x y))) = 0:=fun x m=>by
   have e:=h x m
   have hxx:=hx x m
   rw [dX] at e
   have e2 : gm (x ^^^ y0) (gm (d y0) (v x y0) ^^^ ls ys (fun y=>gm (d y) (v x y))) = gm (x ^^^ y0) 0:=by rw [e]
   rw [dj,gm_xr,v_cut hxx hy0 hd0 (hne x m y0 (by simp)),ls_gm,ls_congr (g:=fun y=>d y ^^^ gm (gm (d y) (y ^^^ y0)) (v x y)) fun y my=>v_step hxx (hy' y my) hy0 (hd' y my) (hne x m y (by simp [my])),ls_xor] at e2
   exact e2
  have B : ∀ x ∈ xs,ls ys (fun y=>gm (gm (gm (d y) (y ^^^ y0)) (v x0 y)) (v x y)) = 0:=fun x m=>by
   have hxx:=hx x (by simp [m])
   have a1:=xor_eq (A x (by simp [m]))
   have a2:=xor_eq (A x0 (by simp))
   have a3 : ls ys d ^^^ (ls ys d ^^^ ls ys (fun y=>gm (gm (d y) (y ^^^ y0)) (v x y))) = ls ys d ^^^ (ls ys d ^^^ ls ys (fun y=>gm (gm (d y) (y ^^^ y0)) (v x0 y))):=by rw [← a1,← a2]
   rw [← Nat.xor_assoc,← Nat.xor_assoc,Nat.xor_self,Nat.zero_xor,Nat.zero_xor] at a3
   have a4 : ls ys (fun y=>gm (gm (d y) (y ^^^ y0)) (v x y) ^^^ gm (gm (d y) (y ^^^ y0)) (v x0 y)) = 0:=by rw [ls_xor,a3,Nat.xor_self]
   rw [ls_congr (g:=fun y=>gm (x ^^^ x0) (gm (gm (gm (d y) (y ^^^ y0)) (v x0 y)) (v x y))) fun y my=>by
    have hg : gm (d y) (y ^^^ y0) < 256:=cO _ (hd' y my)
    rw [← gm_xr,v_sum hxx hx0 (hy' y my) (hne x (by simp [m]) y (by simp [my])) (hn0 y my)]
    rw [← dC hg (xlt hxx hx0) (cO _ (v_lt _ _)),cu hg (xlt hxx hx0),dC (xlt hxx hx0) hg (cO _ (v_lt _ _)),dC hg (v_lt _ _) (v_lt _ _)],← ls_gm] at a4
   exact gm_nz (xlt hxx hx0) (ls_lt fun y my=>cO _ (cO _ (cO _ (hd' y my)))) a4 (xne fun e=>nx1 (e ▸ m))
  have C:=cauchy ys xs (fun y=>gm (gm (d y) (y ^^^ y0)) (v x0 y)) hy' (fun x m=>hx x (by simp [m])) ny2 nx2 (fun x m y my=>hne x (by simp [m]) y (by simp [my])) (by simp at hl;omega) (fun y my=>cO _ (cO _ (hd' y my))) B
  have D : ∀ y ∈ ys,d y = 0:=fun y my=>by
   have c1:=nz_l (cO _ (hd' y my)) (v_lt _ _) (C y my) (v_ne hx0 (hy' y my) (hn0 y my))
   exact nz_l (hd' y my) (xlt (hy' y my) hy0) c1 (xne fun e=>ny1 (e ▸ my))
  intro y my
  rcases List.mem_cons.1 my with rfl|my
  ·have e:=h x0 (by simp)
   rw [dX,ls_zero fun z mz=>by rw [D z mz,gm_zl],Nat.xor_zero] at e
   exact nz_l hd0 (v_lt _ _) e (v_ne hx0 hy0 (hne x0 (by simp) y (by simp)))
  ·exact D y my

theorem ls_snoc (f : Nat → Nat) (a : Nat) : ∀ l,ls (l ++ [a]) f = ls l f ^^^ f a
 | []=>by show f a ^^^ 0 = 0 ^^^ f a;rw [Nat.xor_zero,Nat.zero_xor]
 | y :: l=>by rw [List.cons_append,dX,dX,ls_snoc f a l,Nat.xor_assoc]
theorem sum_ls (f : Nat → Nat) (p : Nat → Bool) (K : Nat) (h : ∀ j,j < K → p j = false → f j = 0) : sumN f K = ls ((List.range K).filter p) f:=by
 induction K with
 | zero=>rfl
 | succ n ih=>
  rw [List.range_succ,List.filter_append]
  show sumN f n ^^^ f n = _
  rw [ih fun j hj=>h j (by omega)]
  by_cases c : p n = true
  ·rw [List.filter_cons_of_pos (by exact c),List.filter_nil,ls_snoc]
  ·rw [List.filter_cons_of_neg (by exact c),List.filter_nil,List.append_nil,h n (by omega) (by simpa using c),Nat.xor_zero]
def rw_ (K i j : Nat) : Nat:=if i < K then (if j = i then 1 else 0) else v i j
theorem rw_lt (K i j : Nat) : rw_ K i j < 256:=by
 unfold rw_;split
 ·split <;> omega
 ·exact v_lt _ _
theorem count_split (p : Nat → Bool) : ∀ l : List Nat,(l.filter p).length + (l.filter (fun x=>!p x)).length = l.length
 | []=>rfl
 | x :: l=>by
  have:=count_split p l
  by_cases c : p x = true
  ·rw [List.filter_cons_of_pos c,List.filter_cons_of_neg (by simp [c])];simp;omega
  ·rw [List.filter_cons_of_neg c,List.filter_cons_of_pos (by simpa using c)];simp;omega
theorem any_K {K N : Nat} (hN : N ≤ 64) {T : List Nat} (hT : T.length = K) (nT : T.Nodup) (hT2 : ∀ t ∈ T,t < N) {c : Nat → Nat} (hc : ByV c) (h : ∀ t ∈ T,dot K (rw_ K t) c = 0) : ∀ j,j < K → c j = 0:=by
 have unit : ∀ j,j < K → j ∈ T → c j = 0:=fun j hj hm=>by
  have:=h j hm
  rw [dot_id K hc hj (rw_ K j) (fun l _=>by unfold rw_;rw [if_pos hj];by_cases e : j = l <;> simp [e,eq_comm])] at this
  exact this
 have hw:=cauchy ((List.range K).filter fun j=>!decide (j ∈ T)) (T.filter fun t=>!decide (t < K)) c (fun y m=>by
  have hyK:=List.mem_range.1 (List.mem_filter.1 m).1
  rcases Nat.eq_zero_or_pos N with e|e
  ·subst e
   rcases T with _|⟨t,T⟩
   ·simp at hT;omega
   ·exact absurd (hT2 t (by simp)) (by omega)
  ·rcases Nat.lt_or_ge y 256 with q|q
   ·exact q
   ·exfalso
    have:=List.Nodup.length_le_of_subset (l₁:=T) (l₂:=List.range N) nT (fun t m=>List.mem_range.2 (hT2 t m))
    rw [List.length_range] at this
    omega) (fun x m=>by have:=hT2 x (List.mem_filter.1 m).1;omega) (List.Nodup.sublist List.filter_sublist List.nodup_range) (List.Nodup.sublist List.filter_sublist nT)
  (fun x mx y my=>by
   have h1:=(List.mem_filter.1 mx).2
   have h2:=List.mem_range.1 (List.mem_filter.1 my).1
   intro e
   subst e
   simp at h1;omega)
  (by
   have e1:=count_split (fun j=>decide (j ∈ T)) (List.range K)
   have e2:=count_split (fun t=>decide (t < K)) T
   have e3 : (T.filter fun t=>decide (t < K)).length ≤ ((List.range K).filter fun j=>decide (j ∈ T)).length:=List.Nodup.length_le_of_subset (List.Nodup.sublist List.filter_sublist nT) fun t m=>by
    obtain ⟨m1,m2⟩:=List.mem_filter.1 m
    exact List.mem_filter.2 ⟨List.mem_range.2 (by simpa using m2),by simpa using m1⟩
   rw [List.length_range] at e1
   omega)
  (fun y _=>hc y)
  (fun x m=>by
   obtain ⟨m1,m2⟩:=List.mem_filter.1 m
   have hxK : ¬ x < K:=by simpa using m2
   have e:=h x m1
   unfold dot at e
   rw [sum_ls _ (fun j=>!decide (j ∈ T)) K fun j hj hp=>by rw [unit j hj (by simpa using hp),dj]] at e
   rw [← e]
   refine ls_congr fun y my=>?_
   show _ = gm (rw_ K x y) (c y)
   unfold rw_
   rw [if_neg hxK,cu (v_lt _ _) (hc y)])
 intro j hj
 by_cases m : j ∈ T
 ·exact unit j hj m
 ·exact hw j (List.mem_filter.2 ⟨List.mem_range.2 hj,by simpa using m⟩)
theorem few_rows {P : MatN} (hP : ByM P) {R C : Nat} (h : R < C) : ∃ c,ByV c ∧ (∃ j,j < C ∧ c j ≠ 0) ∧ Ker P R C c:=by
 have hb : bC (fun i j=>(P i j : Int)):=fun i j=>by have h1 : P i j < 256:=hP i j;exact ⟨by show (0 : Int) ≤ (P i j : Int);omega,by show (P i j : Int) ≤ 255;omega⟩
 have hg:=(dv (R:=R) (C:=C) (C2:=C) hb dW C (Nat.le_refl _)).1
 have h1:=hg.le
 rw [hg.cnt] at h1
 have key : ∀ k,k ≤ C → (∀ j,j < k → ¬ Dep (toN fun i j=>(P i j : Int)) R C j) → cnt (toN fun i j=>(P i j : Int)) R C k = k:=by
  intro k
  induction k with
  | zero=>intro _ _;rfl
  | succ n ih=>
   intro hk hd
   unfold cnt
   rw [if_neg (hd n (by omega)),ih (by omega) fun j hj=>hd j (by omega)]
 by_cases hd : ∀ j,j < C → ¬ Dep (toN fun i j=>(P i j : Int)) R C j
 ·rw [key C (Nat.le_refl _) hd] at h1;omega
 ·obtain ⟨j,hj⟩:=Classical.not_forall.1 hd
  obtain ⟨hj,hd⟩:=Classical.not_imp.1 hj
  obtain ⟨c,c1,c2,c3,c4⟩:=Classical.not_not.1 hd
  refine ⟨c,c1,⟨j,hj,c3⟩,?_⟩
  have e : (toN fun i j=>(P i j : Int)) = P:=by funext i j;show (P i j : Int).toNat = _;simp
  rwa [e] at c4
theorem full_cnt {P : MatN} {R C : Nat} (h : ∀ c,ByV c → Ker P R C c → ∀ j,j < C → c j = 0) : ∀ k,k ≤ C → cnt P R C k = k
 | 0,_=>rfl
 | n + 1,hk=>by
  unfold cnt
  rw [if_neg,full_cnt h n (by omega)]
  rintro ⟨c,c1,c2,c3,c4⟩
  exact c3 (h c c1 c4 n (by omega))
end Go.Proofs.Ytffhbpepppodeaa.Cauchy
