import Derived.Test.YtffhbpepppodeaaField2FnExactJoinObject
namespace Go.Proofs.Ytffhbpepppodeaa.Elim
open Go.Proofs.Ytffhbpepppodeaa.Gf Go.Proofs.Ytffhbpepppodeaa.Reduce Go.Proofs.Ytffhbpepppodeaa.Grid Go.Proofs.Ytffhbpepppodeaa.Field
set_option linter.unusedVariables false
set_option linter.unusedSimpArgs false
abbrev MatN:=Nat → Nat → Nat
abbrev ByM (M : MatN) : Prop:=∀ i j,M i j < 256
abbrev ByV (c : Nat → Nat) : Prop:=∀ j,c j < 256
def sumN (f : Nat → Nat) : Nat → Nat
 | 0=>0
 | n + 1=>sumN f n ^^^ f n
theorem sumN_lt {f : Nat → Nat} (h : ∀ j,f j < 256) : ∀ n,sumN f n < 256
 | 0=>by show 0 < 256;omega
 | n + 1=>xlt (sumN_lt h n) (h n)
theorem sumN_xor (f g : Nat → Nat) : ∀ n,sumN (fun j=>f j ^^^ g j) n = sumN f n ^^^ sumN g n
 | 0=>by show 0 = 0 ^^^ 0;decide
 | n + 1=>by show sumN _ n ^^^ (f n ^^^ g n) = (sumN f n ^^^ f n) ^^^ (sumN g n ^^^ g n);rw [sumN_xor f g n,x4]
theorem sumN_gm (b : Nat) (f : Nat → Nat) : ∀ n,gm b (sumN f n) = sumN (fun j=>gm b (f j)) n
 | 0=>dE b
 | n + 1=>by show gm b (sumN f n ^^^ f n) = _;rw [gm_xr,sumN_gm b f n];rfl
theorem dx {f g : Nat → Nat} : ∀ n,(∀ j,j < n → f j = g j) → sumN f n = sumN g n
 | 0,_=>rfl
 | n + 1,h=>by show sumN f n ^^^ f n = sumN g n ^^^ g n;rw [dx n (fun j hj=>h j (by omega)),h n (by omega)]
theorem sumN_zero {f : Nat → Nat} : ∀ n,(∀ j,j < n → f j = 0) → sumN f n = 0
 | 0,_=>rfl
 | n + 1,h=>by show sumN f n ^^^ f n = 0;rw [sumN_zero n (fun j hj=>h j (by omega)),h n (by omega),Nat.xor_zero]
theorem sumN_one {f : Nat → Nat} {l : Nat} : ∀ n,l < n → (∀ j,j < n → j ≠ l → f j = 0) → sumN f n = f l
 | 0,h,_=>by omega
 | n + 1,h,hz=>by
  show sumN f n ^^^ f n = f l
  by_cases e : l = n
  ·subst e;rw [sumN_zero l (fun j hj=>hz j (by omega) (by omega)),Nat.zero_xor]
  ·rw [sumN_one n (by omega) (fun j hj hne=>hz j (by omega) hne),hz n (by omega) (Ne.symm e),Nat.xor_zero]
def dot (C : Nat) (r c : Nat → Nat) : Nat:=sumN (fun j=>gm (r j) (c j)) C
def Ker (M : MatN) (R C : Nat) (c : Nat → Nat) : Prop:=∀ i,i < R → dot C (M i) c = 0
theorem dot_xr (C : Nat) (r c d : Nat → Nat) : dot C r (fun j=>c j ^^^ d j) = dot C r c ^^^ dot C r d:=by
 unfold dot
 rw [← sumN_xor]
 exact dx C (fun j _=>gm_xr _ _ _)
theorem dot_xl (C : Nat) {r s c : Nat → Nat} (hr : ByV r) (hs : ByV s) : dot C (fun j=>r j ^^^ s j) c = dot C r c ^^^ dot C s c:=by
 unfold dot
 rw [← sumN_xor]
 exact dx C (fun j _=>gm_xl _ (hr j) (hs j))
theorem dot_gm (C : Nat) {b : Nat} {r c : Nat → Nat} (hb : b < 256) (hr : ByV r) (hc : ByV c) : dot C (fun j=>gm b (r j)) c = gm b (dot C r c):=by
 unfold dot
 rw [sumN_gm]
 exact dx C (fun j _=>gm_assoc hb (hr j) (hc j))
theorem dot_unit (C : Nat) (r : Nat → Nat) {l : Nat} (x : Nat) (hl : l < C) : dot C r (fun j=>if j = l then x else 0) = gm (r l) x:=by
 unfold dot
 rw [sumN_one C hl (fun j _ hne=>by show gm _ (if j = l then x else 0) = 0;rw [if_neg hne,dE])]
 show gm _ (if l = l then x else 0) = _
 rw [if_pos rfl]
theorem dot_lt {C : Nat} {r c : Nat → Nat} (hr : ByV r) : dot C r c < 256:=sumN_lt (fun j=>dr _ (hr j)) C
def gj (M : MatN) (rk k a b : Nat) : MatN:=fun i j=>if i = rk then gm b (M a j) else M (sw a rk i) j ^^^ gm (M (sw a rk i) k) (gm b (M a j))
theorem gj_byt {M : MatN} {rk k a b : Nat} (h : ByM M) (hb : b < 256) : ByM (gj M rk k a b):=fun i j=>by
 unfold gj
 split
 ·exact dr _ hb
 ·exact xlt (h _ _) (dr _ (h _ _))
theorem gj_ker {M : MatN} {R C rk k a b : Nat} (h : ByM M) (hb : b < 256) (hb0 : b ≠ 0) (ha : a < R) (hr : rk < R) {c : Nat → Nat} (hc : ByV c) : Ker (gj M rk k a b) R C c ↔ Ker M R C c:=by
 have hp : ByV (fun j=>gm b (M a j)):=fun j=>dr _ hb
 have hrow : dot C (gj M rk k a b rk) c = gm b (dot C (M a) c):=by
  rw [← dot_gm C hb (h a) hc]
  unfold gj dot
  exact dx C (fun j _=>by show gm (if rk = rk then _ else _) _ = _;rw [if_pos rfl])
 have hoth : ∀ i,i ≠ rk → dot C (gj M rk k a b i) c = dot C (M (sw a rk i)) c ^^^ gm (M (sw a rk i) k) (gm b (dot C (M a) c)):=by
  intro i hi
  rw [← dot_gm C hb (h a) hc,← dot_gm C (h _ _) hp hc,← dot_xl C (h _) (fun j=>dr _ (h _ _))]
  unfold gj dot
  exact dx C (fun j _=>by show gm (if i = rk then _ else _) _ = _;rw [if_neg hi])
 constructor
 ·intro hk i hi
  have e1 : dot C (M a) c = 0:=by
   have:=hk rk hr
   rw [hrow] at this
   exact gm_nz hb (dot_lt (h a)) this hb0
  have e2 : ∀ i,i < R → i ≠ rk → dot C (M (sw a rk i)) c = 0:=by
   intro i hi hne
   have:=hk i hi
   rw [hoth i hne,e1,dE,dE,Nat.xor_zero] at this
   exact this
  by_cases e : sw a rk i = rk
  ·have : i = a:=by rw [← sw_sw a rk i,e,sw_r]
   rw [this];exact e1
  ·have:=e2 (sw a rk i) (sw_lt ha hr hi) e
   rwa [sw_sw] at this
 ·intro hk i hi
  have e1:=hk a ha
  by_cases e : i = rk
  ·subst e;rw [hrow,e1,dE]
  ·rw [hoth i e,e1,dE,dE,Nat.xor_zero]
   exact hk _ (sw_lt ha hr hi)
def Dep (M : MatN) (R C j : Nat) : Prop:=∃ c,ByV c ∧ (∀ l,j < l → c l = 0) ∧ c j ≠ 0 ∧ Ker M R C c
open Classical in
noncomputable def cnt (M : MatN) (R C : Nat) : Nat → Nat
 | 0=>0
 | k + 1=>if Dep M R C k then cnt M R C k else cnt M R C k + 1
structure Good (M : MatN) (R C k rk : Nat) (P : MatN) : Prop where
 byt : ByM P
 ker : ∀ c,ByV c → (Ker P R C c ↔ Ker M R C c)
 piv : ∃ pv : Nat → Nat,∀ t,t < rk → pv t < k ∧ P t (pv t) = 1 ∧ ∀ i,i < R → i ≠ t → P i (pv t) = 0
 low : ∀ i j,rk ≤ i → i < R → j < k → P i j = 0
 le : rk ≤ R
 cnt : rk = cnt M R C k
theorem Good.start {M : MatN} (R C : Nat) (h : ByM M) : Good M R C 0 0 M:=⟨h,fun _ _=>Iff.rfl,⟨fun _=>0,fun t ht=>by omega⟩,fun i j _ _ hj=>by omega,by omega,rfl⟩
theorem Good.congr {M P P' : MatN} {R C k rk : Nat} (hk : k ≤ C) (h : Good M R C k rk P) (hb : ByM P') (e : ∀ i j,i < R → j < C → P' i j = P i j) : Good M R C k rk P':=by
 obtain ⟨h1,h2,⟨pv,h3⟩,h4,h5,h6⟩:=h
 refine ⟨hb,fun c hc=>?_,⟨pv,fun t ht=>?_⟩,fun i j hi hi' hj=>?_,h5,h6⟩
 ·rw [← h2 c hc]
  have : ∀ i,i < R → dot C (P' i) c = dot C (P i) c:=fun i hi=>dx C (fun j hj=>by rw [e i j hi hj])
  exact ⟨fun hh i hi=>by rw [← this i hi];exact hh i hi,fun hh i hi=>by rw [this i hi];exact hh i hi⟩
 ·obtain ⟨q1,q2,q3⟩:=h3 t ht
  exact ⟨q1,by rw [e t _ (by omega) (by omega)];exact q2,fun i hi hne=>by rw [e i _ hi (by omega)];exact q3 i hi hne⟩
 ·rw [e i j hi' (by omega)];exact h4 i j hi hi' hj
open Classical in
theorem Good.none {M P : MatN} {R C k rk : Nat} (h : Good M R C k rk P) (hk : k < C) (hz : ∀ i,rk ≤ i → i < R → P i k = 0) : Good M R C (k + 1) rk P:=by
 obtain ⟨h1,h2,⟨pv,h3⟩,h4,h5,h6⟩:=h
 refine ⟨h1,h2,⟨pv,fun t ht=>⟨by have:=(h3 t ht).1;omega,(h3 t ht).2⟩⟩,fun i j hi hi' hj=>?_,h5,?_⟩
 ·by_cases e : j = k
  ·subst e;exact hz i hi hi'
  ·exact h4 i j hi hi' (by omega)
 ·have hd : Dep M R C k:=by
   obtain ⟨cv,hcv⟩ : ∃ cv : Nat → Nat → Nat,cv = fun t=>Nat.rec (fun j=>if j = k then 1 else 0) (fun t c j=>c j ^^^ (if j = pv t then P t k else 0)) t:=⟨_,rfl⟩
   have c0 : cv 0 = fun j=>if j = k then 1 else 0:=by subst hcv;rfl
   have cs : ∀ t,cv (t + 1) = fun j=>cv t j ^^^ (if j = pv t then P t k else 0):=fun t=>by subst hcv;rfl
   have hb : ∀ t,ByV (cv t):=by
    intro t
    induction t with
    | zero=>intro j;rw [c0];show (if _ then _ else _) < 256;split <;> omega
    | succ t ih=>intro j;rw [cs];exact xlt (ih j) (by split;exact h1 _ _;omega)
   have hval : ∀ t,t ≤ rk → (cv t k = 1 ∧ ∀ l,k < l → cv t l = 0):=by
    intro t
    induction t with
    | zero=>intro _;rw [c0];exact ⟨by simp,fun l hl=>by simp;omega⟩
    | succ t ih=>
     intro ht
     have hp:=(h3 t (by omega)).1
     rw [cs]
     refine ⟨?_,fun l hl=>?_⟩
     ·show cv t k ^^^ (if k = pv t then _ else _) = 1
      rw [if_neg (by omega),Nat.xor_zero];exact (ih (by omega)).1
     ·show cv t l ^^^ (if l = pv t then _ else _) = 0
      rw [if_neg (by omega),Nat.xor_zero];exact (ih (by omega)).2 l hl
   have hdot : ∀ i,i < R → ∀ t,t ≤ rk → dot C (P i) (cv t) = P i k ^^^ (if i < t then P i k else 0):=by
    intro i hi t
    induction t with
    | zero=>
     intro _
     rw [c0,dot_unit C (P i) 1 hk,dD (h1 i k) (by omega),gm_one (h1 i k),if_neg (by omega),Nat.xor_zero]
    | succ t ih=>
     intro ht
     obtain ⟨q1,q2,q3⟩:=h3 t (by omega)
     rw [cs,dot_xr,ih (by omega),dot_unit C (P i) (P t k) (by omega)]
     by_cases e : i = t
     ·subst e
      rw [q2,gm_one (h1 _ _),if_neg (by omega),if_pos (by omega),Nat.xor_zero]
     ·rw [q3 i hi e,gm_zl,Nat.xor_zero]
      by_cases e2 : i < t
      ·rw [if_pos e2,if_pos (by omega)]
      ·rw [if_neg e2,if_neg (by omega)]
   refine ⟨cv rk,hb rk,(hval rk (Nat.le_refl _)).2,by rw [(hval rk (Nat.le_refl _)).1];decide,(h2 _ (hb rk)).1 fun i hi=>?_⟩
   rw [hdot i hi rk (Nat.le_refl _)]
   by_cases e : i < rk
   ·rw [if_pos e,Nat.xor_self]
   ·rw [if_neg e,Nat.xor_zero];exact hz i (by omega) hi
  show rk = if _ then _ else _
  rw [if_pos hd];exact h6
open Classical in
theorem Good.some {M P : MatN} {R C k rk a b : Nat} (h : Good M R C k rk P) (hk : k < C) (ha : rk ≤ a) (ha' : a < R) (hb : b < 256) (hn : gm b (P a k) = 1) : Good M R C (k + 1) (rk + 1) (gj P rk k a b):=by
 obtain ⟨h1,h2,⟨pv,h3⟩,h4,h5,h6⟩:=h
 have hb0 : b ≠ 0:=fun e=>by rw [e,gm_zl] at hn;cases hn
 have hp0 : P a k ≠ 0:=fun e=>by rw [e,dE] at hn;cases hn
 have hrow : ∀ j,gj P rk k a b rk j = gm b (P a j):=fun j=>by unfold gj;rw [if_pos rfl]
 have hoth : ∀ i j,i ≠ rk → gj P rk k a b i j = P (sw a rk i) j ^^^ gm (P (sw a rk i) k) (gm b (P a j)):=fun i j hi=>by unfold gj;rw [if_neg hi]
 have hcol : ∀ i,i ≠ rk → gj P rk k a b i k = 0:=fun i hi=>by rw [hoth i k hi,hn,dD (h1 _ _) (by omega),gm_one (h1 _ _),Nat.xor_self]
 have swle : ∀ i,rk ≤ i → rk ≤ sw a rk i:=fun i hi=>by unfold sw;split;omega;split <;> omega
 refine ⟨gj_byt h1 hb,fun c hc=>(gj_ker h1 hb hb0 ha' (by omega) hc).trans (h2 c hc),⟨fun t=>if t < rk then pv t else k,fun t ht=>?_⟩,fun i j hi hi' hj=>?_,by omega,?_⟩
 ·by_cases e : t < rk
  ·show (if t < rk then pv t else k) < k + 1 ∧ gj P rk k a b t (if t < rk then pv t else k) = 1 ∧ ∀ i,i < R → i ≠ t → gj P rk k a b i (if t < rk then pv t else k) = 0
   rw [if_pos e]
   obtain ⟨q1,q2,q3⟩:=h3 t e
   have hz : P a (pv t) = 0:=q3 a ha' (by omega)
   have hst : sw a rk t = t:=by unfold sw;rw [if_neg (by omega),if_neg (by omega)]
   refine ⟨by omega,by rw [hoth t _ (by omega),hz,dE,dE,Nat.xor_zero,hst];exact q2,fun i hi hne=>?_⟩
   by_cases ei : i = rk
   ·subst ei;rw [hrow,hz,dE]
   ·rw [hoth i _ ei,hz,dE,dE,Nat.xor_zero]
    exact q3 _ (sw_lt ha' (by omega) hi) (fun e'=>hne (by rw [← sw_sw a rk i,e',hst]))
  ·have : t = rk:=by omega
   subst this
   show (if t < t then pv t else k) < k + 1 ∧ gj P t k a b t (if t < t then pv t else k) = 1 ∧ ∀ i,i < R → i ≠ t → gj P t k a b i (if t < t then pv t else k) = 0
   rw [if_neg (by omega)]
   exact ⟨by omega,by rw [hrow];exact hn,fun i _ hne=>hcol i hne⟩
 ·by_cases e : j = k
  ·subst e;exact hcol i (by omega)
  ·rw [hoth i j (by omega),h4 a j ha ha' (by omega),dE,dE,Nat.xor_zero]
   exact h4 _ j (swle i (by omega)) (sw_lt ha' (by omega) hi') (by omega)
 ·have hd : ¬ Dep M R C k:=by
   rintro ⟨c,hc,hc1,hc2,hc3⟩
   have:=(h2 c hc).2 hc3 a ha'
   unfold dot at this
   rw [sumN_one C hk (fun j hj hne=>?_)] at this
   ·exact hc2 (gm_nz (h1 a k) (hc k) this hp0)
   ·by_cases e : j < k
    ·show gm (P a j) (c j) = 0
     rw [h4 a j ha ha' e,gm_zl]
    ·show gm (P a j) (c j) = 0
     rw [hc1 j (by omega),dE]
  show rk + 1 = if _ then _ else _
  rw [if_neg hd,← h6]
end Go.Proofs.Ytffhbpepppodeaa.Elim
