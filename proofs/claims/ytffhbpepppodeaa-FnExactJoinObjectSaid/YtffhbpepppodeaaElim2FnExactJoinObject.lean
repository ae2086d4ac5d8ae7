import Derived.Test.YtffhbpepppodeaaElimFnExactJoinObject
namespace Go.Proofs.Ytffhbpepppodeaa.Elim
open Go.Proofs.Ytffhbpepppodeaa.Gf Go.Proofs.Ytffhbpepppodeaa.Reduce Go.Proofs.Ytffhbpepppodeaa.Grid Go.Proofs.Ytffhbpepppodeaa.Field
set_option linter.unusedVariables false
set_option linter.unusedSimpArgs false
def toN (P : Mat) : MatN:=fun i j=>(P i j).toNat
theorem dJ {P : Mat} (h : bD P) : ByM (toN P):=fun i j=>by have:=h i j;show (P i j).toNat < 256;omega
theorem piv_none {P : Mat} {col : Nat} : ∀ {n a : Nat},piv P col n a = none → ∀ i,a ≤ i → i < a + n → P i col = 0
 | 0,a,_,i,h1,h2=>by omega
 | n + 1,a,h,i,h1,h2=>by
  by_cases e : P a col = 0
  ·rw [piv_zero e] at h
   by_cases e2 : i = a
   ·subst e2;exact e
   ·exact piv_none h i (by omega) (by omega)
  ·rw [piv_hit e] at h;cases h
theorem piv_some {P : Mat} {col : Nat} : ∀ {n a b : Nat},piv P col n a = some b → a ≤ b ∧ b < a + n ∧ P b col ≠ 0
 | 0,a,b,h=>by cases h
 | n + 1,a,b,h=>by
  by_cases e : P a col = 0
  ·rw [piv_zero e] at h
   obtain ⟨h1,h2,h3⟩:=piv_some h
   exact ⟨by omega,by omega,h3⟩
  ·rw [piv_hit e] at h
   cases h
   exact ⟨by omega,by omega,e⟩
theorem xor_z {a : Int} (h : 0 ≤ a ∧ a ≤ 255) : Go.bits .xor .u8 a 0 = a:=by
 rw [xor8 h ⟨by decide,by decide⟩];simp;omega
theorem tmul_z (a : Int) : tmul a 0 = 0:=by unfold tmul;rw [if_pos (Or.inr rfl)]
theorem clr_closed {C C2 rk col : Nat} {s : Mat × Mat} (hb : bD s.1) (hcol : col < C) : ∀ (k i j : Nat),(clrS C C2 rk col s k).1 i j = if i < k ∧ i ≠ rk ∧ j < C then Go.bits .xor .u8 (s.1 i j) (tmul (s.1 rk j) (s.1 i col)) else s.1 i j
 | 0,i,j=>by rw [if_neg (by omega)];rfl
 | k + 1,i,j=>by
  have ih:=clr_closed (C2:=C2) (rk:=rk) hb hcol k
  have e1 : (clrS C C2 rk col s k).1 k col = s.1 k col:=by rw [ih k col,if_neg (by omega)]
  have e2 : ∀ j,(clrS C C2 rk col s k).1 rk j = s.1 rk j:=fun j=>by rw [ih rk j,if_neg (by omega)]
  by_cases h1 : k = rk ∨ s.1 k col = 0
  ·rw [clr_skip (by rw [e1];exact h1),ih i j]
   by_cases c : i < k ∧ i ≠ rk ∧ j < C
   ·rw [if_pos c,if_pos (by omega)]
   ·rw [if_neg c]
    by_cases c2 : i < k + 1 ∧ i ≠ rk ∧ j < C
    ·rw [if_pos c2]
     obtain rfl : i = k:=by omega
     have : s.1 i col = 0:=h1.resolve_left c2.2.1
     rw [this,tmul_z,xor_z (hb i j)]
    ·rw [if_neg c2]
  ·have h2 : k ≠ rk:=fun e=>h1 (Or.inl e)
   have h3 : s.1 k col ≠ 0:=fun e=>h1 (Or.inr e)
   rw [clr_add h2 (by rw [e1];exact h3)]
   show addK _ k rk _ C i j = _
   unfold addK
   by_cases c : i = k ∧ j < C
   ·obtain ⟨rfl,c⟩:=c
    rw [if_pos ⟨rfl,c⟩,if_pos (by omega),e1,e2,ih i j,if_neg (by omega)]
   ·rw [if_neg c,ih i j]
    by_cases c2 : i < k ∧ i ≠ rk ∧ j < C
    ·rw [if_pos c2,if_pos (by omega)]
    ·rw [if_neg c2,if_neg (by omega)]
theorem step_gj {P : Mat} {C C2 rk k a R : Nat} (Q : Mat) (h : bD P) (hk : k < C) (i j : Nat) (hi : i < R) (hj : j < C) :
  toN (clrS C C2 rk k (sclK (swM P a rk) rk (tinv (P a k)) C,Q) R).1 i j = gj (toN P) rk k a (invN (toN P a k)) i j:=by
 have hs : bD (sclK (swM P a rk) rk (tinv (P a k)) C):=bytes_scl (ee h a rk) rk (cw (h a k)) C
 have hv : (tinv (P a k)).toNat = invN (toN P a k):=by rw [tinv_gm (h a k)];rfl
 have hrk : ∀ j,j < C → sclK (swM P a rk) rk (tinv (P a k)) C rk j = (gm (invN (toN P a k)) (toN P a j) : Int):=by
  intro j hj
  unfold sclK
  rw [if_pos ⟨rfl,hj⟩]
  show tmul (P (sw a rk rk) j) _ = _
  rw [sw_r,tmul_gm (h a j) (cw (h a k)),hv]
  show ((gm (toN P a j) _ : Nat) : Int) = _
  rw [dD (dJ h a j) (dn _)]
 have hot : ∀ i j,i ≠ rk → sclK (swM P a rk) rk (tinv (P a k)) C i j = P (sw a rk i) j:=by
  intro i j hi
  unfold sclK
  rw [if_neg (fun e=>hi e.1)];rfl
 unfold toN gj
 rw [clr_closed (s:=(sclK (swM P a rk) rk (tinv (P a k)) C,Q)) hs hk]
 by_cases e : i = rk
 ·subst e
  rw [if_neg (by omega),if_pos rfl]
  show (sclK _ _ _ _ i j).toNat = _
  rw [hrk j hj];rfl
 ·rw [if_neg e,if_pos ⟨hi,e,hj⟩]
  show (Go.bits .xor .u8 (sclK _ _ _ _ i j) (tmul (sclK _ _ _ _ rk j) (sclK _ _ _ _ i k))).toNat = _
  have b1:=dr (toN P a j) (dn (toN P a k))
  rw [hot i j e,hot i k e,hrk j hj,tmul_gm ⟨by omega,by omega⟩ (h _ _),xor8 (h _ _) ⟨by omega,by have:=dr (a:=(gm (invN (toN P a k)) (toN P a j) : Int).toNat) (P (sw a rk i) k).toNat (by omega);omega⟩]
  simp only [Int.toNat_natCast]
  exact congrArg (fun z=>(P (sw a rk i) j).toNat ^^^ z) (dD b1 (dJ h (sw a rk i) k))
theorem dK {R C C2 : Nat} {M Q : Mat} (h : bD M) (hq : bD Q) : ∀ k,k ≤ C → Good (toN M) R C k (redS R C C2 (0,M,Q) k).1 (toN (redS R C C2 (0,M,Q) k).2.1) ∧ bD (redS R C C2 (0,M,Q) k).2.1 ∧ bD (redS R C C2 (0,M,Q) k).2.2
 | 0,_=>⟨Good.start R C (dJ h),h,hq⟩
 | k + 1,hk=>by
  obtain ⟨ih,hb,hb2⟩:=dK (R:=R) (C:=C) (C2:=C2) h hq k (by omega)
  show Good (toN M) R C (k + 1) (stpS R C C2 k (redS R C C2 (0,M,Q) k)).1 (toN (stpS R C C2 k (redS R C C2 (0,M,Q) k)).2.1) ∧ bD (stpS R C C2 k (redS R C C2 (0,M,Q) k)).2.1 ∧ bD (stpS R C C2 k (redS R C C2 (0,M,Q) k)).2.2
  generalize redS R C C2 (0,M,Q) k = S at ih hb hb2 ⊢
  obtain ⟨rk,P,Q1⟩:=S
  replace ih : Good (toN M) R C k rk (toN P):=ih
  replace hb : bD P:=hb
  replace hb2 : bD Q1:=hb2
  by_cases hf : rk < R
  ·cases hp : piv P k (R - rk) rk with
   | none=>
    rw [stpS_none hf hp]
    refine ⟨Good.none ih (by omega) (fun i hi hi'=>?_),hb,hb2⟩
    show (P i k).toNat = 0
    rw [piv_none hp i hi (by omega)];rfl
   | some a=>
    obtain ⟨h1,h2,h3⟩:=piv_some hp
    rw [stpS_some hf hp]
    have hN : toN P a k ≠ 0:=by have:=hb a k;show (P a k).toNat ≠ 0;omega
    have hB:=bytes_clr (C:=C) (C2:=C2) (rk:=rk) (col:=k) (s:=(sclK (swM P a rk) rk (tinv (P a k)) C,sclK (swM Q1 a rk) rk (tinv (P a k)) C2)) (bytes_scl (ee hb a rk) rk (cw (hb a k)) C) (bytes_scl (ee hb2 a rk) rk (cw (hb a k)) C2) R
    exact ⟨Good.congr (k:=k + 1) (by omega) (Good.some ih (by omega) h1 (by omega) (dn _) (inv_all _ (dJ hb a k) hN)) (dJ hB.1) (fun i j hi hj=>step_gj _ hb (by omega) i j hi hj),hB⟩
  ·rw [stpS_full hf]
   refine ⟨Good.none ih (by omega) (fun i hi hi'=>by omega),hb,hb2⟩
end Go.Proofs.Ytffhbpepppodeaa.Elim
