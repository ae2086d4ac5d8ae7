import Derived.Test.YtffhbpepppodeaaFieldFnExactJoinObject
namespace Go.Proofs.Ytffhbpepppodeaa.Field
open Go.Proofs.Ytffhbpepppodeaa.Gf Go.Proofs.Ytffhbpepppodeaa.Reduce Go.Proofs.Ytffhbpepppodeaa.Grid
set_option linter.unusedVariables false
set_option linter.unusedSimpArgs false
def pwN : Nat → Nat
 | 0=>1
 | n + 1=>dblN (pwN n)
theorem pwN_lt : ∀ n,pwN n < 256
 | 0=>by decide
 | n + 1=>dblN_lt (pwN_lt n)
theorem gm_pw : ∀ (i j : Nat),gm (pwN i) (pwN j) = pwN (j + i)
 | 0,j=>gm_one (pwN_lt j)
 | i + 1,j=>by
  show gm (dblN (pwN i)) (pwN j) = dblN (pwN (j + i))
  rw [gm_dbl (pwN_lt i) (pwN_lt j),gm_pw i j]
theorem pw_lg : ∀ m : Nat,m < 256 → m ≠ 0 → pwN (lg m).toNat = m:=by decide +kernel
theorem ex_pw : ∀ n : Nat,n < 510 → ex n = (pwN n : Int):=by decide +kernel
theorem tmul_nat (a b : Nat) (ha : a < 256) (hb : b < 256) : tmul a b = (gm a b : Int):=by
 unfold tmul
 by_cases h : (a : Int) = 0 ∨ (b : Int) = 0
 ·rw [if_pos h]
  rcases h with h|h
  ·obtain rfl : a = 0:=by omega
   rw [gm_zl];rfl
  ·obtain rfl : b = 0:=by omega
   rw [dE];rfl
 ·rw [if_neg h]
  have h1:=ec (a : Int) (by omega)
  have h2:=ec (b : Int) (by omega)
  have e1:=pw_lg a ha (by omega)
  have e2:=pw_lg b hb (by omega)
  rw [ex_pw _ (by omega)]
  rw [← e1,← e2,gm_pw,e1,e2,(by omega : (lg (a : Int) + lg (b : Int)).toNat = (lg (b : Int)).toNat + (lg (a : Int)).toNat)]
theorem tmul_gm {a b : Int} (ha : 0 ≤ a ∧ a ≤ 255) (hb : 0 ≤ b ∧ b ≤ 255) : tmul a b = (gm a.toNat b.toNat : Int):=by
 obtain ⟨m,rfl⟩:=Int.eq_ofNat_of_zero_le ha.1
 obtain ⟨n,rfl⟩:=Int.eq_ofNat_of_zero_le hb.1
 exact tmul_nat m n (by omega) (by omega)
def invN (m : Nat) : Nat:=if m = 0 then 0 else pwN (255 - (lg m).toNat)
theorem inv_all : ∀ m : Nat,m < 256 → m ≠ 0 → gm (invN m) m = 1:=by decide +kernel
theorem dn (m : Nat) : invN m < 256:=by unfold invN;split;decide;exact pwN_lt _
theorem tinv_gm {a : Int} (ha : 0 ≤ a ∧ a ≤ 255) : tinv a = (invN a.toNat : Int):=by
 obtain ⟨m,rfl⟩:=Int.eq_ofNat_of_zero_le ha.1
 unfold tinv invN
 by_cases h : (m : Int) = 0
 ·rw [if_pos h,if_pos (by simpa using h)];rfl
 ·have h1:=ec (m : Int) (by omega)
  rw [if_neg h,if_neg (by simpa using h),ex_pw _ (by omega),Int.toNat_natCast,(by omega : (255 - lg (m : Int)).toNat = 255 - (lg (m : Int)).toNat)]
theorem xor8 {a b : Int} (ha : 0 ≤ a ∧ a ≤ 255) (hb : 0 ≤ b ∧ b ≤ 255) : Go.bits .xor .u8 a b = ((a.toNat ^^^ b.toNat : Nat) : Int):=Go.u8_xor a b ha.1 (by omega) hb.1 (by omega)
theorem gm_nz {a b : Nat} (ha : a < 256) (hb : b < 256) (h : gm a b = 0) (h0 : a ≠ 0) : b = 0:=by
 have:=gm_assoc (dn a) ha hb
 rw [inv_all a ha h0,gm_one hb,h,dE] at this
 exact this
theorem inv_uniq {a b : Nat} (ha : a < 256) (hb : b < 256) (h : gm a b = 1) : b = invN a:=by
 have h0 : a ≠ 0:=fun e=>by rw [e,gm_zl] at h;cases h
 have:=gm_assoc (dn a) ha hb
 rw [inv_all a ha h0,gm_one hb,h,dD (dn a) (by omega),gm_one (dn a)] at this
 exact this
end Go.Proofs.Ytffhbpepppodeaa.Field
