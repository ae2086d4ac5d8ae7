/-
  What the reference's product and inverse are.
-/
import Derived.Test.YtffhbpepppodeaaPFnInverseq
import Derived.Test.YtffhbpepppodeaaBaseFnInverse
import Derived.Test.YtffhbpepppodeaaElim2FnInverse
namespace Go.Proofs.Ytffhbpepppodeaa.Pure
open Go.RowKit Go.Proofs.Ytffhbpepppodeaa.PFnInverse Go.Proofs.Ytffhbpepppodeaa.Base Go.Proofs.YtffhbpepppodeaaW.PrintWords Go.Proofs.YtffhbpepppodeaaW.PrintLast Go.Proofs.YtffhbpepppodeaaW.PrintMore
open Go.Proofs.Ytffhbpepppodeaa.Gf Go.Proofs.Ytffhbpepppodeaa.Reduce Go.Proofs.Ytffhbpepppodeaa.Grid Go.Proofs.Ytffhbpepppodeaa.Field Go.Proofs.Ytffhbpepppodeaa.Elim
theorem ofInt_64 (a : Nat) (ha : a < 512) : (BitVec.ofInt 64 (a : Int)).toNat = a := by
  rw [BitVec.ofInt_natCast, BitVec.toNat_ofNat]; exact Nat.mod_eq_of_lt (by omega)
theorem xor64 (a b : Nat) (ha : a < 512) (hb : b < 512) : Go.bits .xor .i64 (a : Int) (b : Int) = ((a ^^^ b : Nat) : Int) := by
  have hx : a ^^^ b < 2 ^ 9 := Nat.xor_lt_two_pow (by omega) (by omega)
  show IntKind.i64.wrap ((BitVec.ofInt 64 (a : Int) ^^^ BitVec.ofInt 64 (b : Int)).toNat : Int) = _
  rw [BitVec.toNat_xor, ofInt_64 a ha, ofInt_64 b hb]
  have h1 : ((a ^^^ b : Nat) : Int) % 18446744073709551616 = ((a ^^^ b : Nat) : Int) := by omega
  simp only [IntKind.wrap, IntKind.bits, IntKind.signed]
  simp
  omega
theorem gN_zero : ∀ (n a : Nat), gN n a 0 = 0
  | 0, _ => rfl
  | n + 1, a => by show (if 0 % 2 = 1 then a else 0) ^^^ gN n (dblN a) (0 / 2) = 0; rw [if_neg (by decide), Nat.zero_div, gN_zero n, Nat.xor_zero]
theorem spec_times : ∀ (n a b c : Nat), a < 256 → b < 2 ^ n → b < 256 → c < 256 → Ev (fun k => spec_l02Times.l0 k (a : Int) (b : Int) 285 256 (c : Int)) ((c ^^^ gN n a b : Nat) : Int)
  | 0, a, b, c, ha, hb, _, hc => by
    obtain rfl : b = 0 := by simpa using hb
    refine Ev.step (f := fun _ => some (c : Int)) (fun k => ?_) ?_
    · simp only [spec_l02Times.l0]; rw [if_neg (by decide)]
    · show Ev _ ((c ^^^ 0 : Nat) : Int)
      rw [Nat.xor_zero]; exact Ev.now _
  | n + 1, a, b, c, ha, hb, hb2, hc => by
    by_cases h0 : b = 0
    · subst h0
      refine Ev.step (f := fun _ => some (c : Int)) (fun k => ?_) ?_
      · simp only [spec_l02Times.l0]; rw [if_neg (by decide)]
      · rw [gN_zero, Nat.xor_zero]; exact Ev.now _
    have e1 : wrap64 ((a : Int) * 2) = ((2 * a : Nat) : Int) := by rw [w64 (by omega) (by omega)]; omega
    have e2 : wrap64 (Int.tdiv (b : Int) 2) = ((b / 2 : Nat) : Int) := by rw [Int.tdiv_eq_ediv_of_nonneg (by omega), w64 (by omega) (by omega)]; omega
    have e3 : Int.tmod (b : Int) 2 = ((b % 2 : Nat) : Int) := by rw [Int.tmod_eq_emod_of_nonneg (by omega)]; omega
    have hb' : b / 2 < 2 ^ n := by rw [Nat.pow_succ] at hb; omega
    have ed : (if ((2 * a : Nat) : Int) ≥ 256 then Go.bits .xor .i64 ((2 * a : Nat) : Int) 285 else ((2 * a : Nat) : Int)) = ((dblN a : Nat) : Int) := by
      unfold dblN
      by_cases h : a < 128
      · rw [if_neg (by omega), if_pos h]
      · rw [if_pos (by omega), if_neg h]
        exact xor64 (2 * a) 285 (by omega) (by omega)
    have eg : gN (n + 1) a b = (if b % 2 = 1 then a else 0) ^^^ gN n (dblN a) (b / 2) := rfl
    have IH := fun c hc => spec_times n (dblN a) (b / 2) c (dblN_lt ha) hb' (by omega) hc
    by_cases hp : b % 2 = 1
    · have ex' : Go.bits .xor .i64 (c : Int) (a : Int) = ((c ^^^ a : Nat) : Int) := xor64 c a (by omega) (by omega)
      have H := IH (c ^^^ a) (xlt hc ha)
      rw [eg, if_pos hp, ← Nat.xor_assoc]
      by_cases h : ((2 * a : Nat) : Int) ≥ 256
      · rw [if_pos h] at ed
        rw [← ed] at H
        refine Ev.step (fun k => ?_) H
        simp only [spec_l02Times.l0, e1, e2, e3, ex']
        rw [if_pos (by omega), if_pos (by omega), if_pos h]
      · rw [if_neg h] at ed
        rw [← ed] at H
        refine Ev.step (fun k => ?_) H
        simp only [spec_l02Times.l0, e1, e2, e3, ex']
        rw [if_pos (by omega), if_pos (by omega), if_neg h]
    · have H := IH c hc
      rw [eg, if_neg hp, Nat.zero_xor]
      by_cases h : ((2 * a : Nat) : Int) ≥ 256
      · rw [if_pos h] at ed
        rw [← ed] at H
        refine Ev.step (fun k => ?_) H
        simp only [spec_l02Times.l0, e1, e2, e3]
        rw [if_pos (by omega), if_neg (by omega), if_pos h]
      · rw [if_neg h] at ed
        rw [← ed] at H
        refine Ev.step (fun k => ?_) H
        simp only [spec_l02Times.l0, e1, e2, e3]
        rw [if_pos (by omega), if_neg (by omega), if_neg h]
theorem spec_in (a : Nat) (h : a < 256) : spec_l02In.f (a : Int) 256 = some true := by
  unfold spec_l02In.f
  rw [if_pos (by omega)]
  exact congrArg some (decide_eq_true (by omega))
theorem spec_mul (a b : Nat) (ha : a < 256) (hb : b < 256) : Ev (fun k => spec_Mul8.f k (a : Int) (b : Int)) ((gm a b : Nat) : Int) := by
  unfold spec_Mul8.f
  refine Ev.bind0 (spec_in a ha) (Ev.ifT rfl (Ev.bind0 (spec_in b hb) (Ev.ifT rfl ?_)))
  refine Ev.bind (a := ((gm a b : Nat) : Int)) ?_ (Ev.now _)
  have := spec_times 8 a b 0 ha hb hb (by decide)
  rw [Nat.zero_xor] at this
  exact this
theorem spec_inv_loop (a : Nat) (ha : a < 256) (h0 : a ≠ 0) : ∀ (d x : Nat), x + d = 256 → 1 ≤ x → x ≤ invN a → Ev (fun k => spec_Inv8.l0 k (a : Int) (x : Int)) ((invN a : Nat) : Int)
  | 0, x, h, _, h2 => by have := invN_lt a; omega
  | d + 1, x, h, h1, h2 => by
    have hx : x < 256 := by omega
    by_cases e : x = invN a
    · refine Ev.step (f := fun k => (spec_Mul8.f k (a : Int) (x : Int)).bind fun t117 => (if t117 = 1 then (some (x : Int)) else (spec_Inv8.l0 k (a : Int) (wrap64 ((x : Int) + 1))))) (fun k => ?_) ?_
      · simp only [spec_Inv8.l0]; rw [if_pos (by omega)]
      · refine Ev.bind (spec_mul a x ha hx) (Ev.ifT ?_ ?_)
        · rw [e, gm_comm ha (invN_lt a), inv_all a ha h0]; rfl
        · rw [e]; exact Ev.now _
    · refine Ev.step (f := fun k => (spec_Mul8.f k (a : Int) (x : Int)).bind fun t117 => (if t117 = 1 then (some (x : Int)) else (spec_Inv8.l0 k (a : Int) (wrap64 ((x : Int) + 1))))) (fun k => ?_) ?_
      · simp only [spec_Inv8.l0]; rw [if_pos (by omega)]
      · refine Ev.bind (spec_mul a x ha hx) (Ev.ifF (fun c => e (inv_uniq ha hx (by omega))) ?_)
        have := spec_inv_loop a ha h0 d (x + 1) (by omega) (by omega) (by omega)
        rw [w64 (by omega) (by omega)]
        simpa using this
theorem spec_inv (a : Nat) (ha : a < 256) (h0 : a ≠ 0) : Ev (fun k => spec_Inv8.f k (a : Int)) ((invN a : Nat) : Int) := by
  have hn : invN a ≠ 0 := fun e => by have := inv_all a ha h0; rw [e, gm_zl] at this; cases this
  unfold spec_Inv8.f
  refine Ev.bind0 (spec_in a ha) (Ev.ifT rfl ?_)
  exact spec_inv_loop a ha h0 255 1 (by omega) (by omega) (by omega)
end Go.Proofs.Ytffhbpepppodeaa.Pure
