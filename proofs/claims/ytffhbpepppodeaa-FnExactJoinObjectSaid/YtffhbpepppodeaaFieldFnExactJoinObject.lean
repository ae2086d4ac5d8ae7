/-
  The field of 256: the product as sums of doubles, its laws, and that the program's tables hold it.
-/
import Derived.Test.YtffhbpepppodeaaGfFnExactJoinObject
import Derived.Test.YtffhbpepppodeaaReduceFnExactJoinObject
import Derived.Laws.BitsAllLaws
namespace Go.Proofs.Ytffhbpepppodeaa.Field
open Go.Proofs.Ytffhbpepppodeaa.Gf Go.Proofs.Ytffhbpepppodeaa.Reduce Go.Proofs.Ytffhbpepppodeaa.Grid
set_option linter.unusedVariables false
set_option linter.unusedSimpArgs false

def dblN (x : Nat) : Nat := if x < 128 then 2 * x else (2 * x) ^^^ 285
def gN : Nat → Nat → Nat → Nat
  | 0, _, _ => 0
  | n + 1, a, b => (if b % 2 = 1 then a else 0) ^^^ gN n (dblN a) (b / 2)
def gm (a b : Nat) : Nat := gN 8 a b

theorem xlt {a b : Nat} (ha : a < 256) (hb : b < 256) : a ^^^ b < 256 := Nat.xor_lt_two_pow (n := 8) ha hb
theorem dblN_lt {x : Nat} (h : x < 256) : dblN x < 256 := by
  unfold dblN
  split
  · omega
  · have h1 : ∀ x, x < 256 → ¬ x < 128 → (2 * x) ^^^ 285 < 256 := by decide +kernel
    exact h1 x h ‹_›
theorem two_xor (a b : Nat) : 2 * (a ^^^ b) = (2 * a) ^^^ (2 * b) := by
  have := Nat.shiftLeft_xor_distrib (a := a) (b := b) (i := 1)
  simpa [Nat.shiftLeft_eq, Nat.mul_comm] using this
theorem half_xor (a b : Nat) : (a ^^^ b) / 2 = (a / 2) ^^^ (b / 2) := by
  have := Nat.shiftRight_xor_distrib (a := a) (b := b) (i := 1)
  simpa [Nat.shiftRight_eq_div_pow] using this
theorem top_xor (a b : Nat) : (a ^^^ b) / 128 = (a / 128) ^^^ (b / 128) := by
  have := Nat.shiftRight_xor_distrib (a := a) (b := b) (i := 7)
  simpa [Nat.shiftRight_eq_div_pow] using this
theorem dblN_eq {x : Nat} (h : x < 256) : dblN x = (2 * x) ^^^ (if x / 128 = 1 then 285 else 0) := by
  unfold dblN
  by_cases c : x < 128
  · rw [if_pos c, if_neg (by omega), Nat.xor_zero]
  · rw [if_neg c, if_pos (by omega)]
theorem dblN_xor {a b : Nat} (ha : a < 256) (hb : b < 256) : dblN (a ^^^ b) = dblN a ^^^ dblN b := by
  rw [dblN_eq (xlt ha hb), dblN_eq ha, dblN_eq hb, two_xor, top_xor]
  have e1 : a / 128 = 0 ∨ a / 128 = 1 := by omega
  have e2 : b / 128 = 0 ∨ b / 128 = 1 := by omega
  have x1 : ∀ p q : Nat, p ^^^ q ^^^ 285 = p ^^^ 285 ^^^ q := fun p q => by rw [Nat.xor_assoc, Nat.xor_comm q, Nat.xor_assoc]
  have x2 : ∀ p q : Nat, p ^^^ q ^^^ 285 = p ^^^ (q ^^^ 285) := fun p q => by rw [Nat.xor_assoc]
  have x3 : ∀ p q : Nat, p ^^^ q = p ^^^ 285 ^^^ (q ^^^ 285) := fun p q => by rw [Nat.xor_assoc, Nat.xor_comm q, ← Nat.xor_assoc 285, Nat.xor_self, Nat.zero_xor]
  rcases e1 with e1 | e1 <;> rcases e2 with e2 | e2 <;> rw [e1, e2] <;> simp
  · exact x2 _ _
  · exact x1 _ _
  · exact x3 _ _
theorem gN_lt : ∀ (n : Nat) {a : Nat} (b : Nat), a < 256 → gN n a b < 256
  | 0, _, _, _ => by show 0 < 256; omega
  | n + 1, a, b, h => by
    show (if b % 2 = 1 then a else 0) ^^^ _ < 256
    exact xlt (by split <;> omega) (gN_lt n _ (dblN_lt h))
theorem x4 (a b c d : Nat) : a ^^^ b ^^^ (c ^^^ d) = a ^^^ c ^^^ (b ^^^ d) := by
  rw [Nat.xor_assoc, Nat.xor_assoc, ← Nat.xor_assoc b, Nat.xor_comm b c, Nat.xor_assoc c]
theorem gN_xl : ∀ (n : Nat) {a a' : Nat} (b : Nat), a < 256 → a' < 256 → gN n (a ^^^ a') b = gN n a b ^^^ gN n a' b
  | 0, _, _, _, _, _ => by show 0 = 0 ^^^ 0; decide
  | n + 1, a, a', b, h, h' => by
    show (if b % 2 = 1 then a ^^^ a' else 0) ^^^ gN n (dblN (a ^^^ a')) (b / 2) = _
    rw [dblN_xor h h', gN_xl n _ (dblN_lt h) (dblN_lt h')]
    show _ = ((if b % 2 = 1 then a else 0) ^^^ gN n (dblN a) (b / 2)) ^^^ ((if b % 2 = 1 then a' else 0) ^^^ gN n (dblN a') (b / 2))
    rw [x4]
    split <;> simp
theorem gN_xr : ∀ (n : Nat) (a b b' : Nat), gN n a (b ^^^ b') = gN n a b ^^^ gN n a b'
  | 0, _, _, _ => by show 0 = 0 ^^^ 0; decide
  | n + 1, a, b, b' => by
    show (if (b ^^^ b') % 2 = 1 then a else 0) ^^^ gN n (dblN a) ((b ^^^ b') / 2) = ((if b % 2 = 1 then a else 0) ^^^ gN n (dblN a) (b / 2)) ^^^ ((if b' % 2 = 1 then a else 0) ^^^ gN n (dblN a) (b' / 2))
    rw [half_xor, gN_xr n, x4]
    congr 1
    have hm : (b ^^^ b') % 2 = (b % 2 + b' % 2) % 2 := by
      have := Nat.xor_mod_two_pow (a := b) (b := b') (n := 1)
      simp only [Nat.pow_one] at this
      rw [this]
      have e1 : b % 2 = 0 ∨ b % 2 = 1 := by omega
      have e2 : b' % 2 = 0 ∨ b' % 2 = 1 := by omega
      rcases e1 with e1 | e1 <;> rcases e2 with e2 | e2 <;> rw [e1, e2] <;> rfl
    rw [hm]
    have e1 : b % 2 = 0 ∨ b % 2 = 1 := by omega
    have e2 : b' % 2 = 0 ∨ b' % 2 = 1 := by omega
    rcases e1 with e1 | e1 <;> rcases e2 with e2 | e2 <;> rw [e1, e2] <;> simp
theorem dr {a : Nat} (b : Nat) (h : a < 256) : gm a b < 256 := gN_lt 8 b h
theorem gm_xl {a a' : Nat} (b : Nat) (h : a < 256) (h' : a' < 256) : gm (a ^^^ a') b = gm a b ^^^ gm a' b := gN_xl 8 b h h'
theorem gm_xr (a b b' : Nat) : gm a (b ^^^ b') = gm a b ^^^ gm a b' := gN_xr 8 a b b'
theorem bit_split : ∀ n, n < 8 → ∀ x, x < 256 → 2 ^ n ≤ x → x < 2 ^ (n + 1) → (x - 2 ^ n) ^^^ 2 ^ n = x := by decide +kernel
/-- Two additive functions of bytes that agree on the eight powers of two. -/
theorem ext_lin {f g : Nat → Nat} (hf : ∀ x y, x < 256 → y < 256 → f (x ^^^ y) = f x ^^^ f y) (hg : ∀ x y, x < 256 → y < 256 → g (x ^^^ y) = g x ^^^ g y) (h : ∀ i, i < 8 → f (2 ^ i) = g (2 ^ i)) : ∀ x, x < 256 → f x = g x := by
  have z : ∀ f : Nat → Nat, (∀ x y, x < 256 → y < 256 → f (x ^^^ y) = f x ^^^ f y) → f 0 = 0 := fun f hf => by
    have := hf 0 0 (by omega) (by omega)
    rw [Nat.xor_self] at this
    rw [this, Nat.xor_self]
  have key : ∀ n, n ≤ 8 → ∀ x, x < 2 ^ n → f x = g x := by
    intro n
    induction n with
    | zero => intro _ x hx; obtain rfl : x = 0 := by simpa using hx
              rw [z f hf, z g hg]
    | succ n ih =>
      intro hn x hx
      by_cases c : x < 2 ^ n
      · exact ih (by omega) x c
      · have h8 : 2 ^ (n + 1) ≤ 2 ^ 8 := Nat.pow_le_pow_right (by omega) hn
        have hx8 : x < 256 := by omega
        have e := bit_split n (by omega) x hx8 (by omega) hx
        have hp : 2 ^ n < 256 := by omega
        rw [← e, hf _ _ (by omega) hp, hg _ _ (by omega) hp, ih (by omega) (x - 2 ^ n) (by rw [Nat.pow_succ] at hx; omega), h n (by omega)]
  exact key 8 (Nat.le_refl _)
theorem pow_lt {i : Nat} (h : i < 8) : 2 ^ i < 256 := by
  have := Nat.pow_lt_pow_right (a := 2) (by omega) h
  omega
theorem dD {a b : Nat} (ha : a < 256) (hb : b < 256) : gm a b = gm b a := by
  refine ext_lin (f := fun a => gm a b) (g := fun a => gm b a) (fun x y hx hy => gm_xl b hx hy) (fun x y _ _ => gm_xr b x y) (fun i hi => ?_) a ha
  refine ext_lin (f := fun b => gm (2 ^ i) b) (g := fun b => gm b (2 ^ i)) (fun x y _ _ => gm_xr _ x y) (fun x y hx hy => gm_xl _ hx hy) (fun j hj => ?_) b hb
  have h : ∀ i, i < 8 → ∀ j, j < 8 → gm (2 ^ i) (2 ^ j) = gm (2 ^ j) (2 ^ i) := by decide +kernel
  exact h i hi j hj
theorem gm_assoc {a b c : Nat} (ha : a < 256) (hb : b < 256) (hc : c < 256) : gm (gm a b) c = gm a (gm b c) := by
  refine ext_lin (f := fun a => gm (gm a b) c) (g := fun a => gm a (gm b c)) (fun x y hx hy => by simp only [gm_xl b hx hy, gm_xl c (dr b hx) (dr b hy)]) (fun x y hx hy => gm_xl _ hx hy) (fun i hi => ?_) a ha
  refine ext_lin (f := fun b => gm (gm (2 ^ i) b) c) (g := fun b => gm (2 ^ i) (gm b c)) (fun x y hx hy => by simp only [gm_xr, gm_xl c (dr x (pow_lt hi)) (dr y (pow_lt hi))]) (fun x y hx hy => by simp only [gm_xl c hx hy, gm_xr]) (fun j hj => ?_) b hb
  refine ext_lin (f := fun c => gm (gm (2 ^ i) (2 ^ j)) c) (g := fun c => gm (2 ^ i) (gm (2 ^ j) c)) (fun x y _ _ => gm_xr _ x y) (fun x y _ _ => by simp only [gm_xr]) (fun k hk => ?_) c hc
  have h : ∀ i, i < 8 → ∀ j, j < 8 → ∀ k, k < 8 → gm (gm (2 ^ i) (2 ^ j)) (2 ^ k) = gm (2 ^ i) (gm (2 ^ j) (2 ^ k)) := by decide +kernel
  exact h i hi j hj k hk
theorem gm_one {a : Nat} (ha : a < 256) : gm 1 a = a := ext_lin (f := fun a => gm 1 a) (g := fun a => a) (fun x y _ _ => gm_xr _ x y) (fun _ _ _ _ => rfl) (by decide +kernel) a ha
theorem gm_dbl {a b : Nat} (ha : a < 256) (hb : b < 256) : gm (dblN a) b = dblN (gm a b) := by
  refine ext_lin (f := fun a => gm (dblN a) b) (g := fun a => dblN (gm a b)) (fun x y hx hy => by simp only [dblN_xor hx hy, gm_xl b (dblN_lt hx) (dblN_lt hy)]) (fun x y hx hy => by simp only [gm_xl b hx hy, dblN_xor (dr b hx) (dr b hy)]) (fun i hi => ?_) a ha
  refine ext_lin (f := fun b => gm (dblN (2 ^ i)) b) (g := fun b => dblN (gm (2 ^ i) b)) (fun x y _ _ => gm_xr _ x y) (fun x y hx hy => by simp only [gm_xr, dblN_xor (dr x (pow_lt hi)) (dr y (pow_lt hi))]) (fun j hj => ?_) b hb
  have h : ∀ i, i < 8 → ∀ j, j < 8 → gm (dblN (2 ^ i)) (2 ^ j) = dblN (gm (2 ^ i) (2 ^ j)) := by decide +kernel
  exact h i hi j hj
theorem dE (a : Nat) : gm a 0 = 0 := by
  have := gm_xr a 0 0
  rw [Nat.xor_self] at this
  rw [this, Nat.xor_self]
theorem gm_zl (b : Nat) : gm 0 b = 0 := by
  have := gm_xl b (show 0 < 256 by omega) (show 0 < 256 by omega)
  rw [Nat.xor_self] at this
  rw [this, Nat.xor_self]
end Go.Proofs.Ytffhbpepppodeaa.Field
