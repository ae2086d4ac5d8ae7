/-
  How a grid is brought into steps; for every world.
-/
import Derived.Test.YtffhbpepppodeaaGridFnExactJoinObject
namespace Go.Proofs.Ytffhbpepppodeaa.Reduce
open Go.RowKit Go.Proofs.YtffhbpepppodeaaW.PrintWords Go.Proofs.YtffhbpepppodeaaW.PrintLast Go.Proofs.YtffhbpepppodeaaW.PrintMore Go.Proofs.Ytffhbpepppodeaa.Hs Go.Proofs.Ytffhbpepppodeaa.Gf Go.Proofs.Ytffhbpepppodeaa.Grid
set_option linter.unusedVariables false
set_option linter.unusedSimpArgs false
abbrev Mat := Nat → Nat → Int
def sw (a b i : Nat) : Nat := if i = a then b else if i = b then a else i
def swM (M : Mat) (a b : Nat) : Mat := fun i j => M (sw a b i) j
theorem sw_r (a b : Nat) : sw a b b = a := by unfold sw; by_cases h : b = a <;> simp [h]
theorem sw_l (a b : Nat) : sw a b a = b := by unfold sw; simp
theorem sw_lt {a b i R : Nat} (ha : a < R) (hb : b < R) (hi : i < R) : sw a b i < R := by 
  unfold sw
  split
  · exact hb
  · split
    · exact ha
    · exact hi
theorem sw_sw (a b i : Nat) : sw a b (sw a b i) = i := by
  unfold sw; by_cases h1 : i = a
  · subst h1; by_cases h2 : b = i <;> simp [h2]
  · by_cases h2 : i = b
    · subst h2; simp [h1]
    · simp [h1, h2]
/-- The first row from a on whose cell in this column is not 0; n rows are left. -/
def piv (M : Mat) (col : Nat) : Nat → Nat → Option Nat
  | 0, _ => none
  | n + 1, a => if M a col = 0 then piv M col n (a + 1) else some a
/-- The rows below k cleared. -/
def clrS (C C2 rank col : Nat) (s : Mat × Mat) : Nat → Mat × Mat
  | 0 => s
  | k + 1 => if k ≠ rank ∧ (clrS C C2 rank col s k).1 k col ≠ 0 then (addK (clrS C C2 rank col s k).1 k rank ((clrS C C2 rank col s k).1 k col) C, addK (clrS C C2 rank col s k).2 k rank ((clrS C C2 rank col s k).1 k col) C2) else clrS C C2 rank col s k
def stpS (R C C2 col : Nat) (s : Nat × Mat × Mat) : Nat × Mat × Mat :=
  if s.1 < R then match piv s.2.1 col (R - s.1) s.1 with
    | none => s
    | some a => (s.1 + 1, clrS C C2 s.1 col (sclK (swM s.2.1 a s.1) s.1 (tinv (s.2.1 a col)) C, sclK (swM s.2.2 a s.1) s.1 (tinv (s.2.1 a col)) C2) R)
  else s
def redS (R C C2 : Nat) (s : Nat × Mat × Mat) : Nat → Nat × Mat × Mat
  | 0 => s
  | k + 1 => stpS R C C2 k (redS R C C2 s k)
theorem stpS_none {R C C2 col rk : Nat} {P Q : Mat} (h : rk < R) (hp : piv P col (R - rk) rk = none) : stpS R C C2 col (rk, P, Q) = (rk, P, Q) := by simp [stpS, h, hp]
theorem stpS_some {R C C2 col rk a : Nat} {P Q : Mat} (h : rk < R) (hp : piv P col (R - rk) rk = some a) : stpS R C C2 col (rk, P, Q) = (rk + 1, clrS C C2 rk col (sclK (swM P a rk) rk (tinv (P a col)) C, sclK (swM Q a rk) rk (tinv (P a col)) C2) R) := by simp [stpS, h, hp]
theorem stpS_full {R C C2 col rk : Nat} {P Q : Mat} (h : ¬ rk < R) : stpS R C C2 col (rk, P, Q) = (rk, P, Q) := by simp [stpS, h]
theorem redS_full {R C C2 rk k : Nat} {P Q : Mat} {s : Nat × Mat × Mat} (h : ¬ rk < R) (hs : redS R C C2 s k = (rk, P, Q)) : ∀ m, k ≤ m → redS R C C2 s m = (rk, P, Q) := by
  intro m hm
  induction m with
  | zero => obtain rfl : k = 0 := by omega
            exact hs
  | succ m ih =>
    by_cases e : k = m + 1
    · subst e; exact hs
    · show stpS R C C2 m (redS R C C2 s m) = _
      rw [ih (by omega), stpS_full h]
theorem piv_zero {P : Mat} {col n a : Nat} (h : P a col = 0) : piv P col (n + 1) a = piv P col n (a + 1) := by simp [piv, h]
theorem piv_hit {P : Mat} {col n a : Nat} (h : P a col ≠ 0) : piv P col (n + 1) a = some a := by simp [piv, h]
theorem clr_add {C C2 rk col k : Nat} {s : Mat × Mat} (h1 : k ≠ rk) (h2 : (clrS C C2 rk col s k).1 k col ≠ 0) : clrS C C2 rk col s (k + 1) = (addK (clrS C C2 rk col s k).1 k rk ((clrS C C2 rk col s k).1 k col) C, addK (clrS C C2 rk col s k).2 k rk ((clrS C C2 rk col s k).1 k col) C2) := by
  show (if _ then _ else _) = _
  rw [if_pos ⟨h1, h2⟩]
theorem clr_skip {C C2 rk col k : Nat} {s : Mat × Mat} (h : k = rk ∨ (clrS C C2 rk col s k).1 k col = 0) : clrS C C2 rk col s (k + 1) = clrS C C2 rk col s k := by
  show (if _ then _ else _) = _
  rw [if_neg (fun e => h.elim e.1 e.2)]
theorem ex_all : ∀ m : Nat, m < 512 → 0 ≤ ex m ∧ ex m ≤ 255 := by decide +kernel
theorem tmul_byte {a b : Int} (ha : 0 ≤ a ∧ a ≤ 255) (hb : 0 ≤ b ∧ b ≤ 255) : 0 ≤ tmul a b ∧ tmul a b ≤ 255 := by
  unfold tmul
  split
  · exact ⟨by decide, by decide⟩
  · have h1 := ec a (by omega)
    have h2 := ec b (by omega)
    exact ex_all _ (by omega)
theorem cw {a : Int} (ha : 0 ≤ a ∧ a ≤ 255) : 0 ≤ tinv a ∧ tinv a ≤ 255 := by
  unfold tinv
  split
  · exact ⟨by decide, by decide⟩
  · have h1 := ec a (by omega)
    exact ex_all _ (by omega)
theorem ee {M : Mat} (h : bD M) (a b : Nat) : bD (swM M a b) := fun i j => h _ _
theorem bytes_scl {M : Mat} (h : bD M) (row : Nat) {b : Int} (hb : 0 ≤ b ∧ b ≤ 255) (k : Nat) : bD (sclK M row b k) := fun i j => by
  unfold sclK; split
  · exact tmul_byte (h _ _) hb
  · exact h _ _
theorem xor_byte (a b : Int) : 0 ≤ Go.bits .xor .u8 a b ∧ Go.bits .xor .u8 a b ≤ 255 := by
  show 0 ≤ IntKind.u8.wrap _ ∧ IntKind.u8.wrap _ ≤ 255
  rw [IntKind.wrap_u8]; omega
theorem bytes_add {M : Mat} (h : bD M) (t f : Nat) (b : Int) (k : Nat) : bD (addK M t f b k) := fun i j => by
  unfold addK; split
  · exact xor_byte _ _
  · exact h _ _
theorem bytes_clr {C C2 rk col : Nat} {s : Mat × Mat} (h : bD s.1) (h2 : bD s.2) : ∀ k, bD (clrS C C2 rk col s k).1 ∧ bD (clrS C C2 rk col s k).2
  | 0 => ⟨h, h2⟩
  | k + 1 => by
    have ih := bytes_clr (C := C) (C2 := C2) (rk := rk) (col := col) h h2 k
    show bD (if _ then _ else _ : Mat × Mat).1 ∧ bD (if _ then _ else _ : Mat × Mat).2
    split
    · exact ⟨bytes_add ih.1 _ _ _ _, bytes_add ih.2 _ _ _ _⟩
    · exact ih
/-- Two rows changed about. -/
theorem swap_rows {rc : Array Value} {ga R C a b : Nat} {off cap : Nat → Nat} (hrc : ∀ i, i < R → rc[i]? = some (.slice (some ⟨ga, off i, none⟩) C (cap i)) ∧ C ≤ cap i ∧ cap i ≤ maxLen) (ha : a < R) (hb : b < R) :
    ∀ i, i < R → ((rc.setIfInBounds a (.slice (some ⟨ga, off b, none⟩) C (cap b))).setIfInBounds b (.slice (some ⟨ga, off a, none⟩) C (cap a)))[i]? = some (.slice (some ⟨ga, off (sw a b i), none⟩) C (cap (sw a b i))) ∧ C ≤ cap (sw a b i) ∧ cap (sw a b i) ≤ maxLen := by
  intro i hi
  refine ⟨?_, (hrc _ (sw_lt ha hb hi)).2⟩
  have la := (Array.getElem?_eq_some_iff.1 (hrc a ha).1).1
  have lb := (Array.getElem?_eq_some_iff.1 (hrc b hb).1).1
  by_cases e1 : i = b
  · subst e1
    rw [Array.getElem?_setIfInBounds_self_of_lt (by simpa using lb), sw_r]
  · rw [Array.getElem?_setIfInBounds_ne (Ne.symm e1)]
    by_cases e2 : i = a
    · subst e2
      rw [Array.getElem?_setIfInBounds_self_of_lt la, sw_l]
    · rw [Array.getElem?_setIfInBounds_ne (Ne.symm e2), (hrc i hi).1]
      unfold sw; rw [if_neg e2, if_neg e1]
theorem swap_mid {rc : Array Value} {ga R C a b : Nat} {off cap : Nat → Nat} (hrc : ∀ i, i < R → rc[i]? = some (.slice (some ⟨ga, off i, none⟩) C (cap i)) ∧ C ≤ cap i ∧ cap i ≤ maxLen) (ha : a < R) (hb : b < R) : (rc.setIfInBounds a (.slice (some ⟨ga, off b, none⟩) C (cap b)))[b]? = some (.slice (some ⟨ga, off b, none⟩) C (cap b)) := by
  have la := (Array.getElem?_eq_some_iff.1 (hrc a ha).1).1
  by_cases e : b = a
  · subst e; rw [Array.getElem?_setIfInBounds_self_of_lt la]
  · rw [Array.getElem?_setIfInBounds_ne (Ne.symm e), (hrc b hb).1]
theorem swap_grid {gt g gr ga cR R C a b : Nat} {rc dc : Array Value} {off cap : Nat → Nat} {M : Mat} (hRc : R ≤ cR) (hs : rc.size = cR) (hm : cR ≤ maxLen) (hrc : ∀ i, i < R → rc[i]? = some (.slice (some ⟨ga, off i, none⟩) C (cap i)) ∧ C ≤ cap i ∧ cap i ≤ maxLen) (hdc : ∀ i j, i < R → j < C → dc[off i + j]? = some (.int .u8 (M i j)))
    (hap : ∀ i j i' j', i < R → i' < R → j < C → j' < C → off i + j = off i' + j' → i = i' ∧ j = j') (ha : a < R) (hb : b < R) :
    GridB gt g R C (swM M a b) [(g, .cells #[.slice (some ⟨gr, 0, none⟩) R cR, .pointer (some ⟨gt, 0, none⟩)] 111 (0, 0)), (gr, .cells ((rc.setIfInBounds a (.slice (some ⟨ga, off b, none⟩) C (cap b))).setIfInBounds b (.slice (some ⟨ga, off a, none⟩) C (cap a))) 37 (0, 0)), (ga, .cells dc 5 (0, 0))] :=
  ⟨gr, ga, cR, _, dc, fun i => off (sw a b i), fun i => cap (sw a b i), rfl, hRc, by simp [hs], hm, swap_rows hrc ha hb, fun i j hi hj => hdc _ _ (sw_lt ha hb hi) hj, fun i j i' j' hi hi' hj hj' e => by
    obtain ⟨h1, h2⟩ := hap _ _ _ _ (sw_lt ha hb hi) (sw_lt ha hb hi') hj hj' e
    exact ⟨by rw [← sw_sw a b i, h1, sw_sw], h2⟩⟩
end Go.Proofs.Ytffhbpepppodeaa.Reduce
