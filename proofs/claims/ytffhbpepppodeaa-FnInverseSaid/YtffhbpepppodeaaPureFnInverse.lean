/-
  The plain law Inverse: a drawn square matrix has an inverse exactly if its rank is full, and that is its inverse on both sides; for all drawn bytes.
-/
import Derived.Test.YtffhbpepppodeaaPureSpecMat2FnInverse
import Derived.Test.YtffhbpepppodeaaGridMFnInverse
import Derived.Test.YtffhbpepppodeaaInvFnInverse
import Derived.Test.YtffhbpepppodeaaBytesFnInverse
namespace Go.Proofs.Ytffhbpepppodeaa.Pure
open Go.RowKit Go.Proofs.Ytffhbpepppodeaa.PFnInverse Go.Proofs.Ytffhbpepppodeaa.Base Go.Proofs.YtffhbpepppodeaaW.PrintWords Go.Proofs.YtffhbpepppodeaaW.PrintLast Go.Proofs.YtffhbpepppodeaaW.PrintMore
open Go.Proofs.Ytffhbpepppodeaa.Gf Go.Proofs.Ytffhbpepppodeaa.Reduce Go.Proofs.Ytffhbpepppodeaa.Grid Go.Proofs.Ytffhbpepppodeaa.Field Go.Proofs.Ytffhbpepppodeaa.Elim

def allB (l : List Int) : Prop := ∀ x ∈ l, 0 ≤ x ∧ x ≤ 255
theorem rd_nat (l : List Int) (i : Nat) : rd l (i : Int) = l.getD i 0 := by unfold rd; rw [Int.toNat_natCast]
theorem in_yes {x : Int} (h : 0 ≤ x ∧ x ≤ 255) : spec_l02In.f x 256 = some true := by
  unfold spec_l02In.f; rw [if_pos (by omega)]; exact congrArg some (decide_eq_true (by omega))
theorem in_no {x : Int} (h : ¬ (0 ≤ x ∧ x ≤ 255)) : spec_l02In.f x 256 = some false := by
  unfold spec_l02In.f
  by_cases c : x ≥ 0
  · rw [if_pos c]; exact congrArg some (decide_eq_false (by omega))
  · rw [if_neg c]
theorem is_yes {x : Int} (h : 0 ≤ x ∧ x ≤ 255) : impl_isByte.f x = some true := by
  unfold impl_isByte.f; rw [if_pos (by omega)]; exact congrArg some (decide_eq_true (by omega))
theorem is_no {x : Int} (h : ¬ (0 ≤ x ∧ x ≤ 255)) : impl_isByte.f x = some false := by
  unfold impl_isByte.f
  by_cases c : x ≥ 0
  · rw [if_pos c]; exact congrArg some (decide_eq_false (by omega))
  · rw [if_neg c]
theorem allB_of {l : List Int} (h : ∀ j, j < l.length → 0 ≤ l.getD j 0 ∧ l.getD j 0 ≤ 255) : allB l := fun x hx => by
  obtain ⟨j, hj, rfl⟩ := List.getElem_of_mem hx
  have := h j hj
  rw [List.getD_eq_getElem?_getD, List.getElem?_eq_getElem hj] at this
  exact this
open Classical in
theorem sfault_loop (a b : Int) (l : List Int) (hl : l.length ≤ 1048576) : ∀ (d i : Nat), i + d = l.length → (∀ j, j < i → 0 ≤ l.getD j 0 ∧ l.getD j 0 ≤ 255) → Ev (fun k => spec_MatrixFault.l0 k (i : Int) a b l) (if allB l then 0 else 1)
  | 0, i, hd, h => by
    rw [if_pos (allB_of fun j hj => h j (by omega))]
    exact Ev.step (fun k => by rw [spec_MatrixFault.l0, if_neg (by omega)]) (Ev.now _)
  | d + 1, i, hd, h => by
    refine Ev.step (fun k => by rw [spec_MatrixFault.l0, if_pos (by omega), if_pos (by omega)]) ?_
    rw [rd_nat]
    by_cases c : 0 ≤ l.getD i 0 ∧ l.getD i 0 ≤ 255
    · refine Ev.bind0 (in_yes c) (Ev.ifT rfl ?_)
      rw [w64 (by omega) (by omega)]
      exact sfault_loop a b l hl d (i + 1) (by omega) (fun j hj => by
        by_cases e : j = i
        · subst e; exact c
        · exact h j (by omega))
    · refine Ev.bind0 (in_no c) (Ev.ifF (by decide) ?_)
      rw [if_neg (fun hb => c (hb _ (getD_mem 0 (by omega))))]
      exact Ev.now _
open Classical in
theorem ifault_loop (l : List Int) (hl : l.length ≤ 1048576) : ∀ (d i : Nat), i + d = l.length → (∀ j, j < i → 0 ≤ l.getD j 0 ∧ l.getD j 0 ≤ 255) → Ev (fun k => impl_MatrixFault.l0 k l (l.length : Int) (i : Int)) (if allB l then 0 else 1)
  | 0, i, hd, h => by
    rw [if_pos (allB_of fun j hj => h j (by omega))]
    exact Ev.step (fun k => by rw [impl_MatrixFault.l0, if_neg (by omega)]) (Ev.now _)
  | d + 1, i, hd, h => by
    refine Ev.step (fun k => by rw [impl_MatrixFault.l0, if_pos (by omega), if_pos (by omega), if_pos (by omega)]) ?_
    rw [rd_nat]
    by_cases c : 0 ≤ l.getD i 0 ∧ l.getD i 0 ≤ 255
    · refine Ev.bind0 (is_yes c) (Ev.ifT rfl ?_)
      rw [w64 (by omega) (by omega)]
      exact ifault_loop l hl d (i + 1) (by omega) (fun j hj => by
        by_cases e : j = i
        · subst e; exact c
        · exact h j (by omega))
    · refine Ev.bind0 (is_no c) (Ev.ifF (by decide) ?_)
      rw [if_neg (fun hb => c (hb _ (getD_mem 0 (by omega))))]
      exact Ev.now _
theorem ab_nat {a b : Int} (h1 : 1 ≤ a) (h2 : a ≤ 64) (h3 : 1 ≤ b) (h4 : b ≤ 64) : wrap64 (a * b) = ((a.toNat * b.toNat : Nat) : Int) := by
  obtain ⟨A, rfl⟩ := Int.eq_ofNat_of_zero_le (show 0 ≤ a by omega)
  obtain ⟨B, rfl⟩ := Int.eq_ofNat_of_zero_le (show 0 ≤ b by omega)
  have h5 : A * B ≤ 64 * 64 := Nat.mul_le_mul (by omega) (by omega)
  rw [← Int.natCast_mul, w64 (by omega) (by omega)]; rfl
theorem sj_true (a b : Int) (l : List Int) : Ev (fun k => spec_MatrixFault.j0 k true a b l) 1 := Ev.step (fun k => by rw [spec_MatrixFault.j0, if_pos rfl]) (Ev.now _)
theorem ij_true (a b : Int) (l : List Int) : Ev (fun k => impl_MatrixFault.j0 k true a b l) 1 := Ev.step (fun k => by rw [impl_MatrixFault.j0, if_pos rfl]) (Ev.now _)
theorem sfault_f (a b : Int) (l : List Int) (hl : l.length ≤ 1048576) : Ev (fun k => spec_MatrixFault.f k a b l) (if Fit a b l then 0 else 1) := by
  classical
  unfold spec_MatrixFault.f
  by_cases h1 : a < 1
  · rw [if_neg (fun h => by have := h.1; omega)]; exact Ev.ifT h1 (sj_true a b l)
  refine Ev.ifF h1 ?_
  by_cases h2 : a > 64
  · rw [if_neg (fun h => by have := h.2.1; omega)]; exact Ev.ifT h2 (sj_true a b l)
  refine Ev.ifF h2 ?_
  by_cases h3 : b < 1
  · rw [if_neg (fun h => by have := h.2.2.1; omega)]; exact Ev.ifT h3 (sj_true a b l)
  refine Ev.ifF h3 ?_
  by_cases h4 : b > 64
  · rw [if_neg (fun h => by have := h.2.2.2.1; omega)]; exact Ev.ifT h4 (sj_true a b l)
  refine Ev.ifF h4 ?_
  rw [ab_nat (by omega) (by omega) (by omega) (by omega)]
  by_cases h5 : l.length = a.toNat * b.toNat
  · have e : ((l.length : Int) != ((a.toNat * b.toNat : Nat) : Int)) = false := by rw [h5]; simp
    rw [e]
    refine Ev.step (fun k => by rw [spec_MatrixFault.j0, if_neg (by decide)]) ?_
    have := sfault_loop a b l hl l.length 0 (by omega) (fun j hj => by omega)
    by_cases h6 : allB l
    · rw [if_pos h6] at this
      rw [if_pos ⟨by omega, by omega, by omega, by omega, h5, h6⟩]; exact this
    · rw [if_neg h6] at this
      rw [if_neg (fun h => h6 h.2.2.2.2.2)]; exact this
  · have e : ((l.length : Int) != ((a.toNat * b.toNat : Nat) : Int)) = true := bne_iff_ne.2 (fun h => h5 (Int.ofNat_inj.1 h))
    rw [e, if_neg (fun h => h5 h.2.2.2.2.1)]
    exact sj_true a b l
theorem ifault_f (a b : Int) (l : List Int) (hl : l.length ≤ 1048576) : Ev (fun k => impl_MatrixFault.f k a b l) (if Fit a b l then 0 else 1) := by
  classical
  unfold impl_MatrixFault.f
  by_cases h1 : a < 1
  · rw [if_neg (fun h => by have := h.1; omega)]; exact Ev.ifT h1 (ij_true a b l)
  refine Ev.ifF h1 ?_
  by_cases h2 : a > 64
  · rw [if_neg (fun h => by have := h.2.1; omega)]; exact Ev.ifT h2 (ij_true a b l)
  refine Ev.ifF h2 ?_
  by_cases h3 : b < 1
  · rw [if_neg (fun h => by have := h.2.2.1; omega)]; exact Ev.ifT h3 (ij_true a b l)
  refine Ev.ifF h3 ?_
  by_cases h4 : b > 64
  · rw [if_neg (fun h => by have := h.2.2.2.1; omega)]; exact Ev.ifT h4 (ij_true a b l)
  refine Ev.ifF h4 ?_
  rw [ab_nat (by omega) (by omega) (by omega) (by omega)]
  by_cases h5 : l.length = a.toNat * b.toNat
  · have e : ((l.length : Int) != ((a.toNat * b.toNat : Nat) : Int)) = false := by rw [h5]; simp
    rw [e]
    refine Ev.step (fun k => by rw [impl_MatrixFault.j0, if_neg (by decide)]) ?_
    have := ifault_loop l hl l.length 0 (by omega) (fun j hj => by omega)
    by_cases h6 : allB l
    · rw [if_pos h6] at this
      rw [if_pos ⟨by omega, by omega, by omega, by omega, h5, h6⟩]; exact this
    · rw [if_neg h6] at this
      rw [if_neg (fun h => h6 h.2.2.2.2.2)]; exact this
  · have e : ((l.length : Int) != ((a.toNat * b.toNat : Nat) : Int)) = true := bne_iff_ne.2 (fun h => h5 (Int.ofNat_inj.1 h))
    rw [e, if_neg (fun h => h5 h.2.2.2.2.1)]
    exact ij_true a b l

theorem rep_cells {R C : Nat} {P : MatN} {Q : Mat} (h : ∀ i j, i < R → j < C → Q i j = (P i j : Int)) : Rep R C (GridM.cellsK C Q (R * C)) P := by
  refine ⟨GridM.cellsK_len _ _ _, fun i j hi hj => ?_⟩
  have h1 := idx_lt hi hj
  have e1 : (i * C + j) / C = i := by rw [Nat.mul_comm, Nat.mul_add_div (by omega), Nat.div_eq_of_lt hj]; rfl
  have e2 : (i * C + j) % C = j := by rw [Nat.mul_comm, Nat.mul_add_mod, Nat.mod_eq_of_lt hj]
  rw [rd_nat, List.getD_eq_getElem?_getD]
  unfold GridM.cellsK
  rw [List.getElem?_map, List.getElem?_range h1]
  show Q ((i * C + j) / C) ((i * C + j) % C) = _
  rw [e1, e2, h i j hi hj]
theorem new_f {R C : Nat} (hR : R ≤ 64) (hC : C ≤ 128) : spec_l03New.f (R : Int) (C : Int) = some ((R : Int), (C : Int), List.replicate (R * C) 0) := by
  have h1 : R * C ≤ 64 * 128 := Nat.mul_le_mul hR hC
  unfold spec_l03New.f
  rw [← Int.natCast_mul, w64 (by omega) (by omega), if_pos (by omega), Int.toNat_natCast, if_pos (by omega)]
theorem rep_zero (R C : Nat) : Rep R C (List.replicate (R * C) 0) (fun _ _ => 0) := by
  refine ⟨List.length_replicate, fun i j hi hj => ?_⟩
  rw [rd_nat, List.getD_eq_getElem?_getD, List.getElem?_replicate, if_pos (idx_lt hi hj)]; rfl
theorem sp_idx {n i j : Nat} (hn : n ≤ 64) (hi : i < n) (hj : j ≤ n + n) : wrap64 ((wrap64 ((wrap64 ((i : Int) * 2)) * (n : Int))) + (j : Int)) = ((i * (n + n) + j : Nat) : Int) := by
  have h1 : i * n ≤ 64 * 64 := Nat.mul_le_mul (by omega) hn
  have e1 : wrap64 ((i : Int) * 2) = ((i * 2 : Nat) : Int) := by rw [w64 (by omega) (by omega)]; omega
  have e2 : i * 2 * n = i * (n + n) := by rw [Nat.mul_assoc, Nat.two_mul]
  have e3 : i * (n + n) = i * n + i * n := Nat.mul_add _ _ _
  rw [e1, ← Int.natCast_mul, e2, w64 (x := ((i * (n + n) : Nat) : Int)) (by omega) (by omega), w64 (by omega) (by omega)]
  omega
theorem sp_idx2 {n i : Nat} (hn : n ≤ 64) (hi : i < n) : wrap64 ((wrap64 ((wrap64 ((wrap64 ((i : Int) * 2)) * (n : Int))) + (n : Int))) + (i : Int)) = ((i * (n + n) + (n + i) : Nat) : Int) := by
  have h1 : i * n ≤ 64 * 64 := Nat.mul_le_mul (by omega) hn
  have e3 : i * (n + n) = i * n + i * n := Nat.mul_add _ _ _
  rw [sp_idx hn hi (by omega), w64 (by omega) (by omega)]
  omega
def stW (n : Nat) (M : MatN) (i0 j0 : Nat) : MatN := fun i j => if i < i0 then aug n M (fun a b => if a = b then 1 else 0) i j else if i = i0 ∧ j < j0 then M i j else 0
theorem sinv_row {n : Nat} {M : MatN} {l : List Int} (hn : n ≤ 64) (hM : Rep n n l M) {i : Nat} (hi : i < n) (r : Int × Int × Int × List Int)
    (K : ∀ w, Rep n (n + n) w (stW n M (i + 1) 0) → Ev (fun k => spec_MatInv.l0 k (n : Int) (wrap64 ((i : Int) + 1)) (n : Int) (n : Int) l (n : Int) ((n + n : Nat) : Int) w) r) :
    ∀ (d j : Nat) (w : List Int), j + d = n → Rep n (n + n) w (stW n M i j) → Ev (fun k => spec_MatInv.l1 k (n : Int) (i : Int) (j : Int) (n : Int) (n : Int) l (n : Int) ((n + n : Nat) : Int) w) r
  | 0, j, w, hd, h => by
    obtain rfl : j = n := by omega
    have h1 := idx_lt (C := j + j) hi (show j + i < j + j by omega)
    have h2 := h.1
    refine Ev.step (fun k => by rw [spec_MatInv.l1, if_neg (by omega)]) ?_
    rw [sp_idx2 hn hi]
    refine Ev.ifT (by omega) (Ev.ifT (by omega) ?_)
    rw [Int.toNat_natCast]
    refine K _ (rep_step (v := 1) h hi (show j + i < j + j by omega) fun a b ha hb => ?_)
    unfold stW upd aug
    dsimp only
    by_cases e : a = i ∧ b = j + i
    · obtain ⟨rfl, rfl⟩ := e
      rw [if_pos (by omega), if_neg (by omega), if_pos (by omega), if_pos ⟨rfl, rfl⟩]
    · rw [if_neg e]
      by_cases c : a < i
      · rw [if_pos (by omega), if_pos c]
      · rw [if_neg c]
        by_cases c2 : a = i
        · rw [if_pos (by omega)]
          by_cases c3 : b < j
          · rw [if_pos c3, if_pos ⟨c2, c3⟩]
          · rw [if_neg c3, if_neg (show ¬ a = b - j from fun x => e ⟨c2, by omega⟩), if_neg (show ¬ (a = i ∧ b < j) from fun x => c3 x.2)]
        · rw [if_neg (show ¬ a < i + 1 by omega), if_neg (show ¬ (a = i + 1 ∧ b < 0) by omega), if_neg (show ¬ (a = i ∧ b < j) from fun x => c2 x.1)]
  | d + 1, j, w, hd, h => by
    have h1 := idx_lt (C := n + n) hi (show j < n + n by omega)
    have h2 := h.1
    refine Ev.step (fun k => by rw [spec_MatInv.l1, if_pos (by omega)]) ?_
    refine Ev.bind0 (at_eq hM hn (by omega) hi (by omega)) ?_
    rw [sp_idx hn hi (by omega), w64 (x := (j : Int) + 1) (by omega) (by omega)]
    refine Ev.ifT (by omega) (Ev.ifT (by omega) ?_)
    rw [Int.toNat_natCast]
    refine sinv_row hn hM hi r K d (j + 1) _ (by omega) (rep_step h hi (show j < n + n by omega) fun a b ha hb => ?_)
    unfold stW upd
    dsimp only
    by_cases e : a = i ∧ b = j
    · obtain ⟨rfl, rfl⟩ := e
      rw [if_neg (by omega), if_pos ⟨rfl, by omega⟩, if_pos ⟨rfl, rfl⟩]
    · rw [if_neg e]
      by_cases c : a < i
      · rw [if_pos c, if_pos c]
      · rw [if_neg c, if_neg c]
        by_cases c2 : a = i ∧ b < j
        · rw [if_pos c2, if_pos ⟨c2.1, by omega⟩]
        · rw [if_neg c2, if_neg (fun x => e ⟨x.1, by have := x.2; have : ¬ b < j := fun y => c2 ⟨x.1, y⟩; omega⟩)]
theorem sinv_rows {n : Nat} {M : MatN} {l : List Int} (hn : n ≤ 64) (hM : Rep n n l M) (r : Int × Int × Int × List Int)
    (K : ∀ w, Rep n (n + n) w (aug n M (fun a b => if a = b then 1 else 0)) → Ev (fun k => spec_MatInv.l2 k (n : Int) 0 (n : Int) ((n + n : Nat) : Int) w) r) :
    ∀ (d i : Nat) (w : List Int), i + d = n → Rep n (n + n) w (stW n M i 0) → Ev (fun k => spec_MatInv.l0 k (n : Int) (i : Int) (n : Int) (n : Int) l (n : Int) ((n + n : Nat) : Int) w) r
  | 0, i, w, hd, h => by
    obtain rfl : i = n := by omega
    exact Ev.step (fun k => by rw [spec_MatInv.l0, if_neg (by omega)]) (K w (h.congr fun a b ha _ => by unfold stW; rw [if_pos ha]))
  | d + 1, i, w, hd, h => by
    refine Ev.step (fun k => by rw [spec_MatInv.l0, if_pos (by omega)]) ?_
    refine sinv_row hn hM (show i < n by omega) r (fun w2 h2 => ?_) n 0 w (by omega) h
    rw [w64 (by omega) (by omega)]
    exact sinv_rows hn hM r K d (i + 1) w2 (by omega) h2
theorem sinv_piv {n k a : Nat} {W : MatN} {w : List Int} (hn : n ≤ 64) (hk : k < n) (ha : a < n) (hz : ∀ i, k ≤ i → i < a → W i k = 0) (h0 : W a k ≠ 0) (h : Rep n (n + n) w W) (r : Int × Int × Int × List Int)
    (K : Ev (fun m => (spec_l03Swap.f m (n : Int) ((n + n : Nat) : Int) w (k : Int) (a : Int)).bind fun t174 => ((spec_l03Clear.f m (n : Int) ((n + n : Nat) : Int) t174 (k : Int) (k : Int)).bind fun t175 => (spec_MatInv.l2 m (n : Int) (wrap64 ((k : Int) + 1)) (n : Int) ((n + n : Nat) : Int) t175))) r) :
    ∀ (d i : Nat), i + d = a → k ≤ i → Ev (fun m => spec_MatInv.l3 m (n : Int) (k : Int) (i : Int) (n : Int) ((n + n : Nat) : Int) w) r
  | 0, i, hd, hi => by
    obtain rfl : i = a := by omega
    refine Ev.step (fun m => by rw [spec_MatInv.l3]) ?_
    exact Ev.bind0 (at_eq h hn (by omega) ha (by omega)) (Ev.ifF (by omega) K)
  | d + 1, i, hd, hi => by
    refine Ev.step (fun m => by rw [spec_MatInv.l3]) ?_
    refine Ev.bind0 (at_eq h hn (by omega) (by omega) (by omega)) (Ev.ifT (by rw [hz i hi (by omega)]; rfl) ?_)
    rw [w64 (by omega) (by omega)]
    exact sinv_piv hn hk ha hz h0 h r K d (i + 1) (by omega) (by omega)
theorem sinv_cols {n : Nat} {M : Mat} (hn : n ≤ 64) (hM : Bytes2 M) (hf : cnt (toN M) n n n = n) (r : Int × Int × Int × List Int)
    (K : ∀ w, Rep n (n + n) w (atK n M idM n) → Ev (fun m => (spec_l03New.f (n : Int) (n : Int)).bind fun bt176 => (spec_MatInv.l4 m (n : Int) 0 (n : Int) ((n + n : Nat) : Int) w bt176.1 bt176.2.1 bt176.2.2)) r) :
    ∀ (d k : Nat) (w : List Int), k + d = n → Rep n (n + n) w (atK n M idM k) → Ev (fun m => spec_MatInv.l2 m (n : Int) (k : Int) (n : Int) ((n + n : Nat) : Int) w) r
  | 0, k, w, hd, h => by
    obtain rfl : k = n := by omega
    exact Ev.step (fun m => by rw [spec_MatInv.l2, if_neg (by omega)]) (K w h)
  | d + 1, k, w, hd, h => by
    have hk : k < n := by omega
    obtain ⟨a, p1, p2, p3, p4, p5⟩ := red_next hM idM_byt hf k hk
    have hW : ByM (atK n M idM k) := atK_byt hM idM_byt k (by omega)
    obtain ⟨l1, l2, e1, e2, hl⟩ := step_ev hW hn (by omega) p2 hk (show k < n + n by omega) p4 h
    refine Ev.step (fun m => by rw [spec_MatInv.l2, if_pos (by omega)]) ?_
    refine sinv_piv hn hk p2 p3 p4 h r (Ev.bind e1 (Ev.bind e2 ?_)) (a - k) k (by omega) (Nat.le_refl _)
    rw [w64 (by omega) (by omega)]
    exact sinv_cols hn hM hf r K d (k + 1) l2 (by omega) (hl.congr fun i j hi hj => p5 i j hi hj)
theorem sout_row {n : Nat} {W : MatN} {w : List Int} (hn : n ≤ 64) (h : Rep n (n + n) w W) {i : Nat} (hi : i < n) (r : Int × Int × Int × List Int)
    (K : ∀ o, Rep n n o (fun a b => if a < i + 1 then W a (n + b) else 0) → Ev (fun k => spec_MatInv.l4 k (n : Int) (wrap64 ((i : Int) + 1)) (n : Int) ((n + n : Nat) : Int) w (n : Int) (n : Int) o) r) :
    ∀ (d j : Nat) (o : List Int), j + d = n → Rep n n o (fun a b => if a < i ∨ a = i ∧ b < j then W a (n + b) else 0) → Ev (fun k => spec_MatInv.l5 k (n : Int) (i : Int) (j : Int) (n : Int) ((n + n : Nat) : Int) w (n : Int) (n : Int) o) r
  | 0, j, o, hd, ho => by
    obtain rfl : j = n := by omega
    refine Ev.step (fun k => by rw [spec_MatInv.l5, if_neg (by omega)]) (K o (ho.congr fun a b ha hb => ?_))
    by_cases c : a < i + 1
    · rw [if_pos c, if_pos (by omega)]
    · rw [if_neg c, if_neg (by omega)]
  | d + 1, j, o, hd, ho => by
    have h1 := idx_lt (C := n) hi (show j < n by omega)
    have h2 := ho.1
    have e1 : wrap64 ((n : Int) + (j : Int)) = ((n + j : Nat) : Int) := by rw [w64 (by omega) (by omega)]; omega
    refine Ev.step (fun k => by rw [spec_MatInv.l5, if_pos (by omega), e1]) ?_
    refine Ev.bind0 (at_eq h hn (by omega) hi (show n + j < n + n by omega)) ?_
    rw [idx_eq (by omega) (by omega) (by omega), w64 (x := (j : Int) + 1) (by omega) (by omega)]
    refine Ev.ifT (by omega) (Ev.ifT (by omega) ?_)
    rw [Int.toNat_natCast]
    refine sout_row hn h hi r K d (j + 1) _ (by omega) (rep_step ho hi (show j < n by omega) fun a b ha hb => ?_)
    unfold upd
    dsimp only
    by_cases e : a = i ∧ b = j
    · obtain ⟨rfl, rfl⟩ := e
      rw [if_pos (by omega), if_pos ⟨rfl, rfl⟩]
    · rw [if_neg e]
      by_cases c : a < i ∨ a = i ∧ b < j
      · rw [if_pos c, if_pos (by omega)]
      · rw [if_neg c, if_neg (fun x => e (by omega))]
theorem sout_rows {n : Nat} {W : MatN} {w : List Int} (hn : n ≤ 64) (h : Rep n (n + n) w W) (r : List Int) (hr : Rep n n r (fun a b => W a (n + b))) :
    ∀ (d i : Nat) (o : List Int), i + d = n → Rep n n o (fun a b => if a < i then W a (n + b) else 0) → Ev (fun k => spec_MatInv.l4 k (n : Int) (i : Int) (n : Int) ((n + n : Nat) : Int) w (n : Int) (n : Int) o) (0, (n : Int), (n : Int), r)
  | 0, i, o, hd, ho => by
    obtain rfl : i = n := by omega
    have e : o = r := Rep.uniq (ho.congr fun a b ha hb => by rw [if_pos ha]) hr
    refine Ev.step (f := fun _ => some (0, (i : Int), (i : Int), o)) (fun k => by rw [spec_MatInv.l4, if_neg (by omega)]) ?_
    rw [e]; exact Ev.now _
  | d + 1, i, o, hd, ho => by
    refine Ev.step (fun k => by rw [spec_MatInv.l4, if_pos (by omega)]) ?_
    refine sout_row hn h (show i < n by omega) _ (fun o2 h2 => ?_) n 0 o (by omega) (ho.congr fun a b ha hb => ?_)
    · rw [w64 (by omega) (by omega)]
      exact sout_rows hn h r hr d (i + 1) o2 (by omega) h2
    · by_cases c : a < i
      · rw [if_pos c, if_pos (Or.inl c)]
      · rw [if_neg c, if_neg (by omega)]
/-- The reference's inverse is what the program reckons. -/
def invR (a b : Int) (l : List Int) : Int × Int × Int × List Int := if Fit a b l then (if a = b then invOf a.toNat l else (1, 0, 0, [])) else (1, 0, 0, [])
theorem sinv_r (a b : Int) (l : List Int) (hl : l.length ≤ 1048576) : Ev (fun k => spec_MatInv.f k a b l) (invR a b l) ∧ Ev (fun k => impl_MatInv.f k a b l) (invR a b l) ∧ (invR a b l).2.2.2.length ≤ 4096 := by
  unfold invR
  by_cases h : Fit a b l
  · have h' := h
    obtain ⟨f1, f2, f3, f4, f5, f6⟩ := h
    have hfs := sfault_f a b l hl
    have hfi := ifault_f a b l hl
    rw [if_pos h'] at hfs hfi
    rw [if_pos h']
    by_cases hab : a = b
    · rw [if_pos hab]
      subst hab
      obtain ⟨n, rfl⟩ := Int.eq_ofNat_of_zero_le (show 0 ≤ a by omega)
      simp only [Int.toNat_natCast] at f5
      have hn : n ≤ 64 := by omega
      have hby : Bytes2 (fun i j => l.getD (i * n + j) 0) := fun i j => by
        show 0 ≤ l.getD _ 0 ∧ l.getD _ 0 ≤ 255
        rw [List.getD_eq_getElem?_getD]
        by_cases hx : i * n + j < l.length
        · rw [List.getElem?_eq_getElem hx]; exact f6 _ (List.getElem_mem hx)
        · rw [List.getElem?_eq_none (by omega)]; exact ⟨by decide, by decide⟩
      have hrep : Rep n n l (toN fun i j => l.getD (i * n + j) 0) := ⟨f5, fun i j _ _ => by
        rw [rd_nat]
        have : 0 ≤ l.getD (i * n + j) 0 := (hby i j).1
        show l.getD (i * n + j) 0 = ((l.getD (i * n + j) 0).toNat : Int)
        omega⟩
      have hrk : (redS n n n (0, fun i j => l.getD (i * n + j) 0, idM) n).1 = cnt (toN fun i j => l.getD (i * n + j) 0) n n n := redS_rank hby idM_byt
      have hle := cnt_le (toN fun i j => l.getD (i * n + j) 0) n n n
      have hs : Ev (fun k => spec_MatInv.f k (n : Int) (n : Int) l) (invOf n l) := by
        unfold spec_MatInv.f
        refine Ev.bind hfs (Ev.ifT rfl ?_)
        refine Ev.step (fun k => by rw [spec_MatInv.j0, if_neg (by simp)]) ?_
        refine Ev.bind (rank_f (toN_byt hby) hn (by omega) hrep) ?_
        unfold invOf
        rw [hrk]
        by_cases c : cnt (toN fun i j => l.getD (i * n + j) 0) n n n < n
        · rw [if_pos c]; exact Ev.ifT (by omega) (Ev.now _)
        · rw [if_neg c]
          refine Ev.ifF (by omega) ?_
          have hf : cnt (toN fun i j => l.getD (i * n + j) 0) n n n = n := by omega
          have e2 : wrap64 (2 * (n : Int)) = ((n + n : Nat) : Int) := by rw [w64 (by omega) (by omega)]; omega
          rw [e2]
          refine Ev.bind0 (new_f hn (by omega)) ?_
          refine sinv_rows hn hrep _ (fun w hw => ?_) n 0 _ (by omega) ((rep_zero n (n + n)).congr fun i j _ _ => by unfold stW; rw [if_neg (by omega), if_neg (by omega)])
          refine sinv_cols hn hby hf _ (fun w2 hw2 => ?_) n 0 w (by omega) (hw.congr fun i j hi hj => by
            show aug n _ (toN idM) i j = _
            unfold aug
            by_cases c2 : j < n
            · rw [if_pos c2, if_pos c2]; rfl
            · rw [if_neg c2, if_neg c2, idM_N])
          refine Ev.bind0 (new_f hn (by omega)) ?_
          refine sout_rows hn hw2 _ (rep_cells fun i j hi hj => ?_) n 0 _ (by omega) ((rep_zero n n).congr fun i j _ _ => by rw [if_neg (by omega)])
          have hb2 := (redS_good (R := n) (C := n) (C2 := n) hby idM_byt n (Nat.le_refl _)).2.2
          show _ = ((atK n _ idM n i (n + j) : Nat) : Int)
          unfold atK aug
          rw [if_neg (by omega), Nat.add_sub_cancel_left]
          have := hb2 i j
          show _ = ((Int.toNat _ : Nat) : Int)
          omega
      rw [Int.toNat_natCast]
      refine ⟨hs, ?_, ?_⟩
      · unfold impl_MatInv.f
        refine Ev.bind hfi (Ev.ifT rfl (Ev.ifT rfl (Ev.ifT h' ?_)))
        rw [Int.toNat_natCast]
        exact Ev.now _
      · unfold invOf
        split
        · exact Nat.zero_le _
        · rw [GridM.cellsK_len]; exact Nat.mul_le_mul hn hn
    · rw [if_neg hab]
      refine ⟨?_, ?_, Nat.zero_le _⟩
      · unfold spec_MatInv.f
        refine Ev.bind hfs (Ev.ifT rfl ?_)
        have : (a != b) = true := by simpa using hab
        rw [this]
        exact Ev.step (fun k => by rw [spec_MatInv.j0, if_pos rfl]) (Ev.now _)
      · unfold impl_MatInv.f
        exact Ev.bind hfi (Ev.ifT rfl (Ev.ifF hab (Ev.now _)))
  · have hfs := sfault_f a b l hl
    have hfi := ifault_f a b l hl
    rw [if_neg h] at hfs hfi ⊢
    refine ⟨?_, ?_, Nat.zero_le _⟩
    · unfold spec_MatInv.f
      exact Ev.bind hfs (Ev.ifF (by decide) (Ev.step (fun k => by rw [spec_MatInv.j0, if_pos rfl]) (Ev.now _)))
    · unfold impl_MatInv.f
      exact Ev.bind hfi (Ev.ifF (by decide) (Ev.now _))
theorem sinv_f (a b : Int) (l : List Int) (hl : l.length ≤ 1048576) : ∃ r, Ev (fun k => spec_MatInv.f k a b l) r ∧ Ev (fun k => impl_MatInv.f k a b l) r ∧ r.2.2.2.length ≤ 4096 := ⟨_, sinv_r a b l hl⟩

theorem n_tot {l : List Int} (hl : Bytes l) (hn : l.length ≤ 1048576) (at_ sz a : Int) (h0 : 0 ≤ at_) (h1 : at_ ≤ 1099511627776) (ha : a ≤ 4611686018427387904) :
    ∃ v, spec_l01Src_n.f l at_ sz a = some (v, at_ + 1, sz) ∧ 0 ≤ v ∧ (1 ≤ a → v < a) ∧ (a < 1 → v = 0) := by
  have e1 : wrap64 (at_ + 1) = at_ + 1 := w64 (by omega) (by omega)
  have e2 : wrap64 ((at_ + 1) - 1) = at_ := by rw [show at_ + 1 - 1 = at_ by omega]; exact w64 (by omega) (by omega)
  unfold spec_l01Src_n.f
  simp only [e1, e2]
  by_cases c1 : a < 1
  · rw [if_pos c1]; exact ⟨0, rfl, by omega, by omega, by omega⟩
  rw [if_neg c1]
  have hmod : ∀ y : Int, 0 ≤ y → 0 ≤ Int.tmod y a ∧ Int.tmod y a < a := fun y hy => by
    rw [Int.tmod_eq_emod_of_nonneg hy]; exact ⟨Int.emod_nonneg _ (by omega), Int.emod_lt_of_pos _ (by omega)⟩
  by_cases c2 : (l.length : Int) = 0
  · rw [if_pos c2, if_neg (by omega)]
    rw [w64 (x := at_ * 7) (by omega) (by omega)]
    have := hmod (at_ * 7) (by omega)
    exact ⟨_, rfl, this.1, fun _ => this.2, by omega⟩
  rw [if_neg c2]
  have hk : (0 : Int) < l.length := by omega
  have m1 : 0 ≤ Int.tmod at_ l.length ∧ Int.tmod at_ l.length < l.length := by
    rw [Int.tmod_eq_emod_of_nonneg h0]; exact ⟨Int.emod_nonneg _ (by omega), Int.emod_lt_of_pos _ hk⟩
  have q1 : 0 ≤ Int.tdiv at_ l.length ∧ Int.tdiv at_ l.length ≤ at_ := by
    rw [Int.tdiv_eq_ediv_of_nonneg h0]; exact ⟨Int.ediv_nonneg h0 (by omega), Int.ediv_le_self _ h0⟩
  rw [if_pos m1.1, if_pos m1.2]
  have b1 := hl.rd (Int.tmod at_ l.length)
  generalize rd l (Int.tmod at_ l.length) = x1 at *
  generalize Int.tdiv at_ l.length = y1 at *
  rw [w64 (x := x1) (by omega) (by omega), w64 (x := y1) (by omega) (by omega), w64 (x := y1 * 37) (by omega) (by omega), w64 (x := x1 + y1 * 37) (by omega) (by omega)]
  by_cases c3 : a > 200
  · rw [if_pos c3]
    have m2 : 0 ≤ Int.tmod (at_ + 1) l.length ∧ Int.tmod (at_ + 1) l.length < l.length := by
      rw [Int.tmod_eq_emod_of_nonneg (by omega)]; exact ⟨Int.emod_nonneg _ (by omega), Int.emod_lt_of_pos _ hk⟩
    rw [e1] at *
    rw [if_pos m2.1, if_pos m2.2, if_neg (by omega)]
    have b2 := hl.rd (Int.tmod (at_ + 1) l.length)
    generalize rd l (Int.tmod (at_ + 1) l.length) = x2 at *
    rw [w64 (x := x2) (by omega) (by omega), w64 (x := x2 * 13) (by omega) (by omega), w64 (x := (x1 + y1 * 37) * 251) (by omega) (by omega), w64 (x := (x1 + y1 * 37) * 251 + x2 * 13) (by omega) (by omega), w64 (x := (x1 + y1 * 37) * 251 + x2 * 13 + at_) (by omega) (by omega)]
    have := hmod ((x1 + y1 * 37) * 251 + x2 * 13 + at_) (by omega)
    exact ⟨_, rfl, this.1, fun _ => this.2, by omega⟩
  · rw [if_neg c3, if_neg (by omega)]
    have := hmod (x1 + y1 * 37) (by omega)
    exact ⟨_, rfl, this.1, fun _ => this.2, by omega⟩
theorem one_tot {l : List Int} (hl : Bytes l) (hn : l.length ≤ 1048576) (at_ sz a : Int) (h0 : 0 ≤ at_) (h1 : at_ ≤ 1099511627776) (ha : a ≤ 4611686018427387904) :
    ∃ b, spec_l01Src_one.f l at_ sz a = some (b, at_ + 1, sz) := by
  obtain ⟨v, hv, _⟩ := n_tot hl hn at_ sz a h0 h1 ha
  exact ⟨_, by unfold spec_l01Src_one.f; rw [hv]; rfl⟩
theorem source_tot {l : List Int} (hn : l.length ≤ 1048576) : ∃ sz, spec_l01Source.f l = some (l, 0, sz) ∧ 0 ≤ sz ∧ sz ≤ 12 := by
  unfold spec_l01Source.f
  rw [w64 (by omega) (by omega)]
  split
  · exact ⟨12, rfl, by omega, by omega⟩
  · exact ⟨_, rfl, by omega, by omega⟩

theorem mat_loop1 {l : List Int} (hl : Bytes l) (hn : l.length ≤ 1048576) (sz : Int) {n : Nat} (h1 : 1 ≤ n) (hn2 : n ≤ 64) (g : Nat) (hg : g < 256) : ∀ (d j : Nat) (at_ : Int) (c : List Int), j + d = n → c.length = n * n → (∀ x ∈ c, 0 ≤ x ∧ x ≤ 255) →
    ∃ c', Ev (fun k => spec_l01Src_matrix.l1 k (n : Int) (n : Int) (g : Int) (j : Int) l at_ sz (n : Int) (n : Int) c) ((n : Int), (n : Int), c', at_, sz) ∧ c'.length = n * n
  | 0, j, at_, c, hd, hc, hb => ⟨c, by
      refine Ev.step (f := fun _ => some ((n : Int), (n : Int), c, at_, sz)) (fun k => by rw [spec_l01Src_matrix.l1, if_neg (by omega)]) (Ev.now _), hc⟩
  | d + 1, j, at_, c, hd, hc, hb => by
    have hq : n ≤ n * n := Nat.le_mul_of_pos_left n (by omega)
    have hq2 : n * n ≤ 64 * 64 := Nat.mul_le_mul hn2 hn2
    have hi : (n - 1) * n + j < n * n := idx_lt (show n - 1 < n by omega) (show j < n by omega)
    have hx := hb (c.getD j 0) (getD_mem 0 (by omega))
    obtain ⟨x, hx2⟩ := Int.eq_ofNat_of_zero_le hx.1
    obtain ⟨c', ev, h2⟩ := mat_loop1 hl hn sz h1 hn2 g hg d (j + 1) at_ (c.set ((n - 1) * n + j) ((gm g x : Nat) : Int)) (by omega) (by rw [List.length_set]; exact hc) (fun y hy => by
      rcases List.mem_or_eq_of_mem_set hy with hy | rfl
      · exact hb y hy
      · have := gm_lt x hg; omega)
    refine ⟨c', ?_, h2⟩
    refine Ev.step (fun k => by rw [spec_l01Src_matrix.l1, if_pos (by omega), if_pos (by omega), if_pos (by omega)]) ?_
    have e0 : rd c (j : Int) = (x : Int) := by rw [rd_nat]; exact hx2
    rw [e0]
    refine Ev.bind (spec_mul g x hg (by omega)) ?_
    have e1 : wrap64 ((n : Int) - 1) = ((n - 1 : Nat) : Int) := by rw [w64 (by omega) (by omega)]; omega
    rw [e1, idx_eq (by omega) (by omega) (by omega), w64 (x := (j : Int) + 1) (by omega) (by omega)]
    refine Ev.ifT (by omega) (Ev.ifT (by omega) ?_)
    rw [Int.toNat_natCast]
    exact ev
theorem mat_end {l : List Int} (hl : Bytes l) (hn : l.length ≤ 1048576) (sz : Int) {n : Nat} (h1 : 1 ≤ n) (hn2 : n ≤ 64) (b : Bool) (at_ : Int) (h0 : 0 ≤ at_) (ha : at_ ≤ 1099511627776) (c : List Int) (hc : c.length = n * n) (hb : ∀ x ∈ c, 0 ≤ x ∧ x ≤ 255) :
    ∃ c' at2, Ev (fun k => spec_l01Src_matrix.j1 k (n : Int) (n : Int) b l at_ sz (n : Int) (n : Int) c) ((n : Int), (n : Int), c', at2, sz) ∧ c'.length = n * n ∧ 0 ≤ at2 ∧ at2 ≤ at_ + 1 := by
  cases b with
  | false => exact ⟨c, at_, Ev.step (f := fun _ => some ((n : Int), (n : Int), c, at_, sz)) (fun k => by rw [spec_l01Src_matrix.j1, if_neg (by decide)]) (Ev.now _), hc, h0, by omega⟩
  | true =>
    obtain ⟨v, hv, v0, v1, _⟩ := n_tot hl hn at_ sz 256 h0 ha (by omega)
    obtain ⟨g, rfl⟩ := Int.eq_ofNat_of_zero_le v0
    obtain ⟨c', ev, h2⟩ := mat_loop1 hl hn sz h1 hn2 g (by have := v1 (by omega); omega) n 0 (at_ + 1) c (by omega) hc hb
    refine ⟨c', at_ + 1, ?_, h2, by omega, by omega⟩
    refine Ev.step (fun k => by rw [spec_l01Src_matrix.j1, if_pos rfl]) ?_
    exact Ev.bind0 hv ev
theorem mat_loop0 {l : List Int} (hl : Bytes l) (hn : l.length ≤ 1048576) (sz : Int) {n : Nat} (h1 : 1 ≤ n) (hn2 : n ≤ 64) (kind : Int) : ∀ (d i : Nat) (at_ : Int) (c : List Int), i + d = n * n → 0 ≤ at_ → at_ ≤ 3 * i + 100 → c.length = n * n → (∀ x ∈ c, 0 ≤ x ∧ x ≤ 255) →
    ∃ c' at2, Ev (fun k => spec_l01Src_matrix.l0 k (n : Int) (n : Int) kind (i : Int) l at_ sz (n : Int) (n : Int) c) ((n : Int), (n : Int), c', at2, sz) ∧ c'.length = n * n ∧ 0 ≤ at2 ∧ at2 ≤ 100000
  | 0, i, at_, c, hd, h0, ha, hc, hb => by
    have hq2 : n * n ≤ 64 * 64 := Nat.mul_le_mul hn2 hn2
    by_cases e : kind = 2
    · obtain ⟨c', at2, ev, q1, q2, q3⟩ := mat_end hl hn sz h1 hn2 (decide ((n : Int) > 1)) at_ h0 (by omega) c hc hb
      exact ⟨c', at2, Ev.step (fun k => by rw [spec_l01Src_matrix.l0, if_neg (by omega), if_pos e]) ev, q1, q2, by omega⟩
    · obtain ⟨c', at2, ev, q1, q2, q3⟩ := mat_end hl hn sz h1 hn2 false at_ h0 (by omega) c hc hb
      exact ⟨c', at2, Ev.step (fun k => by rw [spec_l01Src_matrix.l0, if_neg (by omega), if_neg e]) ev, q1, q2, by omega⟩
  | d + 1, i, at_, c, hd, h0, ha, hc, hb => by
    have hq2 : n * n ≤ 64 * 64 := Nat.mul_le_mul hn2 hn2
    have hset : ∀ (c : List Int) (v : Int), (∀ x ∈ c, 0 ≤ x ∧ x ≤ 255) → 0 ≤ v → v ≤ 255 → ∀ x ∈ c.set i v, 0 ≤ x ∧ x ≤ 255 := fun c v hb v0 v1 x hx => by
      rcases List.mem_or_eq_of_mem_set hx with hx | rfl
      · exact hb x hx
      · exact ⟨v0, v1⟩
    obtain ⟨v, hv, v0, v1, _⟩ := n_tot hl hn at_ sz 256 h0 (by omega) (by omega)
    have v2 := v1 (by omega)
    have es : wrap64 ((i : Int) + 1) = ((i + 1 : Nat) : Int) := by rw [w64 (by omega) (by omega)]; omega
    have b1 := hset c v hb v0 (by omega)
    have l1 : (c.set i v).length = n * n := by rw [List.length_set]; exact hc
    by_cases e0 : kind = 0
    · obtain ⟨u, hu, u0, u1, _⟩ := n_tot hl hn (at_ + 1) sz 2 (by omega) (by omega) (by omega)
      have u2 := u1 (by omega)
      have b2 := hset (c.set i v) u b1 u0 (by omega)
      obtain ⟨c', at2, ev, q1, q2, q3⟩ := mat_loop0 hl hn sz h1 hn2 kind d (i + 1) (at_ + 1 + 1) ((c.set i v).set i u) (by omega) (by omega) (by omega) (by rw [List.length_set]; exact l1) b2
      refine ⟨c', at2, ?_, q1, q2, q3⟩
      refine Ev.step (fun k => by rw [spec_l01Src_matrix.l0, if_pos (by omega)]) ?_
      refine Ev.bind0 hv (Ev.ifT (by omega) (Ev.bind0 rfl (Ev.ifT e0 (Ev.bind0 hu (Ev.bind0 rfl (Ev.ifF (by omega) ?_))))))
      rw [es]; simp only [Int.toNat_natCast]; exact ev
    · by_cases e1 : kind = 1
      · obtain ⟨b, hbq⟩ := one_tot hl hn (at_ + 1) sz 2 (by omega) (by omega) (by omega)
        cases b with
        | true =>
          obtain ⟨c', at2, ev, q1, q2, q3⟩ := mat_loop0 hl hn sz h1 hn2 kind d (i + 1) (at_ + 1 + 1) ((c.set i v).set i 0) (by omega) (by omega) (by omega) (by rw [List.length_set]; exact l1) (hset _ 0 b1 (by omega) (by omega))
          refine ⟨c', at2, ?_, q1, q2, q3⟩
          refine Ev.step (fun k => by rw [spec_l01Src_matrix.l0, if_pos (by omega)]) ?_
          refine Ev.bind0 hv (Ev.ifT (by omega) (Ev.bind0 rfl (Ev.ifF e0 (Ev.ifT e1 (Ev.bind0 hbq (Ev.ifT rfl ?_))))))
          rw [es]; simp only [Int.toNat_natCast]; exact ev
        | false =>
          obtain ⟨c', at2, ev, q1, q2, q3⟩ := mat_loop0 hl hn sz h1 hn2 kind d (i + 1) (at_ + 1 + 1) (c.set i v) (by omega) (by omega) (by omega) l1 b1
          refine ⟨c', at2, ?_, q1, q2, q3⟩
          refine Ev.step (fun k => by rw [spec_l01Src_matrix.l0, if_pos (by omega)]) ?_
          refine Ev.bind0 hv (Ev.ifT (by omega) (Ev.bind0 rfl (Ev.ifF e0 (Ev.ifT e1 (Ev.bind0 hbq (Ev.ifF Bool.false_ne_true ?_))))))
          rw [es]; simp only [Int.toNat_natCast]; exact ev
      · obtain ⟨c', at2, ev, q1, q2, q3⟩ := mat_loop0 hl hn sz h1 hn2 kind d (i + 1) (at_ + 1) (c.set i v) (by omega) (by omega) (by omega) l1 b1
        refine ⟨c', at2, ?_, q1, q2, q3⟩
        refine Ev.step (fun k => by rw [spec_l01Src_matrix.l0, if_pos (by omega)]) ?_
        refine Ev.bind0 hv (Ev.ifT (by omega) (Ev.bind0 rfl (Ev.ifF e0 (Ev.ifF e1 ?_))))
        rw [es]; simp only [Int.toNat_natCast]; exact ev
/-- A drawn square matrix is some short list. -/
theorem drawInv_tot {l : List Int} (hl : Bytes l) (hn : l.length ≤ 1048576) : ∃ a b c, Ev (fun k => spec_DrawMatInv.f k l) (a, b, c) ∧ c.length ≤ 100 := by
  obtain ⟨sz, hs, _⟩ := source_tot hn
  obtain ⟨v, hv, v0, v1, _⟩ := n_tot hl hn 0 sz 5 (by omega) (by omega) (by omega)
  have v2 := v1 (by omega)
  obtain ⟨m, rfl⟩ := Int.eq_ofNat_of_zero_le v0
  have e1 : wrap64 (1 + (m : Int)) = ((m + 1 : Nat) : Int) := by rw [w64 (by omega) (by omega)]; omega
  obtain ⟨n, hnm⟩ : ∃ n, n = m + 1 := ⟨_, rfl⟩
  rw [← hnm] at e1
  have hsq : n * n ≤ 5 * 5 := Nat.mul_le_mul (by omega) (by omega)
  obtain ⟨kd, hk, k0, _⟩ := n_tot hl hn (0 + 1) sz 4 (by omega) (by omega) (by omega)
  obtain ⟨c, at2, ev, q1, q2, q3⟩ := mat_loop0 hl hn sz (show 1 ≤ n by omega) (show n ≤ 64 by omega) kd (n * n) 0 (0 + 1 + 1) (List.replicate (n * n) 0) (by omega) (by omega) (by omega) List.length_replicate (fun x hx => by rw [(List.mem_replicate.1 hx).2]; omega)
  have hmat : Ev (fun k => spec_l01Src_matrix.f k l (0 + 1) sz (wrap64 (1 + (m : Int))) (wrap64 (1 + (m : Int)))) ((n : Int), (n : Int), c, at2, sz) := by
    unfold spec_l01Src_matrix.f
    rw [e1]
    exact Ev.bind0 (new_f (by omega) (by omega)) (Ev.bind0 hk ev)
  obtain ⟨b, hb⟩ := one_tot hl hn at2 sz 8 q2 (by omega) (by omega)
  unfold spec_DrawMatInv.f
  cases b with
  | false => exact ⟨_, _, c, Ev.bind0 hs (Ev.bind0 hv (Ev.bind hmat (Ev.bind0 hb (Ev.ifF Bool.false_ne_true (Ev.now _))))), by omega⟩
  | true =>
    have hsp : ∃ a b c2 x y, spec_l01Src_spoilMatrix.f l (at2 + 1) sz (n : Int) (n : Int) c = some (a, b, c2, x, y) ∧ c2.length = c.length := by
      obtain ⟨u, hu, u0, u1, _⟩ := n_tot hl hn (at2 + 1) sz 10 (by omega) (by omega) (by omega)
      unfold spec_l01Src_spoilMatrix.f
      rw [hu, Option.bind_some]
      by_cases c0 : u = 0
      · rw [if_pos c0]; exact ⟨_, _, _, _, _, rfl, rfl⟩
      · rw [if_neg c0]
        by_cases c1 : u = 1
        · rw [if_pos c1, Option.bind_some]
          obtain ⟨t, ht, t0, t1, _⟩ := n_tot hl hn (at2 + 1 + 1) sz 2 (by omega) (by omega) (by omega)
          have t2 := t1 (by omega)
          rw [ht, Option.bind_some, if_pos t0, if_pos (by show t < ((2 : Nat) : Int); omega), if_pos (by have : 1 ≤ n * n := Nat.mul_pos (by omega) (by omega); omega)]
          exact ⟨_, _, _, _, _, rfl, by rw [List.length_set]⟩
        · rw [if_neg c1]
          by_cases c2 : u = 2
          · rw [if_pos c2]; exact ⟨_, _, _, _, _, rfl, rfl⟩
          · rw [if_neg c2]; exact ⟨_, _, _, _, _, rfl, rfl⟩
    obtain ⟨a, b, c2, x, y, h1, h2⟩ := hsp
    exact ⟨a, b, c2, Ev.bind0 hs (Ev.bind0 hv (Ev.bind hmat (Ev.bind0 hb (Ev.ifT rfl (Ev.bind0 h1 (Ev.now _)))))), by omega⟩

theorem psum_dot {M N : Mat} (hM : Bytes2 M) (hN : Bytes2 N) (a b : Nat) : ∀ D, psum M N a b D = ((sumN (fun l => gm (toN M a l) (toN N l b)) D : Nat) : Int)
  | 0 => rfl
  | D + 1 => by
    show Go.bits .xor .u8 (psum M N a b D) (tmul (M a D) (N D b)) = _
    have h1 := sumN_lt (f := fun l => gm (toN M a l) (toN N l b)) (fun l => gm_lt _ (toN_byt hM a l)) D
    have h2 := gm_lt (toN N D b) (toN_byt hM a D)
    rw [psum_dot hM hN a b D, tmul_gm (hM a D) (hN D b), xor8 ⟨by omega, by omega⟩ ⟨by omega, by show ((gm (toN M a D) (toN N D b) : Nat) : Int) ≤ 255; omega⟩]
    simp only [Int.toNat_natCast]
    rfl
def unitN : MatN := fun i j => if i = j then 1 else 0
theorem cells_getD {C R : Nat} (Q : Mat) {a b : Nat} (ha : a < R) (hb : b < C) : (GridM.cellsK C Q (R * C)).getD (a * C + b) 0 = Q a b := by
  have h1 := idx_lt ha hb
  have e1 : (a * C + b) / C = a := by rw [Nat.mul_comm, Nat.mul_add_div (by omega), Nat.div_eq_of_lt hb]; rfl
  have e2 : (a * C + b) % C = b := by rw [Nat.mul_comm, Nat.mul_add_mod, Nat.mod_eq_of_lt hb]
  rw [List.getD_eq_getElem?_getD]
  unfold GridM.cellsK
  rw [List.getElem?_map, List.getElem?_range h1]
  show Q ((a * C + b) / C) ((a * C + b) % C) = _
  rw [e1, e2]
theorem psum_congr {M M' N N' : Mat} {a b : Nat} : ∀ D, (∀ l, l < D → M a l = M' a l) → (∀ l, l < D → N l b = N' l b) → psum M N a b D = psum M' N' a b D
  | 0, _, _ => rfl
  | D + 1, h1, h2 => by
    show Go.bits .xor .u8 (psum M N a b D) (tmul (M a D) (N D b)) = Go.bits .xor .u8 (psum M' N' a b D) (tmul (M' a D) (N' D b))
    rw [psum_congr D (fun l hl => h1 l (by omega)) (fun l hl => h2 l (by omega)), h1 D (by omega), h2 D (by omega)]
theorem mul_unit {n : Nat} {la lb : List Int} {M N : Mat} (hM : Bytes2 M) (hN : Bytes2 N) (ha : ∀ i j, i < n → j < n → la.getD (i * n + j) 0 = M i j) (hb : ∀ i j, i < n → j < n → lb.getD (i * n + j) 0 = N i j)
    (h : ∀ i j, i < n → j < n → dot n (toN M i) (fun l => toN N l j) = if i = j then 1 else 0) : Rep n n (mulOf n n n la lb) unitN := by
  unfold mulOf
  refine rep_cells fun i j hi hj => ?_
  rw [psum_congr (M' := M) (N' := N) n (fun l hl => ha i l hi hl) (fun l hl => hb l j hl hj), psum_dot hM hN]
  have := h i j hi hj
  unfold dot at this
  rw [this]; rfl
theorem unit_loop {n : Nat} (hn : n ≤ 64) : ∀ (d i : Nat) (c : List Int), i + d = n → Rep n n c (fun a b => if a = b ∧ a < i then 1 else 0) → ∃ c', Ev (fun k => laws_lwUnit.l0 k (n : Int) (i : Int) (n : Int) (n : Int) c) ((n : Int), (n : Int), c') ∧ Rep n n c' unitN
  | 0, i, c, hd, h => ⟨c, Ev.step (f := fun _ => some ((n : Int), (n : Int), c)) (fun k => by rw [laws_lwUnit.l0, if_neg (by omega)]) (Ev.now _), h.congr fun a b ha _ => by
      unfold unitN
      by_cases e : a = b
      · rw [if_pos e, if_pos ⟨e, by omega⟩]
      · rw [if_neg e, if_neg (fun x => e x.1)]⟩
  | d + 1, i, c, hd, h => by
    have hi : i < n := by omega
    have h1 := idx_lt (C := n) hi hi
    have h2 := h.1
    obtain ⟨c', ev, hc⟩ := unit_loop hn d (i + 1) _ (by omega) (rep_step (v := 1) (P' := fun a b => if a = b ∧ a < i + 1 then 1 else 0) h hi hi fun a b ha hb => by
      unfold upd
      dsimp only
      by_cases e : a = i ∧ b = i
      · obtain ⟨rfl, rfl⟩ := e
        rw [if_pos ⟨rfl, by omega⟩, if_pos ⟨rfl, rfl⟩]
      · rw [if_neg e]
        by_cases e2 : a = b ∧ a < i
        · rw [if_pos e2, if_pos ⟨e2.1, by omega⟩]
        · rw [if_neg e2, if_neg (fun x => e (by have := x.1; have := x.2; have : ¬ a < i := fun y => e2 ⟨x.1, y⟩; omega))])
    refine ⟨c', ?_, hc⟩
    refine Ev.step (fun k => by rw [laws_lwUnit.l0, if_pos (by omega)]) ?_
    rw [idx_eq (by omega) (by omega) (by omega), w64 (x := (i : Int) + 1) (by omega) (by omega)]
    refine Ev.ifT (by omega) (Ev.ifT (by omega) ?_)
    rw [Int.toNat_natCast]; exact ev
theorem unit_f {n : Nat} (hn : n ≤ 64) : ∃ c, Ev (fun k => laws_lwUnit.f k (n : Int)) ((n : Int), (n : Int), c) ∧ Rep n n c unitN := by
  have h1 : n * n ≤ 64 * 64 := Nat.mul_le_mul hn hn
  obtain ⟨c, ev, hc⟩ := unit_loop hn n 0 (List.replicate (n * n) 0) (by omega) ((rep_zero n n).congr fun a b _ _ => by rw [if_neg (by omega)])
  refine ⟨c, ?_, hc⟩
  unfold laws_lwUnit.f
  have e : wrap64 ((n : Int) * (n : Int)) = ((n * n : Nat) : Int) := by rw [← Int.natCast_mul, w64 (by omega) (by omega)]
  rw [e]
  refine Ev.ifT (by omega) (Ev.ifT (by rw [Int.toNat_natCast]; omega) ?_)
  rw [Int.toNat_natCast]; exact ev
theorem lwInts_f (l : List Int) (hl : l.length ≤ 1048576) : Ev (fun k => laws_lwInts.f k l l) true := by
  unfold laws_lwInts.f
  refine Ev.ifT rfl ?_
  exact eq_loop laws_lwInts.l0 (fun _ => True) (fun x i h1 _ hi ev => by
    refine Ev.step (fun k => by rw [laws_lwInts.l0, if_pos (by omega), if_pos (by omega), if_pos (by omega), if_pos rfl]) ?_
    rw [w64 (by omega) (by omega)]
    exact ev) (fun x i hi => Ev.step (fun k => by rw [laws_lwInts.l0, if_neg (by omega)]) (Ev.now _)) l (by omega) (fun _ _ => trivial)
theorem lwMat_f (a b : Int) (l : List Int) (hl : l.length ≤ 1048576) : Ev (fun k => laws_lwMatrix.f k a b l a b l) true := by
  unfold laws_lwMatrix.f
  exact Ev.ifT rfl (Ev.ifT rfl (Ev.bind (lwInts_f l hl) (Ev.now _)))
theorem FnInverse : laws_FnInverse.Pure := by
  intro code hc
  have hcb : Bytes code := fun x hx => wf_u8 (hc.2 x hx)
  refine Ev.rounds (g := fun k => laws_FnInverse.f k code) ?_
  unfold laws_FnInverse.f
  by_cases c : (code.length : Int) > 1048576
  · exact Ev.ifT c (Ev.now _)
  refine Ev.ifF c ?_
  obtain ⟨a, b, l, hd, hl⟩ := drawInv_tot hcb (by omega)
  obtain ⟨h1, h2, h3⟩ := sinv_r a b l (by omega)
  have hf := sfault_f a b l (by omega)
  refine Ev.bind hd (Ev.bind h2 (Ev.bind h1 (Ev.ifT rfl (Ev.bind hf ?_))))
  by_cases hF : Fit a b l
  rotate_left
  · rw [if_neg hF]
    refine Ev.ifF (by decide) (Ev.step (fun k => by rw [laws_FnInverse.j0, if_pos rfl]) ?_)
    have : (invR a b l).1 = 1 := by unfold invR; rw [if_neg hF]
    rw [this]; exact Ev.now _
  rw [if_pos hF]
  refine Ev.ifT rfl ?_
  by_cases hab : a = b
  rotate_left
  · have e : (a != b) = true := by simpa using hab
    rw [e]
    refine Ev.step (fun k => by rw [laws_FnInverse.j0, if_pos rfl]) ?_
    have : (invR a b l).1 = 1 := by unfold invR; rw [if_pos hF, if_neg hab]
    rw [this]; exact Ev.now _
  subst hab
  have e : (a != a) = false := by simp
  rw [e]
  refine Ev.step (fun k => by rw [laws_FnInverse.j0, if_neg (by decide)]) ?_
  have hF' := hF
  obtain ⟨f1, f2, f3, f4, f5, f6⟩ := hF
  obtain ⟨n, rfl⟩ := Int.eq_ofNat_of_zero_le (show 0 ≤ a by omega)
  simp only [Int.toNat_natCast] at f5
  have hn : n ≤ 64 := by omega
  have hby := GridM.getD_bytes f6 n
  have hi : invR (n : Int) (n : Int) l = invOf n l := by unfold invR; rw [if_pos hF', if_pos rfl, Int.toNat_natCast]
  rw [hi]
  have hrk : (redS n n n (0, fun i j => l.getD (i * n + j) 0, idM) n).1 = cnt (toN fun i j => l.getD (i * n + j) 0) n n n := redS_rank hby idM_byt
  have hrank : Ev (fun k => impl_MatRank.f k (n : Int) (n : Int) l) ((cnt (toN fun i j => l.getD (i * n + j) 0) n n n : Nat) : Int) := by
    unfold impl_MatRank.f
    have hfi := ifault_f (n : Int) (n : Int) l (by omega)
    rw [if_pos hF'] at hfi
    refine Ev.bind hfi (Ev.ifT rfl (Ev.ifT hF' ?_))
    have : rankOf (n : Int).toNat (n : Int).toNat l = cnt (toN fun i j => l.getD (i * n + j) 0) n n n := redS_rank hby hby
    rw [this]; exact Ev.now _
  refine Ev.bind hrank ?_
  unfold invOf
  rw [hrk]
  have hle := cnt_le (toN fun i j => l.getD (i * n + j) 0) n n n
  by_cases hr : cnt (toN fun i j => l.getD (i * n + j) 0) n n n < n
  · rw [if_pos hr]
    exact Ev.ifT (by omega) (Ev.now _)
  rw [if_neg hr]
  have hfull : cnt (toN fun i j => l.getD (i * n + j) 0) n n n = n := by omega
  have hQb : Bytes2 (redS n n n (0, fun i j => l.getD (i * n + j) 0, idM) n).2.2 := (redS_good (R := n) (C := n) (C2 := n) hby idM_byt n (Nat.le_refl _)).2.2
  have hinv := fun i j hi hj => red_inv hby hfull i j hi hj
  generalize (redS n n n (0, fun i j => l.getD (i * n + j) 0, idM) n).2.2 = Q at hQb hinv ⊢
  have hFQ : Fit (n : Int) (n : Int) (GridM.cellsK n Q (n * n)) := ⟨f1, f2, f1, f2, by rw [GridM.cellsK_len]; rfl, fun x hx => by
    unfold GridM.cellsK at hx
    obtain ⟨m, _, rfl⟩ := List.mem_map.1 hx
    exact hQb _ _⟩
  have q1 : (GridM.cellsK n Q (n * n)).length ≤ 4096 := by rw [GridM.cellsK_len]; exact Nat.mul_le_mul hn hn
  have hmul : ∀ x y : List Int, Fit (n : Int) (n : Int) x → Fit (n : Int) (n : Int) y → x.length ≤ 1048576 → y.length ≤ 1048576 → Ev (fun k => impl_MatMul.f k (n : Int) (n : Int) x (n : Int) (n : Int) y) (0, (n : Int), (n : Int), mulOf n n n x y) := fun x y hx hy lx ly => by
    unfold impl_MatMul.f
    have g1 := ifault_f (n : Int) (n : Int) x lx
    have g2 := ifault_f (n : Int) (n : Int) y ly
    rw [if_pos hx] at g1
    rw [if_pos hy] at g2
    refine Ev.bind g1 (Ev.bind g2 (Ev.ifT ⟨rfl, rfl, rfl, hx, hy⟩ ?_))
    simp only [Int.toNat_natCast]
    exact Ev.now _
  obtain ⟨u, hu, hur⟩ := unit_f hn
  have r1 : mulOf n n n l (GridM.cellsK n Q (n * n)) = u := Rep.uniq (mul_unit (M := fun i j => l.getD (i * n + j) 0) (N := Q) hby hQb (fun i j _ _ => rfl) (fun i j hi hj => cells_getD Q hi hj) (fun i j hi hj => (hinv i j hi hj).1)) hur
  have r2 : mulOf n n n (GridM.cellsK n Q (n * n)) l = u := Rep.uniq (mul_unit (M := Q) (N := fun i j => l.getD (i * n + j) 0) hQb hby (fun i j hi hj => cells_getD Q hi hj) (fun i j _ _ => rfl) (fun i j hi hj => (hinv i j hi hj).2)) hur
  have m1 := hmul l (GridM.cellsK n Q (n * n)) hF' hFQ (by omega) (by omega)
  have m2 := hmul (GridM.cellsK n Q (n * n)) l hFQ hF' (by omega) (by omega)
  rw [r1] at m1
  rw [r2] at m2
  have hul : u.length ≤ 1048576 := by rw [hur.1]; have : n * n ≤ 64 * 64 := Nat.mul_le_mul hn hn; omega
  have hw := lwMat_f (n : Int) (n : Int) u hul
  exact Ev.ifF (by omega) (Ev.ifT rfl (Ev.bind m1 (Ev.bind hu (Ev.bind hw (Ev.ifT rfl (Ev.bind m2 (Ev.bind hu (Ev.bind hw (Ev.now _)))))))))
end Go.Proofs.Ytffhbpepppodeaa.Pure
