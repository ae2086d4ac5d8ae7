/-
  The plain law MatInv: the program's inverse is the reference's; for all matrices.
-/
import Derived.Test.YtffhbpepppodeaaPureSpecMat2FnExactMatInv
import Derived.Test.YtffhbpepppodeaaGridMFnExactMatInv
import Derived.Test.YtffhbpepppodeaaInvFnExactMatInv
namespace Go.Proofs.Ytffhbpepppodeaa.Pure
open Go.RowKit Go.Proofs.Ytffhbpepppodeaa.PFnExactMatInv Go.Proofs.Ytffhbpepppodeaa.Base Go.Proofs.YtffhbpepppodeaaW.PrintWords Go.Proofs.YtffhbpepppodeaaW.PrintLast Go.Proofs.YtffhbpepppodeaaW.PrintMore
open Go.Proofs.Ytffhbpepppodeaa.Gf Go.Proofs.Ytffhbpepppodeaa.Reduce Go.Proofs.Ytffhbpepppodeaa.Grid Go.Proofs.Ytffhbpepppodeaa.Field Go.Proofs.Ytffhbpepppodeaa.Elim

def allB (l : List Int) : Prop := ∀ x ∈ l, 0 ≤ x ∧ x ≤ 255
theorem rd_nat (l : List Int) (i : Nat) : rd l (i : Int) = l.getD i 0 := by unfold rd; rw [Int.toNat_natCast]
theorem in_yes {x : Int} (h : 0 ≤ x ∧ x ≤ 255) : spec_l02In.f x 256 = some true := by
  unfold spec_l02In.f; rw [if_pos (by omega)]; exact congrArg some (decide_eq_true (by omega))
theorem in_no {x : Int} (h : ¬ (0 ≤ x ∧ x ≤ 255)) : spec_l02In.f x 256 = some false := by
  unfold spec_l02In.f
  by_cases c : x ≥ 0
  · rw [if_pos c]; exact congrArg some (decide_eq_false (by omega))
  · rw [if_neg c]
theorem is_yes {x : Int} (h : 0 ≤ x ∧ x ≤ 255) : impl_isByte.f x = some true := by
  unfold impl_isByte.f; rw [if_pos (by omega)]; exact congrArg some (decide_eq_true (by omega))
theorem is_no {x : Int} (h : ¬ (0 ≤ x ∧ x ≤ 255)) : impl_isByte.f x = some false := by
  unfold impl_isByte.f
  by_cases c : x ≥ 0
  · rw [if_pos c]; exact congrArg some (decide_eq_false (by omega))
  · rw [if_neg c]
theorem allB_of {l : List Int} (h : ∀ j, j < l.length → 0 ≤ l.getD j 0 ∧ l.getD j 0 ≤ 255) : allB l := fun x hx => by
  obtain ⟨j, hj, rfl⟩ := List.getElem_of_mem hx
  have := h j hj
  rw [List.getD_eq_getElem?_getD, List.getElem?_eq_getElem hj] at this
  exact this
open Classical in
theorem sfault_loop (a b : Int) (l : List Int) (hl : l.length ≤ 1048576) : ∀ (d i : Nat), i + d = l.length → (∀ j, j < i → 0 ≤ l.getD j 0 ∧ l.getD j 0 ≤ 255) → Ev (fun k => spec_MatrixFault.l0 k (i : Int) a b l) (if allB l then 0 else 1)
  | 0, i, hd, h => by
    rw [if_pos (allB_of fun j hj => h j (by omega))]
    exact Ev.step (fun k => by rw [spec_MatrixFault.l0, if_neg (by omega)]) (Ev.now _)
  | d + 1, i, hd, h => by
    refine Ev.step (fun k => by rw [spec_MatrixFault.l0, if_pos (by omega), if_pos (by omega)]) ?_
    rw [rd_nat]
    by_cases c : 0 ≤ l.getD i 0 ∧ l.getD i 0 ≤ 255
    · refine Ev.bind0 (in_yes c) (Ev.ifT rfl ?_)
      rw [w64 (by omega) (by omega)]
      exact sfault_loop a b l hl d (i + 1) (by omega) (fun j hj => by
        by_cases e : j = i
        · subst e; exact c
        · exact h j (by omega))
    · refine Ev.bind0 (in_no c) (Ev.ifF (by decide) ?_)
      rw [if_neg (fun hb => c (hb _ (getD_mem 0 (by omega))))]
      exact Ev.now _
open Classical in
theorem ifault_loop (l : List Int) (hl : l.length ≤ 1048576) : ∀ (d i : Nat), i + d = l.length → (∀ j, j < i → 0 ≤ l.getD j 0 ∧ l.getD j 0 ≤ 255) → Ev (fun k => impl_MatrixFault.l0 k l (l.length : Int) (i : Int)) (if allB l then 0 else 1)
  | 0, i, hd, h => by
    rw [if_pos (allB_of fun j hj => h j (by omega))]
    exact Ev.step (fun k => by rw [impl_MatrixFault.l0, if_neg (by omega)]) (Ev.now _)
  | d + 1, i, hd, h => by
    refine Ev.step (fun k => by rw [impl_MatrixFault.l0, if_pos (by omega), if_pos (by omega), if_pos (by omega)]) ?_
    rw [rd_nat]
    by_cases c : 0 ≤ l.getD i 0 ∧ l.getD i 0 ≤ 255
    · refine Ev.bind0 (is_yes c) (Ev.ifT rfl ?_)
      rw [w64 (by omega) (by omega)]
      exact ifault_loop l hl d (i + 1) (by omega) (fun j hj => by
        by_cases e : j = i
        · subst e; exact c
        · exact h j (by omega))
    · refine Ev.bind0 (is_no c) (Ev.ifF (by decide) ?_)
      rw [if_neg (fun hb => c (hb _ (getD_mem 0 (by omega))))]
      exact Ev.now _
theorem ab_nat {a b : Int} (h1 : 1 ≤ a) (h2 : a ≤ 64) (h3 : 1 ≤ b) (h4 : b ≤ 64) : wrap64 (a * b) = ((a.toNat * b.toNat : Nat) : Int) := by
  obtain ⟨A, rfl⟩ := Int.eq_ofNat_of_zero_le (show 0 ≤ a by omega)
  obtain ⟨B, rfl⟩ := Int.eq_ofNat_of_zero_le (show 0 ≤ b by omega)
  have h5 : A * B ≤ 64 * 64 := Nat.mul_le_mul (by omega) (by omega)
  rw [← Int.natCast_mul, w64 (by omega) (by omega)]; rfl
theorem sj_true (a b : Int) (l : List Int) : Ev (fun k => spec_MatrixFault.j0 k true a b l) 1 := Ev.step (fun k => by rw [spec_MatrixFault.j0, if_pos rfl]) (Ev.now _)
theorem ij_true (a b : Int) (l : List Int) : Ev (fun k => impl_MatrixFault.j0 k true a b l) 1 := Ev.step (fun k => by rw [impl_MatrixFault.j0, if_pos rfl]) (Ev.now _)
theorem sfault_f (a b : Int) (l : List Int) (hl : l.length ≤ 1048576) : Ev (fun k => spec_MatrixFault.f k a b l) (if Fit a b l then 0 else 1) := by
  classical
  unfold spec_MatrixFault.f
  by_cases h1 : a < 1
  · rw [if_neg (fun h => by have := h.1; omega)]; exact Ev.ifT h1 (sj_true a b l)
  refine Ev.ifF h1 ?_
  by_cases h2 : a > 64
  · rw [if_neg (fun h => by have := h.2.1; omega)]; exact Ev.ifT h2 (sj_true a b l)
  refine Ev.ifF h2 ?_
  by_cases h3 : b < 1
  · rw [if_neg (fun h => by have := h.2.2.1; omega)]; exact Ev.ifT h3 (sj_true a b l)
  refine Ev.ifF h3 ?_
  by_cases h4 : b > 64
  · rw [if_neg (fun h => by have := h.2.2.2.1; omega)]; exact Ev.ifT h4 (sj_true a b l)
  refine Ev.ifF h4 ?_
  rw [ab_nat (by omega) (by omega) (by omega) (by omega)]
  by_cases h5 : l.length = a.toNat * b.toNat
  · have e : ((l.length : Int) != ((a.toNat * b.toNat : Nat) : Int)) = false := by rw [h5]; simp
    rw [e]
    refine Ev.step (fun k => by rw [spec_MatrixFault.j0, if_neg (by decide)]) ?_
    have := sfault_loop a b l hl l.length 0 (by omega) (fun j hj => by omega)
    by_cases h6 : allB l
    · rw [if_pos h6] at this
      rw [if_pos ⟨by omega, by omega, by omega, by omega, h5, h6⟩]; exact this
    · rw [if_neg h6] at this
      rw [if_neg (fun h => h6 h.2.2.2.2.2)]; exact this
  · have e : ((l.length : Int) != ((a.toNat * b.toNat : Nat) : Int)) = true := bne_iff_ne.2 (fun h => h5 (Int.ofNat_inj.1 h))
    rw [e, if_neg (fun h => h5 h.2.2.2.2.1)]
    exact sj_true a b l
theorem ifault_f (a b : Int) (l : List Int) (hl : l.length ≤ 1048576) : Ev (fun k => impl_MatrixFault.f k a b l) (if Fit a b l then 0 else 1) := by
  classical
  unfold impl_MatrixFault.f
  by_cases h1 : a < 1
  · rw [if_neg (fun h => by have := h.1; omega)]; exact Ev.ifT h1 (ij_true a b l)
  refine Ev.ifF h1 ?_
  by_cases h2 : a > 64
  · rw [if_neg (fun h => by have := h.2.1; omega)]; exact Ev.ifT h2 (ij_true a b l)
  refine Ev.ifF h2 ?_
  by_cases h3 : b < 1
  · rw [if_neg (fun h => by have := h.2.2.1; omega)]; exact Ev.ifT h3 (ij_true a b l)
  refine Ev.ifF h3 ?_
  by_cases h4 : b > 64
  · rw [if_neg (fun h => by have := h.2.2.2.1; omega)]; exact Ev.ifT h4 (ij_true a b l)
  refine Ev.ifF h4 ?_
  rw [ab_nat (by omega) (by omega) (by omega) (by omega)]
  by_cases h5 : l.length = a.toNat * b.toNat
  · have e : ((l.length : Int) != ((a.toNat * b.toNat : Nat) : Int)) = false := by rw [h5]; simp
    rw [e]
    refine Ev.step (fun k => by rw [impl_MatrixFault.j0, if_neg (by decide)]) ?_
    have := ifault_loop l hl l.length 0 (by omega) (fun j hj => by omega)
    by_cases h6 : allB l
    · rw [if_pos h6] at this
      rw [if_pos ⟨by omega, by omega, by omega, by omega, h5, h6⟩]; exact this
    · rw [if_neg h6] at this
      rw [if_neg (fun h => h6 h.2.2.2.2.2)]; exact this
  · have e : ((l.length : Int) != ((a.toNat * b.toNat : Nat) : Int)) = true := bne_iff_ne.2 (fun h => h5 (Int.ofNat_inj.1 h))
    rw [e, if_neg (fun h => h5 h.2.2.2.2.1)]
    exact ij_true a b l
theorem ints_f (l : List Int) (hl : l.length ≤ 1048576) : Ev (fun k => laws_toInt64S.f k l) l := by
  unfold laws_toInt64S.f
  refine Ev.ifT (by omega) (Ev.ifT (by omega) ?_)
  have := map_loop laws_toInt64S.l0 (fun x : Int => x) (0 : Int) (fun _ => True) (fun x y i h1 _ hi hy r ev => by
    refine Ev.step (fun k => by rw [laws_toInt64S.l0, if_pos (by omega), if_pos (by omega), if_pos (by omega)]) ?_
    rw [rd_nat, Int.toNat_natCast, w64 (by omega) (by omega)]
    exact ev) (fun x y i hi => Ev.step (fun k => by rw [laws_toInt64S.l0, if_neg (by omega)]) (Ev.now _)) l (by omega) (fun _ _ => trivial) (0 : Int)
  rw [Int.toNat_natCast]
  simpa using this
theorem mat_f (a b : Int) (l : List Int) (hl : l.length ≤ 1048576) : Ev (fun k => laws_toMatrix.f k a b l) (a, b, l) := by
  unfold laws_toMatrix.f
  exact Ev.bind (ints_f l hl) (Ev.now _)
theorem eqInts_f (l : List Int) (hl : l.length ≤ 1048576) : Ev (fun k => laws_eqInt64S.f k l l) true := by
  unfold laws_eqInt64S.f
  refine Ev.ifT rfl ?_
  exact eq_loop laws_eqInt64S.l0 (fun _ => True) (fun x i h1 _ hi ev => by
    refine Ev.step (fun k => by rw [laws_eqInt64S.l0, if_pos (by omega), if_pos (by omega), if_pos (by omega), if_pos rfl]) ?_
    rw [w64 (by omega) (by omega)]
    exact ev) (fun x i hi => Ev.step (fun k => by rw [laws_eqInt64S.l0, if_neg (by omega)]) (Ev.now _)) l (by omega) (fun _ _ => trivial)
theorem eqMat_f (a b : Int) (l : List Int) (hl : l.length ≤ 1048576) : Ev (fun k => laws_eqMatrix.f k a b l a b l) true := by
  unfold laws_eqMatrix.f
  exact Ev.ifT rfl (Ev.ifT rfl (Ev.bind (eqInts_f l hl) (Ev.ifT rfl (Ev.now _))))
theorem sz_in (a b : Int) (l : List Int) (h : l.length ≤ 1048576) : laws_szMatrix.f a b l 1048576 = some (1048576 - (l.length : Int)) := by
  have e1 : wrap64 (1048576 - (l.length : Int)) = 1048576 - (l.length : Int) := w64 (by omega) (by omega)
  unfold laws_szMatrix.f laws_szInt64S.f
  rw [e1, if_neg (by omega)]
  exact if_neg (by omega)
theorem sz_out (a b : Int) (l : List Int) (h : ¬ l.length ≤ 1048576) (hm : l.length ≤ 9223372036854775807) : laws_szMatrix.f a b l 1048576 = some (-1) := by
  have e1 : wrap64 (1048576 - (l.length : Int)) = 1048576 - (l.length : Int) := w64 (by omega) (by omega)
  unfold laws_szMatrix.f laws_szInt64S.f
  rw [e1, if_pos (by omega)]
  rfl

theorem rep_cells {R C : Nat} {P : MatN} {Q : Mat} (h : ∀ i j, i < R → j < C → Q i j = (P i j : Int)) : Rep R C (GridM.cellsK C Q (R * C)) P := by
  refine ⟨GridM.cellsK_len _ _ _, fun i j hi hj => ?_⟩
  have h1 := idx_lt hi hj
  have e1 : (i * C + j) / C = i := by rw [Nat.mul_comm, Nat.mul_add_div (by omega), Nat.div_eq_of_lt hj]; rfl
  have e2 : (i * C + j) % C = j := by rw [Nat.mul_comm, Nat.mul_add_mod, Nat.mod_eq_of_lt hj]
  rw [rd_nat, List.getD_eq_getElem?_getD]
  unfold GridM.cellsK
  rw [List.getElem?_map, List.getElem?_range h1]
  show Q ((i * C + j) / C) ((i * C + j) % C) = _
  rw [e1, e2, h i j hi hj]
theorem new_f {R C : Nat} (hR : R ≤ 64) (hC : C ≤ 128) : spec_l03New.f (R : Int) (C : Int) = some ((R : Int), (C : Int), List.replicate (R * C) 0) := by
  have h1 : R * C ≤ 64 * 128 := Nat.mul_le_mul hR hC
  unfold spec_l03New.f
  rw [← Int.natCast_mul, w64 (by omega) (by omega), if_pos (by omega), Int.toNat_natCast, if_pos (by omega)]
theorem rep_zero (R C : Nat) : Rep R C (List.replicate (R * C) 0) (fun _ _ => 0) := by
  refine ⟨List.length_replicate, fun i j hi hj => ?_⟩
  rw [rd_nat, List.getD_eq_getElem?_getD, List.getElem?_replicate, if_pos (idx_lt hi hj)]; rfl
theorem sp_idx {n i j : Nat} (hn : n ≤ 64) (hi : i < n) (hj : j ≤ n + n) : wrap64 ((wrap64 ((wrap64 ((i : Int) * 2)) * (n : Int))) + (j : Int)) = ((i * (n + n) + j : Nat) : Int) := by
  have h1 : i * n ≤ 64 * 64 := Nat.mul_le_mul (by omega) hn
  have e1 : wrap64 ((i : Int) * 2) = ((i * 2 : Nat) : Int) := by rw [w64 (by omega) (by omega)]; omega
  have e2 : i * 2 * n = i * (n + n) := by rw [Nat.mul_assoc, Nat.two_mul]
  have e3 : i * (n + n) = i * n + i * n := Nat.mul_add _ _ _
  rw [e1, ← Int.natCast_mul, e2, w64 (x := ((i * (n + n) : Nat) : Int)) (by omega) (by omega), w64 (by omega) (by omega)]
  omega
theorem sp_idx2 {n i : Nat} (hn : n ≤ 64) (hi : i < n) : wrap64 ((wrap64 ((wrap64 ((wrap64 ((i : Int) * 2)) * (n : Int))) + (n : Int))) + (i : Int)) = ((i * (n + n) + (n + i) : Nat) : Int) := by
  have h1 : i * n ≤ 64 * 64 := Nat.mul_le_mul (by omega) hn
  have e3 : i * (n + n) = i * n + i * n := Nat.mul_add _ _ _
  rw [sp_idx hn hi (by omega), w64 (by omega) (by omega)]
  omega
def stW (n : Nat) (M : MatN) (i0 j0 : Nat) : MatN := fun i j => if i < i0 then aug n M (fun a b => if a = b then 1 else 0) i j else if i = i0 ∧ j < j0 then M i j else 0
theorem sinv_row {n : Nat} {M : MatN} {l : List Int} (hn : n ≤ 64) (hM : Rep n n l M) {i : Nat} (hi : i < n) (r : Int × Int × Int × List Int)
    (K : ∀ w, Rep n (n + n) w (stW n M (i + 1) 0) → Ev (fun k => spec_MatInv.l0 k (n : Int) (wrap64 ((i : Int) + 1)) (n : Int) (n : Int) l (n : Int) ((n + n : Nat) : Int) w) r) :
    ∀ (d j : Nat) (w : List Int), j + d = n → Rep n (n + n) w (stW n M i j) → Ev (fun k => spec_MatInv.l1 k (n : Int) (i : Int) (j : Int) (n : Int) (n : Int) l (n : Int) ((n + n : Nat) : Int) w) r
  | 0, j, w, hd, h => by
    obtain rfl : j = n := by omega
    have h1 := idx_lt (C := j + j) hi (show j + i < j + j by omega)
    have h2 := h.1
    refine Ev.step (fun k => by rw [spec_MatInv.l1, if_neg (by omega)]) ?_
    rw [sp_idx2 hn hi]
    refine Ev.ifT (by omega) (Ev.ifT (by omega) ?_)
    rw [Int.toNat_natCast]
    refine K _ (rep_step (v := 1) h hi (show j + i < j + j by omega) fun a b ha hb => ?_)
    unfold stW upd aug
    dsimp only
    by_cases e : a = i ∧ b = j + i
    · obtain ⟨rfl, rfl⟩ := e
      rw [if_pos (by omega), if_neg (by omega), if_pos (by omega), if_pos ⟨rfl, rfl⟩]
    · rw [if_neg e]
      by_cases c : a < i
      · rw [if_pos (by omega), if_pos c]
      · rw [if_neg c]
        by_cases c2 : a = i
        · rw [if_pos (by omega)]
          by_cases c3 : b < j
          · rw [if_pos c3, if_pos ⟨c2, c3⟩]
          · rw [if_neg c3, if_neg (show ¬ a = b - j from fun x => e ⟨c2, by omega⟩), if_neg (show ¬ (a = i ∧ b < j) from fun x => c3 x.2)]
        · rw [if_neg (show ¬ a < i + 1 by omega), if_neg (show ¬ (a = i + 1 ∧ b < 0) by omega), if_neg (show ¬ (a = i ∧ b < j) from fun x => c2 x.1)]
  | d + 1, j, w, hd, h => by
    have h1 := idx_lt (C := n + n) hi (show j < n + n by omega)
    have h2 := h.1
    refine Ev.step (fun k => by rw [spec_MatInv.l1, if_pos (by omega)]) ?_
    refine Ev.bind0 (at_eq hM hn (by omega) hi (by omega)) ?_
    rw [sp_idx hn hi (by omega), w64 (x := (j : Int) + 1) (by omega) (by omega)]
    refine Ev.ifT (by omega) (Ev.ifT (by omega) ?_)
    rw [Int.toNat_natCast]
    refine sinv_row hn hM hi r K d (j + 1) _ (by omega) (rep_step h hi (show j < n + n by omega) fun a b ha hb => ?_)
    unfold stW upd
    dsimp only
    by_cases e : a = i ∧ b = j
    · obtain ⟨rfl, rfl⟩ := e
      rw [if_neg (by omega), if_pos ⟨rfl, by omega⟩, if_pos ⟨rfl, rfl⟩]
    · rw [if_neg e]
      by_cases c : a < i
      · rw [if_pos c, if_pos c]
      · rw [if_neg c, if_neg c]
        by_cases c2 : a = i ∧ b < j
        · rw [if_pos c2, if_pos ⟨c2.1, by omega⟩]
        · rw [if_neg c2, if_neg (fun x => e ⟨x.1, by have := x.2; have : ¬ b < j := fun y => c2 ⟨x.1, y⟩; omega⟩)]
theorem sinv_rows {n : Nat} {M : MatN} {l : List Int} (hn : n ≤ 64) (hM : Rep n n l M) (r : Int × Int × Int × List Int)
    (K : ∀ w, Rep n (n + n) w (aug n M (fun a b => if a = b then 1 else 0)) → Ev (fun k => spec_MatInv.l2 k (n : Int) 0 (n : Int) ((n + n : Nat) : Int) w) r) :
    ∀ (d i : Nat) (w : List Int), i + d = n → Rep n (n + n) w (stW n M i 0) → Ev (fun k => spec_MatInv.l0 k (n : Int) (i : Int) (n : Int) (n : Int) l (n : Int) ((n + n : Nat) : Int) w) r
  | 0, i, w, hd, h => by
    obtain rfl : i = n := by omega
    exact Ev.step (fun k => by rw [spec_MatInv.l0, if_neg (by omega)]) (K w (h.congr fun a b ha _ => by unfold stW; rw [if_pos ha]))
  | d + 1, i, w, hd, h => by
    refine Ev.step (fun k => by rw [spec_MatInv.l0, if_pos (by omega)]) ?_
    refine sinv_row hn hM (show i < n by omega) r (fun w2 h2 => ?_) n 0 w (by omega) h
    rw [w64 (by omega) (by omega)]
    exact sinv_rows hn hM r K d (i + 1) w2 (by omega) h2
theorem sinv_piv {n k a : Nat} {W : MatN} {w : List Int} (hn : n ≤ 64) (hk : k < n) (ha : a < n) (hz : ∀ i, k ≤ i → i < a → W i k = 0) (h0 : W a k ≠ 0) (h : Rep n (n + n) w W) (r : Int × Int × Int × List Int)
    (K : Ev (fun m => (spec_l03Swap.f m (n : Int) ((n + n : Nat) : Int) w (k : Int) (a : Int)).bind fun t174 => ((spec_l03Clear.f m (n : Int) ((n + n : Nat) : Int) t174 (k : Int) (k : Int)).bind fun t175 => (spec_MatInv.l2 m (n : Int) (wrap64 ((k : Int) + 1)) (n : Int) ((n + n : Nat) : Int) t175))) r) :
    ∀ (d i : Nat), i + d = a → k ≤ i → Ev (fun m => spec_MatInv.l3 m (n : Int) (k : Int) (i : Int) (n : Int) ((n + n : Nat) : Int) w) r
  | 0, i, hd, hi => by
    obtain rfl : i = a := by omega
    refine Ev.step (fun m => by rw [spec_MatInv.l3]) ?_
    exact Ev.bind0 (at_eq h hn (by omega) ha (by omega)) (Ev.ifF (by omega) K)
  | d + 1, i, hd, hi => by
    refine Ev.step (fun m => by rw [spec_MatInv.l3]) ?_
    refine Ev.bind0 (at_eq h hn (by omega) (by omega) (by omega)) (Ev.ifT (by rw [hz i hi (by omega)]; rfl) ?_)
    rw [w64 (by omega) (by omega)]
    exact sinv_piv hn hk ha hz h0 h r K d (i + 1) (by omega) (by omega)
theorem sinv_cols {n : Nat} {M : Mat} (hn : n ≤ 64) (hM : Bytes2 M) (hf : cnt (toN M) n n n = n) (r : Int × Int × Int × List Int)
    (K : ∀ w, Rep n (n + n) w (atK n M idM n) → Ev (fun m => (spec_l03New.f (n : Int) (n : Int)).bind fun bt176 => (spec_MatInv.l4 m (n : Int) 0 (n : Int) ((n + n : Nat) : Int) w bt176.1 bt176.2.1 bt176.2.2)) r) :
    ∀ (d k : Nat) (w : List Int), k + d = n → Rep n (n + n) w (atK n M idM k) → Ev (fun m => spec_MatInv.l2 m (n : Int) (k : Int) (n : Int) ((n + n : Nat) : Int) w) r
  | 0, k, w, hd, h => by
    obtain rfl : k = n := by omega
    exact Ev.step (fun m => by rw [spec_MatInv.l2, if_neg (by omega)]) (K w h)
  | d + 1, k, w, hd, h => by
    have hk : k < n := by omega
    obtain ⟨a, p1, p2, p3, p4, p5⟩ := red_next hM idM_byt hf k hk
    have hW : ByM (atK n M idM k) := atK_byt hM idM_byt k (by omega)
    obtain ⟨l1, l2, e1, e2, hl⟩ := step_ev hW hn (by omega) p2 hk (show k < n + n by omega) p4 h
    refine Ev.step (fun m => by rw [spec_MatInv.l2, if_pos (by omega)]) ?_
    refine sinv_piv hn hk p2 p3 p4 h r (Ev.bind e1 (Ev.bind e2 ?_)) (a - k) k (by omega) (Nat.le_refl _)
    rw [w64 (by omega) (by omega)]
    exact sinv_cols hn hM hf r K d (k + 1) l2 (by omega) (hl.congr fun i j hi hj => p5 i j hi hj)
theorem sout_row {n : Nat} {W : MatN} {w : List Int} (hn : n ≤ 64) (h : Rep n (n + n) w W) {i : Nat} (hi : i < n) (r : Int × Int × Int × List Int)
    (K : ∀ o, Rep n n o (fun a b => if a < i + 1 then W a (n + b) else 0) → Ev (fun k => spec_MatInv.l4 k (n : Int) (wrap64 ((i : Int) + 1)) (n : Int) ((n + n : Nat) : Int) w (n : Int) (n : Int) o) r) :
    ∀ (d j : Nat) (o : List Int), j + d = n → Rep n n o (fun a b => if a < i ∨ a = i ∧ b < j then W a (n + b) else 0) → Ev (fun k => spec_MatInv.l5 k (n : Int) (i : Int) (j : Int) (n : Int) ((n + n : Nat) : Int) w (n : Int) (n : Int) o) r
  | 0, j, o, hd, ho => by
    obtain rfl : j = n := by omega
    refine Ev.step (fun k => by rw [spec_MatInv.l5, if_neg (by omega)]) (K o (ho.congr fun a b ha hb => ?_))
    by_cases c : a < i + 1
    · rw [if_pos c, if_pos (by omega)]
    · rw [if_neg c, if_neg (by omega)]
  | d + 1, j, o, hd, ho => by
    have h1 := idx_lt (C := n) hi (show j < n by omega)
    have h2 := ho.1
    have e1 : wrap64 ((n : Int) + (j : Int)) = ((n + j : Nat) : Int) := by rw [w64 (by omega) (by omega)]; omega
    refine Ev.step (fun k => by rw [spec_MatInv.l5, if_pos (by omega), e1]) ?_
    refine Ev.bind0 (at_eq h hn (by omega) hi (show n + j < n + n by omega)) ?_
    rw [idx_eq (by omega) (by omega) (by omega), w64 (x := (j : Int) + 1) (by omega) (by omega)]
    refine Ev.ifT (by omega) (Ev.ifT (by omega) ?_)
    rw [Int.toNat_natCast]
    refine sout_row hn h hi r K d (j + 1) _ (by omega) (rep_step ho hi (show j < n by omega) fun a b ha hb => ?_)
    unfold upd
    dsimp only
    by_cases e : a = i ∧ b = j
    · obtain ⟨rfl, rfl⟩ := e
      rw [if_pos (by omega), if_pos ⟨rfl, rfl⟩]
    · rw [if_neg e]
      by_cases c : a < i ∨ a = i ∧ b < j
      · rw [if_pos c, if_pos (by omega)]
      · rw [if_neg c, if_neg (fun x => e (by omega))]
theorem sout_rows {n : Nat} {W : MatN} {w : List Int} (hn : n ≤ 64) (h : Rep n (n + n) w W) (r : List Int) (hr : Rep n n r (fun a b => W a (n + b))) :
    ∀ (d i : Nat) (o : List Int), i + d = n → Rep n n o (fun a b => if a < i then W a (n + b) else 0) → Ev (fun k => spec_MatInv.l4 k (n : Int) (i : Int) (n : Int) ((n + n : Nat) : Int) w (n : Int) (n : Int) o) (0, (n : Int), (n : Int), r)
  | 0, i, o, hd, ho => by
    obtain rfl : i = n := by omega
    have e : o = r := Rep.uniq (ho.congr fun a b ha hb => by rw [if_pos ha]) hr
    refine Ev.step (f := fun _ => some (0, (i : Int), (i : Int), o)) (fun k => by rw [spec_MatInv.l4, if_neg (by omega)]) ?_
    rw [e]; exact Ev.now _
  | d + 1, i, o, hd, ho => by
    refine Ev.step (fun k => by rw [spec_MatInv.l4, if_pos (by omega)]) ?_
    refine sout_row hn h (show i < n by omega) _ (fun o2 h2 => ?_) n 0 o (by omega) (ho.congr fun a b ha hb => ?_)
    · rw [w64 (by omega) (by omega)]
      exact sout_rows hn h r hr d (i + 1) o2 (by omega) h2
    · by_cases c : a < i
      · rw [if_pos c, if_pos (Or.inl c)]
      · rw [if_neg c, if_neg (by omega)]
/-- The reference's inverse is what the program reckons. -/
theorem sinv_f (a b : Int) (l : List Int) (hl : l.length ≤ 1048576) : ∃ r, Ev (fun k => spec_MatInv.f k a b l) r ∧ Ev (fun k => impl_MatInv.f k a b l) r ∧ r.2.2.2.length ≤ 4096 := by
  by_cases h : Fit a b l
  · have h' := h
    obtain ⟨f1, f2, f3, f4, f5, f6⟩ := h
    have hfs := sfault_f a b l hl
    have hfi := ifault_f a b l hl
    rw [if_pos h'] at hfs hfi
    by_cases hab : a = b
    · subst hab
      obtain ⟨n, rfl⟩ := Int.eq_ofNat_of_zero_le (show 0 ≤ a by omega)
      simp only [Int.toNat_natCast] at f5
      have hn : n ≤ 64 := by omega
      have hby : Bytes2 (fun i j => l.getD (i * n + j) 0) := fun i j => by
        show 0 ≤ l.getD _ 0 ∧ l.getD _ 0 ≤ 255
        rw [List.getD_eq_getElem?_getD]
        by_cases hx : i * n + j < l.length
        · rw [List.getElem?_eq_getElem hx]; exact f6 _ (List.getElem_mem hx)
        · rw [List.getElem?_eq_none (by omega)]; exact ⟨by decide, by decide⟩
      have hrep : Rep n n l (toN fun i j => l.getD (i * n + j) 0) := ⟨f5, fun i j _ _ => by
        rw [rd_nat]
        have : 0 ≤ l.getD (i * n + j) 0 := (hby i j).1
        show l.getD (i * n + j) 0 = ((l.getD (i * n + j) 0).toNat : Int)
        omega⟩
      have hrk : (redS n n n (0, fun i j => l.getD (i * n + j) 0, idM) n).1 = cnt (toN fun i j => l.getD (i * n + j) 0) n n n := redS_rank hby idM_byt
      have hle := cnt_le (toN fun i j => l.getD (i * n + j) 0) n n n
      have hs : Ev (fun k => spec_MatInv.f k (n : Int) (n : Int) l) (invOf n l) := by
        unfold spec_MatInv.f
        refine Ev.bind hfs (Ev.ifT rfl ?_)
        refine Ev.step (fun k => by rw [spec_MatInv.j0, if_neg (by simp)]) ?_
        refine Ev.bind (rank_f (toN_byt hby) hn (by omega) hrep) ?_
        unfold invOf
        rw [hrk]
        by_cases c : cnt (toN fun i j => l.getD (i * n + j) 0) n n n < n
        · rw [if_pos c]; exact Ev.ifT (by omega) (Ev.now _)
        · rw [if_neg c]
          refine Ev.ifF (by omega) ?_
          have hf : cnt (toN fun i j => l.getD (i * n + j) 0) n n n = n := by omega
          have e2 : wrap64 (2 * (n : Int)) = ((n + n : Nat) : Int) := by rw [w64 (by omega) (by omega)]; omega
          rw [e2]
          refine Ev.bind0 (new_f hn (by omega)) ?_
          refine sinv_rows hn hrep _ (fun w hw => ?_) n 0 _ (by omega) ((rep_zero n (n + n)).congr fun i j _ _ => by unfold stW; rw [if_neg (by omega), if_neg (by omega)])
          refine sinv_cols hn hby hf _ (fun w2 hw2 => ?_) n 0 w (by omega) (hw.congr fun i j hi hj => by
            show aug n _ (toN idM) i j = _
            unfold aug
            by_cases c2 : j < n
            · rw [if_pos c2, if_pos c2]; rfl
            · rw [if_neg c2, if_neg c2, idM_N])
          refine Ev.bind0 (new_f hn (by omega)) ?_
          refine sout_rows hn hw2 _ (rep_cells fun i j hi hj => ?_) n 0 _ (by omega) ((rep_zero n n).congr fun i j _ _ => by rw [if_neg (by omega)])
          have hb2 := (redS_good (R := n) (C := n) (C2 := n) hby idM_byt n (Nat.le_refl _)).2.2
          show _ = ((atK n _ idM n i (n + j) : Nat) : Int)
          unfold atK aug
          rw [if_neg (by omega), Nat.add_sub_cancel_left]
          have := hb2 i j
          show _ = ((Int.toNat _ : Nat) : Int)
          omega
      refine ⟨invOf n l, hs, ?_, ?_⟩
      · unfold impl_MatInv.f
        refine Ev.bind hfi (Ev.ifT rfl (Ev.ifT rfl (Ev.ifT h' ?_)))
        rw [Int.toNat_natCast]
        exact Ev.now _
      · unfold invOf
        split
        · exact Nat.zero_le _
        · rw [GridM.cellsK_len]; exact Nat.mul_le_mul hn hn
    · refine ⟨(1, 0, 0, []), ?_, ?_, Nat.zero_le _⟩
      · unfold spec_MatInv.f
        refine Ev.bind hfs (Ev.ifT rfl ?_)
        have : (a != b) = true := by simpa using hab
        rw [this]
        exact Ev.step (fun k => by rw [spec_MatInv.j0, if_pos rfl]) (Ev.now _)
      · unfold impl_MatInv.f
        exact Ev.bind hfi (Ev.ifT rfl (Ev.ifF hab (Ev.now _)))
  · have hfs := sfault_f a b l hl
    have hfi := ifault_f a b l hl
    rw [if_neg h] at hfs hfi
    refine ⟨(1, 0, 0, []), ?_, ?_, Nat.zero_le _⟩
    · unfold spec_MatInv.f
      exact Ev.bind hfs (Ev.ifF (by decide) (Ev.step (fun k => by rw [spec_MatInv.j0, if_pos rfl]) (Ev.now _)))
    · unfold impl_MatInv.f
      exact Ev.bind hfi (Ev.ifF (by decide) (Ev.now _))

theorem mark_loop (m : Nat) : ∀ (d i : Nat) (y : List Int), y.length = i + d → m + y.length ≤ 4611686018427387904 → ∃ y', Ev (fun k => laws_markInt64S.l0 k y ((m + i : Nat) : Int) (i : Int)) (((m + y.length : Nat) : Int), y') ∧ y'.length = y.length ∧ ∀ j, j < y.length → y'.getD j 0 = if j < i then y.getD j 0 else ((m + j : Nat) : Int)
  | 0, i, y, hl, hm => ⟨y, by
      refine Ev.step (f := fun _ => some (((m + i : Nat) : Int), y)) (fun k => by rw [laws_markInt64S.l0, if_neg (by omega)]) ?_
      rw [(by omega : m + y.length = m + i)]; exact Ev.now _, rfl, fun j hj => by rw [if_pos (by omega)]⟩
  | d + 1, i, y, hl, hm => by
    obtain ⟨y', ev, h1, h2⟩ := mark_loop m d (i + 1) (y.set i ((m + i : Nat) : Int)) (by rw [List.length_set]; omega) (by rw [List.length_set]; omega)
    rw [List.length_set] at h1 ev h2
    refine ⟨y', ?_, h1, fun j hj => ?_⟩
    · refine Ev.step (fun k => by rw [laws_markInt64S.l0, if_pos (by omega), if_pos (by omega), Int.toNat_natCast, w64 (by omega) (by omega), w64 (by omega) (by omega)]) ?_
      have e1 : ((m + i : Nat) : Int) + 1 = ((m + (i + 1) : Nat) : Int) := by omega
      have e2 : (i : Int) + 1 = ((i + 1 : Nat) : Int) := by omega
      rw [e1, e2]; exact ev
    · rw [h2 j hj]
      by_cases c : j < i
      · rw [if_pos (by omega), if_pos c, List.getD_eq_getElem?_getD, List.getD_eq_getElem?_getD, List.getElem?_set_ne (by omega)]
      · rw [if_neg c]
        by_cases e : j = i
        · subst e; rw [if_pos (by omega), List.getD_eq_getElem?_getD, List.getElem?_set_self (by omega)]; rfl
        · rw [if_neg (by omega)]
/-- A list that was marked from m on. -/
def Marked (m : Nat) (y : List Int) : Prop := ∀ j, j < y.length → y.getD j 0 = ((m + j : Nat) : Int)
theorem mark_f (l : List Int) (m : Nat) (hm : m + l.length ≤ 4611686018427387904) : ∃ y, Ev (fun k => laws_markInt64S.f k l (m : Int)) (((m + l.length : Nat) : Int), y) ∧ y.length = l.length ∧ Marked m y := by
  obtain ⟨y', ev, h1, h2⟩ := mark_loop m l.length 0 l (by omega) hm
  refine ⟨y', ev, h1, fun j hj => ?_⟩
  rw [h2 j (by omega), if_neg (by omega)]
theorem held_loop (m : Nat) (y : List Int) (hy : Marked m y) (hm : m + y.length ≤ 4611686018427387904) : ∀ (d i : Nat), y.length = i + d → Ev (fun k => laws_heldInt64S.l0 k y ((m + i : Nat) : Int) (i : Int)) ((m + y.length : Nat) : Int)
  | 0, i, hl => by
    refine Ev.step (f := fun _ => some ((m + i : Nat) : Int)) (fun k => by rw [laws_heldInt64S.l0, if_neg (by omega)]) ?_
    rw [(by omega : m + y.length = m + i)]; exact Ev.now _
  | d + 1, i, hl => by
    refine Ev.step (fun k => by rw [laws_heldInt64S.l0, if_pos (by omega), if_pos (by omega), if_pos (show rd y (i : Int) = _ by unfold rd; rw [Int.toNat_natCast]; exact hy i (by omega)), w64 (by omega) (by omega), w64 (by omega) (by omega)]) ?_
    have e1 : ((m + i : Nat) : Int) + 1 = ((m + (i + 1) : Nat) : Int) := by omega
    have e2 : (i : Int) + 1 = ((i + 1 : Nat) : Int) := by omega
    rw [e1, e2]; exact held_loop m y hy hm d (i + 1) (by omega)
theorem held_f (y : List Int) (m : Nat) (hy : Marked m y) (hm : m + y.length ≤ 4611686018427387904) : Ev (fun k => laws_heldInt64S.f k y (m : Int)) ((m + y.length : Nat) : Int) := held_loop m y hy hm y.length 0 (by omega)

theorem eqRes_f (r : Int × Int × Int × List Int) (hl : r.2.2.2.length ≤ 1048576) : Ev (fun k => laws_eqMatrixResult.f k r.1 r.2.1 r.2.2.1 r.2.2.2 r.1 r.2.1 r.2.2.1 r.2.2.2) true := by
  unfold laws_eqMatrixResult.f
  exact Ev.ifT rfl (Ev.bind (eqMat_f _ _ _ hl) (Ev.ifT rfl (Ev.now _)))
theorem FnExactMatInv : laws_FnExactMatInv.Pure := by
  intro a b l ha hb hl
  refine Ev.rounds (g := fun k => laws_FnExactMatInv.f k a b l) ?_
  have hm := hl.1
  rw [lmax] at hm
  unfold laws_FnExactMatInv.f
  by_cases c : l.length ≤ 1048576
  · refine Ev.bind0 (sz_in a b l c) (Ev.ifF (by omega) ?_)
    obtain ⟨r, h1, h2, h3⟩ := sinv_f a b l c
    have h3' : r.2.2.2.length ≤ 1048576 := by omega
    obtain ⟨y1, m1, _, _⟩ := mark_f l 1 (by omega)
    obtain ⟨y2, m2, n2, k2⟩ := mark_f r.2.2.2 1 (by omega)
    have hh := held_f y2 1 k2 (by omega)
    have hheld : Ev (fun k => laws_heldMatrixResult.f k r.1 r.2.1 r.2.2.1 y2 1) ((1 + y2.length : Nat) : Int) := by
      unfold laws_heldMatrixResult.f laws_heldMatrix.f
      exact Ev.bind (Ev.bind hh (Ev.ifF (by omega) (Ev.now _))) (Ev.ifF (by omega) (Ev.now _))
    have hmark : Ev (fun k => laws_markMatrixResult.f k r.1 r.2.1 r.2.2.1 r.2.2.2 1) (((1 + r.2.2.2.length : Nat) : Int), y2) := by
      unfold laws_markMatrixResult.f laws_markMatrix.f
      exact Ev.bind (Ev.bind m2 (Ev.now _)) (Ev.now _)
    refine Ev.bind (mat_f a b l c) (Ev.bind h1 (Ev.bind (mat_f a b l c) (Ev.bind h2 (Ev.bind (eqRes_f r h3') (Ev.ifT rfl (Ev.bind (mat_f a b l c) (Ev.bind (eqMat_f a b l c) (Ev.ifT rfl (Ev.bind (a := (((1 + l.length : Nat) : Int), y1)) ?_ (Ev.ifF ?_ (Ev.bind (eqRes_f r h3') ?_)))))))))))
    · unfold laws_markMatrix.f
      exact Ev.bind m1 (Ev.now _)
    · show ¬ ((1 + l.length : Nat) : Int) < 0
      omega
    · refine Ev.step (fun k => by rw [laws_FnExactMatInv.j0, if_neg (by decide)]) ?_
      refine Ev.bind hmark (Ev.bind hheld (Ev.ifF (by omega) (Ev.ifT (by rw [n2]) ?_)))
      exact Ev.bind (mat_f a b l c) (Ev.bind h2 (Ev.bind (eqRes_f r h3') (Ev.ifT rfl (Ev.bind hheld (Ev.ifF (by omega) (Ev.ifT (by rw [n2]) (Ev.now _)))))))
  · exact Ev.bind0 (sz_out a b l c hm) (Ev.ifT (show (-1 : Int) < 0 by decide) (Ev.now _))
end Go.Proofs.Ytffhbpepppodeaa.Pure
