/-
  The plain law MatRank: the program's rank is the reference's; for all matrices.
-/
import Derived.Test.YtffhbpepppodeaaPureSpecMatRank2
namespace Go.Proofs.Ytffhbpepppodeaa.Pure
open Go.RowKit Go.Proofs.Ytffhbpepppodeaa.PFnExactMatRank Go.Proofs.Ytffhbpepppodeaa.Base Go.Proofs.YtffhbpepppodeaaW.PrintWords Go.Proofs.YtffhbpepppodeaaW.PrintLast Go.Proofs.YtffhbpepppodeaaW.PrintMore
open Go.Proofs.Ytffhbpepppodeaa.Gf Go.Proofs.Ytffhbpepppodeaa.Reduce Go.Proofs.Ytffhbpepppodeaa.Grid Go.Proofs.Ytffhbpepppodeaa.Field Go.Proofs.Ytffhbpepppodeaa.Elim

def allB (l : List Int) : Prop := ∀ x ∈ l, 0 ≤ x ∧ x ≤ 255
theorem rd_nat (l : List Int) (i : Nat) : rd l (i : Int) = l.getD i 0 := by unfold rd; rw [Int.toNat_natCast]
theorem in_yes {x : Int} (h : 0 ≤ x ∧ x ≤ 255) : spec_l02In.f x 256 = some true := by
  unfold spec_l02In.f; rw [if_pos (by omega)]; exact congrArg some (decide_eq_true (by omega))
theorem in_no {x : Int} (h : ¬ (0 ≤ x ∧ x ≤ 255)) : spec_l02In.f x 256 = some false := by
  unfold spec_l02In.f
  by_cases c : x ≥ 0
  · rw [if_pos c]; exact congrArg some (decide_eq_false (by omega))
  · rw [if_neg c]
theorem is_yes {x : Int} (h : 0 ≤ x ∧ x ≤ 255) : impl_isByte.f x = some true := by
  unfold impl_isByte.f; rw [if_pos (by omega)]; exact congrArg some (decide_eq_true (by omega))
theorem is_no {x : Int} (h : ¬ (0 ≤ x ∧ x ≤ 255)) : impl_isByte.f x = some false := by
  unfold impl_isByte.f
  by_cases c : x ≥ 0
  · rw [if_pos c]; exact congrArg some (decide_eq_false (by omega))
  · rw [if_neg c]
theorem allB_of {l : List Int} (h : ∀ j, j < l.length → 0 ≤ l.getD j 0 ∧ l.getD j 0 ≤ 255) : allB l := fun x hx => by
  obtain ⟨j, hj, rfl⟩ := List.getElem_of_mem hx
  have := h j hj
  rw [List.getD_eq_getElem?_getD, List.getElem?_eq_getElem hj] at this
  exact this
open Classical in
theorem sfault_loop (a b : Int) (l : List Int) (hl : l.length ≤ 1048576) : ∀ (d i : Nat), i + d = l.length → (∀ j, j < i → 0 ≤ l.getD j 0 ∧ l.getD j 0 ≤ 255) → Ev (fun k => spec_MatrixFault.l0 k (i : Int) a b l) (if allB l then 0 else 1)
  | 0, i, hd, h => by
    rw [if_pos (allB_of fun j hj => h j (by omega))]
    exact Ev.step (fun k => by rw [spec_MatrixFault.l0, if_neg (by omega)]) (Ev.now _)
  | d + 1, i, hd, h => by
    refine Ev.step (fun k => by rw [spec_MatrixFault.l0, if_pos (by omega), if_pos (by omega)]) ?_
    rw [rd_nat]
    by_cases c : 0 ≤ l.getD i 0 ∧ l.getD i 0 ≤ 255
    · refine Ev.bind0 (in_yes c) (Ev.ifT rfl ?_)
      rw [w64 (by omega) (by omega)]
      exact sfault_loop a b l hl d (i + 1) (by omega) (fun j hj => by
        by_cases e : j = i
        · subst e; exact c
        · exact h j (by omega))
    · refine Ev.bind0 (in_no c) (Ev.ifF (by decide) ?_)
      rw [if_neg (fun hb => c (hb _ (getD_mem 0 (by omega))))]
      exact Ev.now _
open Classical in
theorem ifault_loop (l : List Int) (hl : l.length ≤ 1048576) : ∀ (d i : Nat), i + d = l.length → (∀ j, j < i → 0 ≤ l.getD j 0 ∧ l.getD j 0 ≤ 255) → Ev (fun k => impl_MatrixFault.l0 k l (l.length : Int) (i : Int)) (if allB l then 0 else 1)
  | 0, i, hd, h => by
    rw [if_pos (allB_of fun j hj => h j (by omega))]
    exact Ev.step (fun k => by rw [impl_MatrixFault.l0, if_neg (by omega)]) (Ev.now _)
  | d + 1, i, hd, h => by
    refine Ev.step (fun k => by rw [impl_MatrixFault.l0, if_pos (by omega), if_pos (by omega), if_pos (by omega)]) ?_
    rw [rd_nat]
    by_cases c : 0 ≤ l.getD i 0 ∧ l.getD i 0 ≤ 255
    · refine Ev.bind0 (is_yes c) (Ev.ifT rfl ?_)
      rw [w64 (by omega) (by omega)]
      exact ifault_loop l hl d (i + 1) (by omega) (fun j hj => by
        by_cases e : j = i
        · subst e; exact c
        · exact h j (by omega))
    · refine Ev.bind0 (is_no c) (Ev.ifF (by decide) ?_)
      rw [if_neg (fun hb => c (hb _ (getD_mem 0 (by omega))))]
      exact Ev.now _
theorem ab_nat {a b : Int} (h1 : 1 ≤ a) (h2 : a ≤ 64) (h3 : 1 ≤ b) (h4 : b ≤ 64) : wrap64 (a * b) = ((a.toNat * b.toNat : Nat) : Int) := by
  obtain ⟨A, rfl⟩ := Int.eq_ofNat_of_zero_le (show 0 ≤ a by omega)
  obtain ⟨B, rfl⟩ := Int.eq_ofNat_of_zero_le (show 0 ≤ b by omega)
  have h5 : A * B ≤ 64 * 64 := Nat.mul_le_mul (by omega) (by omega)
  rw [← Int.natCast_mul, w64 (by omega) (by omega)]; rfl
theorem sj_true (a b : Int) (l : List Int) : Ev (fun k => spec_MatrixFault.j0 k true a b l) 1 := Ev.step (fun k => by rw [spec_MatrixFault.j0, if_pos rfl]) (Ev.now _)
theorem ij_true (a b : Int) (l : List Int) : Ev (fun k => impl_MatrixFault.j0 k true a b l) 1 := Ev.step (fun k => by rw [impl_MatrixFault.j0, if_pos rfl]) (Ev.now _)
theorem sfault_f (a b : Int) (l : List Int) (hl : l.length ≤ 1048576) : Ev (fun k => spec_MatrixFault.f k a b l) (if Fit a b l then 0 else 1) := by
  classical
  unfold spec_MatrixFault.f
  by_cases h1 : a < 1
  · rw [if_neg (fun h => by have := h.1; omega)]; exact Ev.ifT h1 (sj_true a b l)
  refine Ev.ifF h1 ?_
  by_cases h2 : a > 64
  · rw [if_neg (fun h => by have := h.2.1; omega)]; exact Ev.ifT h2 (sj_true a b l)
  refine Ev.ifF h2 ?_
  by_cases h3 : b < 1
  · rw [if_neg (fun h => by have := h.2.2.1; omega)]; exact Ev.ifT h3 (sj_true a b l)
  refine Ev.ifF h3 ?_
  by_cases h4 : b > 64
  · rw [if_neg (fun h => by have := h.2.2.2.1; omega)]; exact Ev.ifT h4 (sj_true a b l)
  refine Ev.ifF h4 ?_
  rw [ab_nat (by omega) (by omega) (by omega) (by omega)]
  by_cases h5 : l.length = a.toNat * b.toNat
  · have e : ((l.length : Int) != ((a.toNat * b.toNat : Nat) : Int)) = false := by rw [h5]; simp
    rw [e]
    refine Ev.step (fun k => by rw [spec_MatrixFault.j0, if_neg (by decide)]) ?_
    have := sfault_loop a b l hl l.length 0 (by omega) (fun j hj => by omega)
    by_cases h6 : allB l
    · rw [if_pos h6] at this
      rw [if_pos ⟨by omega, by omega, by omega, by omega, h5, h6⟩]; exact this
    · rw [if_neg h6] at this
      rw [if_neg (fun h => h6 h.2.2.2.2.2)]; exact this
  · have e : ((l.length : Int) != ((a.toNat * b.toNat : Nat) : Int)) = true := bne_iff_ne.2 (fun h => h5 (Int.ofNat_inj.1 h))
    rw [e, if_neg (fun h => h5 h.2.2.2.2.1)]
    exact sj_true a b l
theorem ifault_f (a b : Int) (l : List Int) (hl : l.length ≤ 1048576) : Ev (fun k => impl_MatrixFault.f k a b l) (if Fit a b l then 0 else 1) := by
  classical
  unfold impl_MatrixFault.f
  by_cases h1 : a < 1
  · rw [if_neg (fun h => by have := h.1; omega)]; exact Ev.ifT h1 (ij_true a b l)
  refine Ev.ifF h1 ?_
  by_cases h2 : a > 64
  · rw [if_neg (fun h => by have := h.2.1; omega)]; exact Ev.ifT h2 (ij_true a b l)
  refine Ev.ifF h2 ?_
  by_cases h3 : b < 1
  · rw [if_neg (fun h => by have := h.2.2.1; omega)]; exact Ev.ifT h3 (ij_true a b l)
  refine Ev.ifF h3 ?_
  by_cases h4 : b > 64
  · rw [if_neg (fun h => by have := h.2.2.2.1; omega)]; exact Ev.ifT h4 (ij_true a b l)
  refine Ev.ifF h4 ?_
  rw [ab_nat (by omega) (by omega) (by omega) (by omega)]
  by_cases h5 : l.length = a.toNat * b.toNat
  · have e : ((l.length : Int) != ((a.toNat * b.toNat : Nat) : Int)) = false := by rw [h5]; simp
    rw [e]
    refine Ev.step (fun k => by rw [impl_MatrixFault.j0, if_neg (by decide)]) ?_
    have := ifault_loop l hl l.length 0 (by omega) (fun j hj => by omega)
    by_cases h6 : allB l
    · rw [if_pos h6] at this
      rw [if_pos ⟨by omega, by omega, by omega, by omega, h5, h6⟩]; exact this
    · rw [if_neg h6] at this
      rw [if_neg (fun h => h6 h.2.2.2.2.2)]; exact this
  · have e : ((l.length : Int) != ((a.toNat * b.toNat : Nat) : Int)) = true := bne_iff_ne.2 (fun h => h5 (Int.ofNat_inj.1 h))
    rw [e, if_neg (fun h => h5 h.2.2.2.2.1)]
    exact ij_true a b l
theorem ints_f (l : List Int) (hl : l.length ≤ 1048576) : Ev (fun k => laws_toInt64S.f k l) l := by
  unfold laws_toInt64S.f
  refine Ev.ifT (by omega) (Ev.ifT (by omega) ?_)
  have := map_loop laws_toInt64S.l0 (fun x : Int => x) (0 : Int) (fun _ => True) (fun x y i h1 _ hi hy r ev => by
    refine Ev.step (fun k => by rw [laws_toInt64S.l0, if_pos (by omega), if_pos (by omega), if_pos (by omega)]) ?_
    rw [rd_nat, Int.toNat_natCast, w64 (by omega) (by omega)]
    exact ev) (fun x y i hi => Ev.step (fun k => by rw [laws_toInt64S.l0, if_neg (by omega)]) (Ev.now _)) l (by omega) (fun _ _ => trivial) (0 : Int)
  rw [Int.toNat_natCast]
  simpa using this
theorem mat_f (a b : Int) (l : List Int) (hl : l.length ≤ 1048576) : Ev (fun k => laws_toMatrix.f k a b l) (a, b, l) := by
  unfold laws_toMatrix.f
  exact Ev.bind (ints_f l hl) (Ev.now _)
theorem eqInts_f (l : List Int) (hl : l.length ≤ 1048576) : Ev (fun k => laws_eqInt64S.f k l l) true := by
  unfold laws_eqInt64S.f
  refine Ev.ifT rfl ?_
  exact eq_loop laws_eqInt64S.l0 (fun _ => True) (fun x i h1 _ hi ev => by
    refine Ev.step (fun k => by rw [laws_eqInt64S.l0, if_pos (by omega), if_pos (by omega), if_pos (by omega), if_pos rfl]) ?_
    rw [w64 (by omega) (by omega)]
    exact ev) (fun x i hi => Ev.step (fun k => by rw [laws_eqInt64S.l0, if_neg (by omega)]) (Ev.now _)) l (by omega) (fun _ _ => trivial)
theorem eqMat_f (a b : Int) (l : List Int) (hl : l.length ≤ 1048576) : Ev (fun k => laws_eqMatrix.f k a b l a b l) true := by
  unfold laws_eqMatrix.f
  exact Ev.ifT rfl (Ev.ifT rfl (Ev.bind (eqInts_f l hl) (Ev.ifT rfl (Ev.now _))))
theorem rank_both (a b : Int) (l : List Int) (hl : l.length ≤ 1048576) : ∃ r, Ev (fun k => spec_MatRank.f k a b l) r ∧ Ev (fun k => impl_MatRank.f k a b l) r := by
  by_cases h : Fit a b l
  · have h' := h
    obtain ⟨f1, f2, f3, f4, f5, f6⟩ := h
    obtain ⟨R, rfl⟩ := Int.eq_ofNat_of_zero_le (show 0 ≤ a by omega)
    obtain ⟨C, rfl⟩ := Int.eq_ofNat_of_zero_le (show 0 ≤ b by omega)
    simp only [Int.toNat_natCast] at f5
    have hby : Bytes2 (fun i j => l.getD (i * C + j) 0) := fun i j => by
      show 0 ≤ l.getD _ 0 ∧ l.getD _ 0 ≤ 255
      rw [List.getD_eq_getElem?_getD]
      by_cases hx : i * C + j < l.length
      · rw [List.getElem?_eq_getElem hx]; exact f6 _ (List.getElem_mem hx)
      · rw [List.getElem?_eq_none (by omega)]; exact ⟨by decide, by decide⟩
    have hrep : Rep R C l (toN fun i j => l.getD (i * C + j) 0) := ⟨f5, fun i j _ _ => by
      rw [rd_nat]
      have : 0 ≤ l.getD (i * C + j) 0 := (hby i j).1
      show l.getD (i * C + j) 0 = ((l.getD (i * C + j) 0).toNat : Int)
      omega⟩
    refine ⟨((cnt (toN fun i j => l.getD (i * C + j) 0) R C C : Nat) : Int), ?_, ?_⟩
    · unfold spec_MatRank.f
      have hf := sfault_f (R : Int) (C : Int) l hl
      rw [if_pos h'] at hf
      exact Ev.bind hf (Ev.ifT rfl (Ev.bind (rank_f (toN_byt hby) (by omega) (by omega) hrep) (Ev.now _)))
    · unfold impl_MatRank.f
      have hf := ifault_f (R : Int) (C : Int) l hl
      rw [if_pos h'] at hf
      refine Ev.bind hf (Ev.ifT rfl (Ev.ifT h' ?_))
      have : rankOf (R : Int).toNat (C : Int).toNat l = cnt (toN fun i j => l.getD (i * C + j) 0) R C C := redS_rank hby hby
      rw [this]
      exact Ev.now _
  · refine ⟨-1, ?_, ?_⟩
    · unfold spec_MatRank.f
      have hf := sfault_f a b l hl
      rw [if_neg h] at hf
      exact Ev.bind hf (Ev.ifF (by decide) (Ev.now _))
    · unfold impl_MatRank.f
      have hf := ifault_f a b l hl
      rw [if_neg h] at hf
      exact Ev.bind hf (Ev.ifF (by decide) (Ev.now _))
theorem sz_in (a b : Int) (l : List Int) (h : l.length ≤ 1048576) : laws_szMatrix.f a b l 1048576 = some (1048576 - (l.length : Int)) := by
  have e1 : wrap64 (1048576 - (l.length : Int)) = 1048576 - (l.length : Int) := w64 (by omega) (by omega)
  unfold laws_szMatrix.f laws_szInt64S.f
  rw [e1, if_neg (by omega)]
  exact if_neg (by omega)
theorem sz_out (a b : Int) (l : List Int) (h : ¬ l.length ≤ 1048576) (hm : l.length ≤ 9223372036854775807) : laws_szMatrix.f a b l 1048576 = some (-1) := by
  have e1 : wrap64 (1048576 - (l.length : Int)) = 1048576 - (l.length : Int) := w64 (by omega) (by omega)
  unfold laws_szMatrix.f laws_szInt64S.f
  rw [e1, if_pos (by omega)]
  rfl
theorem FnExactMatRank : laws_FnExactMatRank.Pure := by
  intro a b l ha hb hl
  refine Ev.rounds (g := fun k => laws_FnExactMatRank.f k a b l) ?_
  have hm := hl.1
  rw [lmax] at hm
  unfold laws_FnExactMatRank.f
  by_cases c : l.length ≤ 1048576
  · refine Ev.bind0 (sz_in a b l c) (Ev.ifF (by omega) ?_)
    obtain ⟨r, h1, h2⟩ := rank_both a b l c
    exact Ev.bind (mat_f a b l c) (Ev.bind h1 (Ev.bind (mat_f a b l c) (Ev.bind h2 (Ev.ifT rfl (Ev.bind (mat_f a b l c) (Ev.bind (eqMat_f a b l c) (Ev.ifT rfl (Ev.now _))))))))
  · exact Ev.bind0 (sz_out a b l c hm) (Ev.ifT (show (-1 : Int) < 0 by decide) (Ev.now _))
end Go.Proofs.Ytffhbpepppodeaa.Pure
