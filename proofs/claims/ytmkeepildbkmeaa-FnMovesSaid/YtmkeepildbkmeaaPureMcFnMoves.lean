/-
  How often a key's disks are new.
-/
import Derived.Test.YtmkeepildbkmeaaPurePlaceFnMoves
namespace Go.Proofs.Ytmkeepildbkmeaa.Pure
open Go.RowKit Go.Proofs.Ytmkeepildbkmeaa.PFnMoves Go.Proofs.Ytmkeepildbkmeaa.Base Go.Proofs.YtmkeepildbkmeaaW.PrintWords Go.Proofs.YtmkeepildbkmeaaW.PrintLast Go.Proofs.YtmkeepildbkmeaaW.PrintMore
open Go.Proofs.Ytmkeepildbkmeaa.Hs Go.Proofs.Ytmkeepildbkmeaa.Ring

theorem idx_l0 (A : List Int) (x : Int) (hl : A.length ≤ 1000000) : ∀ (d i : Nat), i + d = A.length → x ∉ A.take i → ∃ t, Ev (fun k => slices_Index_int64_int64.l0 k A x (A.length : Int) (i : Int)) t ∧ decide (t ≥ 0) = decide (x ∈ A)
  | 0, i, hd, hn => by
    have e : decide (x ∈ A) = false := decide_eq_false (by rwa [List.take_of_length_le (by omega)] at hn)
    rw [e]
    exact ⟨-1, Ev.step (fun k => by rw [slices_Index_int64_int64.l0, if_neg (by omega)]) (Ev.now _), by decide⟩
  | d + 1, i, hd, hn => by
    have hi : i < A.length := by omega
    have er : rd A (i : Int) = A[i] := by rw [rd_nat, List.getD_eq_getElem?_getD, List.getElem?_eq_getElem hi]; rfl
    by_cases c : x = A[i]
    · have e : decide (x ∈ A) = true := decide_eq_true (c ▸ List.getElem_mem hi)
      rw [e]
      exact ⟨(i : Int), Ev.step (fun k => by rw [slices_Index_int64_int64.l0, if_pos (by omega), if_pos (by omega), if_pos (by omega), er, if_pos c]) (Ev.now _), decide_eq_true (by omega)⟩
    · obtain ⟨t, ev, h⟩ := idx_l0 A x hl d (i + 1) (by omega) (by
        rw [List.take_succ_eq_append_getElem hi, List.mem_append, List.mem_singleton]
        rintro (h | h)
        · exact hn h
        · exact c h)
      refine ⟨t, Ev.step (fun k => by rw [slices_Index_int64_int64.l0, if_pos (by omega), if_pos (by omega), if_pos (by omega), er, if_neg c, w64 (by omega) (by omega)]; rfl) ev, h⟩
theorem contains_eq (A : List Int) (x : Int) (hl : A.length ≤ 1000000) : Ev (fun k => slices_Contains_int64_int64.f k A x) (decide (x ∈ A)) := by
  obtain ⟨t, ev, h⟩ := idx_l0 A x hl A.length 0 (by omega) (by simp)
  unfold slices_Contains_int64_int64.f
  rw [← h]
  exact Ev.bind ev (Ev.now _)
theorem best_ge (a1 : ByteArray) (i : Int) : ∀ (d : Nat) (t b : Int), b ≤ bestV a1 i d t b
  | 0, t, b => Int.le_refl b
  | d + 1, t, b => by
    refine Int.le_trans ?_ (best_ge a1 i d (t + 1) (mx b (mixV a1 i t)))
    unfold mx
    split <;> omega
end Go.Proofs.Ytmkeepildbkmeaa.Pure
