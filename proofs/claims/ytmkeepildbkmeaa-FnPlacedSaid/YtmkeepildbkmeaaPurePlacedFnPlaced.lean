/-
  What is checked of a key's places holds of them.
-/
import Derived.Test.YtmkeepildbkmeaaPurePlaceFnPlaced
import Derived.Test.YtmkeepildbkmeaaRingSubFnPlaced
namespace Go.Proofs.Ytmkeepildbkmeaa.Pure
open Go.RowKit Go.Proofs.Ytmkeepildbkmeaa.PFnPlaced Go.Proofs.Ytmkeepildbkmeaa.Base Go.Proofs.YtmkeepildbkmeaaW.PrintWords Go.Proofs.YtmkeepildbkmeaaW.PrintLast Go.Proofs.YtmkeepildbkmeaaW.PrintMore
open Go.Proofs.Ytmkeepildbkmeaa.Hs Go.Proofs.Ytmkeepildbkmeaa.Ring

theorem disk_eq {a1 : ByteArray} {l0 : List S32} (hR : Right l0) (hs : a1.size ≤ 1000) {i : Nat} (hi : i < l0.length) : Ev (fun k => impl_DiskScore.f k l0 a1 (i : Int)) (scN a1 l0 i) := by
  have hn := (nf_eq l0).1
  rw [if_pos hR] at hn
  have hr := hR.2.2 i hi
  have hl := hR.2.1
  unfold impl_DiskScore.f
  exact Ev.bind hn (Ev.ifT rfl (Ev.ifF (by omega) (Ev.ifF (by omega) (Ev.ifF (by omega) (Ev.ifT (by omega) (Ev.ifT (by omega) (Ev.bind (iscore_eq hs _ (by omega) (by omega) hr.2.2.1 hr.2.2.2) (Ev.now _))))))))
theorem best_ge (a1 : ByteArray) (i : Int) : ∀ (d : Nat) (t b : Int), b ≤ bestV a1 i d t b
  | 0, t, b => Int.le_refl b
  | d + 1, t, b => by
    refine Int.le_trans ?_ (best_ge a1 i d (t + 1) (mx b (mixV a1 i t)))
    unfold mx
    split <;> omega
/-- A disk that has a score has a weight. -/
theorem weight_pos {a1 : ByteArray} {i w : Int} (h : 0 ≤ scoreV a1 i w) : 1 ≤ w := by
  by_cases c : 1 ≤ w
  · exact c
  · exfalso
    have e : w.toNat = 0 := by omega
    unfold scoreV at h
    rw [e] at h
    have h2 : (0 : Int) ≤ -1 := h
    omega
section
variable {a1 : ByteArray} {l0 : List S32} {S : List S2} {c : Int}
theorem dom_loop (hlen : l0.length ≤ 200) (hS : ∀ x ∈ S, ∃ i, i < l0.length ∧ x = ((i : Int), scN a1 l0 i) ∧ 0 ≤ scN a1 l0 i) (hSl : S.length ≤ 1000) (hd : S.Pairwise (fun a b => domOf l0 a.1 ≠ domOf l0 b.1)) {q : Nat} (hq : q < S.length) (K : Ev (fun k => laws_FnPlaced.l0 k l0 a1 (wrap64 ((q : Int) + 1)) c (S.map (·.1))) true) :
    ∀ (d j : Nat), j + d = q → Ev (fun k => laws_FnPlaced.l1 k l0 a1 (q : Int) (j : Int) c (S.map (·.1))) true
  | 0, j, he => Ev.step (fun k => by rw [laws_FnPlaced.l1, if_neg (by omega)]) K
  | d + 1, j, he => by
    have hj : j < S.length := by omega
    have hml : (S.map (·.1)).length = S.length := List.length_map _
    have at_ : ∀ m (h : m < S.length), rd (S.map (·.1)) (m : Int) = (S[m]).1 := fun m h => by
      rw [rd_nat, List.getD_eq_getElem?_getD, List.getElem?_map, List.getElem?_eq_getElem h]; rfl
    obtain ⟨iq, hiq, eq, _⟩ := hS _ (List.getElem_mem hq)
    obtain ⟨ij, hij, ej, _⟩ := hS _ (List.getElem_mem hj)
    have hne := List.pairwise_iff_getElem.1 hd j q hj hq (by omega)
    have e1 : (S[q]).1 = (iq : Int) := by rw [eq]
    have e2 : (S[j]).1 = (ij : Int) := by rw [ej]
    refine Ev.step (fun k => by rw [laws_FnPlaced.l1, if_pos (by omega), if_pos (by omega), if_pos (by omega), at_ q hq, if_pos (by omega), if_pos (by omega), if_pos (by omega), if_pos (by omega), at_ j hj, if_pos (by omega), if_pos (by omega), if_neg (fun e => hne e.symm), w64 (by omega) (by omega)]) ?_
    exact dom_loop hlen hS hSl hd hq K d (j + 1) (by omega)
theorem disk_loop (hR : Right l0) (hs : a1.size ≤ 1000) (hS : ∀ x ∈ S, ∃ i, i < l0.length ∧ x = ((i : Int), scN a1 l0 i) ∧ 0 ≤ scN a1 l0 i) (hSl : S.length ≤ 1000) (hso : Sorted S) (hd : S.Pairwise (fun a b => domOf l0 a.1 ≠ domOf l0 b.1)) :
    ∀ (d q : Nat), q + d = S.length → Ev (fun k => laws_FnPlaced.l0 k l0 a1 (q : Int) c (S.map (·.1))) true
  | 0, q, he => Ev.step (f := fun _ => some true) (fun k => by rw [laws_FnPlaced.l0, if_neg (by rw [List.length_map]; omega)]) (Ev.now _)
  | d + 1, q, he => by
    have hlen := hR.2.1
    have hq : q < S.length := by omega
    have hml : (S.map (·.1)).length = S.length := List.length_map _
    have at_ : ∀ m (h : m < S.length), rd (S.map (·.1)) (m : Int) = (S[m]).1 := fun m h => by
      rw [rd_nat, List.getD_eq_getElem?_getD, List.getElem?_map, List.getElem?_eq_getElem h]; rfl
    obtain ⟨iq, hiq, eq, hsq⟩ := hS _ (List.getElem_mem hq)
    have e1 : (S[q]).1 = (iq : Int) := by rw [eq]
    have hw : 1 ≤ (rd_T32 l0 (iq : Int)).f1 := weight_pos hsq
    have K : Ev (fun k => laws_FnPlaced.l0 k l0 a1 (wrap64 ((q : Int) + 1)) c (S.map (·.1))) true := by
      rw [w64 (by omega) (by omega)]
      exact disk_loop hR hs hS hSl hso hd d (q + 1) (by omega)
    have hj2 : Ev (fun k => laws_FnPlaced.j2 k l0 a1 (q : Int) false c (S.map (·.1))) true := Ev.step (fun k => by rw [laws_FnPlaced.j2, if_neg (by decide)]; rfl) (dom_loop hlen hS hSl hd hq K q 0 (by omega))
    refine Ev.step (fun k => by rw [laws_FnPlaced.l0, if_pos (by omega), if_pos (by omega), at_ q hq, e1, if_pos (by omega), if_pos (by omega), if_neg (by omega)]) ?_
    by_cases c0 : (q : Int) > 0
    · have hp : q - 1 < S.length := by omega
      have ew : wrap64 ((q : Int) - 1) = ((q - 1 : Nat) : Int) := by rw [w64 (by omega) (by omega)]; omega
      obtain ⟨ip, hip, ep, _⟩ := hS _ (List.getElem_mem hp)
      have e2 : (S[q - 1]).1 = (ip : Int) := by rw [ep]
      rw [ew, at_ (q - 1) hp, e2]
      refine Ev.ifT c0 (Ev.ifT (by omega) (Ev.ifT (by omega) (Ev.bind (disk_eq hR hs hip) (Ev.bind (disk_eq hR hs hiq) ?_))))
      have hhi := List.pairwise_iff_getElem.1 hso (q - 1) q hp hq (by omega)
      rw [ep, eq, hiB_iff] at hhi
      have e3 : decide (scN a1 l0 ip < scN a1 l0 iq) = false := decide_eq_false (by
        rcases hhi with h | h
        · have : scN a1 l0 iq < scN a1 l0 ip := h
          omega
        · have : scN a1 l0 ip = scN a1 l0 iq := h.1
          omega)
      rw [e3]; exact hj2
    · exact Ev.ifF c0 hj2
end
end Go.Proofs.Ytmkeepildbkmeaa.Pure
