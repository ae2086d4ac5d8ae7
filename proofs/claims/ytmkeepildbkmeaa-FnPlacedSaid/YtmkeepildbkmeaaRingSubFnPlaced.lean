/-
  What is picked is a part of the ring, in its order, each of another domain: no program in sight.
-/
import Derived.Test.YtmkeepildbkmeaaRingFnPlaced
namespace Go.Proofs.Ytmkeepildbkmeaa.Ring
open Go.Proofs.Ytmkeepildbkmeaa.Hs
theorem pick_sub (dom : Int → Int) (n : Int) : ∀ (R : List S2) (O : List Int), ∃ S : List S2, S.Sublist R ∧ pickV dom n R O = O ++ S.map (·.1) ∧ (∀ x ∈ S, dom x.1 ∉ O.map dom) ∧ S.Pairwise (fun a b => dom a.1 ≠ dom b.1)
  | [], O => ⟨[], List.Sublist.refl _, by rw [List.map_nil, List.append_nil]; rfl, (fun _ h => by cases h), List.Pairwise.nil⟩
  | x :: r, O => by
    by_cases c : dom x.1 ∈ O.map dom ∨ (O.length : Int) = n
    · obtain ⟨S, h1, h2, h3, h4⟩ := pick_sub dom n r O
      exact ⟨S, h1.cons x, by unfold pickV; rw [if_pos c]; exact h2, h3, h4⟩
    · obtain ⟨S, h1, h2, h3, h4⟩ := pick_sub dom n r (O ++ [x.1])
      refine ⟨x :: S, h1.cons_cons x, ?_, ?_, ?_⟩
      · unfold pickV
        rw [if_neg c, h2, List.map_cons, List.append_assoc]; rfl
      · intro y hy
        rcases List.mem_cons.1 hy with rfl | hy
        · exact fun h => c (Or.inl h)
        · exact fun h => h3 y hy (by rw [List.map_append]; exact List.mem_append_left _ h)
      · refine List.pairwise_cons.2 ⟨fun y hy e => h3 y hy ?_, h4⟩
        rw [List.map_append, ← e]
        exact List.mem_append_right _ List.mem_cons_self
/-- What holds of a key's places. -/
theorem placed (dom : Int → Int) (n : Int) (sc : Nat → Int) (m : Nat) : ∃ S : List S2, pickV dom n (ringV sc m) [] = S.map (·.1) ∧ (∀ x ∈ S, ∃ i, i < m ∧ x = ((i : Int), sc i) ∧ 0 ≤ sc i) ∧ Sorted S ∧ S.Pairwise (fun a b => dom a.1 ≠ dom b.1) := by
  obtain ⟨S, h1, h2, _, h4⟩ := pick_sub dom n (ringV sc m) []
  exact ⟨S, by rw [h2, List.nil_append], fun x hx => (ring_mem sc m x).1 (h1.subset hx), List.Pairwise.sublist h1 (ring_sorted sc m), h4⟩
end Go.Proofs.Ytmkeepildbkmeaa.Ring
