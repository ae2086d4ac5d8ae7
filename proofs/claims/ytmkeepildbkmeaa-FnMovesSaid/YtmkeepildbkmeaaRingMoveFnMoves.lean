/-
  What comes into a key's places when one disk's score grows: that disk alone. No program in sight.
-/
import Derived.Test.YtmkeepildbkmeaaRingFnMoves
namespace Go.Proofs.Ytmkeepildbkmeaa.Ring
open Go.Proofs.Ytmkeepildbkmeaa.Hs
theorem sorted_ext : ∀ {A B : List S2}, Sorted A → Sorted B → (∀ x, x ∈ A ↔ x ∈ B) → A = B
  | [], [], _, _, _ => rfl
  | [], b :: B, _, _, h => absurd ((h b).2 List.mem_cons_self) List.not_mem_nil
  | a :: A, [], _, _, h => absurd ((h a).1 List.mem_cons_self) List.not_mem_nil
  | a :: A, b :: B, hA, hB, h => by
    replace hA := List.pairwise_cons.1 hA
    replace hB := List.pairwise_cons.1 hB
    have irr : ∀ x : S2, hiB x x = true → False := fun x hx => by rw [hiB_iff] at hx; omega
    have e : a = b := by
      rcases List.mem_cons.1 ((h a).1 List.mem_cons_self) with e | h1
      · exact e
      · rcases List.mem_cons.1 ((h b).2 List.mem_cons_self) with e | h2
        · exact e.symm
        · have := hiB_asymm (hB.1 a h1); rw [hA.1 b h2] at this; cases this
    subst e
    have e2 : A = B := sorted_ext hA.2 hB.2 fun x => by
      constructor
      · intro hx
        rcases List.mem_cons.1 ((h x).1 (List.mem_cons_of_mem _ hx)) with e | h1
        · subst e; exact (irr x (hA.1 x hx)).elim
        · exact h1
      · intro hx
        rcases List.mem_cons.1 ((h x).2 (List.mem_cons_of_mem _ hx)) with e | h1
        · subst e; exact (irr x (hB.1 x hx)).elim
        · exact h1
    rw [e2]
theorem nodup_sub_len : ∀ {A B : List Int}, A.Nodup → A ⊆ B → A.length ≤ B.length
  | [], B, _, _ => Nat.zero_le _
  | a :: A, B, hn, hs => by
    have hn := List.nodup_cons.1 hn
    have ha : a ∈ B := hs List.mem_cons_self
    have := nodup_sub_len (A := A) (B := B.erase a) hn.2 (fun x hx => by
      have hne : x ≠ a := fun e => hn.1 (e ▸ hx)
      exact (List.mem_erase_of_ne hne).2 (hs (List.mem_cons_of_mem _ hx)))
    rw [List.length_erase_of_mem ha] at this
    have : 0 < B.length := List.length_pos_of_mem ha
    simp only [List.length_cons]; omega
/-- How the places of the elder ring and of the new one go together. -/
structure Jn (dom : Int → Int) (n : Int) (p : Int) (O0 O1 : List Int) : Prop where
  a : ∀ y ∈ O1, y = p ∨ y ∈ O0
  b : (O1.length : Int) = n ∨ O0.map dom ⊆ O1.map dom
  c : (O0.map dom).Nodup
  d0 : (O0.length : Int) ≤ n
  d1 : (O1.length : Int) ≤ n
theorem Jn.le {dom : Int → Int} {n p : Int} {O0 O1 : List Int} (h : Jn dom n p O0 O1) : O0.length ≤ O1.length := by
  rcases h.b with e | e
  · have := h.d0; omega
  · have := nodup_sub_len h.c e; rw [List.length_map, List.length_map] at this; exact this
theorem Jn.add0 {dom : Int → Int} {n p : Int} {O0 O1 : List Int} (h : Jn dom n p O0 O1) {z : Int} (h1 : dom z ∉ O0.map dom) (h2 : (O0.length : Int) ≠ n) (h3 : (O1.length : Int) = n ∨ dom z ∈ O1.map dom) : Jn dom n p (O0 ++ [z]) O1 := by
  have hd := h.d0
  refine ⟨fun y hy => (h.a y hy).imp id (List.mem_append_left _), ?_, ?_, by simp only [List.length_append, List.length_cons, List.length_nil]; omega, h.d1⟩
  · rcases h3 with h3 | h3
    · exact Or.inl h3
    · refine h.b.imp id fun hb x hx => ?_
      rw [List.map_append, List.mem_append] at hx
      rcases hx with hx | hx
      · exact hb hx
      · rw [List.map_cons, List.map_nil, List.mem_singleton] at hx; rw [hx]; exact h3
  · rw [List.map_append, List.nodup_append]
    refine ⟨h.c, by simp, fun x hx y hy => ?_⟩
    rw [List.map_cons, List.map_nil, List.mem_singleton] at hy
    subst hy
    exact fun e => h1 (e ▸ hx)
theorem Jn.both {dom : Int → Int} {n p : Int} {O0 O1 : List Int} (h : Jn dom n p O0 O1) (z : Int) :
    Jn dom n p (if dom z ∈ O0.map dom ∨ (O0.length : Int) = n then O0 else O0 ++ [z]) (if dom z ∈ O1.map dom ∨ (O1.length : Int) = n then O1 else O1 ++ [z]) := by
  have hl := h.le
  have hd0 := h.d0
  have hd1 := h.d1
  by_cases c1 : dom z ∈ O1.map dom ∨ (O1.length : Int) = n
  · rw [if_pos c1]
    by_cases c0 : dom z ∈ O0.map dom ∨ (O0.length : Int) = n
    · rw [if_pos c0]; exact h
    · rw [if_neg c0]
      exact h.add0 (fun e => c0 (Or.inl e)) (fun e => c0 (Or.inr e)) c1.symm
  · rw [if_neg c1]
    have c0 : ¬ (dom z ∈ O0.map dom ∨ (O0.length : Int) = n) := by
      rintro (e | e)
      · rcases h.b with hb | hb
        · exact c1 (Or.inr hb)
        · exact c1 (Or.inl (hb e))
      · exact c1 (Or.inr (by omega))
    rw [if_neg c0]
    have hz0 : dom z ∉ O0.map dom := fun e => c0 (Or.inl e)
    refine ⟨fun y hy => ?_, Or.inr fun x hx => ?_, ?_, ?_, ?_⟩
    · rcases List.mem_append.1 hy with hy | hy
      · exact (h.a y hy).imp id (List.mem_append_left _)
      · exact Or.inr (List.mem_append_right _ hy)
    · rw [List.map_append, List.mem_append] at hx ⊢
      refine hx.imp (fun hx => ?_) id
      rcases h.b with hb | hb
      · exact absurd (Or.inr hb) c1
      · exact hb hx
    · rw [List.map_append, List.nodup_append]
      refine ⟨h.c, by simp, fun x hx y hy => ?_⟩
      rw [List.map_cons, List.map_nil, List.mem_singleton] at hy
      subst hy
      exact fun e => hz0 (e ▸ hx)
    · have : (O0.length : Int) ≠ n := fun e => c0 (Or.inr e)
      simp only [List.length_append, List.length_cons, List.length_nil]; omega
    · have : (O1.length : Int) ≠ n := fun e => c1 (Or.inr e)
      simp only [List.length_append, List.length_cons, List.length_nil]; omega
theorem pick_cons (dom : Int → Int) (n : Int) (x : S2) (r : List S2) (O : List Int) : pickV dom n (x :: r) O = pickV dom n r (if dom x.1 ∈ O.map dom ∨ (O.length : Int) = n then O else O ++ [x.1]) := by
  show (if _ then _ else _) = _
  split <;> rfl
/-- Behind the place where the new one has the disk. -/
theorem jn_after (dom : Int → Int) (n p : Int) : ∀ (R : List S2) (O0 O1 : List Int), Jn dom n p O0 O1 → (dom p ∈ O1.map dom ∨ (O1.length : Int) = n) →
    Jn dom n p (pickV dom n R O0) (pickV dom n (R.filter (fun x => decide (x.1 ≠ p))) O1)
  | [], O0, O1, h, _ => h
  | z :: R, O0, O1, h, hp => by
    by_cases c : z.1 = p
    · rw [List.filter_cons_of_neg (by simp [c]), pick_cons]
      by_cases c0 : dom z.1 ∈ O0.map dom ∨ (O0.length : Int) = n
      · rw [if_pos c0]; exact jn_after dom n p R O0 O1 h hp
      · rw [if_neg c0]
        exact jn_after dom n p R _ O1 (h.add0 (fun e => c0 (Or.inl e)) (fun e => c0 (Or.inr e)) (by rw [c]; exact hp.symm)) hp
    · rw [List.filter_cons_of_pos (by simp [c]), pick_cons, pick_cons]
      refine jn_after dom n p R _ _ (h.both z.1) ?_
      by_cases c1 : dom z.1 ∈ O1.map dom ∨ (O1.length : Int) = n
      · rw [if_pos c1]; exact hp
      · rw [if_neg c1]
        rcases hp with hp | hp
        · rw [List.map_append]; exact Or.inl (List.mem_append_left _ hp)
        · exact absurd (Or.inr hp) c1
theorem jn_before (dom : Int → Int) (n : Int) (p : Int) (s1 : Int) : ∀ (R0 R1 : List S2) (O0 O1 : List Int), Sorted R0 → Sorted R1 → R0.filter (fun x => decide (x.1 ≠ p)) = R1.filter (fun x => decide (x.1 ≠ p)) →
    (p, s1) ∈ R1 → (∀ s, (p, s) ∈ R1 → s = s1) → (∀ s, (p, s) ∈ R0 → s ≤ s1) → Jn dom n p O0 O1 → Jn dom n p (pickV dom n R0 O0) (pickV dom n R1 O1)
  | R0, [], O0, O1, _, _, _, h1, _, _, _ => by cases h1
  | R0, y1 :: R1, O0, O1, hs0, hs1, hf, h1, hu, hle, hJ => by
    have hs1' := List.pairwise_cons.1 hs1
    have irr : ∀ x : S2, hiB x x = true → False := fun x hx => by rw [hiB_iff] at hx; omega
    by_cases c : y1.1 = p
    · have e1 : y1 = (p, s1) := by
        obtain ⟨u, v⟩ := y1
        obtain rfl : u = p := c
        rw [hu v List.mem_cons_self]
      subst e1
      have hn : ∀ x ∈ R1, x.1 ≠ p := fun x hx e => by
        obtain ⟨u, v⟩ := x
        obtain rfl : u = p := e
        rw [hu v (List.mem_cons_of_mem _ hx)] at hx
        exact irr _ (hs1'.1 _ hx)
      rw [List.filter_cons_of_neg (by simp)] at hf
      have hR : R1.filter (fun x => decide (x.1 ≠ p)) = R1 := List.filter_eq_self.2 fun x hx => decide_eq_true (hn x hx)
      rw [hR] at hf
      rw [pick_cons, ← hf]
      refine jn_after dom n p R0 O0 _ ?_ ?_
      · by_cases c1 : dom p ∈ O1.map dom ∨ (O1.length : Int) = n
        · rw [if_pos c1]; exact hJ
        · rw [if_neg c1]
          have hd := hJ.d1
          refine ⟨fun y hy => ?_, Or.inr fun x hx => ?_, hJ.c, hJ.d0, ?_⟩
          · rcases List.mem_append.1 hy with hy | hy
            · exact hJ.a y hy
            · exact Or.inl (List.mem_singleton.1 hy)
          · rw [List.map_append]; exact List.mem_append_left _ (hJ.b.resolve_left (fun e => c1 (Or.inr e)) hx)
          · have : (O1.length : Int) ≠ n := fun e => c1 (Or.inr e)
            simp only [List.length_append, List.length_cons, List.length_nil]; omega
      · by_cases c1 : dom p ∈ O1.map dom ∨ (O1.length : Int) = n
        · rw [if_pos c1]; exact c1
        · rw [if_neg c1, List.map_append]; exact Or.inl (List.mem_append_right _ List.mem_cons_self)
    · rw [List.filter_cons_of_pos (by simp [c])] at hf
      have h1' : (p, s1) ∈ R1 := by
        rcases List.mem_cons.1 h1 with e | h
        · exact absurd (by rw [← e]) c
        · exact h
      cases R0 with
      | nil => cases hf
      | cons y0 R0 =>
        have hs0' := List.pairwise_cons.1 hs0
        by_cases c0 : y0.1 = p
        · exfalso
          rw [List.filter_cons_of_neg (by simp [c0])] at hf
          have hy : y1 ∈ R0 := by
            have h2 : y1 ∈ R0.filter (fun x => decide (x.1 ≠ p)) := by rw [hf]; exact List.mem_cons_self
            exact (List.mem_filter.1 h2).1
          have g1 := hs0'.1 y1 hy
          have g2 := hs1'.1 _ h1'
          have g3 := hiB_trans g1 g2
          obtain ⟨u, v⟩ := y0
          obtain rfl : u = p := c0
          have := hle v List.mem_cons_self
          rw [hiB_iff] at g3
          have g4 : s1 < v ∨ (v = s1 ∧ u < u) := g3
          omega
        · rw [List.filter_cons_of_pos (by simp [c0])] at hf
          obtain ⟨e0, hf2⟩ := List.cons.inj hf
          subst e0
          clear hf
          rw [pick_cons, pick_cons]
          refine jn_before dom n p s1 R0 R1 _ _ hs0'.2 hs1'.2 hf2 h1' (fun s hs => hu s (List.mem_cons_of_mem _ hs)) (fun s hs => hle s (List.mem_cons_of_mem _ hs)) (hJ.both y0.1)
/-- When one disk's score grows, or a disk is put behind, it alone comes into a key's places, and there is room as before. -/
theorem moves (dom : Int → Int) (n : Int) (hn : 0 ≤ n) (sc0 sc1 : Nat → Int) (m0 m1 p : Nat) (hm : ∀ i, i ≠ p → ((i < m0 ↔ i < m1) ∧ sc0 i = sc1 i)) (hp : p < m0 → p < m1 ∧ sc0 p ≤ sc1 p) :
    Jn dom n (p : Int) (pickV dom n (ringV sc0 m0) []) (pickV dom n (ringV sc1 m1) []) := by
  have hJ : Jn dom n (p : Int) [] [] := ⟨(fun y h => by cases h), Or.inr (fun x h => h), List.nodup_nil, by simpa using hn, by simpa using hn⟩
  have hf : (ringV sc0 m0).filter (fun x => decide (x.1 ≠ (p : Int))) = (ringV sc1 m1).filter (fun x => decide (x.1 ≠ (p : Int))) := by
    refine sorted_ext ((ring_sorted sc0 m0).filter _) ((ring_sorted sc1 m1).filter _) fun x => ?_
    rw [List.mem_filter, List.mem_filter, ring_mem, ring_mem]
    refine and_congr_left fun hx => ?_
    have hx := of_decide_eq_true hx
    constructor
    · rintro ⟨i, hi, rfl, hs⟩
      have hip : i ≠ p := fun e => hx (by rw [e])
      obtain ⟨h1, h2⟩ := hm i hip
      exact ⟨i, h1.1 hi, by rw [h2], by rw [← h2]; exact hs⟩
    · rintro ⟨i, hi, rfl, hs⟩
      have hip : i ≠ p := fun e => hx (by rw [e])
      obtain ⟨h1, h2⟩ := hm i hip
      exact ⟨i, h1.2 hi, by rw [h2], by rw [h2]; exact hs⟩
  by_cases c : p < m1 ∧ 0 ≤ sc1 p
  · refine jn_before dom n (p : Int) (sc1 p) _ _ [] [] (ring_sorted _ _) (ring_sorted _ _) hf ((ring_mem _ _ _).2 ⟨p, c.1, rfl, c.2⟩) (fun s hs => ?_) (fun s hs => ?_) hJ
    · obtain ⟨i, hi, e, _⟩ := (ring_mem _ _ _).1 hs
      obtain ⟨e1, e2⟩ := Prod.mk.inj e
      obtain rfl : p = i := by omega
      exact e2
    · obtain ⟨i, hi, e, _⟩ := (ring_mem _ _ _).1 hs
      obtain ⟨e1, e2⟩ := Prod.mk.inj e
      obtain rfl : p = i := by omega
      rw [e2]; exact (hp hi).2
  · have n0 : ∀ x ∈ ringV sc0 m0, x.1 ≠ (p : Int) := fun x hx e => by
      obtain ⟨i, hi, rfl, hs⟩ := (ring_mem _ _ _).1 hx
      obtain rfl : i = p := by have : (i : Int) = (p : Int) := e; omega
      have := hp hi
      exact c ⟨this.1, by omega⟩
    have n1 : ∀ x ∈ ringV sc1 m1, x.1 ≠ (p : Int) := fun x hx e => by
      obtain ⟨i, hi, rfl, hs⟩ := (ring_mem _ _ _).1 hx
      obtain rfl : i = p := by have : (i : Int) = (p : Int) := e; omega
      exact c ⟨hi, hs⟩
    rw [List.filter_eq_self.2 fun x hx => decide_eq_true (n0 x hx), List.filter_eq_self.2 fun x hx => decide_eq_true (n1 x hx)] at hf
    rw [hf]
    have : ∀ (R : List S2) (O : List Int), Jn dom n (p : Int) O O → Jn dom n (p : Int) (pickV dom n R O) (pickV dom n R O) := by
      intro R
      induction R with
      | nil => exact fun O h => h
      | cons z R ih => intro O h; rw [pick_cons]; exact ih _ (h.both z.1)
    exact this _ _ hJ
theorem pick_congr {d1 d2 : Int → Int} (n : Int) : ∀ (R : List S2) (O : List Int), (∀ x ∈ R, d1 x.1 = d2 x.1) → O.map d1 = O.map d2 → pickV d1 n R O = pickV d2 n R O
  | [], _, _, _ => rfl
  | x :: R, O, h, hO => by
    have hx := h x List.mem_cons_self
    rw [pick_cons, pick_cons, hx, hO]
    refine pick_congr n R _ (fun y hy => h y (List.mem_cons_of_mem _ hy)) ?_
    split
    · exact hO
    · rw [List.map_append, List.map_append, hO, List.map_cons, List.map_cons, hx]; rfl
end Go.Proofs.Ytmkeepildbkmeaa.Ring
