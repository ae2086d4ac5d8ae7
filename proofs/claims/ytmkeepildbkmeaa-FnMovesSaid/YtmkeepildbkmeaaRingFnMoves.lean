/-
  A list kept in the order of the scores, and the first of each domain: no program in sight.
-/
import Derived.Test.YtmkeepildbkmeaaPutOFnMoves
namespace Go.Proofs.Ytmkeepildbkmeaa.Ring
open Go.Proofs.Ytmkeepildbkmeaa.Hs
theorem hiB_iff (x y : S2) : hiB x y = true ↔ y.2 < x.2 ∨ (x.2 = y.2 ∧ x.1 < y.1) := by
  unfold hiB
  by_cases c : x.2 = y.2
  · rw [if_pos c, decide_eq_true_iff]; omega
  · rw [if_neg c, decide_eq_true_iff]; omega
theorem hiB_trans {x y z : S2} (h1 : hiB x y = true) (h2 : hiB y z = true) : hiB x z = true := by
  rw [hiB_iff] at *; omega
theorem hiB_asymm {x y : S2} (h1 : hiB x y = true) : hiB y x = false := by
  cases h : hiB y x with
  | false => rfl
  | true => rw [hiB_iff] at *; omega
theorem hiB_total {x y : S2} (h : x.1 ≠ y.1) : hiB x y = true ∨ hiB y x = true := by
  rw [hiB_iff, hiB_iff]; omega
abbrev Sorted (L : List S2) : Prop := L.Pairwise (fun a b => hiB a b = true)
theorem back_hi (x : S2) (L : List S2) : ∀ a j, back x L a ≤ j → j < a → hiB x (L.getD j (0, 0)) = true
  | 0, j, _, h => by omega
  | a + 1, j, h1, h2 => by
    unfold back at h1
    cases c : hiB x (L.getD a (0, 0)) with
    | true =>
      rw [c, if_pos rfl] at h1
      by_cases e : j = a
      · subst e; exact c
      · exact back_hi x L a j h1 (by omega)
    | false => rw [c, if_neg (by decide)] at h1; omega
theorem back_lo (x : S2) (L : List S2) : ∀ a, back x L a = 0 ∨ hiB x (L.getD (back x L a - 1) (0, 0)) = false
  | 0 => Or.inl rfl
  | a + 1 => by
    unfold back
    cases c : hiB x (L.getD a (0, 0)) with
    | true => rw [if_pos rfl]; exact back_lo x L a
    | false => rw [if_neg (by decide)]; exact Or.inr (by rw [Nat.add_sub_cancel]; exact c)
theorem getD_get {L : List S2} {j : Nat} (h : j < L.length) : L.getD j (0, 0) = L[j] := by
  rw [List.getD_eq_getElem?_getD, List.getElem?_eq_getElem h]; rfl
theorem ins_mem {x : S2} {L : List S2} {y : S2} : y ∈ insL x L ↔ y = x ∨ y ∈ L := by
  unfold insL
  rw [List.mem_append, List.mem_append, List.mem_singleton]
  have := List.take_append_drop (back x L L.length) L
  constructor
  · rintro ((h | h) | h)
    · exact Or.inr (List.mem_of_mem_take h)
    · exact Or.inl h
    · exact Or.inr (List.mem_of_mem_drop h)
  · rintro (h | h)
    · exact Or.inl (Or.inr h)
    · rw [← this, List.mem_append] at h
      rcases h with h | h
      · exact Or.inl (Or.inl h)
      · exact Or.inr h
theorem ins_sorted {x : S2} {L : List S2} (hs : Sorted L) (hx : ∀ y ∈ L, x.1 ≠ y.1) : Sorted (insL x L) := by
  have hb := back_le x L L.length
  have hgt := List.pairwise_iff_getElem.1 hs
  unfold insL
  have hA : ∀ a ∈ L.take (back x L L.length), hiB a x = true := by
    intro a ha
    obtain ⟨j, hj, rfl⟩ := List.getElem_of_mem ha
    rw [List.length_take] at hj
    rw [List.getElem_take]
    rcases back_lo x L L.length with h0 | h0
    · omega
    · have hz : back x L L.length - 1 < L.length := by omega
      rw [getD_get hz] at h0
      have h1 : hiB L[back x L L.length - 1] x = true := by
        rcases hiB_total (hx _ (List.getElem_mem hz)) with h | h
        · rw [h] at h0; cases h0
        · exact h
      by_cases e : j = back x L L.length - 1
      · simp only [e]; exact h1
      · exact hiB_trans (hgt j (back x L L.length - 1) (by omega) hz (by omega)) h1
  have hC : ∀ c ∈ L.drop (back x L L.length), hiB x c = true := by
    intro c hc
    obtain ⟨j, hj, rfl⟩ := List.getElem_of_mem hc
    rw [List.length_drop] at hj
    rw [List.getElem_drop]
    have h1 : back x L L.length + j < L.length := by omega
    have := back_hi x L L.length (back x L L.length + j) (by omega) h1
    rwa [getD_get h1] at this
  rw [List.append_assoc]
  refine List.pairwise_append.2 ⟨hs.take, ?_, fun a ha c hc => ?_⟩
  · exact List.pairwise_cons.2 ⟨hC, hs.drop⟩
  · rw [List.singleton_append, List.mem_cons] at hc
    rcases hc with rfl | hc
    · exact hA a ha
    · exact hiB_trans (hA a ha) (hC c hc)
/-- The ring of the first m disks. -/
def ringV (sc : Nat → Int) : Nat → List S2
  | 0 => []
  | m + 1 => if sc m ≥ 0 then insL ((m : Int), sc m) (ringV sc m) else ringV sc m
theorem ring_mem (sc : Nat → Int) : ∀ (m : Nat) (x : S2), x ∈ ringV sc m ↔ ∃ i, i < m ∧ x = ((i : Int), sc i) ∧ 0 ≤ sc i
  | 0, x => by
    constructor
    · intro h; cases h
    · rintro ⟨i, hi, _⟩; omega
  | m + 1, x => by
    unfold ringV
    by_cases c : sc m ≥ 0
    · rw [if_pos c, ins_mem, ring_mem sc m x]
      constructor
      · rintro (rfl | ⟨i, hi, h⟩)
        · exact ⟨m, by omega, rfl, c⟩
        · exact ⟨i, by omega, h⟩
      · rintro ⟨i, hi, h1, h2⟩
        by_cases e : i = m
        · subst e; exact Or.inl h1
        · exact Or.inr ⟨i, by omega, h1, h2⟩
    · rw [if_neg c, ring_mem sc m x]
      constructor
      · rintro ⟨i, hi, h⟩; exact ⟨i, by omega, h⟩
      · rintro ⟨i, hi, h1, h2⟩
        by_cases e : i = m
        · subst e; exact absurd h2 (by omega)
        · exact ⟨i, by omega, h1, h2⟩
theorem ring_sorted (sc : Nat → Int) : ∀ m, Sorted (ringV sc m)
  | 0 => List.Pairwise.nil
  | m + 1 => by
    unfold ringV
    by_cases c : sc m ≥ 0
    · rw [if_pos c]
      refine ins_sorted (ring_sorted sc m) fun y hy => ?_
      obtain ⟨i, hi, rfl, _⟩ := (ring_mem sc m y).1 hy
      show ((m : Int)) ≠ (i : Int)
      omega
    · rw [if_neg c]; exact ring_sorted sc m
theorem ring_len (sc : Nat → Int) : ∀ m, (ringV sc m).length ≤ m
  | 0 => Nat.le_refl _
  | m + 1 => by
    have := ring_len sc m
    unfold ringV
    split
    · rw [insL_len]; omega
    · omega
theorem find_best {p : S2 → Bool} : ∀ {L : List S2}, Sorted L → ∀ {x : S2}, L.find? p = some x → x ∈ L ∧ p x = true ∧ ∀ y ∈ L, p y = true → y = x ∨ hiB x y = true
  | [], _, x, h => by cases h
  | a :: l, hs, x, h => by
    replace hs := List.pairwise_cons.1 hs
    cases c : p a with
    | true =>
      rw [List.find?_cons_of_pos (by exact c)] at h
      cases h
      refine ⟨List.mem_cons_self, c, fun y hy _ => ?_⟩
      rcases List.mem_cons.1 hy with rfl | hy
      · exact Or.inl rfl
      · exact Or.inr (hs.1 y hy)
    | false =>
      rw [List.find?_cons_of_neg (by rw [c]; decide)] at h
      obtain ⟨h1, h2, h3⟩ := find_best hs.2 h
      refine ⟨List.mem_cons_of_mem _ h1, h2, fun y hy hp => ?_⟩
      rcases List.mem_cons.1 hy with rfl | hy
      · rw [c] at hp; cases hp
      · exact h3 y hy hp
/-- The first of each domain, n of them at most. -/
def pickV (dom : Int → Int) (n : Int) : List S2 → List Int → List Int
  | [], O => O
  | x :: r, O => if dom x.1 ∈ O.map dom ∨ (O.length : Int) = n then pickV dom n r O else pickV dom n r (O ++ [x.1])
def freeB (dom : Int → Int) (O : List Int) (x : S2) : Bool := decide (dom x.1 ∉ O.map dom)
theorem pick_full (dom : Int → Int) (n : Int) : ∀ (R : List S2) (O : List Int), (O.length : Int) = n → pickV dom n R O = O
  | [], _, _ => rfl
  | x :: r, O, h => by unfold pickV; rw [if_pos (Or.inr h)]; exact pick_full dom n r O h
theorem pick_none (dom : Int → Int) (n : Int) : ∀ (R : List S2) (O : List Int), R.find? (freeB dom O) = none → pickV dom n R O = O
  | [], _, _ => rfl
  | x :: r, O, h => by
    rw [List.find?_eq_none] at h
    have h0 := h x List.mem_cons_self
    have h1 : dom x.1 ∈ O.map dom := by
      by_cases c : dom x.1 ∈ O.map dom
      · exact c
      · exact absurd (decide_eq_true c) h0
    unfold pickV
    rw [if_pos (Or.inl h1)]
    exact pick_none dom n r O (List.find?_eq_none.2 fun y hy => h y (List.mem_cons_of_mem _ hy))
theorem pick_step (dom : Int → Int) (n : Int) : ∀ (R : List S2) (O : List Int) (x : S2), R.find? (freeB dom O) = some x → (O.length : Int) ≠ n → pickV dom n R O = pickV dom n R (O ++ [x.1])
  | [], _, _, h, _ => by cases h
  | y :: r, O, x, h, hn => by
    by_cases c : dom y.1 ∈ O.map dom
    · have hf : freeB dom O y = false := decide_eq_false (fun h => h c)
      rw [List.find?_cons_of_neg (by rw [hf]; decide)] at h
      have := pick_step dom n r O x h hn
      unfold pickV
      rw [if_pos (Or.inl c), if_pos (Or.inl (by rw [List.map_append]; exact List.mem_append_left _ c))]
      exact this
    · have hf : freeB dom O y = true := decide_eq_true c
      rw [List.find?_cons_of_pos hf] at h
      cases h
      unfold pickV
      rw [if_neg (fun h => h.elim c hn), if_pos (Or.inl (by rw [List.map_append]; exact List.mem_append_right _ List.mem_cons_self))]
/-- The places of a key. -/
def resV (dom : Int → Int) (n : Int) (R : List S2) (O : List Int) : Int × List Int := if ((pickV dom n R O).length : Int) < n then (7, []) else (0, pickV dom n R O)
theorem pick_len (dom : Int → Int) (n : Int) : ∀ (R : List S2) (O : List Int), (pickV dom n R O).length ≤ O.length + R.length
  | [], _ => Nat.le_refl _
  | x :: r, O => by
    unfold pickV
    split
    · have := pick_len dom n r O; simp only [List.length_cons]; omega
    · have := pick_len dom n r (O ++ [x.1]); simp only [List.length_append, List.length_cons, List.length_nil] at this ⊢; omega
end Go.Proofs.Ytmkeepildbkmeaa.Ring
