/-
  PlaceKey: the program and the reference answer alike; for all lists of disks, keys and numbers.
-/
import Derived.Test.YtmkeepildbkmeaaPureMixFnMoves
import Derived.Test.YtmkeepildbkmeaaRingFnMoves
namespace Go.Proofs.Ytmkeepildbkmeaa.Pure
open Go.RowKit Go.Proofs.Ytmkeepildbkmeaa.PFnMoves Go.Proofs.Ytmkeepildbkmeaa.Base Go.Proofs.YtmkeepildbkmeaaW.PrintWords Go.Proofs.YtmkeepildbkmeaaW.PrintLast Go.Proofs.YtmkeepildbkmeaaW.PrintMore
open Go.Proofs.Ytmkeepildbkmeaa.Hs Go.Proofs.Ytmkeepildbkmeaa.Ring

theorem rd_nat (l : List Int) (i : Nat) : rd l (i : Int) = l.getD i 0 := by unfold rd; rw [Int.toNat_natCast]
/-- A disk's score. -/
def scN (a1 : ByteArray) (l0 : List S32) (i : Nat) : Int := scoreV a1 (i : Int) (rd_T32 l0 (i : Int)).f1
theorem iring_eq {a1 : ByteArray} (hs : a1.size ≤ 1000) {l0 : List S32} (hR : Right l0) : ∀ (d i : Nat), i + d = l0.length → Ev (fun k => ringL k a1 (l0.drop i) i (ringV (scN a1 l0) i)) (ringV (scN a1 l0) l0.length)
  | 0, i, hd => by
    obtain rfl : i = l0.length := by omega
    rw [List.drop_length]
    exact Ev.now _
  | d + 1, i, hd => by
    have hi : i < l0.length := by omega
    have h2 := hR.2.1
    have hr := hR.2.2 i hi
    have hl := ring_len (scN a1 l0) i
    rw [drop_rd hi]
    refine Ev.bind (iscore_eq hs _ (by omega) (by omega) hr.2.2.1 hr.2.2.2) (Ev.ifT (by omega) ?_)
    have := iring_eq hs hR d (i + 1) (by omega)
    exact this
theorem ipick_eq (l0 : List S32) (n : Int) : ∀ (R : List S2) (O : List Int), (∀ x ∈ R, 0 ≤ x.1 ∧ x.1 < (l0.length : Int)) → O.length + R.length < 1000000 → pickL l0 n R O = some (pickV (domOf l0) n R O)
  | [], O, _, _ => rfl
  | x :: r, O, h, hl => by
    have h0 := h x List.mem_cons_self
    simp only [List.length_cons] at hl
    unfold pickL pickV
    rw [if_pos ⟨h0.1, h0.2, by omega⟩]
    by_cases c : domOf l0 x.1 ∈ O.map (domOf l0) ∨ (O.length : Int) = n
    · rw [if_pos c, if_pos c]
      exact ipick_eq l0 n r O (fun y hy => h y (List.mem_cons_of_mem _ hy)) (by omega)
    · rw [if_neg c, if_neg c]
      exact ipick_eq l0 n r (O ++ [x.1]) (fun y hy => h y (List.mem_cons_of_mem _ hy)) (by simp only [List.length_append, List.length_cons, List.length_nil]; omega)
theorem ring_in (sc : Nat → Int) (m : Nat) : ∀ x ∈ ringV sc m, 0 ≤ x.1 ∧ x.1 < (m : Int) := fun x hx => by
  obtain ⟨i, hi, rfl, _⟩ := (ring_mem sc m x).1 hx
  exact ⟨by show 0 ≤ (i : Int); omega, by show (i : Int) < _; omega⟩
/-- The answer of PlaceKey. -/
def placeV (a1 : ByteArray) (l0 : List S32) (a2 : Int) : Int × List Int := resV (domOf l0) a2 (ringV (scN a1 l0) l0.length) []
theorem iplace_good {a1 : ByteArray} {l0 : List S32} {a2 : Int} (hR : Right l0) (h1 : 1 ≤ a2) (h2 : a2 ≤ 64) (h3 : a1.size ≤ 1000) : Ev (fun k => impl_PlaceKey.f k l0 a1 a2) (placeV a1 l0 a2) := by
  unfold impl_PlaceKey.f
  have hn := (nf_eq l0).1
  rw [if_pos hR] at hn
  refine Ev.bind hn (Ev.ifF (by omega) (Ev.ifT hR.2.1 ?_))
  have hr := iring_eq h3 hR l0.length 0 (by omega)
  refine Ev.bind hr ?_
  have hl := ring_len (scN a1 l0) l0.length
  have := hR.2.1
  refine Ev.bind0 (ipick_eq l0 a2 _ [] (ring_in _ _) (by simp only [List.length_nil]; omega)) ?_
  unfold placeV resV
  by_cases c : ((pickV (domOf l0) a2 (ringV (scN a1 l0) l0.length) []).length : Int) < a2
  · rw [if_pos c, if_pos c]; exact Ev.now _
  · rw [if_neg c, if_neg c]; exact Ev.now _
open Classical in
theorem bad_eq {a1 : ByteArray} {l0 : List S32} {a2 : Int} (h : ¬ (Right l0 ∧ 1 ≤ a2 ∧ a2 ≤ 64 ∧ a1.size ≤ 1000)) : Ev (fun k => impl_PlaceKey.f k l0 a1 a2) (1, []) ∧ Ev (fun k => spec_PlaceKey.f k l0 a1 a2) (1, []) := by
  obtain ⟨n1, n2⟩ := nf_eq l0
  have sj : Ev (fun k => spec_PlaceKey.j0 k l0 a1 a2 true) (1, []) := Ev.step (fun k => by rw [spec_PlaceKey.j0, if_pos rfl]) (Ev.now _)
  unfold impl_PlaceKey.f spec_PlaceKey.f
  by_cases hR : Right l0
  · rw [if_pos hR] at n1 n2
    refine ⟨Ev.bind n1 (Ev.ifT ?_ (Ev.now _)), Ev.bind n2 (Ev.ifT rfl ?_)⟩
    · by_cases c1 : a2 < 1
      · exact Or.inr (Or.inl c1)
      by_cases c2 : a2 > 64
      · exact Or.inr (Or.inr (Or.inl c2))
      · refine Or.inr (Or.inr (Or.inr ?_))
        by_cases c3 : (a1.size : Int) > 1000
        · exact c3
        · exact absurd ⟨hR, by omega, by omega, by omega⟩ h
    · by_cases c1 : a2 < 1
      · exact Ev.ifT c1 sj
      refine Ev.ifF c1 ?_
      by_cases c2 : a2 > 64
      · exact Ev.ifT c2 sj
      refine Ev.ifF c2 ?_
      have e : decide ((a1.size : Int) > 1000) = true := decide_eq_true (by
        by_cases c3 : (a1.size : Int) > 1000
        · exact c3
        · exact absurd ⟨hR, by omega, by omega, by omega⟩ h)
      rw [e]; exact sj
  · rw [if_neg hR] at n1 n2
    exact ⟨Ev.bind n1 (Ev.ifT (Or.inl (by decide)) (Ev.now _)), Ev.bind n2 (Ev.ifF (by decide) sj)⟩
theorem in_eq (ds : List Int) (x : Int) (hl : ds.length ≤ 1000000) : ∀ (d i : Nat), i + d = ds.length → (x ∉ ds.take i) → Ev (fun k => spec_l01InInts.l0 k ds x (i : Int)) (decide (x ∈ ds))
  | 0, i, hd, hn => by
    have e : decide (x ∈ ds) = false := decide_eq_false (by rwa [List.take_of_length_le (by omega)] at hn)
    rw [e]
    exact Ev.step (f := fun _ => some false) (fun k => by rw [spec_l01InInts.l0, if_neg (by omega)]) (Ev.now _)
  | d + 1, i, hd, hn => by
    have hi : i < ds.length := by omega
    refine Ev.step (fun k => by rw [spec_l01InInts.l0, if_pos (by omega), if_pos (by omega)]) ?_
    rw [rd_nat, List.getD_eq_getElem?_getD, List.getElem?_eq_getElem hi]
    by_cases c : ds[i] = x
    · have e : decide (x ∈ ds) = true := decide_eq_true (c ▸ List.getElem_mem hi)
      rw [e]
      exact Ev.ifT c (Ev.now _)
    · refine Ev.ifF c ?_
      rw [w64 (by omega) (by omega)]
      exact in_eq ds x hl d (i + 1) (by omega) (by
        rw [List.take_succ_eq_append_getElem hi, List.mem_append, List.mem_singleton]
        rintro (h | h)
        · exact hn h
        · exact c h.symm)
/-- How far the scan has come: nothing yet, or the best so far. -/
def Scan (sc dm : Nat → Int) (ds : List Int) (i : Nat) (b : Int) : Prop := (b = -1 ∧ ∀ j, j < i → 0 ≤ sc j → dm j ∈ ds) ∨ ∃ m, m < i ∧ b = (m : Int) ∧ 0 ≤ sc m ∧ dm m ∉ ds ∧ ∀ j, j < i → 0 ≤ sc j → dm j ∉ ds → j = m ∨ hiB ((m : Int), sc m) ((j : Int), sc j) = true
theorem scan_skip {sc dm : Nat → Int} {ds : List Int} {i : Nat} {b : Int} (h : Scan sc dm ds i b) (hi : 0 ≤ sc i → dm i ∈ ds) : Scan sc dm ds (i + 1) b := by
  rcases h with ⟨rfl, h⟩ | ⟨m, hm, rfl, h1, h2, h3⟩
  · refine Or.inl ⟨rfl, fun j hj hs => ?_⟩
    by_cases e : j = i
    · subst e; exact hi hs
    · exact h j (by omega) hs
  · refine Or.inr ⟨m, by omega, rfl, h1, h2, fun j hj hs hd => ?_⟩
    by_cases e : j = i
    · subst e; exact absurd (hi hs) hd
    · exact h3 j (by omega) hs hd
theorem scan_first {sc dm : Nat → Int} {ds : List Int} {i : Nat} (h : Scan sc dm ds i (-1)) (h1 : 0 ≤ sc i) (h2 : dm i ∉ ds) : Scan sc dm ds (i + 1) (i : Int) := by
  rcases h with ⟨_, h⟩ | ⟨m, hm, e, _⟩
  · refine Or.inr ⟨i, by omega, rfl, h1, h2, fun j hj hs hd => ?_⟩
    by_cases e : j = i
    · exact Or.inl e
    · exact absurd (h j (by omega) hs) hd
  · omega
theorem scan_more {sc dm : Nat → Int} {ds : List Int} {i m : Nat} (h : Scan sc dm ds i (m : Int)) (h1 : 0 ≤ sc i) (h2 : dm i ∉ ds) : Scan sc dm ds (i + 1) (if sc i > sc m then (i : Int) else (m : Int)) := by
  rcases h with ⟨e, _⟩ | ⟨m', hm, e, g1, g2, g3⟩
  · omega
  obtain rfl : m = m' := by omega
  by_cases c : sc i > sc m
  · rw [if_pos c]
    refine Or.inr ⟨i, by omega, rfl, h1, h2, fun j hj hs hd => ?_⟩
    by_cases e : j = i
    · exact Or.inl e
    · refine Or.inr ?_
      have him : hiB ((i : Int), sc i) ((m : Int), sc m) = true := by rw [hiB_iff]; exact Or.inl c
      rcases g3 j (by omega) hs hd with rfl | h
      · exact him
      · exact hiB_trans him h
  · rw [if_neg c]
    refine Or.inr ⟨m, by omega, rfl, g1, g2, fun j hj hs hd => ?_⟩
    by_cases e : j = i
    · subst e
      refine Or.inr ?_
      rw [hiB_iff]
      show sc j < sc m ∨ (sc m = sc j ∧ (m : Int) < (j : Int))
      omega
    · exact g3 j (by omega) hs hd
theorem scan_find {a1 : ByteArray} {l0 : List S32} {O : List Int} {b : Int} (h : Scan (scN a1 l0) (fun i => domOf l0 (i : Int)) (O.map (domOf l0)) l0.length b) :
    (b = -1 ∧ (ringV (scN a1 l0) l0.length).find? (freeB (domOf l0) O) = none) ∨ ∃ m : Nat, m < l0.length ∧ b = (m : Int) ∧ ∃ s, (ringV (scN a1 l0) l0.length).find? (freeB (domOf l0) O) = some ((m : Int), s) := by
  rcases h with ⟨rfl, h⟩ | ⟨m, hm, rfl, h1, h2, h3⟩
  · refine Or.inl ⟨rfl, List.find?_eq_none.2 fun x hx hf => ?_⟩
    obtain ⟨i, hi, rfl, hs⟩ := (ring_mem _ _ x).1 hx
    exact (of_decide_eq_true hf) (h i hi hs)
  · refine Or.inr ⟨m, hm, rfl, ?_⟩
    have hin : ((m : Int), scN a1 l0 m) ∈ ringV (scN a1 l0) l0.length := (ring_mem _ _ _).2 ⟨m, hm, rfl, h1⟩
    have hfm : freeB (domOf l0) O ((m : Int), scN a1 l0 m) = true := decide_eq_true h2
    cases hf : (ringV (scN a1 l0) l0.length).find? (freeB (domOf l0) O) with
    | none => exact absurd hfm (List.find?_eq_none.1 hf _ hin)
    | some x =>
      obtain ⟨q1, q2, q3⟩ := find_best (ring_sorted _ _) hf
      obtain ⟨i, hi, rfl, hs⟩ := (ring_mem _ _ x).1 q1
      have hd := of_decide_eq_true q2
      rcases h3 i hi hs hd with rfl | g
      · exact ⟨_, rfl⟩
      · rcases q3 _ hin hfm with e | g2
        · have : (m : Int) = (i : Int) := congrArg Prod.fst e
          rw [this]; exact ⟨_, rfl⟩
        · rw [hiB_asymm g] at g2; cases g2

theorem rdOf_nat (l : List Bool) (i : Nat) : rdOf false l (i : Int) = l.getD i false := by unfold rdOf; rw [Int.toNat_natCast]
theorem sc_at (a1 : ByteArray) (l0 : List S32) {i : Nat} (h : i < l0.length) : rd ((List.range l0.length).map (scN a1 l0)) (i : Int) = scN a1 l0 i := by
  rw [rd_nat, List.getD_eq_getElem?_getD, List.getElem?_map, List.getElem?_range h]; rfl
theorem scan_l2 {a1 : ByteArray} {l0 : List S32} (hlen : l0.length ≤ 200) {a2 : Int} {O : List Int} {used : List Bool} (hO : O.length ≤ 1000) (hu : used.length = l0.length) (hU : ∀ i, i < l0.length → used.getD i false = true → domOf l0 (i : Int) ∈ O.map (domOf l0)) (r : Int × List Int)
    (Kn : (ringV (scN a1 l0) l0.length).find? (freeB (domOf l0) O) = none → r = (7, []))
    (Ks : ∀ (m : Nat) (s : Int), m < l0.length → (ringV (scN a1 l0) l0.length).find? (freeB (domOf l0) O) = some ((m : Int), s) → Ev (fun k => spec_PlaceKey.l1 k l0 a2 ((List.range l0.length).map (scN a1 l0)) (used.set m true) (O ++ [(m : Int)]) (O.map (domOf l0) ++ [domOf l0 (m : Int)])) r) :
    ∀ (d i : Nat) (b : Int), i + d = l0.length → Scan (scN a1 l0) (fun i => domOf l0 (i : Int)) (O.map (domOf l0)) i b → Ev (fun k => spec_PlaceKey.l2 k l0 a2 ((List.range l0.length).map (scN a1 l0)) used O (O.map (domOf l0)) b (i : Int)) r
  | 0, i, b, hd, hS => by
    obtain rfl : i = l0.length := by omega
    refine Ev.step (fun k => by rw [spec_PlaceKey.l2, if_neg (by omega)]) ?_
    rcases scan_find hS with ⟨rfl, hf⟩ | ⟨m, hm, rfl, s, hf⟩
    · rw [Kn hf]
      exact Ev.ifT (by decide) (Ev.now _)
    · refine Ev.ifF (by omega) (Ev.ifT (by omega) (Ev.ifT (by omega) (Ev.ifT (by omega) (Ev.ifT (by omega) (Ev.ifT (by rw [List.length_map]; omega) ?_)))))
      rw [Int.toNat_natCast]
      exact Ks m s hm hf
  | d + 1, i, b, hd, hS => by
    have hi : i < l0.length := by omega
    have hsl : ((List.range l0.length).map (scN a1 l0)).length = l0.length := by rw [List.length_map, List.length_range]
    have es : wrap64 ((i : Int) + 1) = ((i + 1 : Nat) : Int) := by rw [w64 (by omega) (by omega)]; omega
    have skip : (0 ≤ scN a1 l0 i → domOf l0 (i : Int) ∈ O.map (domOf l0)) → Ev (fun k => spec_PlaceKey.j4 k l0 a2 ((List.range l0.length).map (scN a1 l0)) used O (O.map (domOf l0)) b (i : Int) true) r := fun h => by
      refine Ev.step (fun k => by rw [spec_PlaceKey.j4, if_pos rfl, es]) ?_
      exact scan_l2 hlen hO hu hU r Kn Ks d (i + 1) b (by omega) (scan_skip hS h)
    refine Ev.step (fun k => by rw [spec_PlaceKey.l2, if_pos (by omega), if_pos (by omega), if_pos (by omega)]) ?_
    rw [rdOf_nat]
    by_cases c1 : used.getD i false = true
    · exact Ev.ifT c1 (skip fun _ => hU i hi c1)
    refine Ev.ifF c1 (Ev.ifT (by omega) ?_)
    rw [sc_at a1 l0 hi]
    by_cases c2 : scN a1 l0 i < 0
    · exact Ev.ifT c2 (skip fun h => by omega)
    refine Ev.ifF c2 ?_
    have hin := in_eq (O.map (domOf l0)) (rd_T32 l0 (i : Int)).f0 (by rw [List.length_map]; omega) (O.map (domOf l0)).length 0 (by omega) (by simp)
    refine Ev.bind hin ?_
    by_cases c3 : domOf l0 (i : Int) ∈ O.map (domOf l0)
    · have e : decide ((rd_T32 l0 (i : Int)).f0 ∈ O.map (domOf l0)) = true := decide_eq_true c3
      rw [e]
      exact skip fun _ => c3
    · have e : decide ((rd_T32 l0 (i : Int)).f0 ∈ O.map (domOf l0)) = false := decide_eq_false c3
      rw [e]
      refine Ev.step (fun k => by rw [spec_PlaceKey.j4, if_neg (by decide), es]) ?_
      have hS0 := hS
      rcases hS with ⟨rfl, _⟩ | ⟨m, hm, rfl, _⟩
      · exact Ev.ifT (by decide) (scan_l2 hlen hO hu hU r Kn Ks d (i + 1) (i : Int) (by omega) (scan_first hS0 (by omega) c3))
      · have hm2 : m < l0.length := by omega
        refine Ev.ifF (by omega) (Ev.ifT (by omega) (Ev.ifT (by omega) (Ev.ifT (by omega) (Ev.ifT (by omega) ?_))))
        have hmore := scan_more hS0 (show 0 ≤ scN a1 l0 i by omega) c3
        rw [sc_at a1 l0 hi, sc_at a1 l0 hm2]
        by_cases c4 : scN a1 l0 i > scN a1 l0 m
        · rw [if_pos c4] at hmore
          exact Ev.ifT c4 (scan_l2 hlen hO hu hU r Kn Ks d (i + 1) _ (by omega) hmore)
        · rw [if_neg c4] at hmore
          exact Ev.ifF c4 (scan_l2 hlen hO hu hU r Kn Ks d (i + 1) _ (by omega) hmore)
theorem pick_l1 {a1 : ByteArray} {l0 : List S32} (hlen : l0.length ≤ 200) {a2 : Int} (h2 : a2 ≤ 64) : ∀ (d : Nat) (O : List Int) (used : List Bool), (O.length : Int) + d = a2 → used.length = l0.length → (∀ i, i < l0.length → used.getD i false = true → domOf l0 (i : Int) ∈ O.map (domOf l0)) →
    Ev (fun k => spec_PlaceKey.l1 k l0 a2 ((List.range l0.length).map (scN a1 l0)) used O (O.map (domOf l0))) (resV (domOf l0) a2 (ringV (scN a1 l0) l0.length) O)
  | 0, O, used, hd, hu, hU => by
    have : resV (domOf l0) a2 (ringV (scN a1 l0) l0.length) O = (0, O) := by
      unfold resV
      rw [pick_full _ _ _ _ (by omega), if_neg (by omega)]
    rw [this]
    exact Ev.step (f := fun _ => some (0, O)) (fun k => by rw [spec_PlaceKey.l1, if_neg (by omega)]) (Ev.now _)
  | d + 1, O, used, hd, hu, hU => by
    refine Ev.step (fun k => by rw [spec_PlaceKey.l1, if_pos (by omega)]) ?_
    refine scan_l2 hlen (by omega) hu hU _ (fun hf => ?_) (fun m s hm hf => ?_) l0.length 0 (-1) (by omega) (Or.inl ⟨rfl, fun j hj => by omega⟩)
    · unfold resV
      rw [pick_none _ _ _ _ hf, if_pos (by omega)]
    · have e : resV (domOf l0) a2 (ringV (scN a1 l0) l0.length) O = resV (domOf l0) a2 (ringV (scN a1 l0) l0.length) (O ++ [(m : Int)]) := by
        unfold resV
        rw [pick_step _ _ _ _ _ hf (by omega)]
      rw [e]
      have e2 : O.map (domOf l0) ++ [domOf l0 (m : Int)] = (O ++ [(m : Int)]).map (domOf l0) := by rw [List.map_append]; rfl
      rw [e2]
      refine pick_l1 hlen h2 d (O ++ [(m : Int)]) (used.set m true) (by simp only [List.length_append, List.length_cons, List.length_nil]; omega) (by rw [List.length_set]; exact hu) (fun i hi hg => ?_)
      rw [List.map_append]
      by_cases c : i = m
      · subst c; exact List.mem_append_right _ List.mem_cons_self
      · refine List.mem_append_left _ (hU i hi ?_)
        rw [List.getD_eq_getElem?_getD, List.getElem?_set_ne (by omega)] at hg
        rw [List.getD_eq_getElem?_getD]; exact hg
theorem sc_l0 {a1 : ByteArray} (hs : a1.size ≤ 1000) {l0 : List S32} (hR : Right l0) {a2 : Int} {used : List Bool} (r : Int × List Int) (K : Ev (fun k => spec_PlaceKey.l1 k l0 a2 ((List.range l0.length).map (scN a1 l0)) used [] []) r) :
    ∀ (d i : Nat), i + d = l0.length → Ev (fun k => spec_PlaceKey.l0 k l0 a1 a2 ((List.range i).map (scN a1 l0)) used (i : Int)) r
  | 0, i, hd => by
    obtain rfl : i = l0.length := by omega
    exact Ev.step (fun k => by rw [spec_PlaceKey.l0, if_neg (by omega)]) K
  | d + 1, i, hd => by
    have h2 := hR.2.1
    have hr := hR.2.2 i (by omega)
    refine Ev.step (fun k => by rw [spec_PlaceKey.l0, if_pos (by omega)]) ?_
    refine Ev.bind (sscore_eq hs (by omega) (by omega) (by omega) hr.2.2.1 hr.2.2.2) (Ev.ifT (by rw [List.length_map, List.length_range]; omega) ?_)
    have := sc_l0 hs hR r K d (i + 1) (by omega)
    rw [List.range_succ, List.map_append] at this
    rw [w64 (by omega) (by omega)]
    exact this
theorem splace_good {a1 : ByteArray} {l0 : List S32} {a2 : Int} (hR : Right l0) (h1 : 1 ≤ a2) (h2 : a2 ≤ 64) (h3 : a1.size ≤ 1000) : Ev (fun k => spec_PlaceKey.f k l0 a1 a2) (placeV a1 l0 a2) := by
  have hlen := hR.2.1
  unfold spec_PlaceKey.f
  have hn := (nf_eq l0).2
  rw [if_pos hR] at hn
  refine Ev.bind hn (Ev.ifT rfl (Ev.ifF (by omega) (Ev.ifF (by omega) ?_)))
  have e : decide ((a1.size : Int) > 1000) = false := decide_eq_false (by omega)
  rw [e]
  refine Ev.step (fun k => by rw [spec_PlaceKey.j0, if_neg (by decide), if_pos (by omega), if_pos (by omega)]) ?_
  rw [Int.toNat_natCast]
  have := pick_l1 (a1 := a1) hlen h2 a2.toNat [] (List.replicate l0.length false) (by simp only [List.length_nil]; omega) List.length_replicate (fun i hi hg => by
    rw [List.getD_eq_getElem?_getD, List.getElem?_replicate, if_pos hi] at hg; cases hg)
  exact sc_l0 h3 hR _ this l0.length 0 (by omega)
open Classical in
/-- What PlaceKey answers, for all arguments. -/
theorem place_eq (a1 : ByteArray) (l0 : List S32) (a2 : Int) : ∃ r, Ev (fun k => impl_PlaceKey.f k l0 a1 a2) r ∧ Ev (fun k => spec_PlaceKey.f k l0 a1 a2) r ∧ r.2.length ≤ 1000 := by
  by_cases h : Right l0 ∧ 1 ≤ a2 ∧ a2 ≤ 64 ∧ a1.size ≤ 1000
  · refine ⟨placeV a1 l0 a2, iplace_good h.1 h.2.1 h.2.2.1 h.2.2.2, splace_good h.1 h.2.1 h.2.2.1 h.2.2.2, ?_⟩
    have h1 := ring_len (scN a1 l0) l0.length
    have h2 := pick_len (domOf l0) a2 (ringV (scN a1 l0) l0.length) []
    have h3 := h.1.2.1
    unfold placeV resV
    split
    · exact Nat.zero_le _
    · simp only [List.length_nil] at h2; show (pickV _ _ _ _).length ≤ _; omega
  · obtain ⟨e1, e2⟩ := bad_eq h
    exact ⟨_, e1, e2, Nat.zero_le _⟩
end Go.Proofs.Ytmkeepildbkmeaa.Pure
