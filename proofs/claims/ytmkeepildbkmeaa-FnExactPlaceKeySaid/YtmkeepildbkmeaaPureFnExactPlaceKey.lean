/-
  The plain law PlaceKey; for all lists of disks, keys and numbers.
-/
import Derived.Test.YtmkeepildbkmeaaPurePlaceFnExactPlaceKey
namespace Go.Proofs.Ytmkeepildbkmeaa.Pure
open Go.RowKit Go.Proofs.Ytmkeepildbkmeaa.PFnExactPlaceKey Go.Proofs.Ytmkeepildbkmeaa.Base Go.Proofs.YtmkeepildbkmeaaW.PrintWords Go.Proofs.YtmkeepildbkmeaaW.PrintLast Go.Proofs.YtmkeepildbkmeaaW.PrintMore
open Go.Proofs.Ytmkeepildbkmeaa.Hs Go.Proofs.Ytmkeepildbkmeaa.Ring

theorem mark_loop (m : Nat) : ∀ (d i : Nat) (y : List Int), y.length = i + d → m + y.length ≤ 4611686018427387904 → ∃ y', Ev (fun k => laws_markInt64S.l0 k y ((m + i : Nat) : Int) (i : Int)) (((m + y.length : Nat) : Int), y') ∧ y'.length = y.length ∧ ∀ j, j < y.length → y'.getD j 0 = if j < i then y.getD j 0 else ((m + j : Nat) : Int)
  | 0, i, y, hl, hm => ⟨y, by
      refine Ev.step (f := fun _ => some (((m + i : Nat) : Int), y)) (fun k => by rw [laws_markInt64S.l0, if_neg (by omega)]) ?_
      rw [(by omega : m + y.length = m + i)]; exact Ev.now _, rfl, fun j hj => by rw [if_pos (by omega)]⟩
  | d + 1, i, y, hl, hm => by
    obtain ⟨y', ev, h1, h2⟩ := mark_loop m d (i + 1) (y.set i ((m + i : Nat) : Int)) (by rw [List.length_set]; omega) (by rw [List.length_set]; omega)
    rw [List.length_set] at h1 ev h2
    refine ⟨y', ?_, h1, fun j hj => ?_⟩
    · refine Ev.step (fun k => by rw [laws_markInt64S.l0, if_pos (by omega), if_pos (by omega), Int.toNat_natCast, w64 (by omega) (by omega), w64 (by omega) (by omega)]) ?_
      have e1 : ((m + i : Nat) : Int) + 1 = ((m + (i + 1) : Nat) : Int) := by omega
      have e2 : (i : Int) + 1 = ((i + 1 : Nat) : Int) := by omega
      rw [e1, e2]; exact ev
    · rw [h2 j hj]
      by_cases c : j < i
      · rw [if_pos (by omega), if_pos c, List.getD_eq_getElem?_getD, List.getD_eq_getElem?_getD, List.getElem?_set_ne (by omega)]
      · rw [if_neg c]
        by_cases e : j = i
        · subst e; rw [if_pos (by omega), List.getD_eq_getElem?_getD, List.getElem?_set_self (by omega)]; rfl
        · rw [if_neg (by omega)]
/-- A list that was marked from m on. -/
def Marked (m : Nat) (y : List Int) : Prop := ∀ j, j < y.length → y.getD j 0 = ((m + j : Nat) : Int)
theorem mark_f (l : List Int) (m : Nat) (hm : m + l.length ≤ 4611686018427387904) : ∃ y, Ev (fun k => laws_markInt64S.f k l (m : Int)) (((m + l.length : Nat) : Int), y) ∧ y.length = l.length ∧ Marked m y := by
  obtain ⟨y', ev, h1, h2⟩ := mark_loop m l.length 0 l (by omega) hm
  refine ⟨y', ev, h1, fun j hj => ?_⟩
  rw [h2 j (by omega), if_neg (by omega)]
theorem held_loop (m : Nat) (y : List Int) (hy : Marked m y) (hm : m + y.length ≤ 4611686018427387904) : ∀ (d i : Nat), y.length = i + d → Ev (fun k => laws_heldInt64S.l0 k y ((m + i : Nat) : Int) (i : Int)) ((m + y.length : Nat) : Int)
  | 0, i, hl => by
    refine Ev.step (f := fun _ => some ((m + i : Nat) : Int)) (fun k => by rw [laws_heldInt64S.l0, if_neg (by omega)]) ?_
    rw [(by omega : m + y.length = m + i)]; exact Ev.now _
  | d + 1, i, hl => by
    refine Ev.step (fun k => by rw [laws_heldInt64S.l0, if_pos (by omega), if_pos (by omega), if_pos (show rd y (i : Int) = _ by unfold rd; rw [Int.toNat_natCast]; exact hy i (by omega)), w64 (by omega) (by omega), w64 (by omega) (by omega)]) ?_
    have e1 : ((m + i : Nat) : Int) + 1 = ((m + (i + 1) : Nat) : Int) := by omega
    have e2 : (i : Int) + 1 = ((i + 1 : Nat) : Int) := by omega
    rw [e1, e2]; exact held_loop m y hy hm d (i + 1) (by omega)
theorem held_f (y : List Int) (m : Nat) (hy : Marked m y) (hm : m + y.length ≤ 4611686018427387904) : Ev (fun k => laws_heldInt64S.f k y (m : Int)) ((m + y.length : Nat) : Int) := held_loop m y hy hm y.length 0 (by omega)

def toN32 (x : S107) : S32 := ⟨x.f0, x.f1⟩
theorem nodes_f (l : List S107) (hl : l.length ≤ 1048576) : Ev (fun k => laws_toNodeS.f k l) (l.map toN32) := by
  unfold laws_toNodeS.f
  refine Ev.ifT (by omega) (Ev.ifT (by omega) ?_)
  have := map_loop laws_toNodeS.l0 toN32 z107 (fun _ => True) (fun x y i h1 _ hi hy r ev => by
    refine Ev.step (fun k => by rw [laws_toNodeS.l0, if_pos (by omega), if_pos (by omega)]) ?_
    refine Ev.bind0 rfl (Ev.ifT (by omega) ?_)
    rw [Int.toNat_natCast, w64 (by omega) (by omega)]
    have e : rd_T107 x (i : Int) = x.getD i z107 := by unfold rd_T107; rw [Int.toNat_natCast]
    rw [e]
    exact ev) (fun x y i hi => Ev.step (fun k => by rw [laws_toNodeS.l0, if_neg (by omega)]) (Ev.now _)) l (by omega) (fun _ _ => trivial) z32
  rw [Int.toNat_natCast]
  simpa using this
theorem eqNodes_f (l : List S32) (hl : l.length ≤ 1048576) : Ev (fun k => laws_eqNodeS.f k l l) true := by
  unfold laws_eqNodeS.f
  refine Ev.ifT rfl ?_
  exact eq_loop laws_eqNodeS.l0 (fun _ => True) (fun x i h1 _ hi ev => by
    refine Ev.step (fun k => by rw [laws_eqNodeS.l0, if_pos (by omega), if_pos (by omega), if_pos (by omega)]) ?_
    refine Ev.bind0 (show laws_eqNode.f _ _ _ _ = some true by unfold laws_eqNode.f; rw [if_pos rfl, if_pos rfl]) (Ev.ifT rfl ?_)
    rw [w64 (by omega) (by omega)]
    exact ev) (fun x i hi => Ev.step (fun k => by rw [laws_eqNodeS.l0, if_neg (by omega)]) (Ev.now _)) l (by omega) (fun _ _ => trivial)
theorem eqInts_f (l : List Int) (hl : l.length ≤ 1048576) : Ev (fun k => laws_eqInt64S.f k l l) true := by
  unfold laws_eqInt64S.f
  refine Ev.ifT rfl ?_
  exact eq_loop laws_eqInt64S.l0 (fun _ => True) (fun x i h1 _ hi ev => by
    refine Ev.step (fun k => by rw [laws_eqInt64S.l0, if_pos (by omega), if_pos (by omega), if_pos (by omega), if_pos rfl]) ?_
    rw [w64 (by omega) (by omega)]
    exact ev) (fun x i hi => Ev.step (fun k => by rw [laws_eqInt64S.l0, if_neg (by omega)]) (Ev.now _)) l (by omega) (fun _ _ => trivial)
theorem eqPlaces_f (a : Int) (l : List Int) (hl : l.length ≤ 1048576) : Ev (fun k => laws_eqPlaces.f k a l a l) true := by
  unfold laws_eqPlaces.f
  exact Ev.ifT rfl (Ev.bind (eqInts_f l hl) (Ev.now _))
theorem markNodes_l0 : ∀ (d i : Nat) (x : List S32) (m : Int), x.length = i + d → 0 ≤ m → m + 2 * d ≤ 1000000000000 → x.length ≤ 1048576 → ∃ y, Ev (fun k => laws_markNodeS.l0 k x m (i : Int)) (m + 2 * (d : Int), y)
  | 0, i, x, m, hl, h0, h1, h2 => ⟨x, by
      refine Ev.step (f := fun _ => some (m, x)) (fun k => by rw [laws_markNodeS.l0, if_neg (by omega)]) ?_
      rw [(by omega : m + 2 * ((0 : Nat) : Int) = m)]; exact Ev.now _⟩
  | d + 1, i, x, m, hl, h0, h1, h2 => by
    obtain ⟨y, ev⟩ := markNodes_l0 d (i + 1) ((x.set i (⟨m, (rd_T32 x (i : Int)).f1⟩ : S32)).set i (⟨(rd_T32 (x.set i (⟨m, (rd_T32 x (i : Int)).f1⟩ : S32)) (i : Int)).f0, wrap64 (m + 1)⟩ : S32)) (m + 2) (by rw [List.length_set, List.length_set]; omega) (by omega) (by omega) (by rw [List.length_set, List.length_set]; omega)
    refine ⟨y, ?_⟩
    refine Ev.step (fun k => by rw [laws_markNodeS.l0, if_pos (by omega), if_pos (by omega)]) ?_
    refine Ev.bind0 rfl ?_
    have e1 : wrap64 (wrap64 (m + 1) + 1) = m + 2 := by rw [w64 (x := m + 1) (by omega) (by omega), w64 (by omega) (by omega)]; omega
    have e2 : wrap64 ((i : Int) + 1) = ((i + 1 : Nat) : Int) := by rw [w64 (by omega) (by omega)]; omega
    rw [e1, e2, Int.toNat_natCast, (by omega : m + 2 * ((d + 1 : Nat) : Int) = m + 2 + 2 * (d : Int))]
    exact ev
theorem markNodes_f (l : List S32) (hl : l.length ≤ 1048576) : ∃ y, Ev (fun k => laws_markNodeS.f k l 1) (1 + 2 * (l.length : Int), y) := markNodes_l0 l.length 0 l 1 (by omega) (by omega) (by omega) hl
theorem FnExactPlaceKey : laws_FnExactPlaceKey.Pure := by
  intro l0 a1 a2 hl hs ha
  refine Ev.rounds (g := fun k => laws_FnExactPlaceKey.f k l0 a1 a2) ?_
  have hm := hl.1
  rw [lmax] at hm
  unfold laws_FnExactPlaceKey.f
  by_cases c : (a1.size : Int) > 1048576
  · exact Ev.ifT c (Ev.now _)
  refine Ev.ifF c ?_
  have e0 : wrap64 (1048576 - (l0.length : Int)) = 1048576 - (l0.length : Int) := w64 (by omega) (by omega)
  by_cases c2 : l0.length ≤ 1048576
  rotate_left
  · refine Ev.bind0 (show laws_szNodeS.f l0 1048576 = some (-1) by unfold laws_szNodeS.f; rw [if_pos (by omega)]) (Ev.ifT (by decide) (Ev.now _))
  refine Ev.bind0 (show laws_szNodeS.f l0 1048576 = some (1048576 - (l0.length : Int)) by unfold laws_szNodeS.f; rw [if_neg (by omega), e0]) (Ev.ifF (by omega) ?_)
  have hN := nodes_f l0 c2
  have hNl : (l0.map toN32).length ≤ 1048576 := by rw [List.length_map]; exact c2
  obtain ⟨r, h1, h2, h3⟩ := place_eq a1 (l0.map toN32) a2
  have hE := eqPlaces_f r.1 r.2 (by omega)
  obtain ⟨y, hM⟩ := markNodes_f (l0.map toN32) hNl
  refine Ev.bind hN (Ev.bind h2 (Ev.bind hN (Ev.bind h1 (Ev.bind hE (Ev.ifT rfl (Ev.bind hN (Ev.bind (eqNodes_f _ hNl) (Ev.ifT rfl (Ev.bind hM (Ev.ifF (by show ¬ (1 + 2 * ((l0.map toN32).length : Int) < 0); omega) (Ev.bind hE ?_)))))))))))
  refine Ev.step (fun k => by rw [laws_FnExactPlaceKey.j0, if_neg (by decide)]) ?_
  obtain ⟨z, hz1, hz2, hz3⟩ := mark_f r.2 1 (by omega)
  have hz4 := held_f z 1 hz3 (by omega)
  rw [hz2] at hz4
  have hMP : Ev (fun k => laws_markPlaces.f k r.1 r.2 1) (((1 + r.2.length : Nat) : Int), z) := by
    unfold laws_markPlaces.f
    exact Ev.bind hz1 (Ev.now _)
  have hHP : Ev (fun k => laws_heldPlaces.f k r.1 z 1) ((1 + r.2.length : Nat) : Int) := by
    unfold laws_heldPlaces.f
    exact Ev.bind hz4 (Ev.ifF (by omega) (Ev.now _))
  exact Ev.bind hMP (Ev.bind hHP (Ev.ifF (by omega) (Ev.ifT rfl (Ev.bind hN (Ev.bind h1 (Ev.bind hE (Ev.ifT rfl (Ev.bind hHP (Ev.ifF (by omega) (Ev.ifT rfl (Ev.now _)))))))))))
end Go.Proofs.Ytmkeepildbkmeaa.Pure
