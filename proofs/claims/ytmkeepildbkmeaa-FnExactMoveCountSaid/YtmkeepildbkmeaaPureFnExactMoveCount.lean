/-
  The plain law MoveCount; for all lists of disks, keys and numbers.
-/
import Derived.Test.YtmkeepildbkmeaaPurePlaceFnExactMoveCount
namespace Go.Proofs.Ytmkeepildbkmeaa.Pure
open Go.RowKit Go.Proofs.Ytmkeepildbkmeaa.PFnExactMoveCount Go.Proofs.Ytmkeepildbkmeaa.Base Go.Proofs.YtmkeepildbkmeaaW.PrintWords Go.Proofs.YtmkeepildbkmeaaW.PrintLast Go.Proofs.YtmkeepildbkmeaaW.PrintMore
open Go.Proofs.Ytmkeepildbkmeaa.Hs Go.Proofs.Ytmkeepildbkmeaa.Ring

def toN32 (x : S107) : S32 := ⟨x.f0, x.f1⟩
theorem nodes_f (l : List S107) (hl : l.length ≤ 1048576) : Ev (fun k => laws_toNodeS.f k l) (l.map toN32) := by
  unfold laws_toNodeS.f
  refine Ev.ifT (by omega) (Ev.ifT (by omega) ?_)
  have := map_loop laws_toNodeS.l0 toN32 z107 (fun _ => True) (fun x y i h1 _ hi hy r ev => by
    refine Ev.step (fun k => by rw [laws_toNodeS.l0, if_pos (by omega), if_pos (by omega)]) ?_
    refine Ev.bind0 rfl (Ev.ifT (by omega) ?_)
    rw [Int.toNat_natCast, w64 (by omega) (by omega)]
    have e : rd_T107 x (i : Int) = x.getD i z107 := by unfold rd_T107; rw [Int.toNat_natCast]
    rw [e]
    exact ev) (fun x y i hi => Ev.step (fun k => by rw [laws_toNodeS.l0, if_neg (by omega)]) (Ev.now _)) l (by omega) (fun _ _ => trivial) z32
  rw [Int.toNat_natCast]
  simpa using this
theorem eqNodes_f (l : List S32) (hl : l.length ≤ 1048576) : Ev (fun k => laws_eqNodeS.f k l l) true := by
  unfold laws_eqNodeS.f
  refine Ev.ifT rfl ?_
  exact eq_loop laws_eqNodeS.l0 (fun _ => True) (fun x i h1 _ hi ev => by
    refine Ev.step (fun k => by rw [laws_eqNodeS.l0, if_pos (by omega), if_pos (by omega), if_pos (by omega)]) ?_
    refine Ev.bind0 (show laws_eqNode.f _ _ _ _ = some true by unfold laws_eqNode.f; rw [if_pos rfl, if_pos rfl]) (Ev.ifT rfl ?_)
    rw [w64 (by omega) (by omega)]
    exact ev) (fun x i hi => Ev.step (fun k => by rw [laws_eqNodeS.l0, if_neg (by omega)]) (Ev.now _)) l (by omega) (fun _ _ => trivial)

theorem strs_f (l : List ByteArray) (hl : l.length ≤ 1048576) : Ev (fun k => laws_toStringS.f k l) l := by
  unfold laws_toStringS.f
  refine Ev.ifT (by omega) (Ev.ifT (by omega) ?_)
  have := map_loop laws_toStringS.l0 (fun x : ByteArray => x) ByteArray.empty (fun _ => True) (fun x y i h1 _ hi hy r ev => by
    refine Ev.step (fun k => by rw [laws_toStringS.l0, if_pos (by omega), if_pos (by omega), if_pos (by omega)]) ?_
    rw [Int.toNat_natCast, w64 (by omega) (by omega)]
    have e : rdOf ByteArray.empty x (i : Int) = x.getD i ByteArray.empty := by unfold rdOf; rw [Int.toNat_natCast]
    rw [e]
    exact ev) (fun x y i hi => Ev.step (fun k => by rw [laws_toStringS.l0, if_neg (by omega)]) (Ev.now _)) l (by omega) (fun _ _ => trivial) (⟨#[]⟩ : ByteArray)
  rw [Int.toNat_natCast]
  simpa using this
theorem eqStrs_f (l : List ByteArray) (hl : l.length ≤ 1048576) : Ev (fun k => laws_eqStringS.f k l l) true := by
  unfold laws_eqStringS.f
  refine Ev.ifT rfl ?_
  exact eq_loop laws_eqStringS.l0 (fun _ => True) (fun x i h1 _ hi ev => by
    refine Ev.step (fun k => by rw [laws_eqStringS.l0, if_pos (by omega), if_pos (by omega), if_pos (by omega), if_pos rfl]) ?_
    rw [w64 (by omega) (by omega)]
    exact ev) (fun x i hi => Ev.step (fun k => by rw [laws_eqStringS.l0, if_neg (by omega)]) (Ev.now _)) l (by omega) (fun _ _ => trivial)
theorem szStrs_f (l : List ByteArray) (hl : l.length ≤ 9223372036854775807) (hs : ∀ y ∈ l, y.size ≤ 9223372036854775807) (a : Int) (a0 : 0 ≤ a) (a1 : a ≤ 1048576) : ∃ r, Ev (fun k => laws_szStringS.f k l a) r ∧ (r < 0 ∨ l.length ≤ 1048576) := by
  have e0 : wrap64 (a - (l.length : Int)) = a - (l.length : Int) := w64 (by omega) (by omega)
  by_cases c : a - (l.length : Int) < 0
  · refine ⟨-1, ?_, Or.inl (by decide)⟩
    unfold laws_szStringS.f
    rw [e0]
    exact Ev.ifT c (Ev.now _)
  · obtain ⟨r, ev, _⟩ := sz_loop laws_szStringS.l0 (fun y : ByteArray => y.size ≤ 9223372036854775807) (fun x left i h1 hok hi l0 l1 => by
      have hsz := hok _ (getD_mem ByteArray.empty hi)
      have e : rdOf ByteArray.empty x (i : Int) = x.getD i ByteArray.empty := by unfold rdOf; rw [Int.toNat_natCast]
      have ew : wrap64 (left - ((x.getD i ByteArray.empty).size : Int)) = left - ((x.getD i ByteArray.empty).size : Int) := w64 (by omega) (by omega)
      by_cases c2 : left - ((x.getD i ByteArray.empty).size : Int) < 0
      · exact Or.inl ⟨-1, Ev.step (fun k => by rw [laws_szStringS.l0, if_pos (by omega), if_pos (by omega), e, ew, if_pos c2]) (Ev.now _), by decide⟩
      · refine Or.inr ⟨left - ((x.getD i ByteArray.empty).size : Int), by omega, by omega, fun r hr => ?_⟩
        refine Ev.step (fun k => by rw [laws_szStringS.l0, if_pos (by omega), if_pos (by omega), e, ew, if_neg c2, w64 (by omega) (by omega)]) hr) (fun x left i hi => Ev.step (fun k => by rw [laws_szStringS.l0, if_neg (by omega)]) (Ev.now _)) l (by omega) hs (a - (l.length : Int)) (by omega) (by omega)
    refine ⟨r, ?_, Or.inr (by omega)⟩
    unfold laws_szStringS.f
    rw [e0]
    exact Ev.ifF c ev

theorem idx_l0 (A : List Int) (x : Int) (hl : A.length ≤ 1000000) : ∀ (d i : Nat), i + d = A.length → x ∉ A.take i → ∃ t, Ev (fun k => slices_Index_int64_int64.l0 k A x (A.length : Int) (i : Int)) t ∧ decide (t ≥ 0) = decide (x ∈ A)
  | 0, i, hd, hn => by
    have e : decide (x ∈ A) = false := decide_eq_false (by rwa [List.take_of_length_le (by omega)] at hn)
    rw [e]
    exact ⟨-1, Ev.step (fun k => by rw [slices_Index_int64_int64.l0, if_neg (by omega)]) (Ev.now _), by decide⟩
  | d + 1, i, hd, hn => by
    have hi : i < A.length := by omega
    have er : rd A (i : Int) = A[i] := by rw [rd_nat, List.getD_eq_getElem?_getD, List.getElem?_eq_getElem hi]; rfl
    by_cases c : x = A[i]
    · have e : decide (x ∈ A) = true := decide_eq_true (c ▸ List.getElem_mem hi)
      rw [e]
      exact ⟨(i : Int), Ev.step (fun k => by rw [slices_Index_int64_int64.l0, if_pos (by omega), if_pos (by omega), if_pos (by omega), er, if_pos c]) (Ev.now _), decide_eq_true (by omega)⟩
    · obtain ⟨t, ev, h⟩ := idx_l0 A x hl d (i + 1) (by omega) (by
        rw [List.take_succ_eq_append_getElem hi, List.mem_append, List.mem_singleton]
        rintro (h | h)
        · exact hn h
        · exact c h)
      refine ⟨t, Ev.step (fun k => by rw [slices_Index_int64_int64.l0, if_pos (by omega), if_pos (by omega), if_pos (by omega), er, if_neg c, w64 (by omega) (by omega)]; rfl) ev, h⟩
theorem contains_eq (A : List Int) (x : Int) (hl : A.length ≤ 1000000) : Ev (fun k => slices_Contains_int64_int64.f k A x) (decide (x ∈ A)) := by
  obtain ⟨t, ev, h⟩ := idx_l0 A x hl A.length 0 (by omega) (by simp)
  unfold slices_Contains_int64_int64.f
  rw [← h]
  exact Ev.bind ev (Ev.now _)
theorem move_in {x0 x1 : List S32} {x2 : List ByteArray} {x3 i : Int} (A B : List Int) (ra rb : Int) (hA : A.length ≤ 1000) (hB : B.length ≤ 1000)
    (K : ∀ c, ∃ v, Ev (fun k => spec_MoveCount.l0 k x0 x1 x2 x3 c (wrap64 (i + 1))) v ∧ Ev (fun k => impl_MoveCount.l0 k x0 x1 x3 c x2 (x2.length : Int) (wrap64 (i + 1))) v) :
    ∀ (d j : Nat) (c : Int), j + d = B.length → ∃ v, Ev (fun k => spec_MoveCount.l1 k x0 x1 x2 x3 c i (j : Int) ra A rb B) v ∧ Ev (fun k => impl_MoveCount.l1 k x0 x1 x3 c x2 (x2.length : Int) i B (B.length : Int) (j : Int) ra A) v
  | 0, j, c, hd => by
    obtain ⟨v, h1, h2⟩ := K c
    exact ⟨v, Ev.step (fun k => by rw [spec_MoveCount.l1, if_neg (by omega)]) h1, Ev.step (fun k => by rw [impl_MoveCount.l1, if_neg (by omega)]) h2⟩
  | d + 1, j, c, hd => by
    have es : wrap64 ((j : Int) + 1) = ((j + 1 : Nat) : Int) := by rw [w64 (by omega) (by omega)]; omega
    have hi := in_eq A (rd B (j : Int)) (by omega) A.length 0 (by omega) (by simp)
    have hc := contains_eq A (rd B (j : Int)) (by omega)
    by_cases m : rd B (j : Int) ∈ A
    · obtain ⟨v, h1, h2⟩ := move_in A B ra rb hA hB K d (j + 1) c (by omega)
      rw [decide_eq_true m] at hi hc
      refine ⟨v, ?_, ?_⟩
      · refine Ev.step (fun k => by rw [spec_MoveCount.l1, if_pos (by omega), if_pos (by omega)]) ?_
        refine Ev.bind hi (Ev.ifT rfl ?_)
        rw [es]; exact h1
      · refine Ev.step (fun k => by rw [impl_MoveCount.l1, if_pos (by omega), if_pos (by omega), if_pos (by omega)]) ?_
        refine Ev.bind hc (Ev.ifT rfl ?_)
        rw [es]; exact h2
    · obtain ⟨v, h1, h2⟩ := move_in A B ra rb hA hB K d (j + 1) (wrap64 (c + 1)) (by omega)
      rw [decide_eq_false m] at hi hc
      refine ⟨v, ?_, ?_⟩
      · refine Ev.step (fun k => by rw [spec_MoveCount.l1, if_pos (by omega), if_pos (by omega)]) ?_
        refine Ev.bind hi (Ev.ifF (by decide) ?_)
        rw [es]; exact h1
      · refine Ev.step (fun k => by rw [impl_MoveCount.l1, if_pos (by omega), if_pos (by omega), if_pos (by omega)]) ?_
        refine Ev.bind hc (Ev.ifF (by decide) ?_)
        rw [es]; exact h2
theorem move_out (x0 x1 : List S32) (x2 : List ByteArray) (x3 : Int) (h2 : x2.length ≤ 100) : ∀ (d i : Nat) (c : Int), i + d = x2.length → ∃ v, Ev (fun k => spec_MoveCount.l0 k x0 x1 x2 x3 c (i : Int)) v ∧ Ev (fun k => impl_MoveCount.l0 k x0 x1 x3 c x2 (x2.length : Int) (i : Int)) v
  | 0, i, c, hd => ⟨c, Ev.step (fun k => by rw [spec_MoveCount.l0, if_neg (by omega)]) (Ev.now _), Ev.step (fun k => by rw [impl_MoveCount.l0, if_neg (by omega)]) (Ev.now _)⟩
  | d + 1, i, c, hd => by
    have es : wrap64 ((i : Int) + 1) = ((i + 1 : Nat) : Int) := by rw [w64 (by omega) (by omega)]; omega
    obtain ⟨r, r1, r2, r3⟩ := place_eq (rdOf ByteArray.empty x2 (i : Int)) x0 x3
    obtain ⟨q, q1, q2, q3⟩ := place_eq (rdOf ByteArray.empty x2 (i : Int)) x1 x3
    have K : ∀ c, ∃ v, Ev (fun k => spec_MoveCount.l0 k x0 x1 x2 x3 c (wrap64 ((i : Int) + 1))) v ∧ Ev (fun k => impl_MoveCount.l0 k x0 x1 x3 c x2 (x2.length : Int) (wrap64 ((i : Int) + 1))) v := fun c => by
      rw [es]; exact move_out x0 x1 x2 x3 h2 d (i + 1) c (by omega)
    have skip : ∃ v, Ev (fun k => spec_MoveCount.j2 k x0 x1 x2 x3 c (i : Int) true r.1 r.2 q.1 q.2) v ∧ Ev (fun k => impl_MoveCount.j2 k x0 x1 x3 c x2 (x2.length : Int) (i : Int) true r.1 r.2 q.1 q.2) v := by
      obtain ⟨v, g1, g2⟩ := K c
      exact ⟨v, Ev.step (fun k => by rw [spec_MoveCount.j2, if_pos rfl]) g1, Ev.step (fun k => by rw [impl_MoveCount.j2, if_pos rfl]) g2⟩
    have go : ∃ v, Ev (fun k => if r.1 = 0 then spec_MoveCount.j2 k x0 x1 x2 x3 c (i : Int) (q.1 != 0) r.1 r.2 q.1 q.2 else spec_MoveCount.j2 k x0 x1 x2 x3 c (i : Int) true r.1 r.2 q.1 q.2) v ∧ Ev (fun k => if r.1 = 0 then impl_MoveCount.j2 k x0 x1 x3 c x2 (x2.length : Int) (i : Int) (q.1 != 0) r.1 r.2 q.1 q.2 else impl_MoveCount.j2 k x0 x1 x3 c x2 (x2.length : Int) (i : Int) true r.1 r.2 q.1 q.2) v := by
      by_cases c1 : r.1 = 0
      · cases c2 : (q.1 != 0) with
        | true => obtain ⟨v, g1, g2⟩ := skip; exact ⟨v, Ev.ifT c1 g1, Ev.ifT c1 g2⟩
        | false =>
          obtain ⟨v, g1, g2⟩ := move_in r.2 q.2 r.1 q.1 r3 q3 K q.2.length 0 c (by omega)
          exact ⟨v, Ev.ifT c1 (Ev.step (fun k => by rw [spec_MoveCount.j2, if_neg (by decide)]; rfl) g1), Ev.ifT c1 (Ev.step (fun k => by rw [impl_MoveCount.j2, if_neg (by decide)]; rfl) g2)⟩
      · obtain ⟨v, g1, g2⟩ := skip
        exact ⟨v, Ev.ifF c1 g1, Ev.ifF c1 g2⟩
    obtain ⟨v, g1, g2⟩ := go
    refine ⟨v, ?_, ?_⟩
    · refine Ev.step (fun k => by rw [spec_MoveCount.l0, if_pos (by omega), if_pos (by omega)]) ?_
      exact Ev.bind r2 (Ev.bind q2 g1)
    · refine Ev.step (fun k => by rw [impl_MoveCount.l0, if_pos (by omega), if_pos (by omega), if_pos (by omega)]) ?_
      exact Ev.bind r1 (Ev.bind q1 g2)
open Classical in
theorem move_eq (x0 x1 : List S32) (x2 : List ByteArray) (x3 : Int) : ∃ v, Ev (fun k => spec_MoveCount.f k x0 x1 x2 x3) v ∧ Ev (fun k => impl_MoveCount.f k x0 x1 x2 x3) v := by
  have sj : Ev (fun k => spec_MoveCount.j0 k x0 x1 x2 x3 true) (-1) := Ev.step (fun k => by rw [spec_MoveCount.j0, if_pos rfl]) (Ev.now _)
  have ij : Ev (fun k => impl_MoveCount.j0 k x0 x1 x2 x3 true) (-1) := Ev.step (fun k => by rw [impl_MoveCount.j0, if_pos rfl]) (Ev.now _)
  obtain ⟨a1, a2⟩ := nf_eq x0
  obtain ⟨b1, b2⟩ := nf_eq x1
  unfold spec_MoveCount.f impl_MoveCount.f
  by_cases hR : Right x0
  rotate_left
  · rw [if_neg hR] at a1 a2
    refine ⟨-1, Ev.bind a2 (Ev.ifF (by decide) sj), ?_⟩
    by_cases c : (x2.length : Int) > 100
    · exact Ev.ifT c ij
    · exact Ev.ifF c (Ev.bind a1 (Ev.ifF (by decide) ij))
  rw [if_pos hR] at a1 a2
  by_cases hQ : Right x1
  rotate_left
  · rw [if_neg hQ] at b1 b2
    refine ⟨-1, Ev.bind a2 (Ev.ifT rfl (Ev.bind b2 (Ev.ifF (by decide) sj))), ?_⟩
    by_cases c : (x2.length : Int) > 100
    · exact Ev.ifT c ij
    · exact Ev.ifF c (Ev.bind a1 (Ev.ifT rfl (Ev.bind b1 ij)))
  rw [if_pos hQ] at b1 b2
  by_cases c : (x2.length : Int) > 100
  · refine ⟨-1, Ev.bind a2 (Ev.ifT rfl (Ev.bind b2 (Ev.ifT rfl ?_))), Ev.ifT c ij⟩
    rw [decide_eq_true c]; exact sj
  · obtain ⟨v, g1, g2⟩ := move_out x0 x1 x2 x3 (by omega) x2.length 0 0 (by omega)
    refine ⟨v, Ev.bind a2 (Ev.ifT rfl (Ev.bind b2 (Ev.ifT rfl ?_))), Ev.ifF c (Ev.bind a1 (Ev.ifT rfl (Ev.bind b1 ?_)))⟩
    · rw [decide_eq_false c]
      exact Ev.step (fun k => by rw [spec_MoveCount.j0, if_neg (by decide)]; rfl) g1
    · exact Ev.step (fun k => by rw [impl_MoveCount.j0, if_neg (by decide)]; rfl) g2
theorem szNodes_f (l : List S107) (hl : l.length ≤ 9223372036854775807) (a : Int) (a0 : 0 ≤ a) (a1 : a ≤ 1048576) : ∃ r, laws_szNodeS.f l a = some r ∧ (r < 0 ∨ 0 ≤ r ∧ r ≤ 1048576 ∧ l.length ≤ 1048576) := by
  have e0 : wrap64 (a - (l.length : Int)) = a - (l.length : Int) := w64 (by omega) (by omega)
  unfold laws_szNodeS.f
  rw [e0]
  by_cases c : a - (l.length : Int) < 0
  · rw [if_pos c]; exact ⟨-1, rfl, Or.inl (by decide)⟩
  · rw [if_neg c]; exact ⟨_, rfl, Or.inr ⟨by omega, by omega, by omega⟩⟩
theorem FnExactMoveCount : laws_FnExactMoveCount.Pure := by
  intro l0 l1 l2 a3 hl hm hs ha
  refine Ev.rounds (g := fun k => laws_FnExactMoveCount.f k l0 l1 l2 a3) ?_
  have m0 := hl.1
  have m1 := hm.1
  have m2 := hs.1
  rw [lmax] at m0 m1 m2
  unfold laws_FnExactMoveCount.f
  obtain ⟨r, hr, hr2⟩ := szNodes_f l0 m0 1048576 (by decide) (by decide)
  refine Ev.bind0 hr ?_
  rcases hr2 with hr2 | ⟨r0, r1, c0⟩
  · exact Ev.ifT hr2 (Ev.now _)
  refine Ev.ifF (by omega) ?_
  obtain ⟨q, hq, hq2⟩ := szNodes_f l1 m1 r r0 r1
  refine Ev.bind0 hq ?_
  rcases hq2 with hq2 | ⟨q0, q1, c1⟩
  · exact Ev.ifT hq2 (Ev.now _)
  refine Ev.ifF (by omega) ?_
  obtain ⟨s, hs1, hs2⟩ := szStrs_f l2 m2 (fun y hy => by have := hs.2 y hy; rw [lmax] at this; exact this) q q0 q1
  refine Ev.bind hs1 ?_
  by_cases cs : s < 0
  · exact Ev.ifT cs (Ev.now _)
  have c2 : l2.length ≤ 1048576 := hs2.resolve_left cs
  refine Ev.ifF cs ?_
  have n0 := nodes_f l0 c0
  have n1 := nodes_f l1 c1
  have n2 := strs_f l2 c2
  have e0 := eqNodes_f (l0.map toN32) (by rw [List.length_map]; exact c0)
  have e1 := eqNodes_f (l1.map toN32) (by rw [List.length_map]; exact c1)
  have e2 := eqStrs_f l2 c2
  obtain ⟨v, v1, v2⟩ := move_eq (l0.map toN32) (l1.map toN32) l2 a3
  exact Ev.bind n0 (Ev.bind n1 (Ev.bind n2 (Ev.bind v1 (Ev.bind n0 (Ev.bind n1 (Ev.bind n2 (Ev.bind v2 (Ev.ifT rfl (Ev.bind n0 (Ev.bind e0 (Ev.ifT rfl (Ev.bind n1 (Ev.bind e1 (Ev.ifT rfl (Ev.bind n2 (Ev.bind e2 (Ev.ifT rfl (Ev.now _))))))))))))))))))
end Go.Proofs.Ytmkeepildbkmeaa.Pure
