/-
  The plain law Moves: movement is the least; for all drawn bytes.
-/
import Derived.Test.YtmkeepildbkmeaaPureMcFnMoves
import Derived.Test.YtmkeepildbkmeaaPureDrawFnMoves
import Derived.Test.YtmkeepildbkmeaaRingMoveFnMoves
namespace Go.Proofs.Ytmkeepildbkmeaa.Pure
open Go.RowKit Go.Proofs.Ytmkeepildbkmeaa.PFnMoves Go.Proofs.Ytmkeepildbkmeaa.Base Go.Proofs.YtmkeepildbkmeaaW.PrintWords Go.Proofs.YtmkeepildbkmeaaW.PrintLast Go.Proofs.YtmkeepildbkmeaaW.PrintMore
open Go.Proofs.Ytmkeepildbkmeaa.Hs Go.Proofs.Ytmkeepildbkmeaa.Ring

theorem at_val {l : List Int} (hl : Bytes l) (i : Int) (h0 : 0 ≤ i) (h1 : i ≤ 100) : ∃ v, laws_lwAt.f l i = some v ∧ 0 ≤ v ∧ v ≤ 255 := by
  unfold laws_lwAt.f
  by_cases c : i < (l.length : Int)
  · rw [if_pos c, if_pos h0]
    obtain ⟨n, rfl⟩ := Int.eq_ofNat_of_zero_le h0
    have hn : n < l.length := by omega
    have hb := hl _ (List.getElem_mem hn)
    have e : rd l (n : Int) = l[n] := by rw [rd_nat, List.getD_eq_getElem?_getD, List.getElem?_eq_getElem hn]; rfl
    refine ⟨_, rfl, ?_, ?_⟩ <;> rw [e, w64 (by omega) (by omega)] <;> omega
  · rw [if_neg c]
    have e1 : wrap64 (i * 61) = i * 61 := w64 (by omega) (by omega)
    have e2 : wrap64 (i * 61 + 29) = i * 61 + 29 := w64 (by omega) (by omega)
    rw [e1, e2]
    refine ⟨_, rfl, Int.tmod_nonneg _ (by omega), ?_⟩
    have := Int.tmod_lt_of_pos (i * 61 + 29) (show (0 : Int) < 256 by decide)
    omega
theorem has_l0 (l : List Int) (x : Int) (hl : l.length ≤ 1000000) : ∀ (d i : Nat), i + d = l.length → x ∉ l.take i → Ev (fun k => laws_lwHas.l0 k l x (i : Int)) (decide (x ∈ l))
  | 0, i, hd, hn => by
    have e : decide (x ∈ l) = false := decide_eq_false (by rwa [List.take_of_length_le (by omega)] at hn)
    rw [e]
    exact Ev.step (f := fun _ => some false) (fun k => by rw [laws_lwHas.l0, if_neg (by omega)]) (Ev.now _)
  | d + 1, i, hd, hn => by
    have hi : i < l.length := by omega
    refine Ev.step (fun k => by rw [laws_lwHas.l0, if_pos (by omega), if_pos (by omega)]) ?_
    rw [rd_nat, List.getD_eq_getElem?_getD, List.getElem?_eq_getElem hi]
    by_cases c : l[i] = x
    · have e : decide (x ∈ l) = true := decide_eq_true (c ▸ List.getElem_mem hi)
      rw [e]
      exact Ev.ifT c (Ev.now _)
    · refine Ev.ifF c ?_
      rw [w64 (by omega) (by omega)]
      exact has_l0 l x hl d (i + 1) (by omega) (by
        rw [List.take_succ_eq_append_getElem hi, List.mem_append, List.mem_singleton]
        rintro (h | h)
        · exact hn h
        · exact c h.symm)
theorem has_f (l : List Int) (x : Int) (hl : l.length ≤ 1000000) : Ev (fun k => laws_lwHas.f k l x) (decide (x ∈ l)) := has_l0 l x hl l.length 0 (by omega) (by simp)
/-- How many of B are not in A. -/
def newN (A : List Int) : List Int → Nat
  | [] => 0
  | y :: B => if y ∈ A then newN A B else newN A B + 1
theorem newN_le (A : List Int) : ∀ B : List Int, newN A B ≤ B.length
  | [] => Nat.le_refl _
  | y :: B => by
    have := newN_le A B
    unfold newN
    split
    · simp only [List.length_cons]; omega
    · simp only [List.length_cons]; omega
theorem drop_cons_rd {B : List Int} {j : Nat} (h : j < B.length) : B.drop j = rd B (j : Int) :: B.drop (j + 1) := by
  rw [rd_nat, List.getD_eq_getElem?_getD, List.getElem?_eq_getElem h]
  exact List.drop_eq_getElem_cons h
theorem count_in {x0 x1 : List S32} {x2 : List ByteArray} {x3 i : Int} (A B : List Int) (ra : Int) (hA : A.length ≤ 1000) (hB : B.length ≤ 1000) (v : Int) :
    ∀ (d j : Nat) (c : Int), j + d = B.length → 0 ≤ c → c + d ≤ 100000 → Ev (fun k => impl_MoveCount.l0 k x0 x1 x3 (c + newN A (B.drop j)) x2 (x2.length : Int) (wrap64 (i + 1))) v → Ev (fun k => impl_MoveCount.l1 k x0 x1 x3 c x2 (x2.length : Int) i B (B.length : Int) (j : Int) ra A) v
  | 0, j, c, hd, c0, c1, K => by
    rw [List.drop_of_length_le (by omega)] at K
    have K : Ev (fun k => impl_MoveCount.l0 k x0 x1 x3 c x2 (x2.length : Int) (wrap64 (i + 1))) v := by
      have e : c + ((newN A [] : Nat) : Int) = c := Int.add_zero c
      rw [e] at K; exact K
    exact Ev.step (fun k => by rw [impl_MoveCount.l1, if_neg (by omega)]) K
  | d + 1, j, c, hd, c0, c1, K => by
    have hj : j < B.length := by omega
    have es : wrap64 ((j : Int) + 1) = ((j + 1 : Nat) : Int) := by rw [w64 (by omega) (by omega)]; omega
    have hc := contains_eq A (rd B (j : Int)) (by omega)
    rw [drop_cons_rd hj] at K
    by_cases m : rd B (j : Int) ∈ A
    · rw [decide_eq_true m] at hc
      refine Ev.step (fun k => by rw [impl_MoveCount.l1, if_pos (by omega), if_pos (by omega), if_pos (by omega)]) ?_
      refine Ev.bind hc (Ev.ifT rfl ?_)
      rw [es]
      refine count_in A B ra hA hB v d (j + 1) c (by omega) c0 (by omega) ?_
      have e : newN A (rd B (j : Int) :: B.drop (j + 1)) = newN A (B.drop (j + 1)) := by show (if _ then _ else _) = _; rw [if_pos m]
      rw [e] at K; exact K
    · rw [decide_eq_false m] at hc
      refine Ev.step (fun k => by rw [impl_MoveCount.l1, if_pos (by omega), if_pos (by omega), if_pos (by omega)]) ?_
      refine Ev.bind hc (Ev.ifF (by decide) ?_)
      rw [es, w64 (by omega) (by omega)]
      refine count_in A B ra hA hB v d (j + 1) (c + 1) (by omega) (by omega) (by omega) ?_
      have e : newN A (rd B (j : Int) :: B.drop (j + 1)) = newN A (B.drop (j + 1)) + 1 := by show (if _ then _ else _) = _; rw [if_neg m]
      rw [e] at K
      have e2 : c + ((newN A (B.drop (j + 1)) + 1 : Nat) : Int) = c + 1 + (newN A (B.drop (j + 1)) : Int) := by omega
      rw [e2] at K; exact K
theorem count_twice {x0 x1 : List S32} {key : ByteArray} {n : Int} {A B : List Int} (hR0 : Right x0) (hR1 : Right x1) (hA : A.length ≤ 1000) (hB : B.length ≤ 1000)
    (p0 : Ev (fun k => impl_PlaceKey.f k x0 key n) (0, A)) (p1 : Ev (fun k => impl_PlaceKey.f k x1 key n) (0, B)) : Ev (fun k => impl_MoveCount.f k x0 x1 [key, key] n) (2 * (newN A B : Int)) := by
  have a1 := (nf_eq x0).1
  rw [if_pos hR0] at a1
  have b1 := (nf_eq x1).1
  rw [if_pos hR1] at b1
  have hle := newN_le A B
  unfold impl_MoveCount.f
  have hlen : (([key, key] : List ByteArray).length : Int) = 2 := rfl
  refine Ev.ifF (by omega) (Ev.bind a1 (Ev.ifT rfl (Ev.bind b1 ?_)))
  have one : ∀ (c : Int) (i : Nat) (v : Int), i < 2 → 0 ≤ c → c ≤ 1000 → Ev (fun k => impl_MoveCount.l0 k x0 x1 n (c + newN A B) [key, key] (([key, key] : List ByteArray).length : Int) (wrap64 ((i : Int) + 1))) v → Ev (fun k => impl_MoveCount.l0 k x0 x1 n c [key, key] (([key, key] : List ByteArray).length : Int) (i : Int)) v := fun c i v hi c0 c1 K => by
    refine Ev.step (fun k => by rw [impl_MoveCount.l0, if_pos (by omega), if_pos (by omega), if_pos (by omega)]) ?_
    have ek : rdOf ByteArray.empty [key, key] (i : Int) = key := by
      unfold rdOf
      rw [Int.toNat_natCast]
      rcases (by omega : i = 0 ∨ i = 1) with rfl | rfl <;> rfl
    rw [ek]
    refine Ev.bind p0 (Ev.bind p1 (Ev.ifT rfl ?_))
    refine Ev.step (fun k => by rw [impl_MoveCount.j2, if_neg (show ¬ (((0 : Int) != 0) = true) by decide)]) ?_
    exact count_in A B 0 hA hB v B.length 0 c (by omega) c0 (by omega) (by rw [List.drop_zero]; exact K)
  refine Ev.step (fun k => by rw [impl_MoveCount.j0, if_neg (by decide)]) ?_
  refine one 0 0 _ (by decide) (by decide) (by decide) ?_
  have e1 : wrap64 (((0 : Nat) : Int) + 1) = ((1 : Nat) : Int) := by rw [w64 (by decide) (by decide)]; rfl
  rw [e1]
  refine one _ 1 _ (by decide) (by omega) (by omega) ?_
  have e2 : wrap64 (((1 : Nat) : Int) + 1) = ((2 : Nat) : Int) := by rw [w64 (by decide) (by decide)]; rfl
  rw [e2]
  refine Ev.step (f := fun _ => some (0 + (newN A B : Int) + (newN A B : Int))) (fun k => by rw [impl_MoveCount.l0, if_neg (by omega)]) ?_
  have e3 : 0 + (newN A B : Int) + (newN A B : Int) = 2 * (newN A B : Int) := by omega
  rw [e3]
  exact Ev.now _
theorem best_more (a1 : ByteArray) (i : Int) : ∀ (d : Nat) (t b : Int) (e : Nat), bestV a1 i d t b ≤ bestV a1 i (d + e) t b
  | 0, t, b, e => by rw [Nat.zero_add]; exact best_ge a1 i e t b
  | d + 1, t, b, e => by
    have h := best_more a1 i d (t + 1) (mx b (mixV a1 i t)) e
    have e1 : d + 1 + e = (d + e) + 1 := by omega
    rw [e1]
    exact h
theorem score_more (a1 : ByteArray) (i : Int) {u v : Int} (h : u ≤ v) (h0 : 0 ≤ u) : scoreV a1 i u ≤ scoreV a1 i v := by
  unfold scoreV
  have e : v.toNat = u.toNat + (v.toNat - u.toNat) := by omega
  rw [e]
  exact best_more a1 i _ _ _ _
section
variable {x5 x8 : List S32} {key : ByteArray} {n : Int} {p : Nat}
theorem new_loop {A B : List Int} (hB : B.length ≤ 1000) (hA : A.length ≤ 1000) (hsub : ∀ y ∈ B, y = (p : Int) ∨ y ∈ A) (hc : Ev (fun k => impl_MoveCount.f k x5 x8 [key, key] n) (2 * (newN A B : Int))) (ra rb : Int) :
    ∀ (d j : Nat) (c : Int), j + d = B.length → c + (newN A (B.drop j) : Int) = (newN A B : Int) → 0 ≤ c → Ev (fun k => laws_FnMoves.l0 k x5 key n x8 (p : Int) c (j : Int) ra A rb B) true
  | 0, j, c, hd, h1, h2 => by
    rw [List.drop_of_length_le (by omega)] at h1
    have e : c = (newN A B : Int) := by
      have e0 : ((newN A [] : Nat) : Int) = 0 := rfl
      rw [e0] at h1; omega
    have hle := newN_le A B
    refine Ev.step (fun k => by rw [laws_FnMoves.l0, if_neg (by omega)]) (Ev.bind hc ?_)
    rw [w64 (by omega) (by omega), e]
    have : (2 * (newN A B : Int) == 2 * (newN A B : Int)) = true := beq_iff_eq.2 rfl
    rw [this]
    exact Ev.now _
  | d + 1, j, c, hd, h1, h2 => by
    have hj : j < B.length := by omega
    have es : wrap64 ((j : Int) + 1) = ((j + 1 : Nat) : Int) := by rw [w64 (by omega) (by omega)]; omega
    have hle := newN_le A B
    have hh := has_f A (rd B (j : Int)) (by omega)
    rw [drop_cons_rd hj] at h1
    have hin : rd B (j : Int) ∈ B := by
      rw [rd_nat, List.getD_eq_getElem?_getD, List.getElem?_eq_getElem hj]; exact List.getElem_mem hj
    refine Ev.step (fun k => by rw [laws_FnMoves.l0, if_pos (by omega), if_pos (by omega)]) ?_
    refine Ev.bind hh ?_
    rw [es]
    by_cases m : rd B (j : Int) ∈ A
    · rw [decide_eq_true m]
      have e : newN A (rd B (j : Int) :: B.drop (j + 1)) = newN A (B.drop (j + 1)) := by show (if _ then _ else _) = _; rw [if_pos m]
      rw [e] at h1
      exact Ev.ifT rfl (new_loop hB hA hsub hc ra rb d (j + 1) c (by omega) h1 h2)
    · rw [decide_eq_false m]
      have e : newN A (rd B (j : Int) :: B.drop (j + 1)) = newN A (B.drop (j + 1)) + 1 := by show (if _ then _ else _) = _; rw [if_neg m]
      rw [e] at h1
      refine Ev.ifF Bool.false_ne_true (Ev.ifT ((hsub _ hin).resolve_right m) ?_)
      rw [w64 (by omega) (by omega)]
      exact new_loop hB hA hsub hc ra rb d (j + 1) (c + 1) (by omega) (by omega) (by omega)
theorem after_moves (h5 : Right x5) (h8 : Right x8) (hm : ∀ i, i ≠ p → ((i < x5.length ↔ i < x8.length) ∧ rd_T32 x5 (i : Int) = rd_T32 x8 (i : Int)))
    (hp : p < x5.length → p < x8.length ∧ (rd_T32 x5 (p : Int)).f1 ≤ (rd_T32 x8 (p : Int)).f1 ∧ (rd_T32 x5 (p : Int)).f0 = (rd_T32 x8 (p : Int)).f0) : Ev (fun k => laws_FnMoves.j2 k x5 key n x8 (p : Int)) true := by
  by_cases h : 1 ≤ n ∧ n ≤ 64 ∧ key.size ≤ 1000
  rotate_left
  · obtain ⟨e1, e2⟩ := bad_eq (a1 := key) (l0 := x5) (a2 := n) (fun hh => h hh.2)
    obtain ⟨e3, e4⟩ := bad_eq (a1 := key) (l0 := x8) (a2 := n) (fun hh => h hh.2)
    refine Ev.step (fun k => by rw [laws_FnMoves.j2]) (Ev.bind e1 (Ev.bind e3 (Ev.bind e2 (Ev.ifT rfl (Ev.bind e4 ?_)))))
    refine Ev.step (fun k => by rw [laws_FnMoves.j3, if_neg (by decide), if_neg (by decide)]) ?_
    exact Ev.step (f := fun _ => some true) (fun k => by rw [laws_FnMoves.j4, if_pos rfl]; rfl) (Ev.now _)
  obtain ⟨n1, n2, n3⟩ := h
  have e1 := iplace_good h5 n1 n2 n3
  have e2 := splace_good h5 n1 n2 n3
  have e3 := iplace_good h8 n1 n2 n3
  have e4 := splace_good h8 n1 n2 n3
  refine Ev.step (fun k => by rw [laws_FnMoves.j2]) (Ev.bind e1 (Ev.bind e3 (Ev.bind e2 (Ev.ifT rfl (Ev.bind e4 ?_)))))
  have hbn : ((placeV key x8 n).1 != (placeV key x8 n).1) = false := bne_self_eq_false _
  rw [hbn]
  refine Ev.step (fun k => by rw [laws_FnMoves.j3, if_neg (by decide)]) ?_
  have hJ := moves (domOf x8) n (by omega) (scN key x5) (scN key x8) x5.length x8.length p (fun i hi => by
    obtain ⟨a, b⟩ := hm i hi
    exact ⟨a, by unfold scN; rw [b]⟩) (fun hlt => by
    obtain ⟨a, b, _⟩ := hp hlt
    exact ⟨a, score_more key _ b (h5.2.2 p hlt).2.2.1⟩)
  have hcg : pickV (domOf x5) n (ringV (scN key x5) x5.length) [] = pickV (domOf x8) n (ringV (scN key x5) x5.length) [] := by
    refine pick_congr n _ [] (fun x hx => ?_) rfl
    obtain ⟨i, hi, rfl, _⟩ := (ring_mem _ _ x).1 hx
    show (rd_T32 x5 (i : Int)).f0 = (rd_T32 x8 (i : Int)).f0
    by_cases c : i = p
    · subst c; exact (hp hi).2.2
    · rw [(hm i c).2]
  rw [← hcg] at hJ
  have hl0 := pick_len (domOf x5) n (ringV (scN key x5) x5.length) []
  have hl1 := pick_len (domOf x8) n (ringV (scN key x8) x8.length) []
  have r0 := ring_len (scN key x5) x5.length
  have r1 := ring_len (scN key x8) x8.length
  have m0 := h5.2.1
  have m1 := h8.2.1
  simp only [List.length_nil] at hl0 hl1
  have d0 := hJ.d0
  have d1 := hJ.d1
  have hle := hJ.le
  have ha := hJ.a
  clear hJ hcg
  have v5 : placeV key x5 n = resV (domOf x5) n (ringV (scN key x5) x5.length) [] := rfl
  have v8 : placeV key x8 n = resV (domOf x8) n (ringV (scN key x8) x8.length) [] := rfl
  rw [v5] at e1 ⊢
  rw [v8] at e3 ⊢
  clear e2 e4 v5 v8 hbn
  unfold resV at *
  generalize pickV (domOf x5) n (ringV (scN key x5) x5.length) [] = A at *
  generalize pickV (domOf x8) n (ringV (scN key x8) x8.length) [] = B at *
  by_cases f : (A.length : Int) < n
  · rw [if_pos f]
    refine Ev.ifF (by decide) ?_
    exact Ev.step (f := fun _ => some true) (fun k => by rw [laws_FnMoves.j4, if_pos rfl]; rfl) (Ev.now _)
  have f2 : ¬ (B.length : Int) < n := by omega
  rw [if_neg f] at e1 ⊢
  rw [if_neg f2] at e3 ⊢
  refine Ev.ifT rfl ?_
  refine Ev.step (fun k => by rw [laws_FnMoves.j4, if_neg (show ¬ (((0 : Int) != 0) = true) by decide), if_pos (show (A.length : Int) = n by omega)]) ?_
  have hb2 : ((B.length : Int) != n) = false := by rw [bne_eq_false_iff_eq]; omega
  rw [hb2]
  refine Ev.step (fun k => by rw [laws_FnMoves.j5, if_neg (by decide)]) ?_
  exact new_loop (by omega) (by omega) ha (count_twice h5 h8 (by omega) (by omega) e1 e3) 0 0 B.length 0 0 (by omega) (by rw [List.drop_zero]; omega) (by decide)
end
theorem rd32_nat (l : List S32) (i : Nat) : rd_T32 l (i : Int) = l.getD i z32 := by unfold rd_T32; rw [Int.toNat_natCast]
theorem FnMoves : laws_FnMoves.Pure := by
  intro code more hc hm
  have hcb : Bytes code := fun x hx => wf_u8 (hc.2 x hx)
  have hmb : Bytes more := fun x hx => wf_u8 (hm.2 x hx)
  refine Ev.rounds (g := fun k => laws_FnMoves.f k code more) ?_
  have j0t : Ev (fun k => laws_FnMoves.j0 k code more true) true := Ev.step (f := fun _ => some true) (fun k => by rw [laws_FnMoves.j0, if_pos rfl]) (Ev.now _)
  unfold laws_FnMoves.f
  by_cases c : (code.length : Int) > 1048576
  · exact Ev.ifT c j0t
  refine Ev.ifF c ?_
  by_cases c2 : (more.length : Int) > 1048576
  · rw [decide_eq_true c2]; exact j0t
  rw [decide_eq_false c2]
  obtain ⟨y, key, n, hd⟩ := drawPlace_tot hcb (by omega)
  have nf := (nf_eq y).2
  have j1t : Ev (fun k => laws_FnMoves.j1 k more y key n true) true := Ev.step (f := fun _ => some true) (fun k => by rw [laws_FnMoves.j1, if_pos rfl]) (Ev.now _)
  refine Ev.step (fun k => by rw [laws_FnMoves.j0, if_neg (by decide)]) (Ev.bind hd (Ev.bind nf ?_))
  by_cases hR : Right y
  rotate_left
  · rw [if_neg hR]; exact Ev.ifF (by decide) j1t
  rw [if_pos hR]
  refine Ev.ifT rfl ?_
  have hlen := hR.2.1
  have hlen1 := hR.1
  by_cases c3 : (y.length : Int) = 200
  · have : ((y.length : Int) == 200) = true := beq_iff_eq.2 c3
    rw [this]; exact j1t
  have : ((y.length : Int) == 200) = false := by
    cases hbb : ((y.length : Int) == 200) with
    | false => rfl
    | true => exact absurd (beq_iff_eq.1 hbb) c3
  rw [this]
  obtain ⟨v0, w0, x0, z0⟩ := at_val hmb 0 (by decide) (by decide)
  obtain ⟨v1, w1, x1, z1⟩ := at_val hmb 1 (by decide) (by decide)
  obtain ⟨v2, w2, x2, z2⟩ := at_val hmb 2 (by decide) (by decide)
  obtain ⟨v3, w3, x3, z3⟩ := at_val hmb 3 (by decide) (by decide)
  obtain ⟨v4, w4, x4, z4⟩ := at_val hmb 4 (by decide) (by decide)
  refine Ev.step (fun k => by rw [laws_FnMoves.j1, if_neg (by decide)]) ?_
  refine Ev.bind0 rfl (Ev.ifT (show ([] : List S32).length + y.length < 8796093022208 by simp only [List.length_nil]; omega) (Ev.bind0 rfl (Ev.bind0 w0 (Ev.ifF (show ¬ (y.length : Int) = 0 by omega) (Ev.bind0 w1 ?_)))))
  rw [List.nil_append]
  by_cases c4 : Int.tmod v1 3 = 0
  · refine Ev.ifT c4 (Ev.bind0 w2 (Ev.bind0 w3 (Ev.ifT (show y.length < 8796093022208 by omega) ?_)))
    have t8 := Int.tmod_lt_of_pos v2 (show (0 : Int) < 8 by decide)
    have t9 := Int.tmod_lt_of_pos v3 (show (0 : Int) < 9 by decide)
    have t80 := Int.tmod_nonneg 8 x2
    have t90 := Int.tmod_nonneg 9 x3
    have hat : ∀ i, i < y.length → rd_T32 (y ++ [(⟨Int.tmod v2 8, Int.tmod v3 9⟩ : S32)]) (i : Int) = rd_T32 y (i : Int) := fun i hi => by
      rw [rd32_nat, rd32_nat, List.getD_eq_getElem?_getD, List.getElem?_append_left hi, List.getD_eq_getElem?_getD]
    have hnew : rd_T32 (y ++ [(⟨Int.tmod v2 8, Int.tmod v3 9⟩ : S32)]) (y.length : Int) = ⟨Int.tmod v2 8, Int.tmod v3 9⟩ := by
      rw [rd32_nat, List.getD_eq_getElem?_getD, List.getElem?_append_right (Nat.le_refl _), Nat.sub_self]; rfl
    have hout : ∀ (l : List S32) i, ¬ i < l.length → rd_T32 l (i : Int) = z32 := fun l i hi => by
      rw [rd32_nat, List.getD_eq_getElem?_getD, List.getElem?_eq_none (by omega)]; rfl
    refine after_moves (p := y.length) hR ⟨by simp, by simp; omega, fun i hi => ?_⟩ (fun i hi => ⟨by simp; omega, ?_⟩) (fun hlt => absurd hlt (Nat.lt_irrefl _))
    · simp only [List.length_append, List.length_cons, List.length_nil] at hi
      by_cases ci : i < y.length
      · rw [hat i ci]; exact hR.2.2 i ci
      · obtain rfl : i = y.length := by omega
        rw [hnew]
        show 0 ≤ Int.tmod v2 8 ∧ Int.tmod v2 8 ≤ 200 ∧ 0 ≤ Int.tmod v3 9 ∧ Int.tmod v3 9 ≤ 64
        omega
    · by_cases ci : i < y.length
      · exact (hat i ci).symm
      · rw [hout y i ci, hout _ i (by simp only [List.length_append, List.length_cons, List.length_nil]; omega)]
  · have tp := Int.tmod_lt_of_pos v0 (show (0 : Int) < (y.length : Int) by omega)
    have tp0 := Int.tmod_nonneg (y.length : Int) x0
    obtain ⟨p, hp⟩ := Int.eq_ofNat_of_zero_le tp0
    rw [hp] at tp ⊢
    have hpl : p < y.length := by omega
    have hr := hR.2.2 p hpl
    refine Ev.ifF c4 (Ev.ifT (by omega) (Ev.ifT (by omega) ?_))
    by_cases c5 : (rd_T32 y (p : Int)).f1 < 64
    · refine Ev.ifT c5 (Ev.bind0 w4 ?_)
      have e64 : wrap64 (64 - (rd_T32 y (p : Int)).f1) = 64 - (rd_T32 y (p : Int)).f1 := w64 (by omega) (by omega)
      rw [e64]
      refine Ev.ifF (by omega) ?_
      have tq := Int.tmod_lt_of_pos v4 (show (0 : Int) < 64 - (rd_T32 y (p : Int)).f1 by omega)
      have tq0 := Int.tmod_nonneg (64 - (rd_T32 y (p : Int)).f1) x4
      have ew : wrap64 ((rd_T32 y (p : Int)).f1 + 1) = (rd_T32 y (p : Int)).f1 + 1 := w64 (by omega) (by omega)
      rw [ew]
      have ew2 : wrap64 ((rd_T32 y (p : Int)).f1 + 1 + Int.tmod v4 (64 - (rd_T32 y (p : Int)).f1)) = (rd_T32 y (p : Int)).f1 + 1 + Int.tmod v4 (64 - (rd_T32 y (p : Int)).f1) := w64 (by omega) (by omega)
      rw [ew2, Int.toNat_natCast]
      generalize Int.tmod v4 (64 - (rd_T32 y (p : Int)).f1) = q at tq tq0
      have hat : ∀ i, i ≠ p → ∀ z : S32, rd_T32 (y.set p z) (i : Int) = rd_T32 y (i : Int) := fun i hi z => by
        rw [rd32_nat, rd32_nat, List.getD_eq_getElem?_getD, List.getElem?_set_ne (by omega), List.getD_eq_getElem?_getD]
      have hself : ∀ z : S32, rd_T32 (y.set p z) (p : Int) = z := fun z => by
        rw [rd32_nat, List.getD_eq_getElem?_getD, List.getElem?_set_self hpl]; rfl
      refine after_moves (p := p) hR ⟨by rw [List.length_set]; omega, by rw [List.length_set]; omega, fun i hi => ?_⟩ (fun i hi => ⟨by rw [List.length_set], (hat i hi _).symm⟩) (fun _ => ⟨by rw [List.length_set]; exact hpl, ?_, ?_⟩)
      · rw [List.length_set] at hi
        by_cases ci : i = p
        · subst ci
          rw [hself]
          show 0 ≤ (rd_T32 y (i : Int)).f0 ∧ (rd_T32 y (i : Int)).f0 ≤ 200 ∧ 0 ≤ (rd_T32 y (i : Int)).f1 + 1 + q ∧ (rd_T32 y (i : Int)).f1 + 1 + q ≤ 64
          omega
        · rw [hat i ci]; exact hR.2.2 i hi
      · rw [hself]
        show (rd_T32 y (p : Int)).f1 ≤ (rd_T32 y (p : Int)).f1 + 1 + q
        omega
      · rw [hself]
    · exact Ev.ifF c5 (after_moves hR hR (fun i _ => ⟨Iff.rfl, rfl⟩) (fun h => ⟨h, Int.le_refl _, rfl⟩))
end Go.Proofs.Ytmkeepildbkmeaa.Pure
