/-
  The plain law Repaired: a lost shard is made again out of what the plan reads, whatever else is lost; for all drawn bytes.
-/
import Derived.Test.YtffhbpepppodeaaPureMathFnRepaired
namespace Go.Proofs.Ytffhbpepppodeaa.Pure
open Go.RowKit Go.Proofs.Ytffhbpepppodeaa.PFnRepaired Go.Proofs.Ytffhbpepppodeaa.Base Go.Proofs.YtffhbpepppodeaaW.PrintWords Go.Proofs.YtffhbpepppodeaaW.PrintLast Go.Proofs.YtffhbpepppodeaaW.PrintMore
open Go.Proofs.Ytffhbpepppodeaa.Gf Go.Proofs.Ytffhbpepppodeaa.Reduce Go.Proofs.Ytffhbpepppodeaa.Grid Go.Proofs.Ytffhbpepppodeaa.Field Go.Proofs.Ytffhbpepppodeaa.Elim Go.Proofs.Ytffhbpepppodeaa.Cauchy Go.Proofs.Ytffhbpepppodeaa.Plant Go.Proofs.Ytffhbpepppodeaa.Plant2 Go.Proofs.Ytffhbpepppodeaa.Plant4 Go.Proofs.Ytffhbpepppodeaa.Plant5 Go.Proofs.Ytffhbpepppodeaa.Plant6
open Go.Proofs.Ytffhbpepppodeaa.Coded (bt_byte bt_str str_ext mix_sum shard_size dcol dcol_byt)

open Go.Proofs.Ytffhbpepppodeaa.Repair Go.Proofs.Ytffhbpepppodeaa.Repair2
open Go.Proofs.Ytffhbpepppodeaa.Greedy (rk gTake gStep gTake_le basis_greedy)
open Go.Proofs.Ytffhbpepppodeaa.Coded (tn tn_byt dot_dot)

theorem rd_nat (l : List Int) (i : Nat) : rd l (i : Int) = l.getD i 0 := by unfold rd; rw [Int.toNat_natCast]
def tx0 (s : S61) : ByteArray := if s.f0 = true then s.f1 else ⟨#[]⟩
def heldL (l : List S61) : List ByteArray := (l.filter fun s => s.f0).map fun s => s.f1
theorem rd_sh {l : List S61} {i : Nat} (h : i < l.length) : rd_T61 l (i : Int) = l[i] := by
  unfold rd_T61
  rw [Int.toNat_natCast, List.getD_eq_getElem?_getD, List.getElem?_eq_getElem h]; rfl
theorem fill_set {α β : Type} {l : List α} (g : α → β) (z : β) {x : β} {i : Nat} (h : i < l.length) (e : g l[i] = x) : ((l.take i).map g ++ List.replicate (l.length - i) z).set i x = (l.take (i + 1)).map g ++ List.replicate (l.length - (i + 1)) z := by
  have hl : ((l.take i).map g).length = i := by rw [List.length_map, List.length_take]; omega
  rw [List.set_append_right _ _ (by omega), hl, Nat.sub_self, show l.length - i = (l.length - (i + 1)) + 1 by omega, List.replicate_succ, List.set_cons_zero, List.take_succ_eq_append_getElem h, List.map_append, List.append_assoc, ← e]; rfl
theorem fill_keep {α β : Type} {l : List α} (g : α → β) (z : β) {i : Nat} (h : i < l.length) (e : g l[i] = z) : (l.take i).map g ++ List.replicate (l.length - i) z = (l.take (i + 1)).map g ++ List.replicate (l.length - (i + 1)) z := by
  rw [show l.length - i = (l.length - (i + 1)) + 1 by omega, List.replicate_succ, List.take_succ_eq_append_getElem h, List.map_append, List.append_assoc, ← e]; rfl
theorem heldL_succ {l : List S61} {i : Nat} (h : i < l.length) : heldL (l.take (i + 1)) = if l[i].f0 = true then heldL (l.take i) ++ [l[i].f1] else heldL (l.take i) := by
  unfold heldL
  rw [List.take_succ_eq_append_getElem h, List.filter_append, List.map_append]
  by_cases c : l[i].f0 = true
  · rw [if_pos c, List.filter_cons_of_pos (by exact c)]; rfl
  · rw [if_neg c, List.filter_cons_of_neg (by exact c)]; simp
theorem heldL_len (l : List S61) : (heldL l).length ≤ l.length := by unfold heldL; rw [List.length_map]; exact List.length_filter_le _ _
theorem held_gen (l : List S61) (hn : l.length ≤ 64) : ∀ (d i : Nat), i + d = l.length → Ev (fun k => impl_heldOf.l0 k ((l.take i).map (fun s => s.f0) ++ List.replicate (l.length - i) false) ((l.take i).map tx0 ++ List.replicate (l.length - i) ⟨#[]⟩) (heldL (l.take i)) l (l.length : Int) (i : Int)) (l.map (fun s => s.f0), l.map tx0, heldL l)
  | 0, i, hd => by
    obtain rfl : i = l.length := by omega
    refine Ev.step (f := fun _ => some (l.map (fun s => s.f0), l.map tx0, heldL l)) (fun k => ?_) (Ev.now _)
    rw [impl_heldOf.l0, if_neg (by omega), List.take_length, Nat.sub_self, List.replicate_zero, List.replicate_zero, List.append_nil, List.append_nil]
  | d + 1, i, hd => by
    have hi : i < l.length := by omega
    have IH := held_gen l hn d (i + 1) (by omega)
    have hL := heldL_len (l.take i)
    rw [List.length_take] at hL
    rw [heldL_succ hi] at IH
    have e1 := fill_set (fun s : S61 => s.f0) false hi (rfl : l[i].f0 = l[i].f0)
    refine Ev.step (fun k => by rw [impl_heldOf.l0, rd_sh hi, suc_w (by omega)]) ?_
    refine Ev.ifT (by omega) (Ev.ifT (by omega) (Ev.ifT (by omega) (Ev.ifT (by simp; omega) ?_)))
    refine Ev.bind0 rfl ?_
    rw [Int.toNat_natCast, e1]
    by_cases c : l[i].f0 = true
    · rw [if_pos c, ← fill_set tx0 ⟨#[]⟩ hi (if_pos c)] at IH
      exact Ev.ifT c (Ev.ifT (by simp; omega) (Ev.ifT (by omega) IH))
    · rw [if_neg c, ← fill_keep tx0 ⟨#[]⟩ hi (if_neg c)] at IH
      exact Ev.ifF c IH
theorem heldOf_f (l : List S61) (hn : l.length ≤ 64) : Ev (fun k => impl_heldOf.f k l) (l.map (fun s => s.f0), l.map tx0, heldL l) := by
  have := held_gen l hn l.length 0 (by omega)
  rw [List.take_zero, List.map_nil, List.map_nil, List.nil_append, List.nil_append, Nat.sub_zero] at this
  unfold impl_heldOf.f
  exact Ev.ifT (by omega) (Ev.ifT (by omega) (Ev.ifT (by omega) this))
theorem rd_get {H : List ByteArray} {i : Nat} (h : i < H.length) : rdOf ByteArray.empty H (i : Int) = H[i] := by
  unfold rdOf
  rw [Int.toNat_natCast, List.getD_eq_getElem?_getD, List.getElem?_eq_getElem h]; rfl
theorem heldL_mem {l : List S61} {x : ByteArray} : x ∈ heldL l ↔ ∃ i, ∃ h : i < l.length, l[i].f0 = true ∧ l[i].f1 = x := by
  unfold heldL
  rw [List.mem_map]
  constructor
  · rintro ⟨s, hs, rfl⟩
    obtain ⟨h1, h2⟩ := List.mem_filter.1 hs
    obtain ⟨i, hi, rfl⟩ := List.getElem_of_mem h1
    exact ⟨i, hi, h2, rfl⟩
  · rintro ⟨i, hi, h1, rfl⟩
    exact ⟨l[i], List.mem_filter.2 ⟨List.getElem_mem hi, h1⟩, rfl⟩
theorem rep_snoc {R C : Nat} {l row : List Int} {P : MatN} {r : Nat → Nat} (h : Rep R C l P) (hl : row.length = C) (hr : ∀ j, j < C → rd row (j : Int) = (r j : Int)) : Rep (R + 1) C (l ++ row) (fun i j => if i < R then P i j else r j) := by
  refine ⟨by rw [List.length_append, h.1, hl, Nat.succ_mul], fun i j hi hj => ?_⟩
  rw [rd_nat, List.getD_eq_getElem?_getD]
  by_cases c : i < R
  · have h1 := idx_lt c hj
    rw [List.getElem?_append_left (by rw [h.1]; exact h1)]
    have := h.2 i j c hj
    rw [rd_nat, List.getD_eq_getElem?_getD] at this
    rw [this]
    show _ = ((if i < R then P i j else r j : Nat) : Int)
    rw [if_pos c]
  · obtain rfl : i = R := by omega
    rw [List.getElem?_append_right (by rw [h.1]; omega), h.1, Nat.add_sub_cancel_left]
    have := hr j hj
    rw [rd_nat, List.getD_eq_getElem?_getD] at this
    rw [this]
    show _ = ((if i < i then P i j else r j : Nat) : Int)
    rw [if_neg c]
theorem rep_row {K M G : Nat} (hN : K + M ≤ 64) {T : List Nat} {cells : List Int} (i : Nat) (h : Rep T.length K cells (rk K M G T)) : Rep (T.length + 1) K (cells ++ rowV K M G i) (rk K M G (T ++ [i])) := by
  have hb : BytesF (rowN K M G i) := rowN_byte hN
  refine (rep_snoc (r := fun j => (rowN K M G i j).toNat) h (rowV_len _ _ _ _) (fun j hj => ?_)).congr fun a j ha hj => ?_
  · rw [rowV_rd _ _ _ _ _ hj]
    have h1 := hb j
    unfold rowN at h1 ⊢
    rw [if_pos hj] at h1 ⊢
    omega
  · show (rowN K M G ((T ++ [i]).getD a 0) j).toNat = if a < T.length then (rowN K M G (T.getD a 0) j).toNat else (rowN K M G i j).toNat
    rw [List.getD_eq_getElem?_getD]
    by_cases c : a < T.length
    · rw [if_pos c, List.getElem?_append_left c, ← List.getD_eq_getElem?_getD]
    · obtain rfl : a = T.length := by omega
      rw [if_neg c, List.getElem?_append_right (Nat.le_refl _), Nat.sub_self]; rfl
theorem gTake_stay {K M G : Nat} {hv : List Bool} {i : Nat} (h : (gTake K M G hv i).length = K) : ∀ d, gTake K M G hv (i + d) = gTake K M G hv i
  | 0 => rfl
  | d + 1 => by
    have ih := gTake_stay h d
    show gStep K M G hv (gTake K M G hv (i + d)) (i + d) = _
    rw [ih]
    unfold gStep
    rw [if_pos (.inr h)]
theorem take_loop {K M G : Nat} (hF : Fine K M G) {hv : List Bool} (hl : hv.length = K + M + G) {R : List Int}
    (hR : R = if (gTake K M G hv hv.length).length < K then [] else (gTake K M G hv hv.length).map Int.ofNat) :
    ∀ (d i : Nat) (cells : List Int), i + d = hv.length → Rep (gTake K M G hv i).length K cells (rk K M G (gTake K M G hv i)) → Ev (fun k => spec_l04Take.l0 k hv ((gTake K M G hv i).map Int.ofNat) cells (i : Int) (K : Int) (M : Int) (G : Int)) R
  | 0, i, cells, hd, hrep => by
    obtain rfl : i = hv.length := by omega
    refine Ev.step (fun k => by rw [spec_l04Take.l0, if_neg (by omega)]) (Ev.step (fun k => by rw [spec_l04Take.j1, if_neg (by decide), List.length_map]) ?_)
    rw [hR]
    by_cases c : (gTake K M G hv hv.length).length < K
    · rw [if_pos c]; exact Ev.ifT (by omega) (Ev.now _)
    · rw [if_neg c]; exact Ev.ifF (by omega) (Ev.now _)
  | d + 1, i, cells, hd, hrep => by
    have hi : i < hv.length := by omega
    have hle := (gTake_le K M G hv i).1
    have hk2 := hF.k2
    have hs := hF.s
    refine Ev.step (fun k => by rw [spec_l04Take.l0, List.length_map]) (Ev.ifT (by omega) ?_)
    by_cases cK : (gTake K M G hv i).length < K
    · rw [decide_eq_true (show ((gTake K M G hv i).length : Int) < (K : Int) by omega)]
      have IH := fun cells h => take_loop hF hl hR d (i + 1) cells (by omega) h
      have eS : gTake K M G hv (i + 1) = gStep K M G hv (gTake K M G hv i) i := rfl
      unfold gStep at eS
      refine Ev.step (fun k => by rw [spec_l04Take.j1, List.length_map, suc_w (show i < 1048576 by omega), suc_w (show (gTake K M G hv i).length < 1048576 by omega)]) ?_
      refine Ev.ifT rfl (Ev.ifT (by omega) (Ev.ifT (by omega) ?_))
      by_cases ch : rdOf false hv (i : Int) = true
      · rw [if_neg (by rw [ch]; rintro (e | e); · cases e
                       · omega)] at eS
        refine Ev.ifT ch (Ev.bind0 rfl ?_)
        have hc1 : cells.length ≤ 32 * 32 := by rw [hrep.1]; exact Nat.mul_le_mul (by omega) (by omega)
        refine Ev.ifT (by simp; omega) (Ev.bind0 rfl ?_)
        refine Ev.bind (spec_row hF (by omega)) ?_
        refine Ev.ifT (by rw [List.nil_append, rowV_len]; omega) (Ev.bind0 rfl ?_)
        rw [List.nil_append]
        have hrep2 := rep_row (show K + M ≤ 64 by omega) i hrep
        refine Ev.bind (rank_f (toN_byt (takM_byt (G := G) (show K + M ≤ 64 by omega) _)) (by omega) (by omega) hrep2) ?_
        by_cases cc : cnt (rk K M G (gTake K M G hv i ++ [i])) ((gTake K M G hv i).length + 1) K K = (gTake K M G hv i).length + 1
        · rw [if_pos cc] at eS
          refine Ev.ifT (congrArg Int.ofNat cc) (Ev.ifT (by omega) ?_)
          have := IH (cells ++ rowV K M G i) (by rw [eS, List.length_append, List.length_singleton]; exact hrep2)
          rw [eS, List.map_append] at this
          exact this
        · rw [if_neg cc] at eS
          refine Ev.ifF (fun e => cc (Int.ofNat.inj e)) ?_
          have := IH cells (by rw [eS]; exact hrep)
          rw [eS] at this
          exact this
      · rw [if_pos (.inl (by simpa using ch))] at eS
        have := IH cells (by rw [eS]; exact hrep)
        rw [eS] at this
        exact Ev.ifF ch this
    · rw [decide_eq_false (show ¬ ((gTake K M G hv i).length : Int) < (K : Int) by omega)]
      have e := gTake_stay (K := K) (M := M) (G := G) (hv := hv) (i := i) (by omega) (d + 1)
      rw [hd] at e
      refine Ev.step (fun k => by rw [spec_l04Take.j1, if_neg (by decide), List.length_map]) ?_
      rw [hR, e, if_neg cK]
      exact Ev.ifF (by omega) (Ev.now _)
theorem rep_nil (C : Nat) (P : MatN) : Rep 0 C [] P := ⟨by simp, fun i j hi hj => by omega⟩

/-! ### the plan -/
theorem groupI_lt {K M G lost : Nat} (hG : 0 < G) (hl : lost < K + M + G) (h0 : ¬ (K ≤ lost ∧ lost < K + M)) : groupI K M G lost < G := by
  unfold groupI
  split
  · exact Nat.mod_lt _ hG
  · omega
theorem filt_len (p : Nat → Bool) (i : Nat) : (((List.range i).filter p).map Int.ofNat).length ≤ i := by
  rw [List.length_map]
  exact Nat.le_trans (List.length_filter_le _ _) (by simp)
theorem grp_loop {K M G lost : Nat} (hF : Fine K M G) (hG : 0 < G) (hl : lost < K + M + G) (h0 : ¬ (K ≤ lost ∧ lost < K + M)) :
    ∀ (d i : Nat), i + d = K → Ev (fun k => spec_l04Group.l0 k (lost : Int) (((List.range i).filter (inG G (groupI K M G lost) lost)).map Int.ofNat) ((groupI K M G lost : Nat) : Int) (i : Int) (K : Int) (M : Int) (G : Int)) ((groupV K M G lost).map Int.ofNat)
  | 0, i, hd => by
    obtain rfl : i = K := by omega
    have hs := hF.s
    have hg := groupI_lt hG hl h0
    have hlen := filt_len (inG G (groupI i M G lost) lost) i
    have e : wrap64 (wrap64 ((i : Int) + (M : Int)) + ((groupI i M G lost : Nat) : Int)) = ((i + M + groupI i M G lost : Nat) : Int) := by
      rw [w64 (x := (i : Int) + M) (by omega) (by omega), w64 (by omega) (by omega)]; omega
    refine Ev.step (fun k => by rw [spec_l04Group.l0, e]) (Ev.ifF (by omega) ?_)
    unfold groupV
    rw [if_neg (show ¬ (G = 0 ∨ i ≤ lost ∧ lost < i + M) by rintro (e | e); · omega
                                                            · exact h0 e)]
    by_cases c : lost < i
    · rw [if_pos c, List.map_append]
      exact Ev.ifT (by omega) (Ev.ifT (by omega) (Ev.now _))
    · rw [if_neg c, List.append_nil]
      exact Ev.ifF (by omega) (Ev.now _)
  | d + 1, i, hd => by
    have hs := hF.s
    have IH := grp_loop hF hG hl h0 d (i + 1) (by omega)
    have hlen := filt_len (inG G (groupI K M G lost) lost) i
    rw [List.range_succ, List.filter_append, List.map_append] at IH
    refine Ev.step (fun k => by rw [spec_l04Group.l0, mod_w, suc_w (by omega)]) ?_
    refine Ev.ifT (by omega) (Ev.ifF (by omega) ?_)
    by_cases c : i % G = groupI K M G lost
    · refine Ev.ifT (congrArg Int.ofNat c) ?_
      by_cases c2 : i = lost
      · rw [List.filter_cons_of_neg (fun h => (inG_iff.1 h).2 c2), List.filter_nil, List.map_nil, List.append_nil] at IH
        exact Ev.ifT (congrArg Int.ofNat c2) IH
      · rw [List.filter_cons_of_pos (inG_iff.2 ⟨c, c2⟩), List.filter_nil] at IH
        exact Ev.ifF (fun e => c2 (Int.ofNat.inj e)) (Ev.ifT (by omega) IH)
    · rw [List.filter_cons_of_neg (fun h => c (inG_iff.1 h).1), List.filter_nil, List.map_nil, List.append_nil] at IH
      exact Ev.ifF (fun e => c (Int.ofNat.inj e)) IH
theorem spec_group {K M G lost : Nat} (hF : Fine K M G) (hl : lost < K + M + G) : Ev (fun k => spec_l04Group.f k (K : Int) (M : Int) (G : Int) (lost : Int)) ((groupV K M G lost).map Int.ofNat) := by
  have hs := hF.s
  have ej : ∀ b : Bool, b = true → (G = 0 ∨ K ≤ lost ∧ lost < K + M) → Ev (fun k => spec_l04Group.j0 k (lost : Int) [] b (K : Int) (M : Int) (G : Int)) ((groupV K M G lost).map Int.ofNat) := fun b hb h => by
    unfold groupV
    rw [if_pos h, hb]
    exact Ev.step (fun k => by rw [spec_l04Group.j0, if_pos rfl, List.map_nil]) (Ev.now _)
  have ew : wrap64 ((K : Int) + (M : Int)) = ((K + M : Nat) : Int) := by rw [w64 (by omega) (by omega)]; rfl
  have ei : ¬ G = 0 → ¬ (K ≤ lost ∧ lost < K + M) → ∀ b : Bool, b = false → Ev (fun k => spec_l04Group.j0 k (lost : Int) [] b (K : Int) (M : Int) (G : Int)) ((groupV K M G lost).map Int.ofNat) := fun h1 h2 b hb => by
    have main : Ev (fun k => spec_l04Group.l0 k (lost : Int) [] ((groupI K M G lost : Nat) : Int) 0 (K : Int) (M : Int) (G : Int)) ((groupV K M G lost).map Int.ofNat) := grp_loop hF (by omega) hl h2 K 0 (by omega)
    rw [hb]
    by_cases c : K ≤ lost
    · have e : wrap64 (wrap64 ((lost : Int) - (K : Int)) - (M : Int)) = ((groupI K M G lost : Nat) : Int) := by unfold groupI; rw [if_neg (by omega)]; exact sub_w hF (by omega) hl
      refine Ev.step (fun k => by rw [spec_l04Group.j0, e]) (Ev.ifF (by decide) (Ev.ifF (by omega) (Ev.ifT (by omega) ?_)))
      exact Ev.step (fun k => by rw [spec_l04Group.j1]) main
    · have e : Int.tmod (lost : Int) (G : Int) = ((groupI K M G lost : Nat) : Int) := by unfold groupI; rw [if_pos (by omega), mod_w]
      refine Ev.step (fun k => by rw [spec_l04Group.j0, e]) (Ev.ifF (by decide) (Ev.ifF (by omega) (Ev.ifF (by omega) ?_)))
      exact Ev.step (fun k => by rw [spec_l04Group.j1]) main
  unfold spec_l04Group.f
  refine Ev.bind0 rfl ?_
  by_cases h0 : G = 0
  · exact Ev.ifT (by omega) (ej _ rfl (.inl h0))
  · refine Ev.ifF (by omega) ?_
    by_cases c1 : K ≤ lost
    · refine Ev.ifT (by omega) ?_
      rw [ew]
      by_cases c2 : lost < K + M
      · exact ej _ (decide_eq_true (by omega)) (.inr ⟨c1, c2⟩)
      · exact ei h0 (fun h => c2 h.2) _ (decide_eq_false (by omega))
    · exact Ev.ifF (by omega) (ei h0 (fun h => c1 h.1) _ rfl)
theorem rd_ofNat {T : List Nat} {i : Nat} (h : i < T.length) : rd (T.map Int.ofNat) (i : Int) = ((T[i] : Nat) : Int) := by rw [rd_nat, List.getD_eq_getElem?_getD, List.getElem?_map, List.getElem?_eq_getElem h]; rfl
/-- What the plan answers. -/
def planR (K M G : Nat) (hv : List Bool) (lost : Nat) : Int × List Int := if (planV K M G hv lost).2.2 = true then (0, (planV K M G hv lost).1.map Int.ofNat) else (8, [])
theorem plan_take {K M G : Nat} (hF : Fine K M G) (hv : List Bool) (lost : Nat) (ha : ¬ allH hv (groupV K M G lost) (groupV K M G lost).length = true) : planV K M G hv lost = (gTake K M G (hv.set lost false) hv.length, false, decide ((gTake K M G (hv.set lost false) hv.length).length = K)) := by
  have hs := hF.s
  unfold planV
  rw [if_neg ha, (basis_greedy (K := K) (M := M) (G := G) (by omega) (hv.set lost false) hv.length).2]
theorem plan_loop {K M G lost : Nat} (hF : Fine K M G) (hl : lost < K + M + G) {hv : List Bool} (hvl : hv.length = K + M + G) :
    ∀ (d i : Nat), i + d = (groupV K M G lost).length → Ev (fun k => spec_RepairPlan.l0 k hv (lost : Int) ((groupV K M G lost).map Int.ofNat) (allH hv (groupV K M G lost) i) (i : Int) (K : Int) (M : Int) (G : Int)) (planR K M G hv lost)
  | 0, i, hd => by
    obtain rfl : i = (groupV K M G lost).length := by omega
    have hs := hF.s
    have hk1 := hF.k1
    refine Ev.step (fun k => by rw [spec_RepairPlan.l0, List.length_map]) (Ev.ifF (by omega) ?_)
    by_cases ha : allH hv (groupV K M G lost) (groupV K M G lost).length = true
    · have e : planR K M G hv lost = (0, (groupV K M G lost).map Int.ofNat) := by unfold planR planV; rw [if_pos ha]; rfl
      rw [e]
      exact Ev.ifT ha (Ev.now _)
    · have hp := plan_take hF hv lost ha
      have hset : (hv.set lost false).length = K + M + G := by rw [List.length_set]; exact hvl
      have htk := take_loop hF hset rfl (hv.set lost false).length 0 [] (by omega) (rep_nil K (rk K M G (gTake K M G (hv.set lost false) 0)))
      have hle := (gTake_le K M G (hv.set lost false) hv.length).1
      rw [List.length_set] at htk
      refine Ev.ifF ha (Ev.bind0 rfl (Ev.ifT (by simp; omega) (Ev.bind0 rfl (Ev.ifT (by omega) (Ev.ifT (by simp; omega) ?_)))))
      rw [List.nil_append, Int.toNat_natCast]
      unfold planR
      rw [hp]
      by_cases c : (gTake K M G (hv.set lost false) hv.length).length < K
      · rw [if_pos c] at htk
        rw [if_neg (by simp; omega)]
        exact Ev.bind htk (Ev.ifT rfl (Ev.now _))
      · rw [if_neg c] at htk
        rw [if_pos (by simp; omega)]
        exact Ev.bind htk (Ev.ifF (by rw [List.length_map]; omega) (Ev.now _))
  | d + 1, i, hd => by
    have hi : i < (groupV K M G lost).length := by omega
    have hs := hF.s
    have hgl := group_len K M G lost
    have IH := plan_loop hF hl hvl d (i + 1) (by omega)
    have hlt := group_lt hl (List.getElem_mem hi)
    rw [allH_succ hv _ hi] at IH
    refine Ev.step (fun k => by rw [spec_RepairPlan.l0, List.length_map, rd_ofNat hi, suc_w (by omega)]) (Ev.ifT (by omega) ?_)
    by_cases ha : allH hv (groupV K M G lost) i = true
    · rw [ha, Bool.true_and] at IH
      exact Ev.ifT ha (Ev.ifT (by omega) (Ev.ifT (by omega) (Ev.ifT (by omega) IH)))
    · have hb : allH hv (groupV K M G lost) i = false := by simpa using ha
      rw [hb, Bool.false_and] at IH
      exact Ev.ifF ha IH
theorem spec_plan {K M G lost : Nat} (hF : Fine K M G) (hl : lost < K + M + G) {hv : List Bool} (hvl : hv.length = K + M + G) : Ev (fun k => spec_RepairPlan.f k (K : Int) (M : Int) (G : Int) hv (lost : Int)) (planR K M G hv lost) := by
  unfold spec_RepairPlan.f
  refine Ev.bind0 (spec_fault hF) (Ev.ifT rfl (Ev.bind0 (spec_size hF) (Ev.ifT (by omega) (Ev.ifF (by omega) (Ev.bind0 (spec_size hF) ?_)))))
  rw [decide_eq_false (by omega)]
  refine Ev.step (fun k => by rw [spec_RepairPlan.j0, if_neg (by decide)]) (Ev.bind (spec_group hF hl) ?_)
  have h := plan_loop hF hl hvl (groupV K M G lost).length 0 (by omega)
  have e : allH hv (groupV K M G lost) 0 = decide ((((groupV K M G lost).map Int.ofNat).length : Int) > 0) := by
    unfold allH
    rw [List.take_zero, List.length_map]
    show (decide _ && true) = _
    rw [Bool.and_true]
    exact decide_eq_decide.2 (by omega)
  rw [e] at h
  exact h
theorem plan_len {K M G lost : Nat} (hF : Fine K M G) (hv : List Bool) : (planV K M G hv lost).1.length ≤ 64 := by
  have hs := hF.s
  have hk2 := hF.k2
  by_cases ha : allH hv (groupV K M G lost) (groupV K M G lost).length = true
  · have := group_len K M G lost
    unfold planV
    rw [if_pos ha]
    show (groupV K M G lost).length ≤ 64
    omega
  · rw [plan_take hF hv lost ha]
    have := (gTake_le K M G (hv.set lost false) hv.length).1
    show (gTake K M G (hv.set lost false) hv.length).length ≤ 64
    omega
theorem impl_plan {K M G lost : Nat} (hF : Fine K M G) (hl : lost < K + M + G) {hv : List Bool} (hvl : hv.length = K + M + G) : impl_RepairPlan.f (K : Int) (M : Int) (G : Int) hv (lost : Int) = some (planR K M G hv lost) := by
  unfold impl_RepairPlan.f planR
  simp only [Int.toNat_natCast]
  rw [if_pos ⟨impl_fault hF, by omega, by omega, by omega, plan_len hF hv⟩]
  split <;> rfl
theorem set_held {hv : List Bool} {lost t : Nat} (h : rdOf false (hv.set lost false) (t : Int) = true) : t ≠ lost ∧ rdOf false hv (t : Int) = true := by
  unfold rdOf at h ⊢
  rw [Int.toNat_natCast, List.getD_eq_getElem?_getD] at h ⊢
  by_cases e : t = lost
  · subst e
    by_cases c : t < hv.length
    · rw [List.getElem?_set_self c] at h; cases h
    · rw [List.getElem?_eq_none (by rw [List.length_set]; omega)] at h; cases h
  · rw [List.getElem?_set_ne (Ne.symm e)] at h
    exact ⟨e, h⟩
/-- What is read is there, and is not what is lost. -/
theorem plan_reads {K M G lost : Nat} (hF : Fine K M G) (hl : lost < K + M + G) {hv : List Bool} (hvl : hv.length = K + M + G) {t : Nat} (ht : t ∈ (planV K M G hv lost).1) : t < K + M + G ∧ t ≠ lost ∧ rdOf false hv (t : Int) = true := by
  by_cases ha : allH hv (groupV K M G lost) (groupV K M G lost).length = true
  · have e : (planV K M G hv lost).1 = groupV K M G lost := by unfold planV; rw [if_pos ha]
    rw [e] at ht
    refine ⟨group_lt hl ht, ?_, ?_⟩
    · intro e2
      subst e2
      unfold groupV at ht
      by_cases h0 : G = 0 ∨ K ≤ t ∧ t < K + M
      · rw [if_pos h0] at ht; cases ht
      · rw [if_neg h0] at ht
        rcases List.mem_append.1 ht with m | m
        · exact (inG_iff.1 (List.mem_filter.1 m).2).2 rfl
        · by_cases c : t < K
          · rw [if_pos c] at m
            have := List.mem_singleton.1 m
            omega
          · rw [if_neg c] at m; cases m
    · unfold allH at ha
      rw [Bool.and_eq_true, List.take_length] at ha
      exact List.all_eq_true.1 ha.2 t ht
  · rw [plan_take hF hv lost ha] at ht
    obtain ⟨h1, h2⟩ := (gTake_le K M G (hv.set lost false) hv.length).2 t ht
    exact ⟨by omega, set_held h2⟩

/-! ### the shards that are there -/
def junk : ByteArray := ⟨#[]⟩
def shOf (hv : List Bool) (en : List ByteArray) : List S61 := hv.mapIdx fun i b => if b = true then ⟨true, rdOf ByteArray.empty en (i : Int)⟩ else ⟨false, junk⟩
theorem shOf_len (hv : List Bool) (en : List ByteArray) : (shOf hv en).length = hv.length := by simp [shOf]
theorem shOf_snoc (hv : List Bool) (en : List ByteArray) (b : Bool) : shOf (hv ++ [b]) en = shOf hv en ++ [if b = true then ⟨true, rdOf ByteArray.empty en (hv.length : Int)⟩ else ⟨false, junk⟩] := by
  unfold shOf
  rw [List.mapIdx_append]
  simp
theorem shOf_at (hv : List Bool) (en : List ByteArray) {i : Nat} (h : i < (shOf hv en).length) (h2 : i < hv.length) : (shOf hv en)[i] = if hv[i] = true then ⟨true, rdOf ByteArray.empty en (i : Int)⟩ else ⟨false, junk⟩ := by
  simp only [shOf, List.getElem_mapIdx]
theorem shOf_hv (hv : List Bool) (en : List ByteArray) : ((shOf hv en).map fun s => s.f0) = hv := by
  apply List.ext_getElem
  · rw [List.length_map, shOf_len]
  · intro i h1 h2
    rw [List.getElem_map, shOf_at hv en (by rw [shOf_len]; exact h2) h2]
    by_cases c : hv[i] = true
    · rw [if_pos c, c]
    · rw [if_neg c]; simpa using c
theorem hv_at {hv : List Bool} {t : Nat} (h : rdOf false hv (t : Int) = true) : ∃ h2 : t < hv.length, hv[t] = true := by
  unfold rdOf at h
  rw [Int.toNat_natCast, List.getD_eq_getElem?_getD] at h
  by_cases c : t < hv.length
  · rw [List.getElem?_eq_getElem c] at h; exact ⟨c, h⟩
  · rw [List.getElem?_eq_none (by omega)] at h; cases h
theorem shOf_tx {hv : List Bool} {en : List ByteArray} {t : Nat} (h : rdOf false hv (t : Int) = true) : rdOf ByteArray.empty ((shOf hv en).map tx0) (t : Int) = rdOf ByteArray.empty en (t : Int) := by
  obtain ⟨h2, h3⟩ := hv_at h
  rw [rd_get (H := (shOf hv en).map tx0) (by rw [List.length_map, shOf_len]; exact h2), List.getElem_map, shOf_at hv en (by rw [shOf_len]; exact h2) h2, if_pos h3]
  rfl
theorem enc_rd {K M G n : Nat} {data : List ByteArray} {t : Nat} (h : t < K + M + G) : rdOf ByteArray.empty (encV K M G n data) (t : Int) = shardV K M G n data t := by
  unfold rdOf encV
  rw [Int.toNat_natCast, List.getD_eq_getElem?_getD, List.getElem?_map, List.getElem?_range h]; rfl
theorem impl_shard {K M G n lost : Nat} (hF : Fine K M G) {data : List ByteArray} (hl : data.length = K) (h1 : 1 ≤ n) (hn : n ≤ 4096) (hd : ∀ j : Nat, j < data.length → (rdOf ByteArray.empty data (j : Int)).size = n) (hlo : lost < K + M + G) {hv : List Bool} (hvl : hv.length = K + M + G) :
    Ev (fun k => impl_RepairShard.f k (K : Int) (M : Int) (G : Int) (shOf hv (encV K M G n data)) (lost : Int)) (if (planV K M G hv lost).2.2 = true then (0, [shardV K M G n data lost]) else (8, [])) := by
  have hs := hF.s
  have hk1 := hF.k1
  have hd2 : ∀ j : Nat, j < K → (rdOf ByteArray.empty data (j : Int)).size = n := fun j hj => hd j (by omega)
  have hsz : ∀ t, (shardV K M G n data t).size = n := shard_size hd2
  have hlen : (shOf hv (encV K M G n data)).length = K + M + G := by rw [shOf_len]; exact hvl
  have hh := heldOf_f (shOf hv (encV K M G n data)) (by omega)
  rw [shOf_hv] at hh
  have hhl := heldL_len (shOf hv (encV K M G n data))
  have ho : Ev (fun k => impl_oneLength.f k (heldL (shOf hv (encV K M G n data)))) true := one_loop (n := n) (by omega) h1 hn (fun j hj => by
    rw [rd_get hj]
    obtain ⟨i, hi, g0, g1⟩ := heldL_mem.1 (List.getElem_mem hj)
    have hi2 : i < hv.length := by rw [shOf_len] at hi; exact hi
    rw [shOf_at hv _ hi hi2] at g0 g1
    by_cases c : hv[i] = true
    · rw [if_pos c] at g1
      rw [← g1]
      show (rdOf ByteArray.empty (encV K M G n data) (i : Int)).size = n
      rw [enc_rd (by omega), hsz]
    · rw [if_neg c] at g0; cases g0) (heldL (shOf hv (encV K M G n data))).length 0 (by omega)
  have htx : ∀ t ∈ (planV K M G hv lost).1, rdOf ByteArray.empty ((shOf hv (encV K M G n data)).map tx0) (t : Int) = shardV K M G n data t := fun t m => by
    obtain ⟨p1, _, p3⟩ := plan_reads hF hlo hvl m
    rw [shOf_tx p3, enc_rd p1]
  have htl : ((shOf hv (encV K M G n data)).map tx0).length = K + M + G := by rw [List.length_map]; exact hlen
  have start : ∀ R, Ev (fun _ => if (planV K M G hv lost).2.2 = true then (if fitT (planV K M G hv lost).1 ((shOf hv (encV K M G n data)).map tx0) (rdOf ByteArray.empty ((shOf hv (encV K M G n data)).map tx0) ((planV K M G hv lost).1.getD 0 0 : Nat)).size then (if (planV K M G hv lost).2.1 = true then (if 1 ≤ (planV K M G hv lost).1.length ∧ (planV K M G hv lost).1.length ≤ 64 then some (0, [nearV (rdOf ByteArray.empty ((shOf hv (encV K M G n data)).map tx0) ((planV K M G hv lost).1.getD 0 0 : Nat)).size (planV K M G hv lost).1 ((shOf hv (encV K M G n data)).map tx0)]) else none) else (if (planV K M G hv lost).1.length = K then some (0, [farV K M G (rdOf ByteArray.empty ((shOf hv (encV K M G n data)).map tx0) ((planV K M G hv lost).1.getD 0 0 : Nat)).size lost (planV K M G hv lost).1 ((shOf hv (encV K M G n data)).map tx0)]) else none)) else none) else some (8, [])) R → Ev (fun k => impl_RepairShard.f k (K : Int) (M : Int) (G : Int) (shOf hv (encV K M G n data)) (lost : Int)) R := fun R h => by
    unfold impl_RepairShard.f
    refine Ev.bind hh (Ev.bind ho ?_)
    simp only [Int.toNat_natCast]
    exact Ev.ifT ⟨trivial, impl_fault hF, by omega, by omega, by omega, by omega, by omega⟩ h
  refine start _ ?_
  by_cases hp : (planV K M G hv lost).2.2 = true
  · have hg : ∀ r, r < (planV K M G hv lost).1.length → (planV K M G hv lost).1.getD r 0 ∈ (planV K M G hv lost).1 := fun r hr => getD_mem 0 hr
    have hpos : 0 < (planV K M G hv lost).1.length := by
      by_cases ha : allH hv (groupV K M G lost) (groupV K M G lost).length = true
      · have e : (planV K M G hv lost).1 = groupV K M G lost := by unfold planV; rw [if_pos ha]
        rw [e]
        unfold allH at ha
        rw [Bool.and_eq_true] at ha
        exact of_decide_eq_true ha.1
      · rw [plan_take hF hv lost ha] at hp ⊢
        have := of_decide_eq_true hp
        show 0 < (gTake K M G (hv.set lost false) hv.length).length
        omega
    have e0 : (rdOf ByteArray.empty ((shOf hv (encV K M G n data)).map tx0) ((planV K M G hv lost).1.getD 0 0 : Nat)).size = n := by rw [htx _ (hg 0 hpos), hsz]
    have hfit : fitT (planV K M G hv lost).1 ((shOf hv (encV K M G n data)).map tx0) n := ⟨fun r hr => by have := (plan_reads hF hlo hvl (hg r hr)).1; omega, fun r hr => by rw [htx _ (hg r hr), hsz], hn⟩
    rw [e0]
    refine Ev.ifT hp (Ev.ifT hfit ?_)
    rw [show (if (planV K M G hv lost).2.2 = true then ((0 : Int), [shardV K M G n data lost]) else (8, [])) = (0, [shardV K M G n data lost]) from if_pos hp]
    by_cases ha : allH hv (groupV K M G lost) (groupV K M G lost).length = true
    · have e : planV K M G hv lost = (groupV K M G lost, true, true) := by unfold planV; rw [if_pos ha]
      rw [e] at htx hpos ⊢
      have hgl := group_len K M G lost
      have hk2 := hF.k2
      refine Ev.ifT rfl (Ev.ifT ⟨hpos, by show (groupV K M G lost).length ≤ 64; omega⟩ ?_)
      rw [near_shard hF hd2 hlo (fun e2 => by rw [e2] at hpos; exact absurd hpos (by decide)) htx]
      exact Ev.now _
    · rw [plan_take hF hv lost ha] at htx hp ⊢
      have hT := of_decide_eq_true hp
      obtain ⟨b1, b2⟩ := basis_greedy (K := K) (M := M) (G := G) (by omega) (hv.set lost false) hv.length
      have hc := b1.cnt
      rw [b2, hT] at hc
      refine Ev.ifF (by simp) (Ev.ifT hT ?_)
      rw [far_shard hF hl hd2 hT hc htx]
      exact Ev.now _
  · rw [show (if (planV K M G hv lost).2.2 = true then ((0 : Int), [shardV K M G n data lost]) else (8, [])) = (8, []) from if_neg hp]
    exact Ev.ifF hp (Ev.now _)
/-! ### the law -/
theorem tm6 {i : Nat} (h : i < 1048576) : wrap64 (1 + Int.tmod (i : Int) 6) = ((1 + i % 6 : Nat) : Int) := by rw [Int.tmod_eq_emod_of_nonneg (by omega), w64 (by omega) (by omega)]; omega
theorem tm4 (i : Nat) : Int.tmod (i : Int) 4 = ((i % 4 : Nat) : Int) := mod_w i 4
theorem tm8 {i : Nat} (h : i < 1048576) : wrap64 (1 + Int.tmod (i : Int) 8) = ((1 + i % 8 : Nat) : Int) := by rw [Int.tmod_eq_emod_of_nonneg (by omega), w64 (by omega) (by omega)]; omega
theorem add_w {a b : Nat} (ha : a < 1048576) (hb : b < 1048576) : wrap64 ((a : Int) + (b : Int)) = ((a + b : Nat) : Int) := by rw [w64 (by omega) (by omega)]; rfl
def allU (l : List Int) : Prop := ∀ y ∈ l, (Lit.int .u8 y).wf = true
theorem at_some {l : List Int} (hl : allU l) (i : Nat) (hi : i ≤ 1000000) : ∃ x : Nat, x < 256 ∧ laws_lwAt.f l (i : Int) = some (x : Int) := by
  unfold laws_lwAt.f
  by_cases c : i < l.length
  · have hb : 0 ≤ rd l (i : Int) ∧ rd l (i : Int) ≤ 255 := by
      unfold rd
      rw [Int.toNat_natCast]
      exact wf_u8 (hl _ (getD_mem 0 c))
    refine ⟨(rd l (i : Int)).toNat, by omega, ?_⟩
    rw [if_pos (by omega), if_pos (by omega), w64 (by omega) (by omega)]
    exact congrArg some (Int.toNat_of_nonneg hb.1).symm
  · refine ⟨(i * 61 + 29) % 256, by omega, ?_⟩
    rw [if_neg (by omega), w64 (x := (i : Int) * 61) (by omega) (by omega), w64 (by omega) (by omega), Int.tmod_eq_emod_of_nonneg (by omega)]
    congr 1
theorem data_l1 {l : List Int} (hl : allU l) {n K : Nat} (hn : n ≤ 8) (hK : K ≤ 32) {j : Nat} (hj : j < K) {acc : List ByteArray} (ha : acc.length ≤ 32) : ∀ (d b : Nat) (x8 : List Int), b + d = n → x8.length = b → ∃ t : ByteArray, t.size = n ∧ ∀ R, Ev (fun k => laws_lwData.l0 k l (K : Int) (n : Int) (acc ++ [t]) ((j + 1 : Nat) : Int)) R →
    Ev (fun k => laws_lwData.l1 k l (K : Int) (n : Int) acc (j : Int) x8 (b : Int)) R
  | 0, b, x8, hd, hx => by
    refine ⟨strOfNums x8, by rw [strOfNums_size]; omega, fun R h => ?_⟩
    refine Ev.step (fun k => by rw [laws_lwData.l1]) ?_
    refine Ev.ifF (by omega) (Ev.ifT (by omega) ?_)
    rw [w64 (by omega) (by omega)]
    exact h
  | d + 1, b, x8, hd, hx => by
    obtain ⟨x, hx1, hx2⟩ := at_some hl (10 + j * 8 + b) (by omega)
    obtain ⟨t, ht, H⟩ := data_l1 hl hn hK hj ha d (b + 1) (x8 ++ [((x : Int)) % 256]) (by omega) (by simp [hx])
    refine ⟨t, ht, fun R h => ?_⟩
    refine Ev.step (fun k => by rw [laws_lwData.l1]) ?_
    refine Ev.ifT (by omega) ?_
    rw [w64 (x := (j : Int) * 8) (by omega) (by omega), w64 (x := 10 + (j : Int) * 8) (by omega) (by omega), w64 (x := 10 + (j : Int) * 8 + (b : Int)) (by omega) (by omega)]
    have e : 10 + (j : Int) * 8 + (b : Int) = ((10 + j * 8 + b : Nat) : Int) := by omega
    rw [e]
    refine Ev.bind0 hx2 ?_
    refine Ev.ifT (by omega) ?_
    rw [w64 (by omega) (by omega)]
    exact H R h
theorem data_l0 {l : List Int} (hl : allU l) {n K : Nat} (hn : n ≤ 8) (hK : K ≤ 32) : ∀ (d j : Nat) (acc : List ByteArray), j + d = K → acc.length = j → (∀ t ∈ acc, t.size = n) → ∃ out : List ByteArray, out.length = K ∧ (∀ t ∈ out, t.size = n) ∧ Ev (fun k => laws_lwData.l0 k l (K : Int) (n : Int) acc (j : Int)) out
  | 0, j, acc, hd, ha, hs => ⟨acc, by omega, hs, Ev.step (f := fun _ => some acc) (fun k => by rw [laws_lwData.l0, if_neg (by omega)]) (Ev.now _)⟩
  | d + 1, j, acc, hd, ha, hs => by
    obtain ⟨t, ht, H⟩ := data_l1 hl hn hK (j := j) (by omega) (acc := acc) (by omega) n 0 [] (by omega) rfl
    obtain ⟨out, h1, h2, h3⟩ := data_l0 hl hn hK d (j + 1) (acc ++ [t]) (by omega) (by simp [ha]) (fun x m => by
      rcases List.mem_append.1 m with m | m
      · exact hs x m
      · rw [List.mem_singleton.1 m]; exact ht)
    refine ⟨out, h1, h2, ?_⟩
    refine Ev.step (fun k => by rw [laws_lwData.l0]) ?_
    exact Ev.ifT (by omega) (H out h3)
theorem data_f {l : List Int} (hl : allU l) {K : Nat} (hK : K ≤ 32) : ∃ n out, 1 ≤ n ∧ n ≤ 8 ∧ out.length = K ∧ (∀ j : Nat, j < out.length → (rdOf ByteArray.empty out (j : Int)).size = n) ∧ Ev (fun k => laws_lwData.f k l (K : Int)) out := by
  obtain ⟨x, hx1, hx2⟩ := at_some hl 9 (by omega)
  obtain ⟨out, h1, h2, h3⟩ := data_l0 hl (n := 1 + x % 8) (by omega) hK K 0 [] (by omega) rfl (fun t m => by simp at m)
  refine ⟨1 + x % 8, out, by omega, by omega, h1, fun j hj => h2 _ (by unfold rdOf; rw [Int.toNat_natCast]; exact getD_mem _ hj), ?_⟩
  unfold laws_lwData.f
  refine Ev.bind0 hx2 ?_
  rw [tm8 (by omega)]
  exact h3
theorem ints_loop (l : List Int) (hl : l.length ≤ 1048576) : ∀ (d i : Nat), i + d = l.length → Ev (fun k => laws_lwInts.l0 k l l (i : Int)) true
  | 0, i, hd => Ev.step (fun k => by rw [laws_lwInts.l0, if_neg (by omega)]) (Ev.now _)
  | d + 1, i, hd => by
    refine Ev.step (fun k => by rw [laws_lwInts.l0, suc_w (by omega)]) ?_
    exact Ev.ifT (by omega) (Ev.ifT (by omega) (Ev.ifT (by omega) (Ev.ifT rfl (ints_loop l hl d (i + 1) (by omega)))))
theorem ints_same (l : List Int) (hl : l.length ≤ 1048576) : Ev (fun k => laws_lwInts.f k l l) true := by
  unfold laws_lwInts.f
  exact Ev.ifT rfl (ints_loop l hl l.length 0 (by omega))
theorem reads_loop {more : List Int} {K M G n lost : Nat} {data : List ByteArray} (hF : Fine K M G) (hlo : lost < K + M + G) {hv : List Bool} (hvl : hv.length = K + M + G)
    (next : Ev (fun k => laws_FnRepaired.l0 k more ((K + M + G : Nat) : Int) ((lost + 1 : Nat) : Int) (K : Int) (M : Int) (G : Int) 0 (encV K M G n data)) true) :
    ∀ (d i : Nat), i + d = (planV K M G hv lost).1.length → Ev (fun k => laws_FnRepaired.l2 k more ((K + M + G : Nat) : Int) (lost : Int) hv (i : Int) (K : Int) (M : Int) (G : Int) 0 (encV K M G n data) 0 ((planV K M G hv lost).1.map Int.ofNat)) true
  | 0, i, hd => by
    have hs := hF.s
    refine Ev.step (fun k => by rw [laws_FnRepaired.l2, List.length_map, suc_w (show lost < 1048576 by omega)]) ?_
    exact Ev.ifF (by omega) next
  | d + 1, i, hd => by
    have hs := hF.s
    have hi : i < (planV K M G hv lost).1.length := by omega
    have h64 := plan_len (lost := lost) hF hv
    obtain ⟨p1, p2, p3⟩ := plan_reads hF hlo hvl (List.getElem_mem hi)
    refine Ev.step (fun k => by rw [laws_FnRepaired.l2, List.length_map, rd_ofNat hi, suc_w (show i < 1048576 by omega)]) ?_
    exact Ev.ifT (by omega) (Ev.ifT (by omega) (Ev.ifF (fun e => p2 (Int.ofNat.inj e)) (Ev.ifT (by omega) (Ev.ifT (by omega) (Ev.ifT p3 (reads_loop hF hlo hvl next d (i + 1) (by omega)))))))
theorem one_lost {more : List Int} {K M G n lost : Nat} {data : List ByteArray} (hF : Fine K M G) (hl : data.length = K) (h1 : 1 ≤ n) (hn : n ≤ 4096) (hd : ∀ j : Nat, j < data.length → (rdOf ByteArray.empty data (j : Int)).size = n) (hlo : lost < K + M + G) {hv : List Bool} (hvl : hv.length = K + M + G)
    (next : Ev (fun k => laws_FnRepaired.l0 k more ((K + M + G : Nat) : Int) ((lost + 1 : Nat) : Int) (K : Int) (M : Int) (G : Int) 0 (encV K M G n data)) true) :
    Ev (fun k => laws_FnRepaired.l1 k more ((K + M + G : Nat) : Int) (lost : Int) hv (shOf hv (encV K M G n data)) ((K + M + G : Nat) : Int) (K : Int) (M : Int) (G : Int) 0 (encV K M G n data)) true := by
  have hs := hF.s
  have hR : (planR K M G hv lost).2.length ≤ 64 := by
    unfold planR
    split
    · rw [List.length_map]; exact plan_len hF hv
    · exact Nat.zero_le _
  refine Ev.step (fun k => by rw [laws_FnRepaired.l1]) (Ev.ifF (by omega) ?_)
  refine Ev.bind0 (impl_plan hF hlo hvl) (Ev.bind (spec_plan hF hlo hvl) (Ev.bind (impl_shard hF hl h1 hn hd hlo hvl) (Ev.ifT rfl (Ev.bind (ints_same _ (by omega)) (Ev.ifT rfl ?_)))))
  refine Ev.step (fun k => by rw [laws_FnRepaired.j4, suc_w (show lost < 1048576 by omega)]) ?_
  unfold planR
  by_cases hp : (planV K M G hv lost).2.2 = true
  · rw [if_pos hp, if_pos hp]
    refine Ev.ifF (by simp) (Ev.ifT rfl (Ev.ifT rfl (Ev.ifT (show (0 : Int) < 1 by decide) (Ev.ifT (by omega) (Ev.ifT (by rw [encV_len]; omega) ?_)))))
    have e : ((rdOf ByteArray.empty [shardV K M G n data lost] 0).toList != (rdOf ByteArray.empty (encV K M G n data) (lost : Int)).toList) = false := by
      rw [enc_rd hlo]
      show ((shardV K M G n data lost).toList != _) = false
      simp
    rw [e]
    refine Ev.step (fun k => by rw [laws_FnRepaired.j5, if_neg (by decide)]) ?_
    exact reads_loop hF hlo hvl next (planV K M G hv lost).1.length 0 (by omega)
  · rw [if_neg hp, if_neg hp]
    exact Ev.ifF (by simp) (Ev.ifF (by decide) next)
theorem have_loop {more : List Int} (hm : allU more) {K M G n lost : Nat} {data : List ByteArray} (hF : Fine K M G) (hlo : lost < K + M + G) {R : Bool}
    (next : ∀ hv : List Bool, hv.length = K + M + G → Ev (fun k => laws_FnRepaired.l1 k more ((K + M + G : Nat) : Int) (lost : Int) hv (shOf hv (encV K M G n data)) ((K + M + G : Nat) : Int) (K : Int) (M : Int) (G : Int) 0 (encV K M G n data)) R) :
    ∀ (d i : Nat) (hv : List Bool), i + d = K + M + G → hv.length = i → Ev (fun k => laws_FnRepaired.l1 k more ((K + M + G : Nat) : Int) (lost : Int) hv (shOf hv (encV K M G n data)) (i : Int) (K : Int) (M : Int) (G : Int) 0 (encV K M G n data)) R
  | 0, i, hv, hd, hl => by
    obtain rfl : i = K + M + G := by omega
    exact next hv hl
  | d + 1, i, hv, hd, hl => by
    have hs := hF.s
    have IH := fun b => have_loop hm hF hlo next d (i + 1) (hv ++ [b]) (by omega) (by simp [hl])
    have hlen : (shOf hv (encV K M G n data)).length < 5864062014805 := by rw [shOf_len]; omega
    refine Ev.step (fun k => by rw [laws_FnRepaired.l1, suc_w (show i < 1048576 by omega), add_w (show i < 1048576 by omega) (show lost < 1048576 by omega)]) (Ev.ifT (by omega) ?_)
    by_cases c : i = lost
    · have := IH false
      rw [shOf_snoc] at this
      exact Ev.ifT (congrArg Int.ofNat c) (Ev.ifT (by omega) (Ev.ifT hlen this))
    · refine Ev.ifF (fun e => c (Int.ofNat.inj e)) ?_
      obtain ⟨x, hx1, hx2⟩ := at_some hm (i + lost) (by omega)
      refine Ev.bind0 hx2 (Ev.ifT (by omega) (Ev.bind0 rfl ?_))
      by_cases c2 : Int.tmod (x : Int) 5 > 0
      · have := IH true
        rw [shOf_snoc, hl] at this
        rw [decide_eq_true c2]
        exact Ev.ifT c2 (Ev.ifT (by omega) (Ev.ifT (by rw [encV_len]; omega) (Ev.ifT hlen this)))
      · have := IH false
        rw [shOf_snoc] at this
        rw [decide_eq_false c2]
        exact Ev.ifF c2 (Ev.ifT hlen this)
theorem lost_loop {more : List Int} (hm : allU more) {K M G n : Nat} {data : List ByteArray} (hF : Fine K M G) (hl : data.length = K) (h1 : 1 ≤ n) (hn : n ≤ 4096) (hd : ∀ j : Nat, j < data.length → (rdOf ByteArray.empty data (j : Int)).size = n) :
    ∀ (d i : Nat), i + d = K + M + G → Ev (fun k => laws_FnRepaired.l0 k more ((K + M + G : Nat) : Int) (i : Int) (K : Int) (M : Int) (G : Int) 0 (encV K M G n data)) true
  | 0, i, he => Ev.step (fun k => by rw [laws_FnRepaired.l0]) (Ev.ifF (by omega) (Ev.now _))
  | d + 1, i, he => by
    have IH := lost_loop hm hF hl h1 hn hd d (i + 1) (by omega)
    refine Ev.step (fun k => by rw [laws_FnRepaired.l0]) (Ev.ifT (by omega) ?_)
    exact have_loop hm hF (show i < K + M + G by omega) (fun hv hvl => one_lost hF hl h1 hn hd (by omega) hvl IH) (K + M + G) 0 [] (by omega) rfl
theorem repaired {l0 l1 : List Int} (h0 : allU l0) (h1 : allU l1) : Ev (fun k => laws_FnRepaired.j0 k l0 l1 false) true := by
  obtain ⟨x, hx, ex⟩ := at_some h0 0 (by omega)
  obtain ⟨y, hy, ey⟩ := at_some h0 1 (by omega)
  obtain ⟨z, hz, ez⟩ := at_some h0 2 (by omega)
  obtain ⟨n, data, n1, n2, hl, hd, hdat⟩ := data_f h0 (K := 1 + x % 6) (by omega)
  refine Ev.step (fun k => by rw [laws_FnRepaired.j0]) ?_
  refine Ev.ifF (by decide) ?_
  refine Ev.bind0 ex (Ev.bind0 ey (Ev.bind0 ez ?_))
  rw [tm6 (by omega), tm4]
  generalize hKK : 1 + x % 6 = K at hl hdat ⊢
  generalize hMM : y % 4 = M
  rw [suc_w (show K < 1048576 by omega), mod_w]
  have hG : z % (K + 1) < K + 1 := Nat.mod_lt _ (by omega)
  generalize z % (K + 1) = G at hG ⊢
  have hF : Fine K M G := ⟨by omega, by omega, by omega, by omega, by omega⟩
  rw [size_w hF]
  refine Ev.ifF (by omega) (Ev.bind hdat (Ev.bind (impl_encode hF hl n1 (by omega) hd) (Ev.ifT rfl (Ev.ifT (by rw [encV_len]) (Ev.bind hdat (Ev.bind (spec_encode hF hl n1 (by omega) hd) (Ev.bind (texts_same (encV K M G n data) (by rw [encV_len]; have := hF.s; omega)) ?_)))))))
  refine Ev.step (fun k => by rw [laws_FnRepaired.j1]) (Ev.ifF (by decide) ?_)
  exact lost_loop h1 hF hl n1 (by omega) hd (K + M + G) 0 (by omega)
theorem FnRepaired : laws_FnRepaired.Pure := fun l0 l1 h0 h1 => by
  have hn : Ev (fun k => laws_FnRepaired.f k l0 l1) true := by
    have hT : Ev (fun k => laws_FnRepaired.j0 k l0 l1 true) true := Ev.step (fun k => by rw [laws_FnRepaired.j0, if_pos rfl]) (Ev.now _)
    have hN : Ev (fun k => laws_FnRepaired.j0 k l0 l1 false) true := repaired h0.2 h1.2
    unfold laws_FnRepaired.f
    by_cases c : (l0.length : Int) > 1048576
    · exact Ev.ifT c hT
    · refine Ev.ifF c ?_
      by_cases c2 : (l1.length : Int) > 1048576
      · rw [decide_eq_true c2]; exact hT
      · rw [decide_eq_false c2]; exact hN
  exact hn.rounds
end Go.Proofs.Ytffhbpepppodeaa.Pure
