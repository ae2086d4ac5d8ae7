/-
  The plain law DecodeShards: the program decodes as the reference does; for all arguments.
-/
import Derived.Test.YtffhbpepppodeaaPureCodeFnExactDecodeShards
namespace Go.Proofs.Ytffhbpepppodeaa.Pure
open Go.RowKit Go.Proofs.Ytffhbpepppodeaa.PFnExactDecodeShards Go.Proofs.Ytffhbpepppodeaa.Base Go.Proofs.YtffhbpepppodeaaW.PrintWords Go.Proofs.YtffhbpepppodeaaW.PrintLast Go.Proofs.YtffhbpepppodeaaW.PrintMore
open Go.Proofs.Ytffhbpepppodeaa.Gf Go.Proofs.Ytffhbpepppodeaa.Reduce Go.Proofs.Ytffhbpepppodeaa.Grid Go.Proofs.Ytffhbpepppodeaa.Field Go.Proofs.Ytffhbpepppodeaa.Elim Go.Proofs.Ytffhbpepppodeaa.Cauchy Go.Proofs.Ytffhbpepppodeaa.Plant Go.Proofs.Ytffhbpepppodeaa.Plant2 Go.Proofs.Ytffhbpepppodeaa.Plant4 Go.Proofs.Ytffhbpepppodeaa.Plant5 Go.Proofs.Ytffhbpepppodeaa.Plant6
open Go.Proofs.Ytffhbpepppodeaa.Coded (bt_byte str_ext mix_sum)

open Go.Proofs.Ytffhbpepppodeaa.Greedy (rk gTake gStep gTake_le basis_greedy)
/-! ### what is held -/
def tx0 (s : S61) : ByteArray := if s.f0 = true then s.f1 else ⟨#[]⟩
def heldL (l : List S61) : List ByteArray := (l.filter fun s => s.f0).map fun s => s.f1
theorem rd_sh {l : List S61} {i : Nat} (h : i < l.length) : rd_T61 l (i : Int) = l[i] := by
  unfold rd_T61
  rw [Int.toNat_natCast, List.getD_eq_getElem?_getD, List.getElem?_eq_getElem h]; rfl
theorem fill_set {α β : Type} {l : List α} (g : α → β) (z : β) {x : β} {i : Nat} (h : i < l.length) (e : g l[i] = x) : ((l.take i).map g ++ List.replicate (l.length - i) z).set i x = (l.take (i + 1)).map g ++ List.replicate (l.length - (i + 1)) z := by
  have hl : ((l.take i).map g).length = i := by rw [List.length_map, List.length_take]; omega
  rw [List.set_append_right _ _ (by omega), hl, Nat.sub_self, show l.length - i = (l.length - (i + 1)) + 1 by omega, List.replicate_succ, List.set_cons_zero, List.take_succ_eq_append_getElem h, List.map_append, List.append_assoc, ← e]; rfl
theorem fill_keep {α β : Type} {l : List α} (g : α → β) (z : β) {i : Nat} (h : i < l.length) (e : g l[i] = z) : (l.take i).map g ++ List.replicate (l.length - i) z = (l.take (i + 1)).map g ++ List.replicate (l.length - (i + 1)) z := by
  rw [show l.length - i = (l.length - (i + 1)) + 1 by omega, List.replicate_succ, List.take_succ_eq_append_getElem h, List.map_append, List.append_assoc, ← e]; rfl
theorem heldL_succ {l : List S61} {i : Nat} (h : i < l.length) : heldL (l.take (i + 1)) = if l[i].f0 = true then heldL (l.take i) ++ [l[i].f1] else heldL (l.take i) := by
  unfold heldL
  rw [List.take_succ_eq_append_getElem h, List.filter_append, List.map_append]
  by_cases c : l[i].f0 = true
  · rw [if_pos c, List.filter_cons_of_pos (by exact c)]; rfl
  · rw [if_neg c, List.filter_cons_of_neg (by exact c)]; simp
theorem heldL_len (l : List S61) : (heldL l).length ≤ l.length := by unfold heldL; rw [List.length_map]; exact List.length_filter_le _ _
theorem held_gen (l : List S61) (hn : l.length ≤ 64) : ∀ (d i : Nat), i + d = l.length → Ev (fun k => impl_heldOf.l0 k ((l.take i).map (fun s => s.f0) ++ List.replicate (l.length - i) false) ((l.take i).map tx0 ++ List.replicate (l.length - i) ⟨#[]⟩) (heldL (l.take i)) l (l.length : Int) (i : Int)) (l.map (fun s => s.f0), l.map tx0, heldL l)
  | 0, i, hd => by
    obtain rfl : i = l.length := by omega
    refine Ev.step (f := fun _ => some (l.map (fun s => s.f0), l.map tx0, heldL l)) (fun k => ?_) (Ev.now _)
    rw [impl_heldOf.l0, if_neg (by omega), List.take_length, Nat.sub_self, List.replicate_zero, List.replicate_zero, List.append_nil, List.append_nil]
  | d + 1, i, hd => by
    have hi : i < l.length := by omega
    have IH := held_gen l hn d (i + 1) (by omega)
    have hL := heldL_len (l.take i)
    rw [List.length_take] at hL
    rw [heldL_succ hi] at IH
    have e1 := fill_set (fun s : S61 => s.f0) false hi (rfl : l[i].f0 = l[i].f0)
    refine Ev.step (fun k => by rw [impl_heldOf.l0, rd_sh hi, suc_w (by omega)]) ?_
    refine Ev.ifT (by omega) (Ev.ifT (by omega) (Ev.ifT (by omega) (Ev.ifT (by simp; omega) ?_)))
    refine Ev.bind0 rfl ?_
    rw [Int.toNat_natCast, e1]
    by_cases c : l[i].f0 = true
    · rw [if_pos c, ← fill_set tx0 ⟨#[]⟩ hi (if_pos c)] at IH
      exact Ev.ifT c (Ev.ifT (by simp; omega) (Ev.ifT (by omega) IH))
    · rw [if_neg c, ← fill_keep tx0 ⟨#[]⟩ hi (if_neg c)] at IH
      exact Ev.ifF c IH
theorem heldOf_f (l : List S61) (hn : l.length ≤ 64) : Ev (fun k => impl_heldOf.f k l) (l.map (fun s => s.f0), l.map tx0, heldL l) := by
  have := held_gen l hn l.length 0 (by omega)
  rw [List.take_zero, List.map_nil, List.map_nil, List.nil_append, List.nil_append, Nat.sub_zero] at this
  unfold impl_heldOf.f
  exact Ev.ifT (by omega) (Ev.ifT (by omega) (Ev.ifT (by omega) this))
theorem split_loop (l : List S61) (hn : l.length ≤ 64) : ∀ (d i : Nat), i + d = l.length → Ev (fun k => spec_l04Split.l0 k l ((l.take i).map fun s => s.f1) ((l.take i).map fun s => s.f0) (i : Int)) (l.map (fun s => s.f1), l.map (fun s => s.f0))
  | 0, i, hd => by
    obtain rfl : i = l.length := by omega
    refine Ev.step (f := fun _ => some (l.map (fun s => s.f1), l.map (fun s => s.f0))) (fun k => ?_) (Ev.now _)
    rw [spec_l04Split.l0, if_neg (by omega), List.take_length]
  | d + 1, i, hd => by
    have hi : i < l.length := by omega
    have IH := split_loop l hn d (i + 1) (by omega)
    rw [List.take_succ_eq_append_getElem hi, List.map_append, List.map_append] at IH
    refine Ev.step (fun k => by rw [spec_l04Split.l0, rd_sh hi, suc_w (by omega)]) ?_
    exact Ev.ifT (by omega) (Ev.ifT (by omega) (Ev.ifT (by simp; omega) (Ev.ifT (by simp; omega) IH)))
theorem split_f (l : List S61) (hn : l.length ≤ 64) : Ev (fun k => spec_l04Split.f k l) (l.map (fun s => s.f1), l.map (fun s => s.f0)) := split_loop l hn l.length 0 (by omega)
/-! ### one length -/
def okS (n : Nat) (x : ByteArray) : Prop := 1 ≤ x.size ∧ x.size ≤ 4096 ∧ x.size = n
def fst (l : List S61) : Nat := (rdOf ByteArray.empty (heldL l) 0).size
theorem rd_get {H : List ByteArray} {i : Nat} (h : i < H.length) : rdOf ByteArray.empty H (i : Int) = H[i] := by
  unfold rdOf
  rw [Int.toNat_natCast, List.getD_eq_getElem?_getD, List.getElem?_eq_getElem h]; rfl
theorem one_ok {l : List ByteArray} {n : Nat} (hl : l.length ≤ 64) (e0 : (rdOf ByteArray.empty l 0).size = n) (hd : ∀ x ∈ l, okS n x) :
    ∀ (d i : Nat), i + d = l.length → Ev (fun k => impl_oneLength.l0 k l l (l.length : Int) (i : Int)) true
  | 0, i, hd' => Ev.step (fun k => by rw [impl_oneLength.l0, if_neg (by omega)]) (Ev.now _)
  | d + 1, i, hd' => by
    have hi : i < l.length := by omega
    obtain ⟨a1, a2, a3⟩ := hd l[i] (List.getElem_mem hi)
    refine Ev.step (fun k => by rw [impl_oneLength.l0, rd_get hi, e0, suc_w (by omega)]) ?_
    exact Ev.ifT (by omega) (Ev.ifT (by omega) (Ev.ifT (by omega) (Ev.ifF (by omega) (Ev.ifF (by omega) (Ev.ifT (by omega) (Ev.ifT (by omega) (one_ok hl e0 hd d (i + 1) (by omega))))))))
theorem one_bad {l : List ByteArray} {n : Nat} (hl : l.length ≤ 64) (e0 : (rdOf ByteArray.empty l 0).size = n) {j : Nat} (hj : j < l.length) (hb : ¬ okS n l[j]) :
    ∀ (d i : Nat), i + d = j → Ev (fun k => impl_oneLength.l0 k l l (l.length : Int) (i : Int)) false
  | d, i, hd' => by
    have hi : i < l.length := by omega
    refine Ev.step (fun k => by rw [impl_oneLength.l0, rd_get hi, e0, suc_w (by omega)]) ?_
    refine Ev.ifT (by omega) (Ev.ifT (by omega) (Ev.ifT (by omega) ?_))
    by_cases c1 : l[i].size < 1
    · exact Ev.ifT (by omega) (Ev.now _)
    by_cases c2 : l[i].size > 4096
    · exact Ev.ifF (by omega) (Ev.ifT (by omega) (Ev.now _))
    refine Ev.ifF (by omega) (Ev.ifF (by omega) (Ev.ifT (by omega) ?_))
    by_cases c3 : l[i].size = n
    · refine Ev.ifT (by omega) ?_
      rcases d with _ | d
      · obtain rfl : i = j := by omega
        exact absurd ⟨by omega, by omega, c3⟩ hb
      · exact one_bad hl e0 hj hb d (i + 1) (by omega)
    · exact Ev.ifF (by omega) (Ev.now _)
theorem heldL_mem {l : List S61} {x : ByteArray} : x ∈ heldL l ↔ ∃ i, ∃ h : i < l.length, l[i].f0 = true ∧ l[i].f1 = x := by
  unfold heldL
  rw [List.mem_map]
  constructor
  · rintro ⟨s, hs, rfl⟩
    obtain ⟨h1, h2⟩ := List.mem_filter.1 hs
    obtain ⟨i, hi, rfl⟩ := List.getElem_of_mem h1
    exact ⟨i, hi, h2, rfl⟩
  · rintro ⟨i, hi, h1, rfl⟩
    exact ⟨l[i], List.mem_filter.2 ⟨List.getElem_mem hi, h1⟩, rfl⟩
theorem heldL_app {l : List S61} {i : Nat} : heldL l = heldL (l.take i) ++ heldL (l.drop i) := by
  unfold heldL
  rw [← List.map_append, ← List.filter_append, List.take_append_drop]
/-- Behind i shards: none held yet, or the length of the first. -/
def Inv0 (l : List S61) (i : Nat) (c : Int) : Prop := c = -1 ∧ heldL (l.take i) = [] ∨ c = (fst l : Int) ∧ heldL (l.take i) ≠ []
theorem inv_fst {l : List S61} {i : Nat} (h : i < l.length) (h0 : l[i].f0 = true) (he : heldL (l.take i) = []) : fst l = l[i].f1.size := by
  unfold fst
  rw [heldL_app (i := i), he, List.nil_append, List.drop_eq_getElem_cons h]
  have e : heldL (l[i] :: l.drop (i + 1)) = l[i].f1 :: heldL (l.drop (i + 1)) := by unfold heldL; rw [List.filter_cons_of_pos (by exact h0)]; rfl
  rw [e]; rfl
theorem rd_tx {l : List S61} {i : Nat} (h : i < l.length) : rdOf ByteArray.empty (l.map fun s => s.f1) (i : Int) = l[i].f1 := by
  rw [rd_get (by simpa using h), List.getElem_map]
theorem rd_hv {l : List S61} {i : Nat} (h : i < l.length) : rdOf false (l.map fun s => s.f0) (i : Int) = l[i].f0 := by
  unfold rdOf
  rw [Int.toNat_natCast, List.getD_eq_getElem?_getD, List.getElem?_map, List.getElem?_eq_getElem h]; rfl
theorem len_skip {l : List S61} {i : Nat} (hn : l.length ≤ 64) (h : i < l.length) (h0 : l[i].f0 = false) {c R : Int} (next : Ev (fun k => spec_l04Len.l0 k (l.map fun s => s.f1) (l.map fun s => s.f0) c ((i + 1 : Nat) : Int)) R) : Ev (fun k => spec_l04Len.l0 k (l.map fun s => s.f1) (l.map fun s => s.f0) c (i : Int)) R := by
  refine Ev.step (fun k => by rw [spec_l04Len.l0, rd_hv h, suc_w (by omega)]) ?_
  exact Ev.ifT (by simp; omega) (Ev.ifT (by omega) (Ev.ifT (by simp; omega) (Ev.ifF (by rw [h0]; decide) next)))
theorem len_take {l : List S61} {i : Nat} (hn : l.length ≤ 64) (h : i < l.length) (h0 : l[i].f0 = true) (hk : okS (fst l) l[i].f1) {c R : Int} (hc : Inv0 l i c) (next : Ev (fun k => spec_l04Len.l0 k (l.map fun s => s.f1) (l.map fun s => s.f0) (fst l : Int) ((i + 1 : Nat) : Int)) R) : Ev (fun k => spec_l04Len.l0 k (l.map fun s => s.f1) (l.map fun s => s.f0) c (i : Int)) R := by
  obtain ⟨a1, a2, a3⟩ := hk
  rw [← a3] at next
  refine Ev.step (fun k => by rw [spec_l04Len.l0, rd_hv h, rd_tx h, suc_w (by omega)]) ?_
  refine Ev.ifT (by simp; omega) (Ev.ifT (by omega) (Ev.ifT (by simp; omega) (Ev.ifT h0 ?_)))
  rcases hc with ⟨rfl, _⟩ | ⟨rfl, _⟩
  · exact Ev.ifF (by omega) (Ev.ifF (by omega) (Ev.ifF (by omega) next))
  · exact Ev.ifT (by omega) (Ev.ifT (by omega) (Ev.ifF (by omega) (Ev.ifF (by omega) next)))
theorem len_bad {l : List S61} {i : Nat} (hn : l.length ≤ 64) (h : i < l.length) (h0 : l[i].f0 = true) (hk : ¬ okS (fst l) l[i].f1) {c : Int} (hc : Inv0 l i c) : Ev (fun k => spec_l04Len.l0 k (l.map fun s => s.f1) (l.map fun s => s.f0) c (i : Int)) (-1) := by
  refine Ev.step (fun k => by rw [spec_l04Len.l0, rd_hv h, rd_tx h]) ?_
  refine Ev.ifT (by simp; omega) (Ev.ifT (by omega) (Ev.ifT (by simp; omega) (Ev.ifT h0 ?_)))
  rcases hc with ⟨rfl, he⟩ | ⟨rfl, _⟩
  · refine Ev.ifF (by omega) ?_
    by_cases c1 : l[i].f1.size < 1
    · exact Ev.ifT (by omega) (Ev.now _)
    by_cases c2 : l[i].f1.size > 4096
    · exact Ev.ifF (by omega) (Ev.ifT (by omega) (Ev.now _))
    exact absurd ⟨by omega, by omega, (inv_fst h h0 he).symm⟩ hk
  · refine Ev.ifT (by omega) ?_
    by_cases c3 : l[i].f1.size = fst l
    · refine Ev.ifT (by omega) ?_
      by_cases c1 : l[i].f1.size < 1
      · exact Ev.ifT (by omega) (Ev.now _)
      by_cases c2 : l[i].f1.size > 4096
      · exact Ev.ifF (by omega) (Ev.ifT (by omega) (Ev.now _))
      exact absurd ⟨by omega, by omega, c3⟩ hk
    · exact Ev.ifF (by omega) (Ev.now _)
theorem inv_skip {l : List S61} {i : Nat} (h : i < l.length) (h0 : l[i].f0 = false) {c : Int} (hc : Inv0 l i c) : Inv0 l (i + 1) c := by
  unfold Inv0
  rw [heldL_succ h, if_neg (by rw [h0]; decide)]; exact hc
theorem inv_take {l : List S61} {i : Nat} (h : i < l.length) (h0 : l[i].f0 = true) : Inv0 l (i + 1) (fst l) := by
  unfold Inv0
  rw [heldL_succ h, if_pos h0]
  exact .inr ⟨rfl, by simp⟩
theorem len_yes {l : List S61} (hn : l.length ≤ 64) (hk : ∀ x ∈ heldL l, okS (fst l) x) : ∀ (d i : Nat) (c : Int), i + d = l.length → Inv0 l i c → Ev (fun k => spec_l04Len.l0 k (l.map fun s => s.f1) (l.map fun s => s.f0) c (i : Int)) (if heldL l = [] then -1 else (fst l : Int))
  | 0, i, c, hd, hc => by
    obtain rfl : i = l.length := by omega
    unfold Inv0 at hc
    rw [List.take_length] at hc
    have e : (if heldL l = [] then -1 else (fst l : Int)) = c := by
      rcases hc with ⟨rfl, h⟩ | ⟨rfl, h⟩
      · rw [if_pos h]
      · rw [if_neg h]
    rw [e]
    exact Ev.step (fun k => by rw [spec_l04Len.l0, if_neg (by simp)]) (Ev.now _)
  | d + 1, i, c, hd, hc => by
    have hi : i < l.length := by omega
    by_cases h0 : l[i].f0 = true
    · exact len_take hn hi h0 (hk _ (heldL_mem.2 ⟨i, hi, h0, rfl⟩)) hc (len_yes hn hk d (i + 1) _ (by omega) (inv_take hi h0))
    · have h1 : l[i].f0 = false := by simpa using h0
      exact len_skip hn hi h1 (len_yes hn hk d (i + 1) c (by omega) (inv_skip hi h1 hc))
theorem len_no {l : List S61} (hn : l.length ≤ 64) {j : Nat} (hj : j < l.length) (hj0 : l[j].f0 = true) (hb : ¬ okS (fst l) l[j].f1) : ∀ (d i : Nat) (c : Int), i + d = j → Inv0 l i c → Ev (fun k => spec_l04Len.l0 k (l.map fun s => s.f1) (l.map fun s => s.f0) c (i : Int)) (-1)
  | 0, i, c, hd, hc => by
    obtain rfl : i = j := by omega
    exact len_bad hn hj hj0 hb hc
  | d + 1, i, c, hd, hc => by
    have hi : i < l.length := by omega
    by_cases h0 : l[i].f0 = true
    · by_cases hk : okS (fst l) l[i].f1
      · exact len_take hn hi h0 hk hc (len_no hn hj hj0 hb d (i + 1) _ (by omega) (inv_take hi h0))
      · exact len_bad hn hi h0 hk hc
    · have h1 : l[i].f0 = false := by simpa using h0
      exact len_skip hn hi h1 (len_no hn hj hj0 hb d (i + 1) c (by omega) (inv_skip hi h1 hc))
theorem some_loop {l : List S61} (hn : l.length ≤ 64) {tx : List ByteArray} {c K M G : Int} {R : Int × List ByteArray}
    (next : Ev (fun k => spec_DecodeShards.j2 k tx (l.map fun s => s.f0) c (if c < 0 then l.any (fun s => s.f0) else false) K M G) R) :
    ∀ (d i : Nat), i + d = l.length → Ev (fun k => spec_DecodeShards.l0 k tx (l.map fun s => s.f0) c ((l.take i).any fun s => s.f0) (i : Int) K M G) R
  | 0, i, hd => by
    obtain rfl : i = l.length := by omega
    refine Ev.step (fun k => by rw [spec_DecodeShards.l0, List.take_length]) ?_
    refine Ev.ifF (by simp) ?_
    by_cases h : c < 0
    · rw [if_pos h] at next; exact Ev.ifT h next
    · rw [if_neg h] at next; exact Ev.ifF h next
  | d + 1, i, hd => by
    have hi : i < l.length := by omega
    have IH := some_loop hn next d (i + 1) (by omega)
    rw [List.take_succ_eq_append_getElem hi, List.any_append] at IH
    refine Ev.step (fun k => by rw [spec_DecodeShards.l0, rd_hv hi, suc_w (by omega)]) ?_
    refine Ev.ifT (by simp; omega) ?_
    by_cases h : ((l.take i).any fun s => s.f0) = true
    · rw [h, Bool.true_or] at IH
      exact Ev.ifT h IH
    · have h1 : ((l.take i).any fun s => s.f0) = false := by simpa using h
      rw [h1, Bool.false_or] at IH
      have e : ([l[i]].any fun s => s.f0) = l[i].f0 := by simp
      rw [e] at IH
      exact Ev.ifF h (Ev.ifT (by omega) IH)
/-! ### which are taken -/
theorem rep_snoc {R C : Nat} {l row : List Int} {P : MatN} {r : Nat → Nat} (h : Rep R C l P) (hl : row.length = C) (hr : ∀ j, j < C → rd row (j : Int) = (r j : Int)) : Rep (R + 1) C (l ++ row) (fun i j => if i < R then P i j else r j) := by
  refine ⟨by rw [List.length_append, h.1, hl, Nat.succ_mul], fun i j hi hj => ?_⟩
  rw [rd_nat, List.getD_eq_getElem?_getD]
  by_cases c : i < R
  · have h1 := idx_lt c hj
    rw [List.getElem?_append_left (by rw [h.1]; exact h1)]
    have := h.2 i j c hj
    rw [rd_nat, List.getD_eq_getElem?_getD] at this
    rw [this]
    show _ = ((if i < R then P i j else r j : Nat) : Int)
    rw [if_pos c]
  · obtain rfl : i = R := by omega
    rw [List.getElem?_append_right (by rw [h.1]; omega), h.1, Nat.add_sub_cancel_left]
    have := hr j hj
    rw [rd_nat, List.getD_eq_getElem?_getD] at this
    rw [this]
    show _ = ((if i < i then P i j else r j : Nat) : Int)
    rw [if_neg c]
theorem rep_row {K M G : Nat} (hN : K + M ≤ 64) {T : List Nat} {cells : List Int} (i : Nat) (h : Rep T.length K cells (rk K M G T)) : Rep (T.length + 1) K (cells ++ rowV K M G i) (rk K M G (T ++ [i])) := by
  have hb : BytesF (rowN K M G i) := rowN_byte hN
  refine (rep_snoc (r := fun j => (rowN K M G i j).toNat) h (rowV_len _ _ _ _) (fun j hj => ?_)).congr fun a j ha hj => ?_
  · rw [rowV_rd _ _ _ _ _ hj]
    have h1 := hb j
    unfold rowN at h1 ⊢
    rw [if_pos hj] at h1 ⊢
    omega
  · show (rowN K M G ((T ++ [i]).getD a 0) j).toNat = if a < T.length then (rowN K M G (T.getD a 0) j).toNat else (rowN K M G i j).toNat
    rw [List.getD_eq_getElem?_getD]
    by_cases c : a < T.length
    · rw [if_pos c, List.getElem?_append_left c, ← List.getD_eq_getElem?_getD]
    · obtain rfl : a = T.length := by omega
      rw [if_neg c, List.getElem?_append_right (Nat.le_refl _), Nat.sub_self]; rfl
theorem gTake_stay {K M G : Nat} {hv : List Bool} {i : Nat} (h : (gTake K M G hv i).length = K) : ∀ d, gTake K M G hv (i + d) = gTake K M G hv i
  | 0 => rfl
  | d + 1 => by
    have ih := gTake_stay h d
    show gStep K M G hv (gTake K M G hv (i + d)) (i + d) = _
    rw [ih]
    unfold gStep
    rw [if_pos (.inr h)]
theorem take_loop {K M G : Nat} (hF : Fine K M G) {hv : List Bool} (hl : hv.length = K + M + G) {R : List Int}
    (hR : R = if (gTake K M G hv hv.length).length < K then [] else (gTake K M G hv hv.length).map Int.ofNat) :
    ∀ (d i : Nat) (cells : List Int), i + d = hv.length → Rep (gTake K M G hv i).length K cells (rk K M G (gTake K M G hv i)) → Ev (fun k => spec_l04Take.l0 k hv ((gTake K M G hv i).map Int.ofNat) cells (i : Int) (K : Int) (M : Int) (G : Int)) R
  | 0, i, cells, hd, hrep => by
    obtain rfl : i = hv.length := by omega
    refine Ev.step (fun k => by rw [spec_l04Take.l0, if_neg (by omega)]) (Ev.step (fun k => by rw [spec_l04Take.j1, if_neg (by decide), List.length_map]) ?_)
    rw [hR]
    by_cases c : (gTake K M G hv hv.length).length < K
    · rw [if_pos c]; exact Ev.ifT (by omega) (Ev.now _)
    · rw [if_neg c]; exact Ev.ifF (by omega) (Ev.now _)
  | d + 1, i, cells, hd, hrep => by
    have hi : i < hv.length := by omega
    have hle := (gTake_le K M G hv i).1
    have hk2 := hF.k2
    have hs := hF.s
    refine Ev.step (fun k => by rw [spec_l04Take.l0, List.length_map]) (Ev.ifT (by omega) ?_)
    by_cases cK : (gTake K M G hv i).length < K
    · rw [decide_eq_true (show ((gTake K M G hv i).length : Int) < (K : Int) by omega)]
      have IH := fun cells h => take_loop hF hl hR d (i + 1) cells (by omega) h
      have eS : gTake K M G hv (i + 1) = gStep K M G hv (gTake K M G hv i) i := rfl
      unfold gStep at eS
      refine Ev.step (fun k => by rw [spec_l04Take.j1, List.length_map, suc_w (show i < 1048576 by omega), suc_w (show (gTake K M G hv i).length < 1048576 by omega)]) ?_
      refine Ev.ifT rfl (Ev.ifT (by omega) (Ev.ifT (by omega) ?_))
      by_cases ch : rdOf false hv (i : Int) = true
      · rw [if_neg (by rw [ch]; rintro (e | e); · cases e
                       · omega)] at eS
        refine Ev.ifT ch (Ev.bind0 rfl ?_)
        have hc1 : cells.length ≤ 32 * 32 := by rw [hrep.1]; exact Nat.mul_le_mul (by omega) (by omega)
        refine Ev.ifT (by simp; omega) (Ev.bind0 rfl ?_)
        refine Ev.bind (spec_row hF (by omega)) ?_
        refine Ev.ifT (by rw [List.nil_append, rowV_len]; omega) (Ev.bind0 rfl ?_)
        rw [List.nil_append]
        have hrep2 := rep_row (show K + M ≤ 64 by omega) i hrep
        refine Ev.bind (rank_f (toN_byt (takM_byt (G := G) (show K + M ≤ 64 by omega) _)) (by omega) (by omega) hrep2) ?_
        by_cases cc : cnt (rk K M G (gTake K M G hv i ++ [i])) ((gTake K M G hv i).length + 1) K K = (gTake K M G hv i).length + 1
        · rw [if_pos cc] at eS
          refine Ev.ifT (congrArg Int.ofNat cc) (Ev.ifT (by omega) ?_)
          have := IH (cells ++ rowV K M G i) (by rw [eS, List.length_append, List.length_singleton]; exact hrep2)
          rw [eS, List.map_append] at this
          exact this
        · rw [if_neg cc] at eS
          refine Ev.ifF (fun e => cc (Int.ofNat.inj e)) ?_
          have := IH cells (by rw [eS]; exact hrep)
          rw [eS] at this
          exact this
      · rw [if_pos (.inl (by simpa using ch))] at eS
        have := IH cells (by rw [eS]; exact hrep)
        rw [eS] at this
        exact Ev.ifF ch this
    · rw [decide_eq_false (show ¬ ((gTake K M G hv i).length : Int) < (K : Int) by omega)]
      have e := gTake_stay (K := K) (M := M) (G := G) (hv := hv) (i := i) (by omega) (d + 1)
      rw [hd] at e
      refine Ev.step (fun k => by rw [spec_l04Take.j1, if_neg (by decide), List.length_map]) ?_
      rw [hR, e, if_neg cK]
      exact Ev.ifF (by omega) (Ev.now _)
theorem rep_nil (C : Nat) (P : MatN) : Rep 0 C [] P := ⟨by simp, fun i j hi hj => by omega⟩
/-! ### the data -/
theorem data_l0 {K M G n : Nat} (hF : Fine K M G) {tx : List ByteArray} (htx : tx.length = K + M + G) {T : List Nat} (hT : T.length = K) (hlt : ∀ t ∈ T, t < K + M + G) {R : List ByteArray}
    (next : ∀ cells, Rep K K cells (rk K M G T) → Ev (fun k => (spec_MatInv.f k (K : Int) (K : Int) cells).bind fun bt298 => (spec_l04Data.l1 k (n : Int) (takenV T tx) (([] : List ByteArray)) 0 (K : Int) (M : Int) (G : Int) bt298.2.1 bt298.2.2.1 bt298.2.2.2)) R) :
    ∀ (d i : Nat) (cells : List Int), i + d = K → Rep i K cells (rk K M G (T.take i)) → Ev (fun k => spec_l04Data.l0 k tx (T.map Int.ofNat) (n : Int) cells (takenV (T.take i) tx) (i : Int) (K : Int) (M : Int) (G : Int)) R
  | 0, i, cells, hd, hrep => by
    obtain rfl : i = K := by omega
    rw [List.take_of_length_le (by omega)] at hrep ⊢
    refine Ev.step (fun k => by rw [spec_l04Data.l0, List.length_map]) (Ev.ifF (by omega) ?_)
    exact next cells hrep
  | d + 1, i, cells, hd, hrep => by
    have hi : i < T.length := by omega
    have hk2 := hF.k2
    have hs := hF.s
    have ht := hlt T[i] (List.getElem_mem hi)
    have er : rd (T.map Int.ofNat) (i : Int) = ((T[i] : Nat) : Int) := by rw [rd_nat, List.getD_eq_getElem?_getD, List.getElem?_map, List.getElem?_eq_getElem hi]; rfl
    have hc1 : cells.length ≤ 32 * 32 := by rw [hrep.1]; exact Nat.mul_le_mul (by omega) (by omega)
    have hrep1 : Rep (T.take i).length K cells (rk K M G (T.take i)) := by rw [List.length_take, Nat.min_eq_left (by omega)]; exact hrep
    have hrep2 := rep_row (show K + M ≤ 64 by omega) T[i] hrep1
    rw [List.length_take, Nat.min_eq_left (by omega), ← List.take_succ_eq_append_getElem hi] at hrep2
    have IH := data_l0 hF htx hT hlt next d (i + 1) _ (by omega) hrep2
    have ev : takenV (T.take (i + 1)) tx = takenV (T.take i) tx ++ [rdOf ByteArray.empty tx ((T[i] : Nat) : Int)] := by unfold takenV; rw [List.take_succ_eq_append_getElem hi, List.map_append]; rfl
    rw [ev] at IH
    refine Ev.step (fun k => by rw [spec_l04Data.l0, List.length_map, er, suc_w (by omega)]) ?_
    refine Ev.ifT (by omega) (Ev.ifT (by omega) (Ev.bind (spec_row hF ht) ?_))
    exact Ev.ifT (by rw [rowV_len]; omega) (Ev.ifT (by omega) (Ev.ifT (by omega) (Ev.ifT (by simp [takenV]; omega) IH)))
theorem mul_w {i K : Nat} (h : i * K ≤ 1000000) : wrap64 ((i : Int) * (K : Int)) = ((i * K : Nat) : Int) := by rw [← Int.natCast_mul]; exact w64 (by omega) (by omega)
theorem add_w {a b : Nat} (h : a + b ≤ 2000000) : wrap64 ((a : Int) + (b : Int)) = ((a + b : Nat) : Int) := by rw [w64 (by omega) (by omega)]; rfl
theorem row_cut {K : Nat} (Q : Mat) {i : Nat} (hi : i < K) : ((cellsK K Q (K * K)).take (i * K + K)).drop (i * K) = (List.range K).map (Q i) := by
  apply List.ext_getElem
  · have h1 : (i + 1) * K ≤ K * K := Nat.mul_le_mul_right K hi
    rw [Nat.succ_mul] at h1
    rw [List.length_drop, List.length_take, cellsK_len, List.length_map, List.length_range, Nat.min_eq_left h1]; omega
  · intro j h1 h2
    have hj : j < K := by simpa using h2
    rw [List.getElem_drop, List.getElem_take, List.getElem_map, List.getElem_range]
    unfold cellsK
    rw [List.getElem_map, List.getElem_range]
    have e1 : (i * K + j) / K = i := by rw [Nat.mul_comm, Nat.mul_add_div (by omega), Nat.div_eq_of_lt hj]; rfl
    have e2 : (i * K + j) % K = j := by rw [Nat.mul_comm, Nat.mul_add_mod, Nat.mod_eq_of_lt hj]
    rw [e1, e2]
theorem taken_len (T : List Nat) (tx : List ByteArray) : (takenV T tx).length = T.length := by simp [takenV]
theorem data_l1 {K M G n : Nat} (hF : Fine K M G) {tx : List ByteArray} {T : List Nat} (hT : T.length = K) (hn : n ≤ 4096) (hd : ∀ j : Nat, j < (takenV T tx).length → (rdOf ByteArray.empty (takenV T tx) (j : Int)).size = n) :
    ∀ (d i : Nat), i + d = K → Ev (fun k => spec_l04Data.l1 k (n : Int) (takenV T tx) ((dataV K M G n T tx).take i) (i : Int) (K : Int) (M : Int) (G : Int) (K : Int) (K : Int) (cellsK K (invT_ K M G T) (K * K))) (dataV K M G n T tx)
  | 0, i, he => by
    obtain rfl : i = K := by omega
    refine Ev.step (fun k => by rw [spec_l04Data.l1, if_neg (by omega), List.take_of_length_le (by simp [dataV])]) (Ev.now _)
  | d + 1, i, he => by
    have hk2 := hF.k2
    have hs := hF.s
    have hi : i < K := by omega
    have IH := data_l1 (M := M) (G := G) hF hT hn hd d (i + 1) (by omega)
    have h1 : (i + 1) * K ≤ K * K := Nat.mul_le_mul_right K hi
    have h2 : K * K ≤ 32 * 32 := Nat.mul_le_mul (by omega) (by omega)
    rw [Nat.succ_mul] at h1
    have hdl : (dataV K M G n T tx).length = K := by simp [dataV]
    have et : (dataV K M G n T tx).take (i + 1) = (dataV K M G n T tx).take i ++ [datumV K M G n T tx i] := by
      rw [List.take_succ_eq_append_getElem (by omega)]
      congr 2
      simp [dataV]
    rw [et] at IH
    have hI : Bytes2 (invT_ K M G T) := (redS_good (R := K) (C := K) (C2 := K) (takM_byt (G := G) (show K + M ≤ 64 by omega) T) idM_byt K (Nat.le_refl _)).2.2
    have hrd : ∀ j : Nat, j < K → rd ((List.range K).map (invT_ K M G T i)) (j : Int) = invT_ K M G T i j := fun j hj => by
      unfold rd; rw [Int.toNat_natCast, List.getD_eq_getElem?_getD, List.getElem?_map, List.getElem?_range hj]; rfl
    have hrl : ((List.range K).map (invT_ K M G T i)).length = K := by simp
    have hm := spec_mix (row := (List.range K).map (invT_ K M G T i)) (data := takenV T tx) (n := n) (fun j hj => by
      rw [hrl] at hj
      rw [hrd j hj]; exact hI i j) (by omega) (by rw [hrl, taken_len]; omega) hn hd
    rw [hrl] at hm
    refine Ev.step (fun k => by rw [spec_l04Data.l1, mul_w (show i * K ≤ 1000000 by omega), add_w (show i * K + K ≤ 2000000 by omega), Int.toNat_natCast, Int.toNat_natCast, row_cut _ hi, suc_w (by omega)]) ?_
    refine Ev.ifT (by omega) (Ev.ifT (by omega) (Ev.ifT (by omega) (Ev.ifT (by rw [cellsK_len]; omega) (Ev.bind hm (Ev.ifT (by rw [List.length_take]; omega) IH)))))
theorem data_f {K M G n : Nat} (hF : Fine K M G) {tx : List ByteArray} (htx : tx.length = K + M + G) {T : List Nat} (hT : T.length = K) (hlt : ∀ t ∈ T, t < K + M + G) (hf : cnt (rk K M G T) K K K = K) (hn : n ≤ 4096) (hd : ∀ j : Nat, j < (takenV T tx).length → (rdOf ByteArray.empty (takenV T tx) (j : Int)).size = n) :
    Ev (fun k => spec_l04Data.f k (K : Int) (M : Int) (G : Int) tx (T.map Int.ofNat) (n : Int)) (dataV K M G n T tx) := by
  have hs := hF.s
  have hk2 := hF.k2
  have := data_l0 (n := n) (R := dataV K M G n T tx) hF htx hT hlt (fun cells hrep => by
    refine Ev.bind (sinv_full (M := takM K M G T) (by omega) hF.k1 (takM_byt (by omega) T) hrep hf) ?_
    have h1 := data_l1 (M := M) (G := G) hF hT hn hd K 0 (by omega)
    rw [List.take_zero] at h1
    exact h1) K 0 [] (by omega) (rep_nil _ _)
  unfold spec_l04Data.f
  exact this
/-! ### both -/
theorem fault_some (a b c : Int) : ∃ t, impl_CodeFault.f a b c = some t := by
  unfold impl_CodeFault.f
  repeat' split
  all_goals exact ⟨_, rfl⟩
theorem fault_same (a b c : Int) : spec_CodeFault.f a b c = impl_CodeFault.f a b c := rfl
theorem both_fine {K M G : Nat} (hF : Fine K M G) (l : List S61) (hl : l.length = K + M + G) : ∃ r : Int × List ByteArray, Ev (fun k => spec_DecodeShards.j0 k l false (K : Int) (M : Int) (G : Int)) r ∧ Ev (fun k => (impl_heldOf.f k l).bind fun p => (impl_oneLength.f k p.2.2).bind fun b => if b = true then (if K + M + G = p.1.length ∧ p.2.1.length = p.1.length then (if (takenD (K : Int) (M : Int) (G : Int) p.1).length < K then some (8, []) else (if (takenD (K : Int) (M : Int) (G : Int) p.1).length = K ∧ (∀ r, r < K → (takenD (K : Int) (M : Int) (G : Int) p.1).getD r 0 < p.2.1.length) ∧ (∀ r, r < K → (rdOf ByteArray.empty p.2.1 ((takenD (K : Int) (M : Int) (G : Int) p.1).getD r 0 : Nat)).size = (rdOf ByteArray.empty p.2.1 ((takenD (K : Int) (M : Int) (G : Int) p.1).getD 0 0 : Nat)).size) ∧ (rdOf ByteArray.empty p.2.1 ((takenD (K : Int) (M : Int) (G : Int) p.1).getD 0 0 : Nat)).size ≤ 4096 then some (0, encV K M G (rdOf ByteArray.empty p.2.1 ((takenD (K : Int) (M : Int) (G : Int) p.1).getD 0 0 : Nat)).size (dataV K M G (rdOf ByteArray.empty p.2.1 ((takenD (K : Int) (M : Int) (G : Int) p.1).getD 0 0 : Nat)).size (takenD (K : Int) (M : Int) (G : Int) p.1) p.2.1)) else none)) else none) else some (2, [])) r ∧ r.2.length ≤ 64 := by
  have hs := hF.s
  have hk1 := hF.k1
  have hn : l.length ≤ 64 := by omega
  have hvl : (l.map fun s => s.f0).length = K + M + G := by rw [List.length_map]; exact hl
  have hol := heldL_len l
  by_cases hok : ∀ x ∈ heldL l, okS (fst l) x
  · have hone : Ev (fun k => impl_oneLength.f k (heldL l)) true := one_ok (by omega) rfl hok (heldL l).length 0 (by omega)
    have hlen : Ev (fun k => spec_l04Len.f k (l.map fun s => s.f1) (l.map fun s => s.f0)) (if heldL l = [] then -1 else (fst l : Int)) := len_yes hn hok l.length 0 (-1) (by omega) (.inl ⟨rfl, rfl⟩)
    obtain ⟨hg1, hg2⟩ := basis_greedy (K := K) (M := M) (G := G) (by omega) (l.map fun s => s.f0) (l.map fun s => s.f0).length
    have hcnt := hg1.cnt
    rw [hg2] at hcnt
    have htk : takenD (K : Int) (M : Int) (G : Int) (l.map fun s => s.f0) = gTake K M G (l.map fun s => s.f0) (l.map fun s => s.f0).length := by unfold takenD; exact hg2
    have htake : Ev (fun k => spec_l04Take.f k (K : Int) (M : Int) (G : Int) (l.map fun s => s.f0)) (if (gTake K M G (l.map fun s => s.f0) (l.map fun s => s.f0).length).length < K then [] else (gTake K M G (l.map fun s => s.f0) (l.map fun s => s.f0).length).map Int.ofNat) := take_loop hF hvl rfl (l.map fun s => s.f0).length 0 [] (by omega) (rep_nil _ _)
    obtain ⟨hle, hmem⟩ := gTake_le K M G (l.map fun s => s.f0) (l.map fun s => s.f0).length
    generalize gTake K M G (l.map fun s => s.f0) (l.map fun s => s.f0).length = T at hcnt htk htake hle hmem
    have hany : heldL l = [] → (l.any fun s => s.f0) = false := fun e => by
      rw [List.any_eq_false]
      intro s hs2 h0
      obtain ⟨i, hi, rfl⟩ := List.getElem_of_mem hs2
      have : l[i].f1 ∈ heldL l := heldL_mem.2 ⟨i, hi, h0, rfl⟩
      rw [e] at this
      cases this
    have hb0 : (if (if heldL l = [] then -1 else (fst l : Int)) < 0 then l.any (fun s => s.f0) else false) = false := by
      by_cases e : heldL l = []
      · rw [if_pos e, if_pos (by decide)]; exact hany e
      · rw [if_neg e, if_neg (by omega)]
    have spine : ∀ r, Ev (fun k => spec_DecodeShards.j2 k (l.map fun s => s.f1) (l.map fun s => s.f0) (if heldL l = [] then -1 else (fst l : Int)) false (K : Int) (M : Int) (G : Int)) r → Ev (fun k => spec_DecodeShards.j0 k l false (K : Int) (M : Int) (G : Int)) r := fun r h => by
      refine Ev.step (fun k => by rw [spec_DecodeShards.j0]) (Ev.ifF (by decide) (Ev.bind (split_f l hn) (Ev.bind hlen ?_)))
      refine some_loop hn ?_ l.length 0 (by omega)
      rw [hb0]; exact h
    by_cases cK : T.length < K
    · refine ⟨(8, []), spine _ ?_, ?_, by simp⟩
      · rw [if_pos cK] at htake
        exact Ev.step (fun k => by rw [spec_DecodeShards.j2]) (Ev.ifF (by decide) (Ev.bind htake (Ev.ifT rfl (Ev.now _))))
      · refine Ev.bind (heldOf_f l hn) (Ev.bind hone (Ev.ifT rfl ?_))
        dsimp only
        rw [htk, hvl]
        exact Ev.ifT ⟨rfl, by rw [List.length_map]; exact hl⟩ (Ev.ifT cK (Ev.now _))
    · have hT : T.length = K := by omega
      rw [if_neg cK] at htake
      have hTm : ∀ t ∈ T, ∃ h : t < l.length, l[t].f0 = true := fun t m => by
        obtain ⟨m1, m2⟩ := hmem t m
        rw [List.length_map] at m1
        rw [rd_hv m1] at m2
        exact ⟨m1, m2⟩
      have hx1 : ∀ t ∈ T, rdOf ByteArray.empty (l.map tx0) (t : Int) = rdOf ByteArray.empty (l.map fun s => s.f1) (t : Int) := fun t m => by
        obtain ⟨h1, h2⟩ := hTm t m
        rw [rd_tx h1, rd_get (by simpa using h1), List.getElem_map]
        exact if_pos h2
      have hsz : ∀ t ∈ T, (rdOf ByteArray.empty (l.map fun s => s.f1) (t : Int)).size = fst l := fun t m => by
        obtain ⟨h1, h2⟩ := hTm t m
        rw [rd_tx h1]
        exact (hok _ (heldL_mem.2 ⟨t, h1, h2, rfl⟩)).2.2
      have hgd : ∀ r, r < K → T.getD r 0 ∈ T := fun r hr => getD_mem 0 (by omega)
      have hne : heldL l ≠ [] := fun e => by
        obtain ⟨h1, h2⟩ := hTm _ (hgd 0 (by omega))
        have : l[T.getD 0 0].f1 ∈ heldL l := heldL_mem.2 ⟨_, h1, h2, rfl⟩
        rw [e] at this
        cases this
      have hn4 : fst l ≤ 4096 := by
        obtain ⟨h1, h2⟩ := hTm _ (hgd 0 (by omega))
        have := hok _ (heldL_mem.2 ⟨_, h1, h2, rfl⟩)
        unfold okS at this
        omega
      have hev : takenV T (l.map tx0) = takenV T (l.map fun s => s.f1) := List.map_congr_left fun t m => hx1 t m
      have hdv : dataV K M G (fst l) T (l.map tx0) = dataV K M G (fst l) T (l.map fun s => s.f1) := by unfold dataV datumV; rw [hev]
      have hdl : (dataV K M G (fst l) T (l.map fun s => s.f1)).length = K := by simp [dataV]
      have hds : ∀ j : Nat, j < (dataV K M G (fst l) T (l.map fun s => s.f1)).length → (rdOf ByteArray.empty (dataV K M G (fst l) T (l.map fun s => s.f1)) (j : Int)).size = fst l := fun j hj => by
        rw [rd_get hj]
        simp only [dataV, List.getElem_map, List.getElem_range]
        unfold datumV
        rw [strOfNums_size]; simp
      refine ⟨(0, encV K M G (fst l) (dataV K M G (fst l) T (l.map fun s => s.f1))), spine _ ?_, ?_, by rw [encV_len]; omega⟩
      · refine Ev.step (fun k => by rw [spec_DecodeShards.j2]) (Ev.ifF (by decide) (Ev.bind htake ?_))
        refine Ev.ifF (by rw [List.length_map]; omega) ?_
        rw [if_neg hne]
        refine Ev.bind (data_f hF (by rw [List.length_map]; exact hl) hT (fun t m => by have := (hTm t m).1; omega) (by rw [hT] at hcnt; exact hcnt) hn4 (fun j hj => ?_)) (Ev.bind (spec_all hF hdl hn4 hds) (Ev.now _))
        rw [taken_len] at hj
        rw [rd_get (by rw [taken_len]; exact hj)]
        simp only [takenV, List.getElem_map]
        exact hsz _ (List.getElem_mem hj)
      · refine Ev.bind (heldOf_f l hn) (Ev.bind hone (Ev.ifT rfl ?_))
        dsimp only
        rw [htk, hvl]
        have h0 : (rdOf ByteArray.empty (l.map tx0) (T.getD 0 0 : Nat)).size = fst l := by rw [hx1 _ (hgd 0 (by omega))]; exact hsz _ (hgd 0 (by omega))
        refine Ev.ifT ⟨rfl, by rw [List.length_map]; exact hl⟩ (Ev.ifF cK ?_)
        rw [h0, hdv]
        exact Ev.ifT ⟨hT, fun r hr => by rw [List.length_map]; exact (hTm _ (hgd r hr)).1, fun r hr => by rw [hx1 _ (hgd r hr)]; exact hsz _ (hgd r hr), hn4⟩ (Ev.now _)
  · obtain ⟨x, hx⟩ := Classical.not_forall.1 hok
    obtain ⟨hx, hb⟩ := Classical.not_imp.1 hx
    obtain ⟨j, hj, rfl⟩ := List.getElem_of_mem hx
    obtain ⟨i, hi, h0, he⟩ := heldL_mem.1 hx
    have hone : Ev (fun k => impl_oneLength.f k (heldL l)) false := one_bad (by omega) rfl hj hb j 0 (by omega)
    have hlen : Ev (fun k => spec_l04Len.f k (l.map fun s => s.f1) (l.map fun s => s.f0)) (-1) := len_no hn hi h0 (by rw [he]; exact hb) i 0 (-1) (by omega) (.inl ⟨rfl, rfl⟩)
    have hany : (l.any fun s => s.f0) = true := List.any_eq_true.2 ⟨l[i], List.getElem_mem hi, h0⟩
    refine ⟨(2, []), ?_, ?_, by simp⟩
    · refine Ev.step (fun k => by rw [spec_DecodeShards.j0]) (Ev.ifF (by decide) (Ev.bind (split_f l hn) (Ev.bind hlen ?_)))
      refine some_loop hn ?_ l.length 0 (by omega)
      rw [if_pos (by decide), hany]
      exact Ev.step (fun k => by rw [spec_DecodeShards.j2]) (Ev.ifT rfl (Ev.now _))
    · exact Ev.bind (heldOf_f l hn) (Ev.bind hone (Ev.ifF (by decide) (Ev.now _)))
theorem both_f (a b c : Int) (l : List S61) : ∃ r : Int × List ByteArray, Ev (fun k => spec_DecodeShards.f k a b c l) r ∧ Ev (fun k => impl_DecodeShards.f k a b c l) r ∧ r.2.length ≤ 64 := by
  obtain ⟨t, ht⟩ := fault_some a b c
  have ht2 : spec_CodeFault.f a b c = some t := by rw [fault_same]; exact ht
  have hj : Ev (fun k => spec_DecodeShards.j0 k l true a b c) (1, []) := Ev.step (fun k => by rw [spec_DecodeShards.j0, if_pos rfl]) (Ev.now _)
  by_cases h0 : t = 0
  · subst h0
    obtain ⟨f1, f2, f3, f4, f5, f6, f7⟩ := fault_okD ht
    obtain ⟨K, rfl⟩ := Int.eq_ofNat_of_zero_le (show 0 ≤ a by omega)
    obtain ⟨M, rfl⟩ := Int.eq_ofNat_of_zero_le f3
    obtain ⟨G, rfl⟩ := Int.eq_ofNat_of_zero_le f5
    have hF : Fine K M G := ⟨by omega, by omega, by omega, by omega, by omega⟩
    by_cases hl : l.length = K + M + G
    · obtain ⟨r, h1, h2, h3⟩ := both_fine hF l hl
      refine ⟨r, ?_, ?_, h3⟩
      · unfold spec_DecodeShards.f
        refine Ev.bind0 ht2 (Ev.ifT rfl (Ev.bind0 (spec_size hF) ?_))
        rw [show ((l.length : Int) != ((K + M + G : Nat) : Int)) = false by rw [hl]; simp]
        exact h1
      · unfold impl_DecodeShards.f
        refine Ev.bind0 ht (Ev.ifT rfl (Ev.bind0 (impl_size hF) (Ev.ifT (by omega) ?_)))
        simp only [Int.toNat_natCast]
        exact h2
    · refine ⟨(1, []), ?_, ?_, by simp⟩
      · unfold spec_DecodeShards.f
        refine Ev.bind0 ht2 (Ev.ifT rfl (Ev.bind0 (spec_size hF) ?_))
        rw [show ((l.length : Int) != ((K + M + G : Nat) : Int)) = true by simp; omega]
        exact hj
      · unfold impl_DecodeShards.f
        exact Ev.bind0 ht (Ev.ifT rfl (Ev.bind0 (impl_size hF) (Ev.ifF (by omega) (Ev.now _))))
  · refine ⟨(1, []), ?_, ?_, by simp⟩
    · unfold spec_DecodeShards.f
      exact Ev.bind0 ht2 (Ev.ifF h0 hj)
    · unfold impl_DecodeShards.f
      exact Ev.bind0 ht (Ev.ifF h0 (Ev.now _))
/-! ### the law -/
def conv (y : S145) : S61 := ⟨y.f0, y.f1⟩
theorem rd_arg {l : List S145} {i : Nat} (h : i < l.length) : rd_T145 l (i : Int) = l[i] := by
  unfold rd_T145
  rw [Int.toNat_natCast, List.getD_eq_getElem?_getD, List.getElem?_eq_getElem h]; rfl
theorem sucI {i : Nat} (h : i ≤ 4611686018427387904) : wrap64 ((i : Int) + 1) = (i : Int) + 1 := w64 (by omega) (by omega)
theorem szS (l : List S145) (hl : l.length ≤ maxLen) (hq : ∀ y ∈ l, Q145 y) : ∃ r, Ev (fun k => laws_szShardS.f k l 1048576) r ∧ (r < 0 ∨ l.length ≤ 1048576) := by
  rw [lmax] at hl
  unfold laws_szShardS.f
  rw [w64 (x := 1048576 - (l.length : Int)) (by omega) (by omega)]
  by_cases c : l.length ≤ 1048576
  · obtain ⟨r, h1, _⟩ := sz_loop (fun k x left i => laws_szShardS.l0 k x left i) (fun y => Q145 y) (fun x left i hx hok hi h0 h1 => by
      have hs : x[i].f1.size ≤ 9223372036854775807 := by have := hok _ (List.getElem_mem hi); simpa [Q145, lmax] using this
      by_cases c : left - (x[i].f1.size : Int) < 0
      · refine .inl ⟨-1, ?_, by decide⟩
        refine Ev.step (fun k => by rw [laws_szShardS.l0, rd_arg hi]) ?_
        refine Ev.ifT (by omega) (Ev.ifT (by omega) (Ev.bind0 (a := -1) ?_ (Ev.ifT (by decide) (Ev.now _))))
        unfold laws_szShard.f
        rw [w64 (by omega) (by omega), if_pos c]
      · refine .inr ⟨left - (x[i].f1.size : Int), by omega, by omega, fun r hr => ?_⟩
        refine Ev.step (fun k => by rw [laws_szShardS.l0, rd_arg hi, sucI (by omega)]) ?_
        refine Ev.ifT (by omega) (Ev.ifT (by omega) (Ev.bind0 (a := left - (x[i].f1.size : Int)) ?_ (Ev.ifF c hr)))
        unfold laws_szShard.f
        rw [w64 (by omega) (by omega), if_neg c]) (fun x left i hi => Ev.step (f := fun _ => some left) (fun k => by rw [laws_szShardS.l0, if_neg (by omega)]) (Ev.now _)) l (by omega) hq (1048576 - (l.length : Int)) (by omega) (by omega)
    exact ⟨r, Ev.ifF (by omega) h1, .inr c⟩
  · exact ⟨-1, Ev.ifT (by omega) (Ev.now _), .inl (by decide)⟩
theorem toS_f (l : List S145) (hl : l.length ≤ 1048576) : Ev (fun k => laws_toShardS.f k l) (l.map conv) := by
  have := map_loop (fun k x y i => laws_toShardS.l0 k x y i) conv z145 (fun _ => True) (fun x y i hx _ hi hy r hr => by
    refine Ev.step (fun k => by rw [laws_toShardS.l0, rd_arg hi, sucI (by omega)]) ?_
    refine Ev.ifT (by omega) (Ev.ifT (by omega) (Ev.bind0 rfl (Ev.ifT (by omega) ?_)))
    rw [Int.toNat_natCast]
    rw [List.getD_eq_getElem?_getD, List.getElem?_eq_getElem hi] at hr
    exact hr) (fun x y i hi => Ev.step (f := fun _ => some y) (fun k => by rw [laws_toShardS.l0, if_neg (by omega)]) (Ev.now _)) l (by omega) (fun _ _ => trivial) z61
  unfold laws_toShardS.f
  rw [Int.toNat_natCast]
  exact Ev.ifT (by omega) (Ev.ifT (by omega) this)
theorem eqStr_f (l : List ByteArray) (hl : l.length ≤ 1048576) : Ev (fun k => laws_eqStringS.f k l l) true := by
  unfold laws_eqStringS.f
  exact Ev.ifT rfl (eq_loop (fun k x y i => laws_eqStringS.l0 k x y i) (fun _ => True) (fun x i hx _ hi h => by
    refine Ev.step (fun k => by rw [laws_eqStringS.l0, sucI (by omega)]) ?_
    exact Ev.ifT (by omega) (Ev.ifT (by omega) (Ev.ifT (by omega) (Ev.ifT rfl h)))) (fun x i hi => Ev.step (f := fun _ => some true) (fun k => by rw [laws_eqStringS.l0, if_neg (by omega)]) (Ev.now _)) l (by omega) (fun _ _ => trivial))
theorem eqRes_f (c : Int) (l : List ByteArray) (hl : l.length ≤ 1048576) : Ev (fun k => laws_eqShardResult.f k c l c l) true := by
  unfold laws_eqShardResult.f
  exact Ev.ifT rfl (Ev.bind (eqStr_f l hl) (Ev.ifT rfl (Ev.now _)))
theorem eqSh_f (l : List S61) (hl : l.length ≤ 1048576) : Ev (fun k => laws_eqShardS.f k l l) true := by
  unfold laws_eqShardS.f
  exact Ev.ifT rfl (eq_loop (fun k x y i => laws_eqShardS.l0 k x y i) (fun _ => True) (fun x i hx _ hi h => by
    refine Ev.step (fun k => by rw [laws_eqShardS.l0, sucI (by omega)]) ?_
    refine Ev.ifT (by omega) (Ev.ifT (by omega) (Ev.ifT (by omega) (Ev.bind0 (a := true) ?_ (Ev.ifT rfl h))))
    unfold laws_eqShard.f
    rw [if_neg (by simp), if_pos rfl]) (fun x i hi => Ev.step (f := fun _ => some true) (fun k => by rw [laws_eqShardS.l0, if_neg (by omega)]) (Ev.now _)) l (by omega) (fun _ _ => trivial))
-- the marks
theorem mtl_ev : ∀ (n : Nat) (x : ByteArray), n + x.size ≤ 9223372036854775000 → ∃ t, Ev (fun k => laws_markText.l0 k (n : Int) x) t := by
  intro n
  induction n using Nat.strongRecOn with
  | ind n ih =>
    intro x hx
    by_cases c : n = 0
    · subst c
      exact ⟨_, Ev.step (fun k => by rw [laws_markText.l0, if_neg (by omega), if_pos (by omega)]) (Ev.now _)⟩
    · have e1 : wrap64 (Int.tdiv (n : Int) 10) = ((n / 10 : Nat) : Int) := by rw [Int.tdiv_eq_ediv_of_nonneg (by omega), w64 (by omega) (by omega)]; omega
      have e2 : (strOfNums [(wrap64 (48 + (Int.tmod (n : Int) 10))) % 256]).size = 1 := rfl
      obtain ⟨t, ht⟩ := ih (n / 10) (by omega) (strOfNums [(wrap64 (48 + (Int.tmod (n : Int) 10))) % 256] ++ x) (by rw [ByteArray.size_append, e2]; omega)
      refine ⟨t, ?_⟩
      refine Ev.step (fun k => by rw [laws_markText.l0, if_pos (by omega)]) ?_
      refine Ev.bind0 rfl (Ev.ifT (by rw [e2]; omega) ?_)
      rw [e1]; exact ht
theorem mt_ex (n : Nat) (h : n ≤ 4611686018427387904) : ∃ t, Ev (fun k => laws_markText.f k (n : Int)) t := by
  unfold laws_markText.f
  by_cases c : (n : Int) ≤ 0
  · exact ⟨_, Ev.ifT c (Ev.now _)⟩
  · obtain ⟨t, ht⟩ := mtl_ev n ⟨#[]⟩ (by have : (⟨#[]⟩ : ByteArray).size = 0 := rfl; omega)
    exact ⟨t, Ev.ifF c ht⟩
open Classical in
noncomputable def mt (n : Nat) : ByteArray := if h : n ≤ 4611686018427387904 then (mt_ex n h).choose else ⟨#[]⟩
theorem mt_ev (n : Nat) (h : n ≤ 4611686018427387904) : Ev (fun k => laws_markText.f k (n : Int)) (mt n) := by
  unfold mt; rw [dif_pos h]; exact (mt_ex n h).choose_spec
theorem sucN {n : Nat} (h : n ≤ 4611686018427387904) : wrap64 ((n : Int) + 1) = ((n + 1 : Nat) : Int) := by rw [w64 (by omega) (by omega)]; omega
theorem markSh_loop : ∀ (d i m : Nat) (y : List S61), y.length = i + d → y.length ≤ 1048576 → m + 2 * d ≤ 4611686018427387000 → ∃ r, Ev (fun k => laws_markShardS.l0 k y (m : Int) (i : Int)) r ∧ 0 ≤ r.1
  | 0, i, m, y, hl, hy, hm => ⟨((m : Int), y), Ev.step (f := fun _ => some ((m : Int), y)) (fun k => by rw [laws_markShardS.l0, if_neg (by omega)]) (Ev.now _), by show 0 ≤ (m : Int); omega⟩
  | d + 1, i, m, y, hl, hy, hm => by
    obtain ⟨r, h1, h2⟩ := markSh_loop d (i + 1) (m + 2) (((y.set i (⟨((Int.tmod (m : Int) 3) == 0), (rd_T61 y (i : Int)).f1⟩ : S61)).set i (⟨(rd_T61 (y.set i (⟨((Int.tmod (m : Int) 3) == 0), (rd_T61 y (i : Int)).f1⟩ : S61)) (i : Int)).f0, mt (m + 1)⟩ : S61))) (by rw [List.length_set, List.length_set]; omega) (by rw [List.length_set, List.length_set]; omega) (by omega)
    refine ⟨r, ?_, h2⟩
    refine Ev.step (fun k => by rw [laws_markShardS.l0, sucN (show m ≤ 4611686018427387904 by omega), sucN (show m + 1 ≤ 4611686018427387904 by omega), sucN (show i ≤ 4611686018427387904 by omega), Int.toNat_natCast]) ?_
    exact Ev.ifT (by omega) (Ev.ifT (by omega) (Ev.bind0 rfl (Ev.bind (mt_ev (m + 1) (by omega)) h1)))
theorem mark_loop (m : Nat) : ∀ (d i : Nat) (y : List ByteArray), y.length = i + d → y.length ≤ 1048576 → m ≤ 1000 → ∃ y', Ev (fun k => laws_markStringS.l0 k y ((m + i : Nat) : Int) (i : Int)) (((m + y.length : Nat) : Int), y') ∧ y'.length = y.length ∧ ∀ j, j < y.length → y'.getD j ⟨#[]⟩ = if j < i then y.getD j ⟨#[]⟩ else mt (m + j)
  | 0, i, y, hl, hy, hm => ⟨y, by
      refine Ev.step (f := fun _ => some (((m + i : Nat) : Int), y)) (fun k => by rw [laws_markStringS.l0, if_neg (by omega)]) ?_
      rw [(by omega : m + y.length = m + i)]; exact Ev.now _, rfl, fun j hj => by rw [if_pos (by omega)]⟩
  | d + 1, i, y, hl, hy, hm => by
    obtain ⟨y', ev, h1, h2⟩ := mark_loop m d (i + 1) (y.set i (mt (m + i))) (by rw [List.length_set]; omega) (by rw [List.length_set]; omega) hm
    rw [List.length_set] at h1 ev h2
    refine ⟨y', ?_, h1, fun j hj => ?_⟩
    · refine Ev.step (fun k => by rw [laws_markStringS.l0, sucN (show m + i ≤ 4611686018427387904 by omega), sucN (show i ≤ 4611686018427387904 by omega), Int.toNat_natCast]) ?_
      exact Ev.ifT (by omega) (Ev.bind (mt_ev (m + i) (by omega)) (Ev.ifT (by omega) ev))
    · rw [h2 j hj]
      by_cases c : j < i
      · rw [if_pos (by omega), if_pos c, List.getD_eq_getElem?_getD, List.getD_eq_getElem?_getD, List.getElem?_set_ne (by omega)]
      · rw [if_neg c]
        by_cases e : j = i
        · subst e; rw [if_pos (by omega), List.getD_eq_getElem?_getD, List.getElem?_set_self (by omega)]; rfl
        · rw [if_neg (by omega)]
def Marked (m : Nat) (y : List ByteArray) : Prop := ∀ j, j < y.length → y.getD j ⟨#[]⟩ = mt (m + j)
theorem mark_f (l : List ByteArray) (hl : l.length ≤ 1048576) : ∃ y, Ev (fun k => laws_markStringS.f k l 1) (((1 + l.length : Nat) : Int), y) ∧ y.length = l.length ∧ Marked 1 y := by
  obtain ⟨y', ev, h1, h2⟩ := mark_loop 1 l.length 0 l (by omega) hl (by omega)
  refine ⟨y', ev, h1, fun j hj => ?_⟩
  rw [h2 j (by omega), if_neg (by omega)]
theorem held_loop {m : Nat} {y : List ByteArray} (hy : Marked m y) (hl : y.length ≤ 1048576) (hm : m ≤ 1000) : ∀ (d i : Nat), y.length = i + d → Ev (fun k => laws_heldStringS.l0 k y ((m + i : Nat) : Int) (i : Int)) ((m + y.length : Nat) : Int)
  | 0, i, hd => by
    refine Ev.step (f := fun _ => some ((m + i : Nat) : Int)) (fun k => by rw [laws_heldStringS.l0, if_neg (by omega)]) ?_
    rw [(by omega : m + y.length = m + i)]; exact Ev.now _
  | d + 1, i, hd => by
    have e : rdOf ByteArray.empty y (i : Int) = mt (m + i) := by
      have := hy i (by omega)
      unfold rdOf
      rw [Int.toNat_natCast]; exact this
    refine Ev.step (fun k => by rw [laws_heldStringS.l0, e, sucN (show m + i ≤ 4611686018427387904 by omega), sucN (show i ≤ 4611686018427387904 by omega)]) ?_
    exact Ev.ifT (by omega) (Ev.ifT (by omega) (Ev.bind (mt_ev (m + i) (by omega)) (Ev.ifT rfl (held_loop hy hl hm d (i + 1) (by omega)))))
theorem FnExactDecodeShards : laws_FnExactDecodeShards.Pure := by
  intro a b c l ha hb hc hl
  refine Ev.rounds (g := fun k => laws_FnExactDecodeShards.f k a b c l) ?_
  obtain ⟨z, hz1, hz2⟩ := szS l hl.1 hl.2
  unfold laws_FnExactDecodeShards.f
  by_cases hz : z < 0
  · exact Ev.bind hz1 (Ev.ifT hz (Ev.now _))
  have hlen : l.length ≤ 1048576 := hz2.resolve_left hz
  have hml : (l.map conv).length ≤ 1048576 := by rw [List.length_map]; exact hlen
  obtain ⟨⟨rc, rl⟩, h1, h2, h3⟩ := both_f a b c (l.map conv)
  dsimp only at h3
  have h4 : rl.length ≤ 1048576 := by omega
  obtain ⟨mr, m1, m2⟩ := markSh_loop (l.map conv).length 0 1 (l.map conv) (by omega) hml (by omega)
  obtain ⟨y, n1, n2, n3⟩ := mark_f rl h4
  have hh : Ev (fun k => laws_heldStringS.f k y 1) ((1 + y.length : Nat) : Int) := held_loop n3 (by omega) (by omega) y.length 0 (by omega)
  have hheld : Ev (fun k => laws_heldShardResult.f k rc y 1) ((1 + y.length : Nat) : Int) := by
    unfold laws_heldShardResult.f
    exact Ev.bind hh (Ev.ifF (by omega) (Ev.now _))
  have hmark : Ev (fun k => laws_markShardResult.f k rc rl 1) (((1 + rl.length : Nat) : Int), y) := by
    unfold laws_markShardResult.f
    exact Ev.bind n1 (Ev.now _)
  have hto := toS_f l hlen
  refine Ev.bind hz1 (Ev.ifF hz (Ev.bind0 rfl (Ev.bind hto (Ev.bind h1 (Ev.bind hto (Ev.bind0 rfl (Ev.bind h2 (Ev.bind (eqRes_f rc rl h4) (Ev.ifT rfl (Ev.bind hto (Ev.bind (eqSh_f _ hml) (Ev.ifT rfl (Ev.bind m1 (Ev.ifF (by omega) (Ev.bind (eqRes_f rc rl h4) ?_)))))))))))))))
  refine Ev.step (fun k => by rw [laws_FnExactDecodeShards.j0]) ?_
  refine Ev.ifF (by decide) (Ev.bind hmark (Ev.bind hheld (Ev.ifF (by omega) (Ev.ifT (by rw [n2]) (Ev.bind0 rfl (Ev.bind hto (Ev.bind h2 (Ev.bind (eqRes_f rc rl h4) (Ev.ifT rfl (Ev.bind hheld (Ev.ifF (by omega) (Ev.ifT (by rw [n2]) (Ev.now _)))))))))))))
end Go.Proofs.Ytffhbpepppodeaa.Pure
