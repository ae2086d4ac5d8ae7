import Derived.Test.YtffhbpepppodeaaPureCodeFnExactJoinObject
namespace Go.Proofs.Ytffhbpepppodeaa.Pure
open Go.RowKit Go.Proofs.Ytffhbpepppodeaa.PFnExactJoinObject Go.Proofs.Ytffhbpepppodeaa.Base Go.Proofs.YtffhbpepppodeaaW.PrintWords Go.Proofs.YtffhbpepppodeaaW.PrintLast Go.Proofs.YtffhbpepppodeaaW.PrintMore
open Go.Proofs.Ytffhbpepppodeaa.Gf Go.Proofs.Ytffhbpepppodeaa.Reduce Go.Proofs.Ytffhbpepppodeaa.Grid Go.Proofs.Ytffhbpepppodeaa.Field Go.Proofs.Ytffhbpepppodeaa.Elim Go.Proofs.Ytffhbpepppodeaa.Cauchy Go.Proofs.Ytffhbpepppodeaa.Plant Go.Proofs.Ytffhbpepppodeaa.Plant2 Go.Proofs.Ytffhbpepppodeaa.Plant4 Go.Proofs.Ytffhbpepppodeaa.Plant5 Go.Proofs.Ytffhbpepppodeaa.Plant6
open Go.Proofs.Ytffhbpepppodeaa.Coded (bt_byte str_ext mix_sum shard_size)

open Go.Proofs.Ytffhbpepppodeaa.Greedy (rk cP gStep gTake_le basis_greedy)
/-! ### what is held -/
def tx0 (s : S61) : ByteArray:=if s.f0 = true then s.f1 else ⟨#[]⟩
def cB (l : List S61) : List ByteArray:=(l.filter fun s=>s.f0).map fun s=>s.f1
theorem rd_sh {l : List S61} {i : Nat} (h : i < l.length) : bf l (i : Int) = l[i]:=by
 unfold bf
 rw [Int.toNat_natCast,List.getD_eq_getElem?_getD,List.getElem?_eq_getElem h];rfl
theorem fill_set {α β : Type} {l : List α} (g : α → β) (z : β) {x : β} {i : Nat} (h : i < l.length) (e : g l[i] = x) : ((l.take i).map g ++ List.replicate (l.length - i) z).set i x = (l.take (i + 1)).map g ++ List.replicate (l.length - (i + 1)) z:=by
 have hl : ((l.take i).map g).length = i:=by rw [List.length_map,List.length_take];omega
 rw [List.set_append_right _ _ (by omega),hl,Nat.sub_self,show l.length - i = (l.length - (i + 1)) + 1 by omega,List.replicate_succ,List.set_cons_zero,List.take_succ_eq_append_getElem h,List.map_append,List.append_assoc,← e];rfl
theorem fill_keep {α β : Type} {l : List α} (g : α → β) (z : β) {i : Nat} (h : i < l.length) (e : g l[i] = z) : (l.take i).map g ++ List.replicate (l.length - i) z = (l.take (i + 1)).map g ++ List.replicate (l.length - (i + 1)) z:=by
 rw [show l.length - i = (l.length - (i + 1)) + 1 by omega,List.replicate_succ,List.take_succ_eq_append_getElem h,List.map_append,List.append_assoc,← e];rfl
theorem heldL_succ {l : List S61} {i : Nat} (h : i < l.length) : cB (l.take (i + 1)) = if l[i].f0 = true then cB (l.take i) ++ [l[i].f1] else cB (l.take i):=by
 unfold cB
 rw [List.take_succ_eq_append_getElem h,List.filter_append,List.map_append]
 by_cases c : l[i].f0 = true
 ·rw [if_pos c,List.filter_cons_of_pos (by exact c)];rfl
 ·rw [if_neg c,List.filter_cons_of_neg (by exact c)];simp
theorem heldL_len (l : List S61) : (cB l).length ≤ l.length:=by unfold cB;rw [List.length_map];exact List.length_filter_le _ _
theorem held_gen (l : List S61) (hn : l.length ≤ 64) : ∀ (d i : Nat),i + d = l.length → Ev (fun k=>bq.l0 k ((l.take i).map (fun s=>s.f0) ++ List.replicate (l.length - i) false) ((l.take i).map tx0 ++ List.replicate (l.length - i) ⟨#[]⟩) (cB (l.take i)) l (l.length : Int) (i : Int)) (l.map (fun s=>s.f0),l.map tx0,cB l)
 | 0,i,hd=>by
  obtain rfl : i = l.length:=by omega
  refine Ev.step (f:=fun _=>some (l.map (fun s=>s.f0),l.map tx0,cB l)) (fun k=>?_) (Ev.now _)
  rw [bq.l0,if_neg (by omega),List.take_length,Nat.sub_self,List.replicate_zero,List.replicate_zero,List.append_nil,List.append_nil]
 | d + 1,i,hd=>by
  have hi : i < l.length:=by omega
  have IH:=held_gen l hn d (i + 1) (by omega)
  have hL:=heldL_len (l.take i)
  rw [List.length_take] at hL
  rw [heldL_succ hi] at IH
  have e1:=fill_set (fun s : S61=>s.f0) false hi (rfl : l[i].f0 = l[i].f0)
  refine Ev.step (fun k=>by rw [bq.l0,rd_sh hi,suc_w (by omega)]) ?_
  refine Ev.ifT (by omega) (Ev.ifT (by omega) (Ev.ifT (by omega) (Ev.ifT (by simp;omega) ?_)))
  refine Ev.bN rfl ?_
  rw [Int.toNat_natCast,e1]
  by_cases c : l[i].f0 = true
  ·rw [if_pos c,← fill_set tx0 ⟨#[]⟩ hi (if_pos c)] at IH
   exact Ev.ifT c (Ev.ifT (by simp;omega) (Ev.ifT (by omega) IH))
  ·rw [if_neg c,← fill_keep tx0 ⟨#[]⟩ hi (if_neg c)] at IH
   exact Ev.ifF c IH
theorem heldOf_f (l : List S61) (hn : l.length ≤ 64) : Ev (fun k=>bq.f k l) (l.map (fun s=>s.f0),l.map tx0,cB l):=by
 have:=held_gen l hn l.length 0 (by omega)
 rw [List.take_zero,List.map_nil,List.map_nil,List.nil_append,List.nil_append,Nat.sub_zero] at this
 unfold bq.f
 exact Ev.ifT (by omega) (Ev.ifT (by omega) (Ev.ifT (by omega) this))
theorem split_loop (l : List S61) (hn : l.length ≤ 64) : ∀ (d i : Nat),i + d = l.length → Ev (fun k=>bL.l0 k l ((l.take i).map fun s=>s.f1) ((l.take i).map fun s=>s.f0) (i : Int)) (l.map (fun s=>s.f1),l.map (fun s=>s.f0))
 | 0,i,hd=>by
  obtain rfl : i = l.length:=by omega
  refine Ev.step (f:=fun _=>some (l.map (fun s=>s.f1),l.map (fun s=>s.f0))) (fun k=>?_) (Ev.now _)
  rw [bL.l0,if_neg (by omega),List.take_length]
 | d + 1,i,hd=>by
  have hi : i < l.length:=by omega
  have IH:=split_loop l hn d (i + 1) (by omega)
  rw [List.take_succ_eq_append_getElem hi,List.map_append,List.map_append] at IH
  refine Ev.step (fun k=>by rw [bL.l0,rd_sh hi,suc_w (by omega)]) ?_
  exact Ev.ifT (by omega) (Ev.ifT (by omega) (Ev.ifT (by simp;omega) (Ev.ifT (by simp;omega) IH)))
theorem split_f (l : List S61) (hn : l.length ≤ 64) : Ev (fun k=>bL.f k l) (l.map (fun s=>s.f1),l.map (fun s=>s.f0)):=split_loop l hn l.length 0 (by omega)
/-! ### one length -/
def okS (n : Nat) (x : ByteArray) : Prop:=1 ≤ x.size ∧ x.size ≤ 4096 ∧ x.size = n
def fst (l : List S61) : Nat:=(rdOf ByteArray.empty (cB l) 0).size
theorem rd_get {H : List ByteArray} {i : Nat} (h : i < H.length) : rdOf ByteArray.empty H (i : Int) = H[i]:=by
 unfold rdOf
 rw [Int.toNat_natCast,List.getD_eq_getElem?_getD,List.getElem?_eq_getElem h];rfl
theorem one_ok {l : List ByteArray} {n : Nat} (hl : l.length ≤ 64) (e0 : (rdOf ByteArray.empty l 0).size = n) (hd : ∀ x ∈ l,okS n x) :
  ∀ (d i : Nat),i + d = l.length → Ev (fun k=>bg.l0 k l l (l.length : Int) (i : Int)) true
 | 0,i,hd'=>Ev.step (fun k=>by rw [bg.l0,if_neg (by omega)]) (Ev.now _)
 | d + 1,i,hd'=>by
  have hi : i < l.length:=by omega
  obtain ⟨a1,a2,a3⟩:=hd l[i] (List.getElem_mem hi)
  refine Ev.step (fun k=>by rw [bg.l0,rd_get hi,e0,suc_w (by omega)]) ?_
  exact Ev.ifT (by omega) (Ev.ifT (by omega) (Ev.ifT (by omega) (Ev.ifF (by omega) (Ev.ifF (by omega) (Ev.ifT (by omega) (Ev.ifT (by omega) (one_ok hl e0 hd d (i + 1) (by omega))))))))
theorem one_bad {l : List ByteArray} {n : Nat} (hl : l.length ≤ 64) (e0 : (rdOf ByteArray.empty l 0).size = n) {j : Nat} (hj : j < l.length) (hb : ¬ okS n l[j]) :
  ∀ (d i : Nat),i + d = j → Ev (fun k=>bg.l0 k l l (l.length : Int) (i : Int)) false
 | d,i,hd'=>by
  have hi : i < l.length:=by omega
  refine Ev.step (fun k=>by rw [bg.l0,rd_get hi,e0,suc_w (by omega)]) ?_
  refine Ev.ifT (by omega) (Ev.ifT (by omega) (Ev.ifT (by omega) ?_))
  by_cases c1 : l[i].size < 1
  ·exact Ev.ifT (by omega) (Ev.now _)
  by_cases c2 : l[i].size > 4096
  ·exact Ev.ifF (by omega) (Ev.ifT (by omega) (Ev.now _))
  refine Ev.ifF (by omega) (Ev.ifF (by omega) (Ev.ifT (by omega) ?_))
  by_cases c3 : l[i].size = n
  ·refine Ev.ifT (by omega) ?_
   rcases d with _|d
   ·obtain rfl : i = j:=by omega
    exact absurd ⟨by omega,by omega,c3⟩ hb
   ·exact one_bad hl e0 hj hb d (i + 1) (by omega)
  ·exact Ev.ifF (by omega) (Ev.now _)
theorem heldL_mem {l : List S61} {x : ByteArray} : x ∈ cB l ↔ ∃ i,∃ h : i < l.length,l[i].f0 = true ∧ l[i].f1 = x:=by
 unfold cB
 rw [List.mem_map]
 constructor
 ·rintro ⟨s,hs,rfl⟩
  obtain ⟨h1,h2⟩:=List.mem_filter.1 hs
  obtain ⟨i,hi,rfl⟩:=List.getElem_of_mem h1
  exact ⟨i,hi,h2,rfl⟩
 ·rintro ⟨i,hi,h1,rfl⟩
  exact ⟨l[i],List.mem_filter.2 ⟨List.getElem_mem hi,h1⟩,rfl⟩
theorem heldL_app {l : List S61} {i : Nat} : cB l = cB (l.take i) ++ cB (l.drop i):=by
 unfold cB
 rw [← List.map_append,← List.filter_append,List.take_append_drop]
def Inv0 (l : List S61) (i : Nat) (c : Int) : Prop:=c = -1 ∧ cB (l.take i) = [] ∨ c = (fst l : Int) ∧ cB (l.take i) ≠ []
theorem inv_fst {l : List S61} {i : Nat} (h : i < l.length) (h0 : l[i].f0 = true) (he : cB (l.take i) = []) : fst l = l[i].f1.size:=by
 unfold fst
 rw [heldL_app (i:=i),he,List.nil_append,List.drop_eq_getElem_cons h]
 have e : cB (l[i] :: l.drop (i + 1)) = l[i].f1 :: cB (l.drop (i + 1)):=by unfold cB;rw [List.filter_cons_of_pos (by exact h0)];rfl
 rw [e];rfl
theorem rd_tx {l : List S61} {i : Nat} (h : i < l.length) : rdOf ByteArray.empty (l.map fun s=>s.f1) (i : Int) = l[i].f1:=by
 rw [rd_get (by simpa using h),List.getElem_map]
theorem rd_hv {l : List S61} {i : Nat} (h : i < l.length) : rdOf false (l.map fun s=>s.f0) (i : Int) = l[i].f0:=by
 unfold rdOf
 rw [Int.toNat_natCast,List.getD_eq_getElem?_getD,List.getElem?_map,List.getElem?_eq_getElem h];rfl
theorem len_skip {l : List S61} {i : Nat} (hn : l.length ≤ 64) (h : i < l.length) (h0 : l[i].f0 = false) {c R : Int} (next : Ev (fun k=>bd.l0 k (l.map fun s=>s.f1) (l.map fun s=>s.f0) c ((i + 1 : Nat) : Int)) R) : Ev (fun k=>bd.l0 k (l.map fun s=>s.f1) (l.map fun s=>s.f0) c (i : Int)) R:=by
 refine Ev.step (fun k=>by rw [bd.l0,rd_hv h,suc_w (by omega)]) ?_
 exact Ev.ifT (by simp;omega) (Ev.ifT (by omega) (Ev.ifT (by simp;omega) (Ev.ifF (by rw [h0];decide) next)))
theorem len_take {l : List S61} {i : Nat} (hn : l.length ≤ 64) (h : i < l.length) (h0 : l[i].f0 = true) (hk : okS (fst l) l[i].f1) {c R : Int} (hc : Inv0 l i c) (next : Ev (fun k=>bd.l0 k (l.map fun s=>s.f1) (l.map fun s=>s.f0) (fst l : Int) ((i + 1 : Nat) : Int)) R) : Ev (fun k=>bd.l0 k (l.map fun s=>s.f1) (l.map fun s=>s.f0) c (i : Int)) R:=by
 obtain ⟨a1,a2,a3⟩:=hk
 rw [← a3] at next
 refine Ev.step (fun k=>by rw [bd.l0,rd_hv h,rd_tx h,suc_w (by omega)]) ?_
 refine Ev.ifT (by simp;omega) (Ev.ifT (by omega) (Ev.ifT (by simp;omega) (Ev.ifT h0 ?_)))
 rcases hc with ⟨rfl,_⟩|⟨rfl,_⟩
 ·exact Ev.ifF (by omega) (Ev.ifF (by omega) (Ev.ifF (by omega) next))
 ·exact Ev.ifT (by omega) (Ev.ifT (by omega) (Ev.ifF (by omega) (Ev.ifF (by omega) next)))
theorem len_bad {l : List S61} {i : Nat} (hn : l.length ≤ 64) (h : i < l.length) (h0 : l[i].f0 = true) (hk : ¬ okS (fst l) l[i].f1) {c : Int} (hc : Inv0 l i c) : Ev (fun k=>bd.l0 k (l.map fun s=>s.f1) (l.map fun s=>s.f0) c (i : Int)) (-1):=by
 refine Ev.step (fun k=>by rw [bd.l0,rd_hv h,rd_tx h]) ?_
 refine Ev.ifT (by simp;omega) (Ev.ifT (by omega) (Ev.ifT (by simp;omega) (Ev.ifT h0 ?_)))
 rcases hc with ⟨rfl,he⟩|⟨rfl,_⟩
 ·refine Ev.ifF (by omega) ?_
  by_cases c1 : l[i].f1.size < 1
  ·exact Ev.ifT (by omega) (Ev.now _)
  by_cases c2 : l[i].f1.size > 4096
  ·exact Ev.ifF (by omega) (Ev.ifT (by omega) (Ev.now _))
  exact absurd ⟨by omega,by omega,(inv_fst h h0 he).symm⟩ hk
 ·refine Ev.ifT (by omega) ?_
  by_cases c3 : l[i].f1.size = fst l
  ·refine Ev.ifT (by omega) ?_
   by_cases c1 : l[i].f1.size < 1
   ·exact Ev.ifT (by omega) (Ev.now _)
   by_cases c2 : l[i].f1.size > 4096
   ·exact Ev.ifF (by omega) (Ev.ifT (by omega) (Ev.now _))
   exact absurd ⟨by omega,by omega,c3⟩ hk
  ·exact Ev.ifF (by omega) (Ev.now _)
theorem inv_skip {l : List S61} {i : Nat} (h : i < l.length) (h0 : l[i].f0 = false) {c : Int} (hc : Inv0 l i c) : Inv0 l (i + 1) c:=by
 unfold Inv0
 rw [heldL_succ h,if_neg (by rw [h0];decide)];exact hc
theorem inv_take {l : List S61} {i : Nat} (h : i < l.length) (h0 : l[i].f0 = true) : Inv0 l (i + 1) (fst l):=by
 unfold Inv0
 rw [heldL_succ h,if_pos h0]
 exact .inr ⟨rfl,by simp⟩
theorem len_yes {l : List S61} (hn : l.length ≤ 64) (hk : ∀ x ∈ cB l,okS (fst l) x) : ∀ (d i : Nat) (c : Int),i + d = l.length → Inv0 l i c → Ev (fun k=>bd.l0 k (l.map fun s=>s.f1) (l.map fun s=>s.f0) c (i : Int)) (if cB l = [] then -1 else (fst l : Int))
 | 0,i,c,hd,hc=>by
  obtain rfl : i = l.length:=by omega
  unfold Inv0 at hc
  rw [List.take_length] at hc
  have e : (if cB l = [] then -1 else (fst l : Int)) = c:=by
   rcases hc with ⟨rfl,h⟩|⟨rfl,h⟩
   ·rw [if_pos h]
   ·rw [if_neg h]
  rw [e]
  exact Ev.step (fun k=>by rw [bd.l0,if_neg (by simp)]) (Ev.now _)
 | d + 1,i,c,hd,hc=>by
  have hi : i < l.length:=by omega
  by_cases h0 : l[i].f0 = true
  ·exact len_take hn hi h0 (hk _ (heldL_mem.2 ⟨i,hi,h0,rfl⟩)) hc (len_yes hn hk d (i + 1) _ (by omega) (inv_take hi h0))
  ·have h1 : l[i].f0 = false:=by simpa using h0
   exact len_skip hn hi h1 (len_yes hn hk d (i + 1) c (by omega) (inv_skip hi h1 hc))
theorem len_no {l : List S61} (hn : l.length ≤ 64) {j : Nat} (hj : j < l.length) (hj0 : l[j].f0 = true) (hb : ¬ okS (fst l) l[j].f1) : ∀ (d i : Nat) (c : Int),i + d = j → Inv0 l i c → Ev (fun k=>bd.l0 k (l.map fun s=>s.f1) (l.map fun s=>s.f0) c (i : Int)) (-1)
 | 0,i,c,hd,hc=>by
  obtain rfl : i = j:=by omega
  exact len_bad hn hj hj0 hb hc
 | d + 1,i,c,hd,hc=>by
  have hi : i < l.length:=by omega
  by_cases h0 : l[i].f0 = true
  ·by_cases hk : okS (fst l) l[i].f1
   ·exact len_take hn hi h0 hk hc (len_no hn hj hj0 hb d (i + 1) _ (by omega) (inv_take hi h0))
   ·exact len_bad hn hi h0 hk hc
  ·have h1 : l[i].f0 = false:=by simpa using h0
   exact len_skip hn hi h1 (len_no hn hj hj0 hb d (i + 1) c (by omega) (inv_skip hi h1 hc))
theorem some_loop {l : List S61} (hn : l.length ≤ 64) {tx : List ByteArray} {c K M G : Int} {R : Int × List ByteArray}
  (next : Ev (fun k=>al.j2 k tx (l.map fun s=>s.f0) c (if c < 0 then l.any (fun s=>s.f0) else false) K M G) R) :
  ∀ (d i : Nat),i + d = l.length → Ev (fun k=>al.l0 k tx (l.map fun s=>s.f0) c ((l.take i).any fun s=>s.f0) (i : Int) K M G) R
 | 0,i,hd=>by
  obtain rfl : i = l.length:=by omega
  refine Ev.step (fun k=>by rw [al.l0,List.take_length]) ?_
  refine Ev.ifF (by simp) ?_
  by_cases h : c < 0
  ·rw [if_pos h] at next;exact Ev.ifT h next
  ·rw [if_neg h] at next;exact Ev.ifF h next
 | d + 1,i,hd=>by
  have hi : i < l.length:=by omega
  have IH:=some_loop hn next d (i + 1) (by omega)
  rw [List.take_succ_eq_append_getElem hi,List.any_append] at IH
  refine Ev.step (fun k=>by rw [al.l0,rd_hv hi,suc_w (by omega)]) ?_
  refine Ev.ifT (by simp;omega) ?_
  by_cases h : ((l.take i).any fun s=>s.f0) = true
  ·rw [h,Bool.true_or] at IH
   exact Ev.ifT h IH
  ·have h1 : ((l.take i).any fun s=>s.f0) = false:=by simpa using h
   rw [h1,Bool.false_or] at IH
   have e : ([l[i]].any fun s=>s.f0) = l[i].f0:=by simp
   rw [e] at IH
   exact Ev.ifF h (Ev.ifT (by omega) IH)
/-! ### which are taken -/
theorem rep_snoc {R C : Nat} {l row : List Int} {P : MatN} {r : Nat → Nat} (h : Rep R C l P) (hl : row.length = C) (hr : ∀ j,j < C → rd row (j : Int) = (r j : Int)) : Rep (R + 1) C (l ++ row) (fun i j=>if i < R then P i j else r j):=by
 refine ⟨by rw [List.length_append,h.1,hl,Nat.succ_mul],fun i j hi hj=>?_⟩
 rw [rd_nat,List.getD_eq_getElem?_getD]
 by_cases c : i < R
 ·have h1:=idx_lt c hj
  rw [List.getElem?_append_left (by rw [h.1];exact h1)]
  have:=h.2 i j c hj
  rw [rd_nat,List.getD_eq_getElem?_getD] at this
  rw [this]
  show _ = ((if i < R then P i j else r j : Nat) : Int)
  rw [if_pos c]
 ·obtain rfl : i = R:=by omega
  rw [List.getElem?_append_right (by rw [h.1];omega),h.1,Nat.add_sub_cancel_left]
  have:=hr j hj
  rw [rd_nat,List.getD_eq_getElem?_getD] at this
  rw [this]
  show _ = ((if i < i then P i j else r j : Nat) : Int)
  rw [if_neg c]
theorem rep_row {K M G : Nat} (hN : K + M ≤ 64) {T : List Nat} {cells : List Int} (i : Nat) (h : Rep T.length K cells (rk K M G T)) : Rep (T.length + 1) K (cells ++ rowV K M G i) (rk K M G (T ++ [i])):=by
 have hb : cN (rowN K M G i):=dI hN
 refine (rep_snoc (r:=fun j=>(rowN K M G i j).toNat) h (ef _ _ _ _) (fun j hj=>?_)).congr fun a j ha hj=>?_
 ·rw [rowV_rd _ _ _ _ _ hj]
  have h1:=hb j
  unfold rowN at h1 ⊢
  rw [if_pos hj] at h1 ⊢
  omega
 ·show (rowN K M G ((T ++ [i]).getD a 0) j).toNat = if a < T.length then (rowN K M G (T.getD a 0) j).toNat else (rowN K M G i j).toNat
  rw [List.getD_eq_getElem?_getD]
  by_cases c : a < T.length
  ·rw [if_pos c,List.getElem?_append_left c,← List.getD_eq_getElem?_getD]
  ·obtain rfl : a = T.length:=by omega
   rw [if_neg c,List.getElem?_append_right (Nat.le_refl _),Nat.sub_self];rfl
theorem gTake_stay {K M G : Nat} {hv : List Bool} {i : Nat} (h : (cP K M G hv i).length = K) : ∀ d,cP K M G hv (i + d) = cP K M G hv i
 | 0=>rfl
 | d + 1=>by
  have ih:=gTake_stay h d
  show gStep K M G hv (cP K M G hv (i + d)) (i + d) = _
  rw [ih]
  unfold gStep
  rw [if_pos (.inr h)]
theorem take_loop {K M G : Nat} (hF : Fine K M G) {hv : List Bool} (hl : hv.length = K + M + G) {R : List Int}
  (hR : R = if (cP K M G hv hv.length).length < K then [] else (cP K M G hv hv.length).map Int.ofNat) :
  ∀ (d i : Nat) (cells : List Int),i + d = hv.length → Rep (cP K M G hv i).length K cells (rk K M G (cP K M G hv i)) → Ev (fun k=>aD.l0 k hv ((cP K M G hv i).map Int.ofNat) cells (i : Int) (K : Int) (M : Int) (G : Int)) R
 | 0,i,cells,hd,hrep=>by
  obtain rfl : i = hv.length:=by omega
  refine Ev.step (fun k=>by rw [aD.l0,if_neg (by omega)]) (Ev.step (fun k=>by rw [aD.j1,if_neg (by decide),List.length_map]) ?_)
  rw [hR]
  by_cases c : (cP K M G hv hv.length).length < K
  ·rw [if_pos c];exact Ev.ifT (by omega) (Ev.now _)
  ·rw [if_neg c];exact Ev.ifF (by omega) (Ev.now _)
 | d + 1,i,cells,hd,hrep=>by
  have hi : i < hv.length:=by omega
  have hle:=(gTake_le K M G hv i).1
  have hk2:=hF.k2
  have hs:=hF.s
  refine Ev.step (fun k=>by rw [aD.l0,List.length_map]) (Ev.ifT (by omega) ?_)
  by_cases cK : (cP K M G hv i).length < K
  ·rw [decide_eq_true (show ((cP K M G hv i).length : Int) < (K : Int) by omega)]
   have IH:=fun cells h=>take_loop hF hl hR d (i + 1) cells (by omega) h
   have eS : cP K M G hv (i + 1) = gStep K M G hv (cP K M G hv i) i:=rfl
   unfold gStep at eS
   refine Ev.step (fun k=>by rw [aD.j1,List.length_map,suc_w (show i < 1048576 by omega),suc_w (show (cP K M G hv i).length < 1048576 by omega)]) ?_
   refine Ev.ifT rfl (Ev.ifT (by omega) (Ev.ifT (by omega) ?_))
   by_cases ch : rdOf false hv (i : Int) = true
   ·rw [if_neg (by rw [ch];exact fun h=>h.elim (fun e=>by cases e) (fun e=>by omega))] at eS
    refine Ev.ifT ch (Ev.bN rfl ?_)
    have hc1 : cells.length ≤ 32 * 32:=by rw [hrep.1];exact Nat.mul_le_mul (by omega) (by omega)
    refine Ev.ifT (by simp;omega) (Ev.bN rfl ?_)
    refine Ev.bind (spec_row hF (by omega)) ?_
    refine Ev.ifT (by rw [List.nil_append,ef];omega) (Ev.bN rfl ?_)
    rw [List.nil_append]
    have hrep2:=rep_row (show K + M ≤ 64 by omega) i hrep
    refine Ev.bind (rank_f (dJ (takM_byt (G:=G) (show K + M ≤ 64 by omega) _)) (by omega) (by omega) hrep2) ?_
    by_cases cc : cnt (rk K M G (cP K M G hv i ++ [i])) ((cP K M G hv i).length + 1) K K = (cP K M G hv i).length + 1
    ·rw [if_pos cc] at eS
     refine Ev.ifT (congrArg Int.ofNat cc) (Ev.ifT (by omega) ?_)
     have:=IH (cells ++ rowV K M G i) (by rw [eS,List.length_append,List.length_singleton];exact hrep2)
     rw [eS,List.map_append] at this
     exact this
    ·rw [if_neg cc] at eS
     refine Ev.ifF (fun e=>cc (Int.ofNat.inj e)) ?_
     have:=IH cells (by rw [eS];exact hrep)
     rw [eS] at this
     exact this
   ·rw [if_pos (.inl (by simpa using ch))] at eS
    have:=IH cells (by rw [eS];exact hrep)
    rw [eS] at this
    exact Ev.ifF ch this
  ·rw [decide_eq_false (show ¬ ((cP K M G hv i).length : Int) < (K : Int) by omega)]
   have e:=gTake_stay (K:=K) (M:=M) (G:=G) (hv:=hv) (i:=i) (by omega) (d + 1)
   rw [hd] at e
   refine Ev.step (fun k=>by rw [aD.j1,if_neg (by decide),List.length_map]) ?_
   rw [hR,e,if_neg cK]
   exact Ev.ifF (by omega) (Ev.now _)
theorem rep_nil (C : Nat) (P : MatN) : Rep 0 C [] P:=⟨by simp,fun i j hi hj=>by omega⟩
/-! ### the data -/
theorem data_l0 {K M G n : Nat} (hF : Fine K M G) {tx : List ByteArray} (htx : tx.length = K + M + G) {T : List Nat} (hT : T.length = K) (hlt : ∀ t ∈ T,t < K + M + G) {R : List ByteArray}
  (next : ∀ cells,Rep K K cells (rk K M G T) → Ev (fun k=>(an.f k (K : Int) (K : Int) cells).bind fun bt298=>(aZ.l1 k (n : Int) (b7 T tx) (([] : List ByteArray)) 0 (K : Int) (M : Int) (G : Int) bt298.2.1 bt298.2.2.1 bt298.2.2.2)) R) :
  ∀ (d i : Nat) (cells : List Int),i + d = K → Rep i K cells (rk K M G (T.take i)) → Ev (fun k=>aZ.l0 k tx (T.map Int.ofNat) (n : Int) cells (b7 (T.take i) tx) (i : Int) (K : Int) (M : Int) (G : Int)) R
 | 0,i,cells,hd,hrep=>by
  obtain rfl : i = K:=by omega
  rw [List.take_of_length_le (by omega)] at hrep ⊢
  refine Ev.step (fun k=>by rw [aZ.l0,List.length_map]) (Ev.ifF (by omega) ?_)
  exact next cells hrep
 | d + 1,i,cells,hd,hrep=>by
  have hi : i < T.length:=by omega
  have hk2:=hF.k2
  have hs:=hF.s
  have ht:=hlt T[i] (List.getElem_mem hi)
  have er : rd (T.map Int.ofNat) (i : Int) = ((T[i] : Nat) : Int):=by rw [rd_nat,List.getD_eq_getElem?_getD,List.getElem?_map,List.getElem?_eq_getElem hi];rfl
  have hc1 : cells.length ≤ 32 * 32:=by rw [hrep.1];exact Nat.mul_le_mul (by omega) (by omega)
  have hrep1 : Rep (T.take i).length K cells (rk K M G (T.take i)):=by rw [List.length_take,Nat.min_eq_left (by omega)];exact hrep
  have hrep2:=rep_row (show K + M ≤ 64 by omega) T[i] hrep1
  rw [List.length_take,Nat.min_eq_left (by omega),← List.take_succ_eq_append_getElem hi] at hrep2
  have IH:=data_l0 hF htx hT hlt next d (i + 1) _ (by omega) hrep2
  have ev : b7 (T.take (i + 1)) tx = b7 (T.take i) tx ++ [rdOf ByteArray.empty tx ((T[i] : Nat) : Int)]:=by unfold b7;rw [List.take_succ_eq_append_getElem hi,List.map_append];rfl
  rw [ev] at IH
  refine Ev.step (fun k=>by rw [aZ.l0,List.length_map,er,suc_w (by omega)]) ?_
  refine Ev.ifT (by omega) (Ev.ifT (by omega) (Ev.bind (spec_row hF ht) ?_))
  exact Ev.ifT (by rw [ef];omega) (Ev.ifT (by omega) (Ev.ifT (by omega) (Ev.ifT (by simp [b7];omega) IH)))
theorem mul_w {i K : Nat} (h : i * K ≤ 1000000) : wrap64 ((i : Int) * (K : Int)) = ((i * K : Nat) : Int):=by rw [← Int.natCast_mul];exact w64 (by omega) (by omega)
theorem add_w {a b : Nat} (h : a + b ≤ 2000000) : wrap64 ((a : Int) + (b : Int)) = ((a + b : Nat) : Int):=by rw [w64 (by omega) (by omega)];rfl
theorem row_cut {K : Nat} (Q : Mat) {i : Nat} (hi : i < K) : ((cellsK K Q (K * K)).take (i * K + K)).drop (i * K) = (List.range K).map (Q i):=by
 apply List.ext_getElem
 ·have h1 : (i + 1) * K ≤ K * K:=Nat.mul_le_mul_right K hi
  rw [Nat.succ_mul] at h1
  rw [List.length_drop,List.length_take,cellsK_len,List.length_map,List.length_range,Nat.min_eq_left h1];omega
 ·intro j h1 h2
  have hj : j < K:=by simpa using h2
  rw [List.getElem_drop,List.getElem_take,List.getElem_map,List.getElem_range]
  unfold cellsK
  rw [List.getElem_map,List.getElem_range]
  have e1 : (i * K + j) / K = i:=by rw [Nat.mul_comm,Nat.mul_add_div (by omega),Nat.div_eq_of_lt hj];rfl
  have e2 : (i * K + j) % K = j:=by rw [Nat.mul_comm,Nat.mul_add_mod,Nat.mod_eq_of_lt hj]
  rw [e1,e2]
theorem taken_len (T : List Nat) (tx : List ByteArray) : (b7 T tx).length = T.length:=by simp [b7]
theorem data_l1 {K M G n : Nat} (hF : Fine K M G) {tx : List ByteArray} {T : List Nat} (hT : T.length = K) (hn : n ≤ 4096) (hd : ∀ j : Nat,j < (b7 T tx).length → (rdOf ByteArray.empty (b7 T tx) (j : Int)).size = n) :
  ∀ (d i : Nat),i + d = K → Ev (fun k=>aZ.l1 k (n : Int) (b7 T tx) ((ck K M G n T tx).take i) (i : Int) (K : Int) (M : Int) (G : Int) (K : Int) (K : Int) (cellsK K (invT_ K M G T) (K * K))) (ck K M G n T tx)
 | 0,i,he=>by
  obtain rfl : i = K:=by omega
  refine Ev.step (fun k=>by rw [aZ.l1,if_neg (by omega),List.take_of_length_le (by simp [ck])]) (Ev.now _)
 | d + 1,i,he=>by
  have hk2:=hF.k2
  have hs:=hF.s
  have hi : i < K:=by omega
  have IH:=data_l1 (M:=M) (G:=G) hF hT hn hd d (i + 1) (by omega)
  have h1 : (i + 1) * K ≤ K * K:=Nat.mul_le_mul_right K hi
  have h2 : K * K ≤ 32 * 32:=Nat.mul_le_mul (by omega) (by omega)
  rw [Nat.succ_mul] at h1
  have hdl : (ck K M G n T tx).length = K:=by simp [ck]
  have et : (ck K M G n T tx).take (i + 1) = (ck K M G n T tx).take i ++ [datumV K M G n T tx i]:=by
   rw [List.take_succ_eq_append_getElem (by omega)]
   congr 2
   simp [ck]
  rw [et] at IH
  have hI : bD (invT_ K M G T):=(dK (R:=K) (C:=K) (C2:=K) (takM_byt (G:=G) (show K + M ≤ 64 by omega) T) idM_byt K (Nat.le_refl _)).2.2
  have hrd : ∀ j : Nat,j < K → rd ((List.range K).map (invT_ K M G T i)) (j : Int) = invT_ K M G T i j:=fun j hj=>by
   unfold rd;rw [Int.toNat_natCast,List.getD_eq_getElem?_getD,List.getElem?_map,List.getElem?_range hj];rfl
  have hrl : ((List.range K).map (invT_ K M G T i)).length = K:=by simp
  have hm:=spec_mix (row:=(List.range K).map (invT_ K M G T i)) (data:=b7 T tx) (n:=n) (fun j hj=>by
   rw [hrl] at hj
   rw [hrd j hj];exact hI i j) (by omega) (by rw [hrl,taken_len];omega) hn hd
  rw [hrl] at hm
  refine Ev.step (fun k=>by rw [aZ.l1,mul_w (show i * K ≤ 1000000 by omega),add_w (show i * K + K ≤ 2000000 by omega),Int.toNat_natCast,Int.toNat_natCast,row_cut _ hi,suc_w (by omega)]) ?_
  refine Ev.ifT (by omega) (Ev.ifT (by omega) (Ev.ifT (by omega) (Ev.ifT (by rw [cellsK_len];omega) (Ev.bind hm (Ev.ifT (by rw [List.length_take];omega) IH)))))
theorem data_f {K M G n : Nat} (hF : Fine K M G) {tx : List ByteArray} (htx : tx.length = K + M + G) {T : List Nat} (hT : T.length = K) (hlt : ∀ t ∈ T,t < K + M + G) (hf : cnt (rk K M G T) K K K = K) (hn : n ≤ 4096) (hd : ∀ j : Nat,j < (b7 T tx).length → (rdOf ByteArray.empty (b7 T tx) (j : Int)).size = n) :
  Ev (fun k=>aZ.f k (K : Int) (M : Int) (G : Int) tx (T.map Int.ofNat) (n : Int)) (ck K M G n T tx):=by
 have hs:=hF.s
 have hk2:=hF.k2
 have:=data_l0 (n:=n) (R:=ck K M G n T tx) hF htx hT hlt (fun cells hrep=>by
  refine Ev.bind (sinv_full (M:=takM K M G T) (by omega) hF.k1 (takM_byt (by omega) T) hrep hf) ?_
  have h1:=data_l1 (M:=M) (G:=G) hF hT hn hd K 0 (by omega)
  rw [List.take_zero] at h1
  exact h1) K 0 [] (by omega) (rep_nil _ _)
 unfold aZ.f
 exact this
/-! ### both -/
theorem fault_some (a b c : Int) : ∃ t,a4.f a b c = some t:=by
 unfold a4.f
 repeat' split
 all_goals exact ⟨_,rfl⟩
theorem fault_same (a b c : Int) : aY.f a b c = a4.f a b c:=rfl
theorem both_fine {K M G : Nat} (hF : Fine K M G) (l : List S61) (hl : l.length = K + M + G) : ∃ r : Int × List ByteArray,Ev (fun k=>al.j0 k l false (K : Int) (M : Int) (G : Int)) r ∧ Ev (fun k=>(bq.f k l).bind fun p=>(bg.f k p.2.2).bind fun b=>if b = true then (if K + M + G = p.1.length ∧ p.2.1.length = p.1.length then (if (dm (K : Int) (M : Int) (G : Int) p.1).length < K then some (8,[]) else (if (dm (K : Int) (M : Int) (G : Int) p.1).length = K ∧ (∀ r,r < K → (dm (K : Int) (M : Int) (G : Int) p.1).getD r 0 < p.2.1.length) ∧ (∀ r,r < K → (rdOf ByteArray.empty p.2.1 ((dm (K : Int) (M : Int) (G : Int) p.1).getD r 0 : Nat)).size = (rdOf ByteArray.empty p.2.1 ((dm (K : Int) (M : Int) (G : Int) p.1).getD 0 0 : Nat)).size) ∧ (rdOf ByteArray.empty p.2.1 ((dm (K : Int) (M : Int) (G : Int) p.1).getD 0 0 : Nat)).size ≤ 4096 then some (0,encV K M G (rdOf ByteArray.empty p.2.1 ((dm (K : Int) (M : Int) (G : Int) p.1).getD 0 0 : Nat)).size (ck K M G (rdOf ByteArray.empty p.2.1 ((dm (K : Int) (M : Int) (G : Int) p.1).getD 0 0 : Nat)).size (dm (K : Int) (M : Int) (G : Int) p.1) p.2.1)) else none)) else none) else some (2,[])) r ∧ r.2.length ≤ 64 ∧ (r.1 = 0 → ∃ n data,1 ≤ n ∧ n ≤ 4096 ∧ data.length = K ∧ (∀ j : Nat,j < data.length → (rdOf ByteArray.empty data (j : Int)).size = n) ∧ r.2 = encV K M G n data):=by
 have hs:=hF.s
 have hk1:=hF.k1
 have hn : l.length ≤ 64:=by omega
 have hvl : (l.map fun s=>s.f0).length = K + M + G:=by rw [List.length_map];exact hl
 have hol:=heldL_len l
 by_cases hok : ∀ x ∈ cB l,okS (fst l) x
 ·have hone : Ev (fun k=>bg.f k (cB l)) true:=one_ok (by omega) rfl hok (cB l).length 0 (by omega)
  have hlen : Ev (fun k=>bd.f k (l.map fun s=>s.f1) (l.map fun s=>s.f0)) (if cB l = [] then -1 else (fst l : Int)):=len_yes hn hok l.length 0 (-1) (by omega) (.inl ⟨rfl,rfl⟩)
  obtain ⟨hg1,hg2⟩:=basis_greedy (K:=K) (M:=M) (G:=G) (by omega) (l.map fun s=>s.f0) (l.map fun s=>s.f0).length
  have hcnt:=hg1.cnt
  rw [hg2] at hcnt
  have htk : dm (K : Int) (M : Int) (G : Int) (l.map fun s=>s.f0) = cP K M G (l.map fun s=>s.f0) (l.map fun s=>s.f0).length:=by unfold dm;exact hg2
  have htake : Ev (fun k=>aD.f k (K : Int) (M : Int) (G : Int) (l.map fun s=>s.f0)) (if (cP K M G (l.map fun s=>s.f0) (l.map fun s=>s.f0).length).length < K then [] else (cP K M G (l.map fun s=>s.f0) (l.map fun s=>s.f0).length).map Int.ofNat):=take_loop hF hvl rfl (l.map fun s=>s.f0).length 0 [] (by omega) (rep_nil _ _)
  obtain ⟨hle,hmem⟩:=gTake_le K M G (l.map fun s=>s.f0) (l.map fun s=>s.f0).length
  generalize cP K M G (l.map fun s=>s.f0) (l.map fun s=>s.f0).length = T at hcnt htk htake hle hmem
  have hany : cB l = [] → (l.any fun s=>s.f0) = false:=fun e=>by
   rw [List.any_eq_false]
   intro s hs2 h0
   obtain ⟨i,hi,rfl⟩:=List.getElem_of_mem hs2
   have : l[i].f1 ∈ cB l:=heldL_mem.2 ⟨i,hi,h0,rfl⟩
   rw [e] at this
   cases this
  have hb0 : (if (if cB l = [] then -1 else (fst l : Int)) < 0 then l.any (fun s=>s.f0) else false) = false:=by
   by_cases e : cB l = []
   ·rw [if_pos e,if_pos (by decide)];exact hany e
   ·rw [if_neg e,if_neg (by omega)]
  have spine : ∀ r,Ev (fun k=>al.j2 k (l.map fun s=>s.f1) (l.map fun s=>s.f0) (if cB l = [] then -1 else (fst l : Int)) false (K : Int) (M : Int) (G : Int)) r → Ev (fun k=>al.j0 k l false (K : Int) (M : Int) (G : Int)) r:=fun r h=>by
   refine Ev.step (fun k=>by rw [al.j0]) (Ev.ifF (by decide) (Ev.bind (split_f l hn) (Ev.bind hlen ?_)))
   refine some_loop hn ?_ l.length 0 (by omega)
   rw [hb0];exact h
  by_cases cK : T.length < K
  ·refine ⟨(8,[]),spine _ ?_,?_,by simp,fun e=>absurd e (by decide)⟩
   ·rw [if_pos cK] at htake
    exact Ev.step (fun k=>by rw [al.j2]) (Ev.ifF (by decide) (Ev.bind htake (Ev.ifT rfl (Ev.now _))))
   ·refine Ev.bind (heldOf_f l hn) (Ev.bind hone (Ev.ifT rfl ?_))
    dsimp only
    rw [htk,hvl]
    exact Ev.ifT ⟨rfl,by rw [List.length_map];exact hl⟩ (Ev.ifT cK (Ev.now _))
  ·have hT : T.length = K:=by omega
   rw [if_neg cK] at htake
   have hTm : ∀ t ∈ T,∃ h : t < l.length,l[t].f0 = true:=fun t m=>by
    obtain ⟨m1,m2⟩:=hmem t m
    rw [List.length_map] at m1
    rw [rd_hv m1] at m2
    exact ⟨m1,m2⟩
   have hx1 : ∀ t ∈ T,rdOf ByteArray.empty (l.map tx0) (t : Int) = rdOf ByteArray.empty (l.map fun s=>s.f1) (t : Int):=fun t m=>by
    obtain ⟨h1,h2⟩:=hTm t m
    rw [rd_tx h1,rd_get (by simpa using h1),List.getElem_map]
    exact if_pos h2
   have hsz : ∀ t ∈ T,(rdOf ByteArray.empty (l.map fun s=>s.f1) (t : Int)).size = fst l:=fun t m=>by
    obtain ⟨h1,h2⟩:=hTm t m
    rw [rd_tx h1]
    exact (hok _ (heldL_mem.2 ⟨t,h1,h2,rfl⟩)).2.2
   have hgd : ∀ r,r < K → T.getD r 0 ∈ T:=fun r hr=>getD_mem 0 (by omega)
   have hne : cB l ≠ []:=fun e=>by
    obtain ⟨h1,h2⟩:=hTm _ (hgd 0 (by omega))
    have : l[T.getD 0 0].f1 ∈ cB l:=heldL_mem.2 ⟨_,h1,h2,rfl⟩
    rw [e] at this
    cases this
   have hn4 : fst l ≤ 4096:=by
    obtain ⟨h1,h2⟩:=hTm _ (hgd 0 (by omega))
    have:=hok _ (heldL_mem.2 ⟨_,h1,h2,rfl⟩)
    unfold okS at this
    omega
   have hn1 : 1 ≤ fst l:=by
    obtain ⟨h1,h2⟩:=hTm _ (hgd 0 (by omega))
    have:=hok _ (heldL_mem.2 ⟨_,h1,h2,rfl⟩)
    unfold okS at this
    omega
   have hev : b7 T (l.map tx0) = b7 T (l.map fun s=>s.f1):=List.map_congr_left fun t m=>hx1 t m
   have hdv : ck K M G (fst l) T (l.map tx0) = ck K M G (fst l) T (l.map fun s=>s.f1):=by unfold ck datumV;rw [hev]
   have hdl : (ck K M G (fst l) T (l.map fun s=>s.f1)).length = K:=by simp [ck]
   have hds : ∀ j : Nat,j < (ck K M G (fst l) T (l.map fun s=>s.f1)).length → (rdOf ByteArray.empty (ck K M G (fst l) T (l.map fun s=>s.f1)) (j : Int)).size = fst l:=fun j hj=>by
    rw [rd_get hj]
    simp only [ck,List.getElem_map,List.getElem_range]
    unfold datumV
    rw [strOfNums_size];simp
   have hdf:=data_f (n:=fst l) hF (show (l.map fun s=>s.f1).length = K + M + G by rw [List.length_map];exact hl) hT (fun t m=>by have:=(hTm t m).1;omega) (by rw [hT] at hcnt;exact hcnt) hn4 (fun j hj=>by
    rw [taken_len] at hj
    rw [rd_get (by rw [taken_len];exact hj)]
    simp only [b7,List.getElem_map]
    exact hsz _ (List.getElem_mem hj))
   generalize hdd : ck K M G (fst l) T (l.map fun s=>s.f1) = dd at hdv hdl hds hdf
   refine ⟨(0,encV K M G (fst l) dd),spine _ ?_,?_,by rw [encV_len];omega,fun _=>⟨fst l,dd,hn1,hn4,hdl,hds,rfl⟩⟩
   ·refine Ev.step (fun k=>by rw [al.j2]) (Ev.ifF (by decide) (Ev.bind htake ?_))
    refine Ev.ifF (by rw [List.length_map];omega) ?_
    rw [if_neg hne]
    exact Ev.bind hdf (Ev.bind (spec_all hF hdl hn4 hds) (Ev.now _))
   ·refine Ev.bind (heldOf_f l hn) (Ev.bind hone (Ev.ifT rfl ?_))
    dsimp only
    rw [htk,hvl]
    have h0 : (rdOf ByteArray.empty (l.map tx0) (T.getD 0 0 : Nat)).size = fst l:=by rw [hx1 _ (hgd 0 (by omega))];exact hsz _ (hgd 0 (by omega))
    refine Ev.ifT ⟨rfl,by rw [List.length_map];exact hl⟩ (Ev.ifF cK ?_)
    rw [h0,hdv]
    exact Ev.ifT ⟨hT,fun r hr=>by rw [List.length_map];exact (hTm _ (hgd r hr)).1,fun r hr=>by rw [hx1 _ (hgd r hr)];exact hsz _ (hgd r hr),hn4⟩ (Ev.now _)
 ·obtain ⟨x,hx⟩:=Classical.not_forall.1 hok
  obtain ⟨hx,hb⟩:=Classical.not_imp.1 hx
  obtain ⟨j,hj,rfl⟩:=List.getElem_of_mem hx
  obtain ⟨i,hi,h0,he⟩:=heldL_mem.1 hx
  have hone : Ev (fun k=>bg.f k (cB l)) false:=one_bad (by omega) rfl hj hb j 0 (by omega)
  have hlen : Ev (fun k=>bd.f k (l.map fun s=>s.f1) (l.map fun s=>s.f0)) (-1):=len_no hn hi h0 (by rw [he];exact hb) i 0 (-1) (by omega) (.inl ⟨rfl,rfl⟩)
  have hany : (l.any fun s=>s.f0) = true:=List.any_eq_true.2 ⟨l[i],List.getElem_mem hi,h0⟩
  refine ⟨(2,[]),?_,?_,by simp,fun e=>absurd e (by decide)⟩
  ·refine Ev.step (fun k=>by rw [al.j0]) (Ev.ifF (by decide) (Ev.bind (split_f l hn) (Ev.bind hlen ?_)))
   refine some_loop hn ?_ l.length 0 (by omega)
   rw [if_pos (by decide),hany]
   exact Ev.step (fun k=>by rw [al.j2]) (Ev.ifT rfl (Ev.now _))
  ·exact Ev.bind (heldOf_f l hn) (Ev.bind hone (Ev.ifF (by decide) (Ev.now _)))
theorem both_f (a b c : Int) (l : List S61) : ∃ r : Int × List ByteArray,Ev (fun k=>al.f k a b c l) r ∧ Ev (fun k=>bS.f k a b c l) r ∧ r.2.length ≤ 64 ∧ (r.1 = 0 → ∃ K M G n data,Fine K M G ∧ a = (K : Int) ∧ b = (M : Int) ∧ c = (G : Int) ∧ 1 ≤ n ∧ n ≤ 4096 ∧ data.length = K ∧ (∀ j : Nat,j < data.length → (rdOf ByteArray.empty data (j : Int)).size = n) ∧ r.2 = encV K M G n data):=by
 obtain ⟨t,ht⟩:=fault_some a b c
 have ht2 : aY.f a b c = some t:=by rw [fault_same];exact ht
 have hj : Ev (fun k=>al.j0 k l true a b c) (1,[]):=Ev.step (fun k=>by rw [al.j0,if_pos rfl]) (Ev.now _)
 by_cases h0 : t = 0
 ·subst h0
  obtain ⟨f1,f2,f3,f4,f5,f6,f7⟩:=fault_okD ht
  obtain ⟨K,rfl⟩:=Int.eq_ofNat_of_zero_le (show 0 ≤ a by omega)
  obtain ⟨M,rfl⟩:=Int.eq_ofNat_of_zero_le f3
  obtain ⟨G,rfl⟩:=Int.eq_ofNat_of_zero_le f5
  have hF : Fine K M G:=⟨by omega,by omega,by omega,by omega,by omega⟩
  by_cases hl : l.length = K + M + G
  ·obtain ⟨r,h1,h2,h3,h4⟩:=both_fine hF l hl
   refine ⟨r,?_,?_,h3,fun e=>by obtain ⟨n,data,q⟩:=h4 e;exact ⟨K,M,G,n,data,hF,rfl,rfl,rfl,q⟩⟩
   ·unfold al.f
    refine Ev.bN ht2 (Ev.ifT rfl (Ev.bN (spec_size hF) ?_))
    rw [show ((l.length : Int) != ((K + M + G : Nat) : Int)) = false by rw [hl];simp]
    exact h1
   ·unfold bS.f
    refine Ev.bN ht (Ev.ifT rfl (Ev.bN (impl_size hF) (Ev.ifT (by omega) ?_)))
    simp only [Int.toNat_natCast]
    exact h2
  ·refine ⟨(1,[]),?_,?_,by simp,fun e=>absurd e (by decide)⟩
   ·unfold al.f
    refine Ev.bN ht2 (Ev.ifT rfl (Ev.bN (spec_size hF) ?_))
    rw [show ((l.length : Int) != ((K + M + G : Nat) : Int)) = true by simp;omega]
    exact hj
   ·unfold bS.f
    exact Ev.bN ht (Ev.ifT rfl (Ev.bN (impl_size hF) (Ev.ifF (by omega) (Ev.now _))))
 ·refine ⟨(1,[]),?_,?_,by simp,fun e=>absurd e (by decide)⟩
  ·unfold al.f
   exact Ev.bN ht2 (Ev.ifF h0 hj)
  ·unfold bS.f
   exact Ev.bN ht (Ev.ifF h0 (Ev.now _))
end Go.Proofs.Ytffhbpepppodeaa.Pure
