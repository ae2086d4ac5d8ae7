import Derived.Test.YtffhbpepppodeaaPureCodeFnDecoded
import Derived.Test.YtffhbpepppodeaaTakenFnDecoded
namespace Go.Proofs.Ytffhbpepppodeaa.Pure
open Go.RowKit Go.Proofs.Ytffhbpepppodeaa.PFnDecoded Go.Proofs.Ytffhbpepppodeaa.Base Go.Proofs.YtffhbpepppodeaaW.PrintWords Go.Proofs.YtffhbpepppodeaaW.PrintLast Go.Proofs.YtffhbpepppodeaaW.PrintMore
open Go.Proofs.Ytffhbpepppodeaa.Gf Go.Proofs.Ytffhbpepppodeaa.Reduce Go.Proofs.Ytffhbpepppodeaa.Grid Go.Proofs.Ytffhbpepppodeaa.Field Go.Proofs.Ytffhbpepppodeaa.Elim Go.Proofs.Ytffhbpepppodeaa.Cauchy Go.Proofs.Ytffhbpepppodeaa.Plant Go.Proofs.Ytffhbpepppodeaa.Plant2 Go.Proofs.Ytffhbpepppodeaa.Plant4 Go.Proofs.Ytffhbpepppodeaa.Plant5 Go.Proofs.Ytffhbpepppodeaa.Plant6
open Go.Proofs.Ytffhbpepppodeaa.Coded (bt_byte bt_str str_ext mix_sum data_again shard_size shard_byte df held_mem held_nodup held_snoc dcol dcol_byt)

open Go.Proofs.Ytffhbpepppodeaa.Greedy (rk da gStep gTake_le basis_greedy)
/-! ### what is held -/
def tx0 (s : S61) : ByteArray:=if s.f0 = true then s.f1 else ⟨#[]⟩
def cC (l : List S61) : List ByteArray:=(l.filter fun s=>s.f0).map fun s=>s.f1
theorem rd_sh {l : List S61} {i : Nat} (h : i < l.length) : bj l (i : Int) = l[i]:=by
 unfold bj
 rw [Int.toNat_natCast,List.getD_eq_getElem?_getD,List.getElem?_eq_getElem h];rfl
theorem fill_set {α β : Type} {l : List α} (g : α → β) (z : β) {x : β} {i : Nat} (h : i < l.length) (e : g l[i] = x) : ((l.take i).map g ++ List.replicate (l.length - i) z).set i x = (l.take (i + 1)).map g ++ List.replicate (l.length - (i + 1)) z:=by
 have hl : ((l.take i).map g).length = i:=by rw [List.length_map,List.length_take];omega
 rw [List.set_append_right _ _ (by omega),hl,Nat.sub_self,show l.length - i = (l.length - (i + 1)) + 1 by omega,List.replicate_succ,List.set_cons_zero,List.take_succ_eq_append_getElem h,List.map_append,List.append_assoc,← e];rfl
theorem fill_keep {α β : Type} {l : List α} (g : α → β) (z : β) {i : Nat} (h : i < l.length) (e : g l[i] = z) : (l.take i).map g ++ List.replicate (l.length - i) z = (l.take (i + 1)).map g ++ List.replicate (l.length - (i + 1)) z:=by
 rw [show l.length - i = (l.length - (i + 1)) + 1 by omega,List.replicate_succ,List.take_succ_eq_append_getElem h,List.map_append,List.append_assoc,← e];rfl
theorem heldL_succ {l : List S61} {i : Nat} (h : i < l.length) : cC (l.take (i + 1)) = if l[i].f0 = true then cC (l.take i) ++ [l[i].f1] else cC (l.take i):=by
 unfold cC
 rw [List.take_succ_eq_append_getElem h,List.filter_append,List.map_append]
 by_cases c : l[i].f0 = true
 ·rw [if_pos c,List.filter_cons_of_pos (by exact c)];rfl
 ·rw [if_neg c,List.filter_cons_of_neg (by exact c)];simp
theorem heldL_len (l : List S61) : (cC l).length ≤ l.length:=by unfold cC;rw [List.length_map];exact List.length_filter_le _ _
theorem held_gen (l : List S61) (hn : l.length ≤ 64) : ∀ (d i : Nat),i + d = l.length → Ev (fun k=>bq.l0 k ((l.take i).map (fun s=>s.f0) ++ List.replicate (l.length - i) false) ((l.take i).map tx0 ++ List.replicate (l.length - i) ⟨#[]⟩) (cC (l.take i)) l (l.length : Int) (i : Int)) (l.map (fun s=>s.f0),l.map tx0,cC l)
 | 0,i,hd=>by
  obtain rfl : i = l.length:=by omega
  refine Ev.step (f:=fun _=>some (l.map (fun s=>s.f0),l.map tx0,cC l)) (fun k=>?_) (Ev.now _)
  rw [bq.l0,if_neg (by omega),List.take_length,Nat.sub_self,List.replicate_zero,List.replicate_zero,List.append_nil,List.append_nil]
 | d + 1,i,hd=>by
  have hi : i < l.length:=by omega
  have IH:=held_gen l hn d (i + 1) (by omega)
  have hL:=heldL_len (l.take i)
  rw [List.length_take] at hL
  rw [heldL_succ hi] at IH
  have e1:=fill_set (fun s : S61=>s.f0) false hi (rfl : l[i].f0 = l[i].f0)
  refine Ev.step (fun k=>by rw [bq.l0,rd_sh hi,suc_w (by omega)]) ?_
  refine Ev.ifT (by omega) (Ev.ifT (by omega) (Ev.ifT (by omega) (Ev.ifT (by simp;omega) ?_)))
  refine Ev.bM rfl ?_
  rw [Int.toNat_natCast,e1]
  by_cases c : l[i].f0 = true
  ·rw [if_pos c,← fill_set tx0 ⟨#[]⟩ hi (if_pos c)] at IH
   exact Ev.ifT c (Ev.ifT (by simp;omega) (Ev.ifT (by omega) IH))
  ·rw [if_neg c,← fill_keep tx0 ⟨#[]⟩ hi (if_neg c)] at IH
   exact Ev.ifF c IH
theorem heldOf_f (l : List S61) (hn : l.length ≤ 64) : Ev (fun k=>bq.f k l) (l.map (fun s=>s.f0),l.map tx0,cC l):=by
 have:=held_gen l hn l.length 0 (by omega)
 rw [List.take_zero,List.map_nil,List.map_nil,List.nil_append,List.nil_append,Nat.sub_zero] at this
 unfold bq.f
 exact Ev.ifT (by omega) (Ev.ifT (by omega) (Ev.ifT (by omega) this))
theorem split_loop (l : List S61) (hn : l.length ≤ 64) : ∀ (d i : Nat),i + d = l.length → Ev (fun k=>bP.l0 k l ((l.take i).map fun s=>s.f1) ((l.take i).map fun s=>s.f0) (i : Int)) (l.map (fun s=>s.f1),l.map (fun s=>s.f0))
 | 0,i,hd=>by
  obtain rfl : i = l.length:=by omega
  refine Ev.step (f:=fun _=>some (l.map (fun s=>s.f1),l.map (fun s=>s.f0))) (fun k=>?_) (Ev.now _)
  rw [bP.l0,if_neg (by omega),List.take_length]
 | d + 1,i,hd=>by
  have hi : i < l.length:=by omega
  have IH:=split_loop l hn d (i + 1) (by omega)
  rw [List.take_succ_eq_append_getElem hi,List.map_append,List.map_append] at IH
  refine Ev.step (fun k=>by rw [bP.l0,rd_sh hi,suc_w (by omega)]) ?_
  exact Ev.ifT (by omega) (Ev.ifT (by omega) (Ev.ifT (by simp;omega) (Ev.ifT (by simp;omega) IH)))
theorem split_f (l : List S61) (hn : l.length ≤ 64) : Ev (fun k=>bP.f k l) (l.map (fun s=>s.f1),l.map (fun s=>s.f0)):=split_loop l hn l.length 0 (by omega)
/-! ### one length -/
def okS (n : Nat) (x : ByteArray) : Prop:=1 ≤ x.size ∧ x.size ≤ 4096 ∧ x.size = n
def fst (l : List S61) : Nat:=(rdOf ByteArray.empty (cC l) 0).size
theorem rd_get {H : List ByteArray} {i : Nat} (h : i < H.length) : rdOf ByteArray.empty H (i : Int) = H[i]:=by
 unfold rdOf
 rw [Int.toNat_natCast,List.getD_eq_getElem?_getD,List.getElem?_eq_getElem h];rfl
theorem one_ok {l : List ByteArray} {n : Nat} (hl : l.length ≤ 64) (e0 : (rdOf ByteArray.empty l 0).size = n) (hd : ∀ x ∈ l,okS n x) :
  ∀ (d i : Nat),i + d = l.length → Ev (fun k=>aZ.l0 k l l (l.length : Int) (i : Int)) true
 | 0,i,hd'=>Ev.step (fun k=>by rw [aZ.l0,if_neg (by omega)]) (Ev.now _)
 | d + 1,i,hd'=>by
  have hi : i < l.length:=by omega
  obtain ⟨a1,a2,a3⟩:=hd l[i] (List.getElem_mem hi)
  refine Ev.step (fun k=>by rw [aZ.l0,rd_get hi,e0,suc_w (by omega)]) ?_
  exact Ev.ifT (by omega) (Ev.ifT (by omega) (Ev.ifT (by omega) (Ev.ifF (by omega) (Ev.ifF (by omega) (Ev.ifT (by omega) (Ev.ifT (by omega) (one_ok hl e0 hd d (i + 1) (by omega))))))))
theorem one_bad {l : List ByteArray} {n : Nat} (hl : l.length ≤ 64) (e0 : (rdOf ByteArray.empty l 0).size = n) {j : Nat} (hj : j < l.length) (hb : ¬ okS n l[j]) :
  ∀ (d i : Nat),i + d = j → Ev (fun k=>aZ.l0 k l l (l.length : Int) (i : Int)) false
 | d,i,hd'=>by
  have hi : i < l.length:=by omega
  refine Ev.step (fun k=>by rw [aZ.l0,rd_get hi,e0,suc_w (by omega)]) ?_
  refine Ev.ifT (by omega) (Ev.ifT (by omega) (Ev.ifT (by omega) ?_))
  by_cases c1 : l[i].size < 1
  ·exact Ev.ifT (by omega) (Ev.now _)
  by_cases c2 : l[i].size > 4096
  ·exact Ev.ifF (by omega) (Ev.ifT (by omega) (Ev.now _))
  refine Ev.ifF (by omega) (Ev.ifF (by omega) (Ev.ifT (by omega) ?_))
  by_cases c3 : l[i].size = n
  ·refine Ev.ifT (by omega) ?_
   rcases d with _|d
   ·obtain rfl : i = j:=by omega
    exact absurd ⟨by omega,by omega,c3⟩ hb
   ·exact one_bad hl e0 hj hb d (i + 1) (by omega)
  ·exact Ev.ifF (by omega) (Ev.now _)
theorem heldL_mem {l : List S61} {x : ByteArray} : x ∈ cC l ↔ ∃ i,∃ h : i < l.length,l[i].f0 = true ∧ l[i].f1 = x:=by
 unfold cC
 rw [List.mem_map]
 constructor
 ·rintro ⟨s,hs,rfl⟩
  obtain ⟨h1,h2⟩:=List.mem_filter.1 hs
  obtain ⟨i,hi,rfl⟩:=List.getElem_of_mem h1
  exact ⟨i,hi,h2,rfl⟩
 ·rintro ⟨i,hi,h1,rfl⟩
  exact ⟨l[i],List.mem_filter.2 ⟨List.getElem_mem hi,h1⟩,rfl⟩
theorem heldL_app {l : List S61} {i : Nat} : cC l = cC (l.take i) ++ cC (l.drop i):=by
 unfold cC
 rw [← List.map_append,← List.filter_append,List.take_append_drop]
def Inv0 (l : List S61) (i : Nat) (c : Int) : Prop:=c = -1 ∧ cC (l.take i) = [] ∨ c = (fst l : Int) ∧ cC (l.take i) ≠ []
theorem inv_fst {l : List S61} {i : Nat} (h : i < l.length) (h0 : l[i].f0 = true) (he : cC (l.take i) = []) : fst l = l[i].f1.size:=by
 unfold fst
 rw [heldL_app (i:=i),he,List.nil_append,List.drop_eq_getElem_cons h]
 have e : cC (l[i] :: l.drop (i + 1)) = l[i].f1 :: cC (l.drop (i + 1)):=by unfold cC;rw [List.filter_cons_of_pos (by exact h0)];rfl
 rw [e];rfl
theorem rd_tx {l : List S61} {i : Nat} (h : i < l.length) : rdOf ByteArray.empty (l.map fun s=>s.f1) (i : Int) = l[i].f1:=by
 rw [rd_get (by simpa using h),List.getElem_map]
theorem rd_hv {l : List S61} {i : Nat} (h : i < l.length) : rdOf false (l.map fun s=>s.f0) (i : Int) = l[i].f0:=by
 unfold rdOf
 rw [Int.toNat_natCast,List.getD_eq_getElem?_getD,List.getElem?_map,List.getElem?_eq_getElem h];rfl
theorem len_skip {l : List S61} {i : Nat} (hn : l.length ≤ 64) (h : i < l.length) (h0 : l[i].f0 = false) {c R : Int} (next : Ev (fun k=>bc.l0 k (l.map fun s=>s.f1) (l.map fun s=>s.f0) c ((i + 1 : Nat) : Int)) R) : Ev (fun k=>bc.l0 k (l.map fun s=>s.f1) (l.map fun s=>s.f0) c (i : Int)) R:=by
 refine Ev.step (fun k=>by rw [bc.l0,rd_hv h,suc_w (by omega)]) ?_
 exact Ev.ifT (by simp;omega) (Ev.ifT (by omega) (Ev.ifT (by simp;omega) (Ev.ifF (by rw [h0];decide) next)))
theorem len_take {l : List S61} {i : Nat} (hn : l.length ≤ 64) (h : i < l.length) (h0 : l[i].f0 = true) (hk : okS (fst l) l[i].f1) {c R : Int} (hc : Inv0 l i c) (next : Ev (fun k=>bc.l0 k (l.map fun s=>s.f1) (l.map fun s=>s.f0) (fst l : Int) ((i + 1 : Nat) : Int)) R) : Ev (fun k=>bc.l0 k (l.map fun s=>s.f1) (l.map fun s=>s.f0) c (i : Int)) R:=by
 obtain ⟨a1,a2,a3⟩:=hk
 rw [← a3] at next
 refine Ev.step (fun k=>by rw [bc.l0,rd_hv h,rd_tx h,suc_w (by omega)]) ?_
 refine Ev.ifT (by simp;omega) (Ev.ifT (by omega) (Ev.ifT (by simp;omega) (Ev.ifT h0 ?_)))
 rcases hc with ⟨rfl,_⟩|⟨rfl,_⟩
 ·exact Ev.ifF (by omega) (Ev.ifF (by omega) (Ev.ifF (by omega) next))
 ·exact Ev.ifT (by omega) (Ev.ifT (by omega) (Ev.ifF (by omega) (Ev.ifF (by omega) next)))
theorem len_bad {l : List S61} {i : Nat} (hn : l.length ≤ 64) (h : i < l.length) (h0 : l[i].f0 = true) (hk : ¬ okS (fst l) l[i].f1) {c : Int} (hc : Inv0 l i c) : Ev (fun k=>bc.l0 k (l.map fun s=>s.f1) (l.map fun s=>s.f0) c (i : Int)) (-1):=by
 refine Ev.step (fun k=>by rw [bc.l0,rd_hv h,rd_tx h]) ?_
 refine Ev.ifT (by simp;omega) (Ev.ifT (by omega) (Ev.ifT (by simp;omega) (Ev.ifT h0 ?_)))
 rcases hc with ⟨rfl,he⟩|⟨rfl,_⟩
 ·refine Ev.ifF (by omega) ?_
  by_cases c1 : l[i].f1.size < 1
  ·exact Ev.ifT (by omega) (Ev.now _)
  by_cases c2 : l[i].f1.size > 4096
  ·exact Ev.ifF (by omega) (Ev.ifT (by omega) (Ev.now _))
  exact absurd ⟨by omega,by omega,(inv_fst h h0 he).symm⟩ hk
 ·refine Ev.ifT (by omega) ?_
  by_cases c3 : l[i].f1.size = fst l
  ·refine Ev.ifT (by omega) ?_
   by_cases c1 : l[i].f1.size < 1
   ·exact Ev.ifT (by omega) (Ev.now _)
   by_cases c2 : l[i].f1.size > 4096
   ·exact Ev.ifF (by omega) (Ev.ifT (by omega) (Ev.now _))
   exact absurd ⟨by omega,by omega,c3⟩ hk
  ·exact Ev.ifF (by omega) (Ev.now _)
theorem inv_skip {l : List S61} {i : Nat} (h : i < l.length) (h0 : l[i].f0 = false) {c : Int} (hc : Inv0 l i c) : Inv0 l (i + 1) c:=by
 unfold Inv0
 rw [heldL_succ h,if_neg (by rw [h0];decide)];exact hc
theorem inv_take {l : List S61} {i : Nat} (h : i < l.length) (h0 : l[i].f0 = true) : Inv0 l (i + 1) (fst l):=by
 unfold Inv0
 rw [heldL_succ h,if_pos h0]
 exact .inr ⟨rfl,by simp⟩
theorem len_yes {l : List S61} (hn : l.length ≤ 64) (hk : ∀ x ∈ cC l,okS (fst l) x) : ∀ (d i : Nat) (c : Int),i + d = l.length → Inv0 l i c → Ev (fun k=>bc.l0 k (l.map fun s=>s.f1) (l.map fun s=>s.f0) c (i : Int)) (if cC l = [] then -1 else (fst l : Int))
 | 0,i,c,hd,hc=>by
  obtain rfl : i = l.length:=by omega
  unfold Inv0 at hc
  rw [List.take_length] at hc
  have e : (if cC l = [] then -1 else (fst l : Int)) = c:=by
   rcases hc with ⟨rfl,h⟩|⟨rfl,h⟩
   ·rw [if_pos h]
   ·rw [if_neg h]
  rw [e]
  exact Ev.step (fun k=>by rw [bc.l0,if_neg (by simp)]) (Ev.now _)
 | d + 1,i,c,hd,hc=>by
  have hi : i < l.length:=by omega
  by_cases h0 : l[i].f0 = true
  ·exact len_take hn hi h0 (hk _ (heldL_mem.2 ⟨i,hi,h0,rfl⟩)) hc (len_yes hn hk d (i + 1) _ (by omega) (inv_take hi h0))
  ·have h1 : l[i].f0 = false:=by simpa using h0
   exact len_skip hn hi h1 (len_yes hn hk d (i + 1) c (by omega) (inv_skip hi h1 hc))
theorem len_no {l : List S61} (hn : l.length ≤ 64) {j : Nat} (hj : j < l.length) (hj0 : l[j].f0 = true) (hb : ¬ okS (fst l) l[j].f1) : ∀ (d i : Nat) (c : Int),i + d = j → Inv0 l i c → Ev (fun k=>bc.l0 k (l.map fun s=>s.f1) (l.map fun s=>s.f0) c (i : Int)) (-1)
 | 0,i,c,hd,hc=>by
  obtain rfl : i = j:=by omega
  exact len_bad hn hj hj0 hb hc
 | d + 1,i,c,hd,hc=>by
  have hi : i < l.length:=by omega
  by_cases h0 : l[i].f0 = true
  ·by_cases hk : okS (fst l) l[i].f1
   ·exact len_take hn hi h0 hk hc (len_no hn hj hj0 hb d (i + 1) _ (by omega) (inv_take hi h0))
   ·exact len_bad hn hi h0 hk hc
  ·have h1 : l[i].f0 = false:=by simpa using h0
   exact len_skip hn hi h1 (len_no hn hj hj0 hb d (i + 1) c (by omega) (inv_skip hi h1 hc))
theorem some_loop {l : List S61} (hn : l.length ≤ 64) {tx : List ByteArray} {c K M G : Int} {R : Int × List ByteArray}
  (next : Ev (fun k=>aq.j2 k tx (l.map fun s=>s.f0) c (if c < 0 then l.any (fun s=>s.f0) else false) K M G) R) :
  ∀ (d i : Nat),i + d = l.length → Ev (fun k=>aq.l0 k tx (l.map fun s=>s.f0) c ((l.take i).any fun s=>s.f0) (i : Int) K M G) R
 | 0,i,hd=>by
  obtain rfl : i = l.length:=by omega
  refine Ev.step (fun k=>by rw [aq.l0,List.take_length]) ?_
  refine Ev.ifF (by simp) ?_
  by_cases h : c < 0
  ·rw [if_pos h] at next;exact Ev.ifT h next
  ·rw [if_neg h] at next;exact Ev.ifF h next
 | d + 1,i,hd=>by
  have hi : i < l.length:=by omega
  have IH:=some_loop hn next d (i + 1) (by omega)
  rw [List.take_succ_eq_append_getElem hi,List.any_append] at IH
  refine Ev.step (fun k=>by rw [aq.l0,rd_hv hi,suc_w (by omega)]) ?_
  refine Ev.ifT (by simp;omega) ?_
  by_cases h : ((l.take i).any fun s=>s.f0) = true
  ·rw [h,Bool.true_or] at IH
   exact Ev.ifT h IH
  ·have h1 : ((l.take i).any fun s=>s.f0) = false:=by simpa using h
   rw [h1,Bool.false_or] at IH
   have e : ([l[i]].any fun s=>s.f0) = l[i].f0:=by simp
   rw [e] at IH
   exact Ev.ifF h (Ev.ifT (by omega) IH)
/-! ### which are taken -/
theorem rep_snoc {R C : Nat} {l row : List Int} {P : MatN} {r : Nat → Nat} (h : Rep R C l P) (hl : row.length = C) (hr : ∀ j,j < C → rd row (j : Int) = (r j : Int)) : Rep (R + 1) C (l ++ row) (fun i j=>if i < R then P i j else r j):=by
 refine ⟨by rw [List.length_append,h.1,hl,Nat.succ_mul],fun i j hi hj=>?_⟩
 rw [rd_nat,List.getD_eq_getElem?_getD]
 by_cases c : i < R
 ·have h1:=idx_lt c hj
  rw [List.getElem?_append_left (by rw [h.1];exact h1)]
  have:=h.2 i j c hj
  rw [rd_nat,List.getD_eq_getElem?_getD] at this
  rw [this]
  show _ = ((if i < R then P i j else r j : Nat) : Int)
  rw [if_pos c]
 ·obtain rfl : i = R:=by omega
  rw [List.getElem?_append_right (by rw [h.1];omega),h.1,Nat.add_sub_cancel_left]
  have:=hr j hj
  rw [rd_nat,List.getD_eq_getElem?_getD] at this
  rw [this]
  show _ = ((if i < i then P i j else r j : Nat) : Int)
  rw [if_neg c]
theorem rep_row {K M G : Nat} (hN : K + M ≤ 64) {T : List Nat} {cells : List Int} (i : Nat) (h : Rep T.length K cells (rk K M G T)) : Rep (T.length + 1) K (cells ++ rowV K M G i) (rk K M G (T ++ [i])):=by
 have hb : cX (rowN K M G i):=dG hN
 refine (rep_snoc (r:=fun j=>(rowN K M G i j).toNat) h (eh _ _ _ _) (fun j hj=>?_)).congr fun a j ha hj=>?_
 ·rw [rowV_rd _ _ _ _ _ hj]
  have h1:=hb j
  unfold rowN at h1 ⊢
  rw [if_pos hj] at h1 ⊢
  omega
 ·show (rowN K M G ((T ++ [i]).getD a 0) j).toNat = if a < T.length then (rowN K M G (T.getD a 0) j).toNat else (rowN K M G i j).toNat
  rw [List.getD_eq_getElem?_getD]
  by_cases c : a < T.length
  ·rw [if_pos c,List.getElem?_append_left c,← List.getD_eq_getElem?_getD]
  ·obtain rfl : a = T.length:=by omega
   rw [if_neg c,List.getElem?_append_right (Nat.le_refl _),Nat.sub_self];rfl
theorem gTake_stay {K M G : Nat} {hv : List Bool} {i : Nat} (h : (da K M G hv i).length = K) : ∀ d,da K M G hv (i + d) = da K M G hv i
 | 0=>rfl
 | d + 1=>by
  have ih:=gTake_stay h d
  show gStep K M G hv (da K M G hv (i + d)) (i + d) = _
  rw [ih]
  unfold gStep
  rw [if_pos (.inr h)]
theorem take_loop {K M G : Nat} (hF : Fine K M G) {hv : List Bool} (hl : hv.length = K + M + G) {R : List Int}
  (hR : R = if (da K M G hv hv.length).length < K then [] else (da K M G hv hv.length).map Int.ofNat) :
  ∀ (d i : Nat) (cells : List Int),i + d = hv.length → Rep (da K M G hv i).length K cells (rk K M G (da K M G hv i)) → Ev (fun k=>aH.l0 k hv ((da K M G hv i).map Int.ofNat) cells (i : Int) (K : Int) (M : Int) (G : Int)) R
 | 0,i,cells,hd,hrep=>by
  obtain rfl : i = hv.length:=by omega
  refine Ev.step (fun k=>by rw [aH.l0,if_neg (by omega)]) (Ev.step (fun k=>by rw [aH.j1,if_neg (by decide),List.length_map]) ?_)
  rw [hR]
  by_cases c : (da K M G hv hv.length).length < K
  ·rw [if_pos c];exact Ev.ifT (by omega) (Ev.now _)
  ·rw [if_neg c];exact Ev.ifF (by omega) (Ev.now _)
 | d + 1,i,cells,hd,hrep=>by
  have hi : i < hv.length:=by omega
  have hle:=(gTake_le K M G hv i).1
  have hk2:=hF.k2
  have hs:=hF.s
  refine Ev.step (fun k=>by rw [aH.l0,List.length_map]) (Ev.ifT (by omega) ?_)
  by_cases cK : (da K M G hv i).length < K
  ·rw [decide_eq_true (show ((da K M G hv i).length : Int) < (K : Int) by omega)]
   have IH:=fun cells h=>take_loop hF hl hR d (i + 1) cells (by omega) h
   have eS : da K M G hv (i + 1) = gStep K M G hv (da K M G hv i) i:=rfl
   unfold gStep at eS
   refine Ev.step (fun k=>by rw [aH.j1,List.length_map,suc_w (show i < 1048576 by omega),suc_w (show (da K M G hv i).length < 1048576 by omega)]) ?_
   refine Ev.ifT rfl (Ev.ifT (by omega) (Ev.ifT (by omega) ?_))
   by_cases ch : rdOf false hv (i : Int) = true
   ·rw [if_neg (by rw [ch];exact fun h=>h.elim (fun e=>by cases e) (fun e=>by omega))] at eS
    refine Ev.ifT ch (Ev.bM rfl ?_)
    have hc1 : cells.length ≤ 32 * 32:=by rw [hrep.1];exact Nat.mul_le_mul (by omega) (by omega)
    refine Ev.ifT (by simp;omega) (Ev.bM rfl ?_)
    refine Ev.bind (spec_row hF (by omega)) ?_
    refine Ev.ifT (by rw [List.nil_append,eh];omega) (Ev.bM rfl ?_)
    rw [List.nil_append]
    have hrep2:=rep_row (show K + M ≤ 64 by omega) i hrep
    refine Ev.bind (rank_f (dy (takM_byt (G:=G) (show K + M ≤ 64 by omega) _)) (by omega) (by omega) hrep2) ?_
    by_cases cc : cnt (rk K M G (da K M G hv i ++ [i])) ((da K M G hv i).length + 1) K K = (da K M G hv i).length + 1
    ·rw [if_pos cc] at eS
     refine Ev.ifT (congrArg Int.ofNat cc) (Ev.ifT (by omega) ?_)
     have:=IH (cells ++ rowV K M G i) (by rw [eS,List.length_append,List.length_singleton];exact hrep2)
     rw [eS,List.map_append] at this
     exact this
    ·rw [if_neg cc] at eS
     refine Ev.ifF (fun e=>cc (Int.ofNat.inj e)) ?_
     have:=IH cells (by rw [eS];exact hrep)
     rw [eS] at this
     exact this
   ·rw [if_pos (.inl (by simpa using ch))] at eS
    have:=IH cells (by rw [eS];exact hrep)
    rw [eS] at this
    exact Ev.ifF ch this
  ·rw [decide_eq_false (show ¬ ((da K M G hv i).length : Int) < (K : Int) by omega)]
   have e:=gTake_stay (K:=K) (M:=M) (G:=G) (hv:=hv) (i:=i) (by omega) (d + 1)
   rw [hd] at e
   refine Ev.step (fun k=>by rw [aH.j1,if_neg (by decide),List.length_map]) ?_
   rw [hR,e,if_neg cK]
   exact Ev.ifF (by omega) (Ev.now _)
theorem rep_nil (C : Nat) (P : MatN) : Rep 0 C [] P:=⟨by simp,fun i j hi hj=>by omega⟩
/-! ### the data -/
theorem data_l0 {K M G n : Nat} (hF : Fine K M G) {tx : List ByteArray} (htx : tx.length = K + M + G) {T : List Nat} (hT : T.length = K) (hlt : ∀ t ∈ T,t < K + M + G) {R : List ByteArray}
  (next : ∀ cells,Rep K K cells (rk K M G T) → Ev (fun k=>(an.f k (K : Int) (K : Int) cells).bind fun bt298=>(a5.l1 k (n : Int) (cf T tx) (([] : List ByteArray)) 0 (K : Int) (M : Int) (G : Int) bt298.2.1 bt298.2.2.1 bt298.2.2.2)) R) :
  ∀ (d i : Nat) (cells : List Int),i + d = K → Rep i K cells (rk K M G (T.take i)) → Ev (fun k=>a5.l0 k tx (T.map Int.ofNat) (n : Int) cells (cf (T.take i) tx) (i : Int) (K : Int) (M : Int) (G : Int)) R
 | 0,i,cells,hd,hrep=>by
  obtain rfl : i = K:=by omega
  rw [List.take_of_length_le (by omega)] at hrep ⊢
  refine Ev.step (fun k=>by rw [a5.l0,List.length_map]) (Ev.ifF (by omega) ?_)
  exact next cells hrep
 | d + 1,i,cells,hd,hrep=>by
  have hi : i < T.length:=by omega
  have hk2:=hF.k2
  have hs:=hF.s
  have ht:=hlt T[i] (List.getElem_mem hi)
  have er : rd (T.map Int.ofNat) (i : Int) = ((T[i] : Nat) : Int):=by rw [rd_nat,List.getD_eq_getElem?_getD,List.getElem?_map,List.getElem?_eq_getElem hi];rfl
  have hc1 : cells.length ≤ 32 * 32:=by rw [hrep.1];exact Nat.mul_le_mul (by omega) (by omega)
  have hrep1 : Rep (T.take i).length K cells (rk K M G (T.take i)):=by rw [List.length_take,Nat.min_eq_left (by omega)];exact hrep
  have hrep2:=rep_row (show K + M ≤ 64 by omega) T[i] hrep1
  rw [List.length_take,Nat.min_eq_left (by omega),← List.take_succ_eq_append_getElem hi] at hrep2
  have IH:=data_l0 hF htx hT hlt next d (i + 1) _ (by omega) hrep2
  have ev : cf (T.take (i + 1)) tx = cf (T.take i) tx ++ [rdOf ByteArray.empty tx ((T[i] : Nat) : Int)]:=by unfold cf;rw [List.take_succ_eq_append_getElem hi,List.map_append];rfl
  rw [ev] at IH
  refine Ev.step (fun k=>by rw [a5.l0,List.length_map,er,suc_w (by omega)]) ?_
  refine Ev.ifT (by omega) (Ev.ifT (by omega) (Ev.bind (spec_row hF ht) ?_))
  exact Ev.ifT (by rw [eh];omega) (Ev.ifT (by omega) (Ev.ifT (by omega) (Ev.ifT (by simp [cf];omega) IH)))
theorem mul_w {i K : Nat} (h : i * K ≤ 1000000) : wrap64 ((i : Int) * (K : Int)) = ((i * K : Nat) : Int):=by rw [← Int.natCast_mul];exact w64 (by omega) (by omega)
theorem add_w {a b : Nat} (h : a + b ≤ 2000000) : wrap64 ((a : Int) + (b : Int)) = ((a + b : Nat) : Int):=by rw [w64 (by omega) (by omega)];rfl
theorem row_cut {K : Nat} (Q : Mat) {i : Nat} (hi : i < K) : ((cellsK K Q (K * K)).take (i * K + K)).drop (i * K) = (List.range K).map (Q i):=by
 apply List.ext_getElem
 ·have h1 : (i + 1) * K ≤ K * K:=Nat.mul_le_mul_right K hi
  rw [Nat.succ_mul] at h1
  rw [List.length_drop,List.length_take,cellsK_len,List.length_map,List.length_range,Nat.min_eq_left h1];omega
 ·intro j h1 h2
  have hj : j < K:=by simpa using h2
  rw [List.getElem_drop,List.getElem_take,List.getElem_map,List.getElem_range]
  unfold cellsK
  rw [List.getElem_map,List.getElem_range]
  have e1 : (i * K + j) / K = i:=by rw [Nat.mul_comm,Nat.mul_add_div (by omega),Nat.div_eq_of_lt hj];rfl
  have e2 : (i * K + j) % K = j:=by rw [Nat.mul_comm,Nat.mul_add_mod,Nat.mod_eq_of_lt hj]
  rw [e1,e2]
theorem taken_len (T : List Nat) (tx : List ByteArray) : (cf T tx).length = T.length:=by simp [cf]
theorem data_l1 {K M G n : Nat} (hF : Fine K M G) {tx : List ByteArray} {T : List Nat} (hT : T.length = K) (hn : n ≤ 4096) (hd : ∀ j : Nat,j < (cf T tx).length → (rdOf ByteArray.empty (cf T tx) (j : Int)).size = n) :
  ∀ (d i : Nat),i + d = K → Ev (fun k=>a5.l1 k (n : Int) (cf T tx) ((ck K M G n T tx).take i) (i : Int) (K : Int) (M : Int) (G : Int) (K : Int) (K : Int) (cellsK K (dE K M G T) (K * K))) (ck K M G n T tx)
 | 0,i,he=>by
  obtain rfl : i = K:=by omega
  refine Ev.step (fun k=>by rw [a5.l1,if_neg (by omega),List.take_of_length_le (by simp [ck])]) (Ev.now _)
 | d + 1,i,he=>by
  have hk2:=hF.k2
  have hs:=hF.s
  have hi : i < K:=by omega
  have IH:=data_l1 (M:=M) (G:=G) hF hT hn hd d (i + 1) (by omega)
  have h1 : (i + 1) * K ≤ K * K:=Nat.mul_le_mul_right K hi
  have h2 : K * K ≤ 32 * 32:=Nat.mul_le_mul (by omega) (by omega)
  rw [Nat.succ_mul] at h1
  have hdl : (ck K M G n T tx).length = K:=by simp [ck]
  have et : (ck K M G n T tx).take (i + 1) = (ck K M G n T tx).take i ++ [datumV K M G n T tx i]:=by
   rw [List.take_succ_eq_append_getElem (by omega)]
   congr 2
   simp [ck]
  rw [et] at IH
  have hI : bC (dE K M G T):=(dv (R:=K) (C:=K) (C2:=K) (takM_byt (G:=G) (show K + M ≤ 64 by omega) T) dW K (Nat.le_refl _)).2.2
  have hrd : ∀ j : Nat,j < K → rd ((List.range K).map (dE K M G T i)) (j : Int) = dE K M G T i j:=fun j hj=>by
   unfold rd;rw [Int.toNat_natCast,List.getD_eq_getElem?_getD,List.getElem?_map,List.getElem?_range hj];rfl
  have hrl : ((List.range K).map (dE K M G T i)).length = K:=by simp
  have hm:=spec_mix (row:=(List.range K).map (dE K M G T i)) (data:=cf T tx) (n:=n) (fun j hj=>by
   rw [hrl] at hj
   rw [hrd j hj];exact hI i j) (by omega) (by rw [hrl,taken_len];omega) hn hd
  rw [hrl] at hm
  refine Ev.step (fun k=>by rw [a5.l1,mul_w (show i * K ≤ 1000000 by omega),add_w (show i * K + K ≤ 2000000 by omega),Int.toNat_natCast,Int.toNat_natCast,row_cut _ hi,suc_w (by omega)]) ?_
  refine Ev.ifT (by omega) (Ev.ifT (by omega) (Ev.ifT (by omega) (Ev.ifT (by rw [cellsK_len];omega) (Ev.bind hm (Ev.ifT (by rw [List.length_take];omega) IH)))))
theorem data_f {K M G n : Nat} (hF : Fine K M G) {tx : List ByteArray} (htx : tx.length = K + M + G) {T : List Nat} (hT : T.length = K) (hlt : ∀ t ∈ T,t < K + M + G) (hf : cnt (rk K M G T) K K K = K) (hn : n ≤ 4096) (hd : ∀ j : Nat,j < (cf T tx).length → (rdOf ByteArray.empty (cf T tx) (j : Int)).size = n) :
  Ev (fun k=>a5.f k (K : Int) (M : Int) (G : Int) tx (T.map Int.ofNat) (n : Int)) (ck K M G n T tx):=by
 have hs:=hF.s
 have hk2:=hF.k2
 have:=data_l0 (n:=n) (R:=ck K M G n T tx) hF htx hT hlt (fun cells hrep=>by
  refine Ev.bind (sinv_full (M:=takM K M G T) (by omega) hF.k1 (takM_byt (by omega) T) hrep hf) ?_
  have h1:=data_l1 (M:=M) (G:=G) hF hT hn hd K 0 (by omega)
  rw [List.take_zero] at h1
  exact h1) K 0 [] (by omega) (rep_nil _ _)
 unfold a5.f
 exact this
/-! ### both -/
theorem fault_some (a b c : Int) : ∃ t,aY.f a b c = some t:=by
 unfold aY.f
 repeat' split
 all_goals exact ⟨_,rfl⟩
theorem fault_same (a b c : Int) : bd.f a b c = aY.f a b c:=rfl
theorem both_fine {K M G : Nat} (hF : Fine K M G) (l : List S61) (hl : l.length = K + M + G) : ∃ r : Int × List ByteArray,Ev (fun k=>aq.j0 k l false (K : Int) (M : Int) (G : Int)) r ∧ Ev (fun k=>(bq.f k l).bind fun p=>(aZ.f k p.2.2).bind fun b=>if b = true then (if K + M + G = p.1.length ∧ p.2.1.length = p.1.length then (if (dm (K : Int) (M : Int) (G : Int) p.1).length < K then some (8,[]) else (if (dm (K : Int) (M : Int) (G : Int) p.1).length = K ∧ (∀ r,r < K → (dm (K : Int) (M : Int) (G : Int) p.1).getD r 0 < p.2.1.length) ∧ (∀ r,r < K → (rdOf ByteArray.empty p.2.1 ((dm (K : Int) (M : Int) (G : Int) p.1).getD r 0 : Nat)).size = (rdOf ByteArray.empty p.2.1 ((dm (K : Int) (M : Int) (G : Int) p.1).getD 0 0 : Nat)).size) ∧ (rdOf ByteArray.empty p.2.1 ((dm (K : Int) (M : Int) (G : Int) p.1).getD 0 0 : Nat)).size ≤ 4096 then some (0,encV K M G (rdOf ByteArray.empty p.2.1 ((dm (K : Int) (M : Int) (G : Int) p.1).getD 0 0 : Nat)).size (ck K M G (rdOf ByteArray.empty p.2.1 ((dm (K : Int) (M : Int) (G : Int) p.1).getD 0 0 : Nat)).size (dm (K : Int) (M : Int) (G : Int) p.1) p.2.1)) else none)) else none) else some (2,[])) r ∧ r.2.length ≤ 64 ∧ (r.1 = 0 → ∃ n data,1 ≤ n ∧ n ≤ 4096 ∧ data.length = K ∧ (∀ j : Nat,j < data.length → (rdOf ByteArray.empty data (j : Int)).size = n) ∧ r.2 = encV K M G n data):=by
 have hs:=hF.s
 have hk1:=hF.k1
 have hn : l.length ≤ 64:=by omega
 have hvl : (l.map fun s=>s.f0).length = K + M + G:=by rw [List.length_map];exact hl
 have hol:=heldL_len l
 by_cases hok : ∀ x ∈ cC l,okS (fst l) x
 ·have hone : Ev (fun k=>aZ.f k (cC l)) true:=one_ok (by omega) rfl hok (cC l).length 0 (by omega)
  have hlen : Ev (fun k=>bc.f k (l.map fun s=>s.f1) (l.map fun s=>s.f0)) (if cC l = [] then -1 else (fst l : Int)):=len_yes hn hok l.length 0 (-1) (by omega) (.inl ⟨rfl,rfl⟩)
  obtain ⟨hg1,hg2⟩:=basis_greedy (K:=K) (M:=M) (G:=G) (by omega) (l.map fun s=>s.f0) (l.map fun s=>s.f0).length
  have hcnt:=hg1.cnt
  rw [hg2] at hcnt
  have htk : dm (K : Int) (M : Int) (G : Int) (l.map fun s=>s.f0) = da K M G (l.map fun s=>s.f0) (l.map fun s=>s.f0).length:=by unfold dm;exact hg2
  have htake : Ev (fun k=>aH.f k (K : Int) (M : Int) (G : Int) (l.map fun s=>s.f0)) (if (da K M G (l.map fun s=>s.f0) (l.map fun s=>s.f0).length).length < K then [] else (da K M G (l.map fun s=>s.f0) (l.map fun s=>s.f0).length).map Int.ofNat):=take_loop hF hvl rfl (l.map fun s=>s.f0).length 0 [] (by omega) (rep_nil _ _)
  obtain ⟨hle,hmem⟩:=gTake_le K M G (l.map fun s=>s.f0) (l.map fun s=>s.f0).length
  generalize da K M G (l.map fun s=>s.f0) (l.map fun s=>s.f0).length = T at hcnt htk htake hle hmem
  have hany : cC l = [] → (l.any fun s=>s.f0) = false:=fun e=>by
   rw [List.any_eq_false]
   intro s hs2 h0
   obtain ⟨i,hi,rfl⟩:=List.getElem_of_mem hs2
   have : l[i].f1 ∈ cC l:=heldL_mem.2 ⟨i,hi,h0,rfl⟩
   rw [e] at this
   cases this
  have hb0 : (if (if cC l = [] then -1 else (fst l : Int)) < 0 then l.any (fun s=>s.f0) else false) = false:=by
   by_cases e : cC l = []
   ·rw [if_pos e,if_pos (by decide)];exact hany e
   ·rw [if_neg e,if_neg (by omega)]
  have spine : ∀ r,Ev (fun k=>aq.j2 k (l.map fun s=>s.f1) (l.map fun s=>s.f0) (if cC l = [] then -1 else (fst l : Int)) false (K : Int) (M : Int) (G : Int)) r → Ev (fun k=>aq.j0 k l false (K : Int) (M : Int) (G : Int)) r:=fun r h=>by
   refine Ev.step (fun k=>by rw [aq.j0]) (Ev.ifF (by decide) (Ev.bind (split_f l hn) (Ev.bind hlen ?_)))
   refine some_loop hn ?_ l.length 0 (by omega)
   rw [hb0];exact h
  by_cases cK : T.length < K
  ·refine ⟨(8,[]),spine _ ?_,?_,by simp,fun e=>absurd e (by decide)⟩
   ·rw [if_pos cK] at htake
    exact Ev.step (fun k=>by rw [aq.j2]) (Ev.ifF (by decide) (Ev.bind htake (Ev.ifT rfl (Ev.now _))))
   ·refine Ev.bind (heldOf_f l hn) (Ev.bind hone (Ev.ifT rfl ?_))
    dsimp only
    rw [htk,hvl]
    exact Ev.ifT ⟨rfl,by rw [List.length_map];exact hl⟩ (Ev.ifT cK (Ev.now _))
  ·have hT : T.length = K:=by omega
   rw [if_neg cK] at htake
   have hTm : ∀ t ∈ T,∃ h : t < l.length,l[t].f0 = true:=fun t m=>by
    obtain ⟨m1,m2⟩:=hmem t m
    rw [List.length_map] at m1
    rw [rd_hv m1] at m2
    exact ⟨m1,m2⟩
   have hx1 : ∀ t ∈ T,rdOf ByteArray.empty (l.map tx0) (t : Int) = rdOf ByteArray.empty (l.map fun s=>s.f1) (t : Int):=fun t m=>by
    obtain ⟨h1,h2⟩:=hTm t m
    rw [rd_tx h1,rd_get (by simpa using h1),List.getElem_map]
    exact if_pos h2
   have hsz : ∀ t ∈ T,(rdOf ByteArray.empty (l.map fun s=>s.f1) (t : Int)).size = fst l:=fun t m=>by
    obtain ⟨h1,h2⟩:=hTm t m
    rw [rd_tx h1]
    exact (hok _ (heldL_mem.2 ⟨t,h1,h2,rfl⟩)).2.2
   have hgd : ∀ r,r < K → T.getD r 0 ∈ T:=fun r hr=>getD_mem 0 (by omega)
   have hne : cC l ≠ []:=fun e=>by
    obtain ⟨h1,h2⟩:=hTm _ (hgd 0 (by omega))
    have : l[T.getD 0 0].f1 ∈ cC l:=heldL_mem.2 ⟨_,h1,h2,rfl⟩
    rw [e] at this
    cases this
   have hn4 : fst l ≤ 4096:=by
    obtain ⟨h1,h2⟩:=hTm _ (hgd 0 (by omega))
    have:=hok _ (heldL_mem.2 ⟨_,h1,h2,rfl⟩)
    unfold okS at this
    omega
   have hn1 : 1 ≤ fst l:=by
    obtain ⟨h1,h2⟩:=hTm _ (hgd 0 (by omega))
    have:=hok _ (heldL_mem.2 ⟨_,h1,h2,rfl⟩)
    unfold okS at this
    omega
   have hev : cf T (l.map tx0) = cf T (l.map fun s=>s.f1):=List.map_congr_left fun t m=>hx1 t m
   have hdv : ck K M G (fst l) T (l.map tx0) = ck K M G (fst l) T (l.map fun s=>s.f1):=by unfold ck datumV;rw [hev]
   have hdl : (ck K M G (fst l) T (l.map fun s=>s.f1)).length = K:=by simp [ck]
   have hds : ∀ j : Nat,j < (ck K M G (fst l) T (l.map fun s=>s.f1)).length → (rdOf ByteArray.empty (ck K M G (fst l) T (l.map fun s=>s.f1)) (j : Int)).size = fst l:=fun j hj=>by
    rw [rd_get hj]
    simp only [ck,List.getElem_map,List.getElem_range]
    unfold datumV
    rw [strOfNums_size];simp
   have hdf:=data_f (n:=fst l) hF (show (l.map fun s=>s.f1).length = K + M + G by rw [List.length_map];exact hl) hT (fun t m=>by have:=(hTm t m).1;omega) (by rw [hT] at hcnt;exact hcnt) hn4 (fun j hj=>by
    rw [taken_len] at hj
    rw [rd_get (by rw [taken_len];exact hj)]
    simp only [cf,List.getElem_map]
    exact hsz _ (List.getElem_mem hj))
   generalize hdd : ck K M G (fst l) T (l.map fun s=>s.f1) = dd at hdv hdl hds hdf
   refine ⟨(0,encV K M G (fst l) dd),spine _ ?_,?_,by rw [dI];omega,fun _=>⟨fst l,dd,hn1,hn4,hdl,hds,rfl⟩⟩
   ·refine Ev.step (fun k=>by rw [aq.j2]) (Ev.ifF (by decide) (Ev.bind htake ?_))
    refine Ev.ifF (by rw [List.length_map];omega) ?_
    rw [if_neg hne]
    exact Ev.bind hdf (Ev.bind (spec_all hF hdl hn4 hds) (Ev.now _))
   ·refine Ev.bind (heldOf_f l hn) (Ev.bind hone (Ev.ifT rfl ?_))
    dsimp only
    rw [htk,hvl]
    have h0 : (rdOf ByteArray.empty (l.map tx0) (T.getD 0 0 : Nat)).size = fst l:=by rw [hx1 _ (hgd 0 (by omega))];exact hsz _ (hgd 0 (by omega))
    refine Ev.ifT ⟨rfl,by rw [List.length_map];exact hl⟩ (Ev.ifF cK ?_)
    rw [h0,hdv]
    exact Ev.ifT ⟨hT,fun r hr=>by rw [List.length_map];exact (hTm _ (hgd r hr)).1,fun r hr=>by rw [hx1 _ (hgd r hr)];exact hsz _ (hgd r hr),hn4⟩ (Ev.now _)
 ·obtain ⟨x,hx⟩:=Classical.not_forall.1 hok
  obtain ⟨hx,hb⟩:=Classical.not_imp.1 hx
  obtain ⟨j,hj,rfl⟩:=List.getElem_of_mem hx
  obtain ⟨i,hi,h0,he⟩:=heldL_mem.1 hx
  have hone : Ev (fun k=>aZ.f k (cC l)) false:=one_bad (by omega) rfl hj hb j 0 (by omega)
  have hlen : Ev (fun k=>bc.f k (l.map fun s=>s.f1) (l.map fun s=>s.f0)) (-1):=len_no hn hi h0 (by rw [he];exact hb) i 0 (-1) (by omega) (.inl ⟨rfl,rfl⟩)
  have hany : (l.any fun s=>s.f0) = true:=List.any_eq_true.2 ⟨l[i],List.getElem_mem hi,h0⟩
  refine ⟨(2,[]),?_,?_,by simp,fun e=>absurd e (by decide)⟩
  ·refine Ev.step (fun k=>by rw [aq.j0]) (Ev.ifF (by decide) (Ev.bind (split_f l hn) (Ev.bind hlen ?_)))
   refine some_loop hn ?_ l.length 0 (by omega)
   rw [if_pos (by decide),hany]
   exact Ev.step (fun k=>by rw [aq.j2]) (Ev.ifT rfl (Ev.now _))
  ·exact Ev.bind (heldOf_f l hn) (Ev.bind hone (Ev.ifF (by decide) (Ev.now _)))
theorem both_f (a b c : Int) (l : List S61) : ∃ r : Int × List ByteArray,Ev (fun k=>aq.f k a b c l) r ∧ Ev (fun k=>bH.f k a b c l) r ∧ r.2.length ≤ 64 ∧ (r.1 = 0 → ∃ K M G n data,Fine K M G ∧ a = (K : Int) ∧ b = (M : Int) ∧ c = (G : Int) ∧ 1 ≤ n ∧ n ≤ 4096 ∧ data.length = K ∧ (∀ j : Nat,j < data.length → (rdOf ByteArray.empty data (j : Int)).size = n) ∧ r.2 = encV K M G n data):=by
 obtain ⟨t,ht⟩:=fault_some a b c
 have ht2 : bd.f a b c = some t:=by rw [fault_same];exact ht
 have hj : Ev (fun k=>aq.j0 k l true a b c) (1,[]):=Ev.step (fun k=>by rw [aq.j0,if_pos rfl]) (Ev.now _)
 by_cases h0 : t = 0
 ·subst h0
  obtain ⟨f1,f2,f3,f4,f5,f6,f7⟩:=fault_okD ht
  obtain ⟨K,rfl⟩:=Int.eq_ofNat_of_zero_le (show 0 ≤ a by omega)
  obtain ⟨M,rfl⟩:=Int.eq_ofNat_of_zero_le f3
  obtain ⟨G,rfl⟩:=Int.eq_ofNat_of_zero_le f5
  have hF : Fine K M G:=⟨by omega,by omega,by omega,by omega,by omega⟩
  by_cases hl : l.length = K + M + G
  ·obtain ⟨r,h1,h2,h3,h4⟩:=both_fine hF l hl
   refine ⟨r,?_,?_,h3,fun e=>by obtain ⟨n,data,q⟩:=h4 e;exact ⟨K,M,G,n,data,hF,rfl,rfl,rfl,q⟩⟩
   ·unfold aq.f
    refine Ev.bM ht2 (Ev.ifT rfl (Ev.bM (spec_size hF) ?_))
    rw [show ((l.length : Int) != ((K + M + G : Nat) : Int)) = false by rw [hl];simp]
    exact h1
   ·unfold bH.f
    refine Ev.bM ht (Ev.ifT rfl (Ev.bM (impl_size hF) (Ev.ifT (by omega) ?_)))
    simp only [Int.toNat_natCast]
    exact h2
  ·refine ⟨(1,[]),?_,?_,by simp,fun e=>absurd e (by decide)⟩
   ·unfold aq.f
    refine Ev.bM ht2 (Ev.ifT rfl (Ev.bM (spec_size hF) ?_))
    rw [show ((l.length : Int) != ((K + M + G : Nat) : Int)) = true by simp;omega]
    exact hj
   ·unfold bH.f
    exact Ev.bM ht (Ev.ifT rfl (Ev.bM (impl_size hF) (Ev.ifF (by omega) (Ev.now _))))
 ·refine ⟨(1,[]),?_,?_,by simp,fun e=>absurd e (by decide)⟩
  ·unfold aq.f
   exact Ev.bM ht2 (Ev.ifF h0 hj)
  ·unfold bH.f
   exact Ev.bM ht (Ev.ifF h0 (Ev.now _))

theorem n_tot {l : List Int} (hl : Bytes l) (hn : l.length ≤ 1048576) (at_ sz a : Int) (h0 : 0 ≤ at_) (h1 : at_ ≤ 1099511627776) (ha : a ≤ 4611686018427387904) :
  ∃ v,ax.f l at_ sz a = some (v,at_ + 1,sz) ∧ 0 ≤ v ∧ (1 ≤ a → v < a) ∧ (a < 1 → v = 0):=by
 have e1 : wrap64 (at_ + 1) = at_ + 1:=w64 (by omega) (by omega)
 have e2 : wrap64 ((at_ + 1) - 1) = at_:=by rw [show at_ + 1 - 1 = at_ by omega];exact w64 (by omega) (by omega)
 unfold ax.f
 simp only [e1,e2]
 by_cases c1 : a < 1
 ·rw [if_pos c1];exact ⟨0,rfl,by omega,by omega,by omega⟩
 rw [if_neg c1]
 have hmod : ∀ y : Int,0 ≤ y → 0 ≤ Int.tmod y a ∧ Int.tmod y a < a:=fun y hy=>by
  rw [Int.tmod_eq_emod_of_nonneg hy];exact ⟨Int.emod_nonneg _ (by omega),Int.emod_lt_of_pos _ (by omega)⟩
 by_cases c2 : (l.length : Int) = 0
 ·rw [if_pos c2,if_neg (by omega)]
  rw [w64 (x:=at_ * 7) (by omega) (by omega)]
  have:=hmod (at_ * 7) (by omega)
  exact ⟨_,rfl,this.1,fun _=>this.2,by omega⟩
 rw [if_neg c2]
 have hk : (0 : Int) < l.length:=by omega
 have m1 : 0 ≤ Int.tmod at_ l.length ∧ Int.tmod at_ l.length < l.length:=by
  rw [Int.tmod_eq_emod_of_nonneg h0];exact ⟨Int.emod_nonneg _ (by omega),Int.emod_lt_of_pos _ hk⟩
 have q1 : 0 ≤ Int.tdiv at_ l.length ∧ Int.tdiv at_ l.length ≤ at_:=by
  rw [Int.tdiv_eq_ediv_of_nonneg h0];exact ⟨Int.ediv_nonneg h0 (by omega),Int.ediv_le_self _ h0⟩
 rw [if_pos m1.1,if_pos m1.2]
 have b1:=hl.rd (Int.tmod at_ l.length)
 generalize rd l (Int.tmod at_ l.length) = x1 at *
 generalize Int.tdiv at_ l.length = y1 at *
 rw [w64 (x:=x1) (by omega) (by omega),w64 (x:=y1) (by omega) (by omega),w64 (x:=y1 * 37) (by omega) (by omega),w64 (x:=x1 + y1 * 37) (by omega) (by omega)]
 by_cases c3 : a > 200
 ·rw [if_pos c3]
  have m2 : 0 ≤ Int.tmod (at_ + 1) l.length ∧ Int.tmod (at_ + 1) l.length < l.length:=by
   rw [Int.tmod_eq_emod_of_nonneg (by omega)];exact ⟨Int.emod_nonneg _ (by omega),Int.emod_lt_of_pos _ hk⟩
  rw [e1] at *
  rw [if_pos m2.1,if_pos m2.2,if_neg (by omega)]
  have b2:=hl.rd (Int.tmod (at_ + 1) l.length)
  generalize rd l (Int.tmod (at_ + 1) l.length) = x2 at *
  rw [w64 (x:=x2) (by omega) (by omega),w64 (x:=x2 * 13) (by omega) (by omega),w64 (x:=(x1 + y1 * 37) * 251) (by omega) (by omega),w64 (x:=(x1 + y1 * 37) * 251 + x2 * 13) (by omega) (by omega),w64 (x:=(x1 + y1 * 37) * 251 + x2 * 13 + at_) (by omega) (by omega)]
  have:=hmod ((x1 + y1 * 37) * 251 + x2 * 13 + at_) (by omega)
  exact ⟨_,rfl,this.1,fun _=>this.2,by omega⟩
 ·rw [if_neg c3,if_neg (by omega)]
  have:=hmod (x1 + y1 * 37) (by omega)
  exact ⟨_,rfl,this.1,fun _=>this.2,by omega⟩
theorem one_tot {l : List Int} (hl : Bytes l) (hn : l.length ≤ 1048576) (at_ sz a : Int) (h0 : 0 ≤ at_) (h1 : at_ ≤ 1099511627776) (ha : a ≤ 4611686018427387904) :
  ∃ b,bw.f l at_ sz a = some (b,at_ + 1,sz):=by
 obtain ⟨v,hv,_⟩:=n_tot hl hn at_ sz a h0 h1 ha
 exact ⟨_,by unfold bw.f;rw [hv];rfl⟩
theorem source_tot {l : List Int} (hn : l.length ≤ 1048576) : ∃ sz,cj.f l = some (l,0,sz) ∧ 0 ≤ sz ∧ sz ≤ 12:=by
 unfold cj.f
 rw [w64 (by omega) (by omega)]
 split
 ·exact ⟨12,rfl,by omega,by omega⟩
 ·exact ⟨_,rfl,by omega,by omega⟩

theorem bt_lit (s : ByteArray) (i : Int) : 0 ≤ bt s i ∧ bt s i ≤ 255:=bt_range s i
theorem bytes_l0 {l : List Int} (hl : Bytes l) (hn : l.length ≤ 1048576) (sz kd : Int) (N : Nat) (hN : N ≤ 1000000) : ∀ (d i : Nat) (x : List Int) (at_ : Int),i + d = N → i ≤ x.length → x.length ≤ 3 * i → Bytes x → 0 ≤ at_ → at_ + 2 * d ≤ 1099511627700 →
  ∃ (y : List Int) (at2 : Int),Ev (fun k=>aN.l0 k (N : Int) x kd (i : Int) l at_ sz) (strOfNums y,at2,sz) ∧ y.length = N ∧ Bytes y ∧ at_ ≤ at2 ∧ at2 ≤ at_ + 2 * d:=by
 intro d
 induction d with
 | zero=>
  intro i x at_ hi h1 h2 hx h0 ha
  by_cases c : (x.length : Int) > (N : Int)
  ·refine ⟨x.take N,at_,Ev.step (f:=fun _=>some (strOfNums (x.take N),at_,sz)) (fun k=>?_) (Ev.now _),by rw [List.length_take];omega,hx.take _,by omega,by omega⟩
   simp only [aN.l0]
   rw [if_neg (by omega),if_pos c,if_pos (by omega),if_pos (by omega),if_pos (by omega)]
   simp
  ·refine ⟨x,at_,Ev.step (f:=fun _=>some (strOfNums x,at_,sz)) (fun k=>?_) (Ev.now _),by omega,hx,by omega,by omega⟩
   simp only [aN.l0]
   rw [if_neg (by omega),if_neg c]
 | succ d ih=>
  intro i x at_ hi h1 h2 hx h0 ha
  have ei : wrap64 ((i : Int) + 1) = ((i + 1 : Nat) : Int):=by rw [w64 (by omega) (by omega)];rfl
  by_cases k0 : kd = 0
  ·obtain ⟨v,hv,v0,v1,_⟩:=n_tot hl hn at_ sz 256 h0 (by omega) (by omega)
   have v1:=v1 (by omega)
   obtain ⟨y,at2,he,hy,hb,g1,g2⟩:=ih (i + 1) (x ++ [v]) (at_ + 1) (by omega) (by simp;omega) (by simp;omega) (hx.append (Bytes.cons (by omega) Bytes.nil)) (by omega) (by omega)
   refine ⟨y,at2,Ev.step (fun k=>?_) he,hy,hb,by omega,by omega⟩
   simp only [aN.l0]
   rw [if_pos (by omega),if_pos k0,hv]
   simp only [Option.bind_some]
   rw [if_pos (by omega),ei,Int.emod_eq_of_lt v0 v1]
  by_cases k1 : kd = 1
  ·obtain ⟨v,hv,v0,v1,_⟩:=n_tot hl hn at_ sz 9 h0 (by omega) (by omega)
   have v1:=v1 (by omega)
   obtain ⟨y,at2,he,hy,hb,g1,g2⟩:=ih (i + 1) (x ++ [bt (⟨#[32,9,61,46,13,10,45,97,95]⟩ : ByteArray) v]) (at_ + 1) (by omega) (by simp;omega) (by simp;omega) (hx.append (Bytes.cons (bt_lit _ _) Bytes.nil)) (by omega) (by omega)
   refine ⟨y,at2,Ev.step (fun k=>?_) he,hy,hb,by omega,by omega⟩
   simp only [aN.l0]
   rw [if_pos (by omega),if_neg k0,if_pos k1,hv]
   simp only [Option.bind_some]
   rw [if_pos v0,if_pos v1,if_pos (by omega),ei]
  by_cases k2 : kd = 2
  ·obtain ⟨b,hb1⟩:=one_tot hl hn at_ sz 12 h0 (by omega) (by omega)
   obtain ⟨v,hv,v0,v1,_⟩:=n_tot hl hn (at_ + 1) sz 95 (by omega) (by omega) (by omega)
   have v1:=v1 (by omega)
   have ev : (wrap64 (32 + v)) % 256 = 32 + v:=by rw [w64 (by omega) (by omega),Int.emod_eq_of_lt (by omega) (by omega)]
   cases b with
   | true=>
    obtain ⟨y,at2,he,hy,hb,g1,g2⟩:=ih (i + 1) (x ++ [13,10] ++ [32 + v]) (at_ + 1 + 1) (by omega) (by simp;omega) (by simp;omega) ((hx.append (Bytes.cons (by omega) (Bytes.cons (by omega) Bytes.nil))).append (Bytes.cons (by omega) Bytes.nil)) (by omega) (by omega)
    refine ⟨y,at2,Ev.step (fun k=>?_) he,hy,hb,by omega,by omega⟩
    simp only [aN.l0]
    rw [if_pos (by omega),if_neg k0,if_neg k1,if_pos k2,hb1]
    simp only [Option.bind_some,if_true]
    rw [if_pos (by simp;omega),hv]
    simp only [Option.bind_some]
    rw [if_pos (by simp;omega),ei,ev]
   | false=>
    obtain ⟨y,at2,he,hy,hb,g1,g2⟩:=ih (i + 1) (x ++ [32 + v]) (at_ + 1 + 1) (by omega) (by simp;omega) (by simp;omega) (hx.append (Bytes.cons (by omega) Bytes.nil)) (by omega) (by omega)
    refine ⟨y,at2,Ev.step (fun k=>?_) he,hy,hb,by omega,by omega⟩
    simp only [aN.l0]
    rw [if_pos (by omega),if_neg k0,if_neg k1,if_pos k2,hb1]
    simp only [Option.bind_some]
    rw [if_neg (by decide),hv]
    simp only [Option.bind_some]
    rw [if_pos (by omega),ei,ev]
  ·obtain ⟨v,hv,v0,v1,_⟩:=n_tot hl hn at_ sz 23 h0 (by omega) (by omega)
   have v1:=v1 (by omega)
   obtain ⟨y,at2,he,hy,hb,g1,g2⟩:=ih (i + 1) (x ++ [bt (⟨#[97,98,99,100,101,102,103,104,32,105,106,107,108,109,110,111,112,46,32,101,116,97,111]⟩ : ByteArray) v]) (at_ + 1) (by omega) (by simp;omega) (by simp;omega) (hx.append (Bytes.cons (bt_lit _ _) Bytes.nil)) (by omega) (by omega)
   refine ⟨y,at2,Ev.step (fun k=>?_) he,hy,hb,by omega,by omega⟩
   simp only [aN.l0]
   rw [if_pos (by omega),if_neg k0,if_neg k1,if_neg k2,hv]
   simp only [Option.bind_some]
   rw [if_pos v0,if_pos v1,if_pos (by omega),ei]
theorem bytes_tot {l : List Int} (hl : Bytes l) (hn : l.length ≤ 1048576) (at_ sz n : Int) (n0 : 0 ≤ n) (n1 : n ≤ 1000000) (h0 : 0 ≤ at_) (h1 : at_ + 2 * n ≤ 1099511627600) :
  ∃ (y : List Int) (at2 : Int),Ev (fun k=>aN.f k l at_ sz n) (strOfNums y,at2,sz) ∧ (y.length : Int) = n ∧ Bytes y ∧ at_ ≤ at2 ∧ at2 ≤ at_ + 2 * n + 1:=by
 obtain ⟨N,rfl⟩:=Int.eq_ofNat_of_zero_le n0
 obtain ⟨kd,hv,_⟩:=n_tot hl hn at_ sz 6 h0 (by omega) (by omega)
 obtain ⟨y,at2,he,hy,hb,g1,g2⟩:=bytes_l0 hl hn sz kd N (by omega) N 0 [] (at_ + 1) (by omega) (by simp) (by simp) Bytes.nil (by omega) (by omega)
 refine ⟨y,at2,?_,by omega,hb,by omega,by omega⟩
 unfold aN.f
 exact Ev.bM hv he

open Go.Proofs.Ytffhbpepppodeaa.Taken (basis_take)
open Go.Proofs.Ytffhbpepppodeaa.Coded (data_again df shard_size)
/-! ### decoding what was decoded -/
def allL (en : List ByteArray) : List S61:=en.map fun t=>⟨true,t⟩
theorem allL_len (en : List ByteArray) : (allL en).length = en.length:=by simp [allL]
theorem allL_hv (en : List ByteArray) : (allL en).map (fun s=>s.f0) = List.replicate en.length true:=by
 apply List.ext_getElem
 ·simp [allL]
 ·intro i h1 h2;simp [allL]
theorem allL_tx (en : List ByteArray) : (allL en).map tx0 = en:=by
 apply List.ext_getElem
 ·simp [allL]
 ·intro i h1 h2;simp [allL,tx0]
theorem allL_held (en : List ByteArray) : cC (allL en) = en:=by
 unfold cC allL
 rw [List.filter_eq_self.2 (fun s m=>by obtain ⟨t,_,rfl⟩:=List.mem_map.1 m;rfl),List.map_map]
 exact List.map_id' _
theorem rd_true {n i : Nat} (h : i < n) : rdOf false (List.replicate n true) (i : Int) = true:=by
 unfold rdOf
 rw [Int.toNat_natCast,List.getD_eq_getElem?_getD,List.getElem?_replicate,if_pos h];rfl
theorem heldT_all {n : Nat} : ∀ i,i ≤ n → df (List.replicate n true) i = List.range i:=fun i hi=>by
 unfold df
 exact List.filter_eq_self.2 fun t m=>rd_true (Nat.lt_of_lt_of_le (List.mem_range.1 m) hi)
theorem basis_stay {K M G : Nat} {hv : List Bool} {i : Nat} (h : (bQ K M G hv i).1.length = K) : ∀ d,bQ K M G hv (i + d) = bQ K M G hv i
 | 0=>rfl
 | d + 1=>by
  have ih:=basis_stay h d
  show bStep K M G hv (bQ K M G hv (i + d)) (i + d) = _
  rw [ih]
  unfold bStep
  rw [if_pos (.inr h)]
theorem enc_take {K M G n : Nat} {data : List ByteArray} (hl : data.length = K) : (encV K M G n data).take K = data:=by
 apply List.ext_getElem
 ·rw [List.length_take,dI];omega
 ·intro j h1 h2
  have hj : j < K:=by omega
  rw [List.getElem_take]
  unfold encV
  rw [List.getElem_map,List.getElem_range]
  unfold dP
  rw [if_pos hj]
  unfold rdOf
  rw [Int.toNat_natCast,List.getD_eq_getElem?_getD,List.getElem?_eq_getElem h2];rfl
theorem enc_rd {K M G n : Nat} {data : List ByteArray} {t : Nat} (h : t < K + M + G) : rdOf ByteArray.empty (encV K M G n data) (t : Int) = dP K M G n data t:=by
 unfold rdOf encV
 rw [Int.toNat_natCast,List.getD_eq_getElem?_getD,List.getElem?_map,List.getElem?_range h];rfl
theorem decode_all {K M G n : Nat} (hF : Fine K M G) {data : List ByteArray} (hl : data.length = K) (h1 : 1 ≤ n) (hn : n ≤ 4096) (hd : ∀ j : Nat,j < data.length → (rdOf ByteArray.empty data (j : Int)).size = n) :
  Ev (fun k=>bH.f k (K : Int) (M : Int) (G : Int) (allL (encV K M G n data))) (0,encV K M G n data):=by
 have hs:=hF.s
 have hk1:=hF.k1
 have hel : (encV K M G n data).length = K + M + G:=dI _ _ _ _ _
 have hsz : ∀ t,(dP K M G n data t).size = n:=shard_size (fun j hj=>hd j (by omega))
 have hall : ∀ x ∈ encV K M G n data,okS n x:=fun x m=>by
  unfold encV at m
  obtain ⟨t,_,rfl⟩:=List.mem_map.1 m
  exact ⟨by rw [hsz];exact h1,by rw [hsz];exact hn,hsz t⟩
 have h0 : (rdOf ByteArray.empty (encV K M G n data) 0).size = n:=by
  have:=enc_rd (K:=K) (M:=M) (G:=G) (n:=n) (data:=data) (t:=0) (by omega)
  rw [show ((0 : Nat) : Int) = 0 from rfl] at this
  rw [this,hsz]
 have hone : Ev (fun k=>aZ.f k (encV K M G n data)) true:=one_ok (by omega) h0 hall (encV K M G n data).length 0 (by omega)
 have hho:=heldOf_f (allL (encV K M G n data)) (by rw [allL_len];omega)
 rw [allL_hv,allL_tx,allL_held,hel] at hho
 have hbk : (bQ K M G (List.replicate (K + M + G) true) (K + M + G)).1 = List.range K:=by
  have e1:=basis_take (G:=G) (M:=M) (hv:=List.replicate (K + M + G) true) (show K + M ≤ 64 by omega) (by rw [heldT_all _ (by omega),List.length_range];omega) K (by omega)
  rw [heldT_all _ (by omega),List.take_of_length_le (by rw [List.length_range];omega)] at e1
  have e2:=basis_stay (K:=K) (M:=M) (G:=G) (hv:=List.replicate (K + M + G) true) (i:=K) (by rw [e1,List.length_range]) (M + G)
  rw [show K + (M + G) = K + M + G by omega] at e2
  rw [e2,e1]
 have htk : dm (K : Int) (M : Int) (G : Int) (List.replicate (K + M + G) true) = List.range K:=by
  unfold dm
  simp only [Int.toNat_natCast,List.length_replicate]
  exact hbk
 have hgd : ∀ r,r < K → (List.range K).getD r 0 = r:=fun r hr=>by rw [List.getD_eq_getElem?_getD,List.getElem?_range hr];rfl
 have hg : ∀ r,r < K → (rdOf ByteArray.empty (encV K M G n data) ((List.range K).getD r 0 : Nat)).size = n:=fun r hr=>by rw [hgd r hr,enc_rd (by omega),hsz]
 unfold bH.f
 refine Ev.bM (impl_fault hF) (Ev.ifT rfl (Ev.bM (impl_size hF) (Ev.ifT (by rw [allL_len,hel]) ?_)))
 refine Ev.bind hho (Ev.bind hone (Ev.ifT rfl ?_))
 simp only [Int.toNat_natCast]
 rw [htk,List.length_replicate,List.length_range,hel]
 refine Ev.ifT ⟨rfl,rfl⟩ (Ev.ifF (by omega) ?_)
 rw [hg 0 (by omega)]
 refine Ev.ifT ⟨rfl,fun r hr=>by rw [hgd r hr];omega,fun r hr=>hg r hr,hn⟩ ?_
 rw [data_again (n:=n) (by omega) hl (fun j hj=>hd j (by omega)) List.length_range List.nodup_range (fun t m=>by have:=List.mem_range.1 m;omega) (fun t m=>enc_rd (by have:=List.mem_range.1 m;omega))]
 exact Ev.now _
/-! ### draws -/
theorem code2_fine {l : List Int} (hl : Bytes l) (hn : l.length ≤ 1048576) (at_ sz : Int) (h0 : 0 ≤ at_) (h1 : at_ ≤ 100000) : ∃ K M G at2,Fine K M G ∧ bo.f l at_ sz = some ((K : Int),(M : Int),(G : Int),at2,sz) ∧ K ≤ 6 ∧ 0 ≤ at2 ∧ at2 ≤ at_ + 4:=by
 obtain ⟨v1,e1,p1,p2,_⟩:=n_tot hl hn at_ sz 6 h0 (by omega) (by omega)
 obtain ⟨v2,e2,q1,q2,_⟩:=n_tot hl hn (at_ + 1) sz 4 (by omega) (by omega) (by omega)
 obtain ⟨b,e3⟩:=one_tot hl hn (at_ + 1 + 1) sz 2 (by omega) (by omega) (by omega)
 have p3:=p2 (by omega)
 have q3:=q2 (by omega)
 obtain ⟨x,rfl⟩:=Int.eq_ofNat_of_zero_le p1
 obtain ⟨y,rfl⟩:=Int.eq_ofNat_of_zero_le q1
 have w1 : wrap64 (1 + (x : Int)) = ((1 + x : Nat) : Int):=by rw [w64 (by omega) (by omega)];omega
 have w2 : wrap64 (((1 + x : Nat) : Int) + 1) = ((1 + x : Nat) : Int) + 1:=w64 (by omega) (by omega)
 obtain ⟨v4,e4,r1,r2,_⟩:=n_tot hl hn (at_ + 1 + 1 + 1) sz (((1 + x : Nat) : Int) + 1) (by omega) (by omega) (by omega)
 have r3:=r2 (by omega)
 obtain ⟨z,rfl⟩:=Int.eq_ofNat_of_zero_le r1
 clear w1 w2
 unfold bo.f
 rw [e1,Option.bind_some]
 dsimp only
 rw [e2,Option.bind_some]
 dsimp only
 rw [e3,Option.bind_some]
 dsimp only
 have w1 : wrap64 (1 + (x : Int)) = ((1 + x : Nat) : Int):=by rw [w64 (by omega) (by omega)];omega
 have w2 : wrap64 (((1 + x : Nat) : Int) + 1) = ((1 + x : Nat) : Int) + 1:=w64 (by omega) (by omega)
 by_cases c : b = true
 ·rw [if_pos c,w1,w2,e4,Option.bind_some]
  clear w1 w2
  exact ⟨1 + x,y,z,at_ + 1 + 1 + 1 + 1,⟨by omega,by omega,by omega,by omega,by omega⟩,rfl,by omega,by omega,by omega⟩
 ·rw [if_neg c,w1]
  clear w1 w2
  exact ⟨1 + x,y,0,at_ + 1 + 1 + 1,⟨by omega,by omega,by omega,by omega,by omega⟩,rfl,by omega,by omega,by omega⟩
theorem any_tot {l : List Int} (hl : Bytes l) (hn : l.length ≤ 1048576) (at_ sz : Int) (h0 : 0 ≤ at_) (h1 : at_ ≤ 100000) : ∃ r,bm.f l at_ sz = some r:=by
 obtain ⟨K,M,G,a2,_,e1,_,p1,p2⟩:=code2_fine hl hn at_ sz h0 h1
 obtain ⟨t,e2,_⟩:=n_tot hl hn a2 sz 12 p1 (by omega) (by omega)
 obtain ⟨v4,e4,q1,q2,_⟩:=n_tot hl hn (a2 + 1) sz 4 (by omega) (by omega) (by omega)
 obtain ⟨v3,e3,r1,r2,_⟩:=n_tot hl hn (a2 + 1) sz 3 (by omega) (by omega) (by omega)
 have q3:=q2 (by omega)
 have r3:=r2 (by omega)
 unfold bm.f
 rw [e1,Option.bind_some]
 dsimp only
 rw [e2,Option.bind_some]
 dsimp only
 by_cases c0 : t = 0
 ·rw [if_pos c0,Option.bind_some,e4,Option.bind_some,if_pos q1,if_pos (by simpa using q3)];exact ⟨_,rfl⟩
 rw [if_neg c0]
 by_cases c1 : t = 1
 ·rw [if_pos c1,Option.bind_some,e3,Option.bind_some,if_pos r1,if_pos (by simpa using r3)];exact ⟨_,rfl⟩
 rw [if_neg c1]
 by_cases c2 : t = 2
 ·rw [if_pos c2,Option.bind_some,e3,Option.bind_some,if_pos r1,if_pos (by simpa using r3)];exact ⟨_,rfl⟩
 rw [if_neg c2]
 by_cases c3 : t = 3
 ·rw [if_pos c3,e3,Option.bind_some];exact ⟨_,rfl⟩
 ·rw [if_neg c3];exact ⟨_,rfl⟩
theorem data_loop {l : List Int} (hl : Bytes l) (hn : l.length ≤ 1048576) (sz : Int) {n K : Nat} (h1 : n ≤ 6) (hK : K ≤ 6) : ∀ (d i : Nat) (acc : List ByteArray) (at_ : Int),i + d = K → acc.length = i → (∀ t ∈ acc,t.size = n) → 0 ≤ at_ → at_ ≤ 1000 + 14 * i →
  ∃ (out : List ByteArray) (at2 : Int),Ev (fun k=>bz.l0 k (K : Int) (n : Int) acc (i : Int) l at_ sz) (out,at2,sz) ∧ out.length = K ∧ (∀ t ∈ out,t.size = n) ∧ 0 ≤ at2 ∧ at2 ≤ 1100
 | 0,i,acc,at_,hd,ha,hs,h0,h2=>⟨acc,at_,Ev.step (f:=fun _=>some (acc,at_,sz)) (fun k=>by rw [bz.l0,if_neg (by omega)]) (Ev.now _),by omega,hs,h0,by omega⟩
 | d + 1,i,acc,at_,hd,ha,hs,h0,h2=>by
  obtain ⟨y,a2,e1,e2,e3,e4,e5⟩:=bytes_tot hl hn at_ sz (n : Int) (by omega) (by omega) h0 (by omega)
  obtain ⟨out,at2,g1,g2,g3,g4,g5⟩:=data_loop hl hn sz h1 hK d (i + 1) (acc ++ [strOfNums y]) a2 (by omega) (by simp [ha]) (fun t m=>by
   rcases List.mem_append.1 m with m|m
   ·exact hs t m
   ·rw [List.mem_singleton.1 m,strOfNums_size];omega) (by omega) (by omega)
  refine ⟨out,at2,?_,g2,g3,g4,g5⟩
  refine Ev.step (fun k=>by rw [bz.l0,suc_w (by omega)]) ?_
  exact Ev.ifT (by omega) (Ev.bind e1 (Ev.ifT (by omega) g1))
theorem data_tot {l : List Int} (hl : Bytes l) (hn : l.length ≤ 1048576) (at_ sz : Int) (h0 : 0 ≤ at_) (h1 : at_ ≤ 900) {K : Nat} (hK : K ≤ 6) : ∃ (n : Nat) (out : List ByteArray) (at2 : Int),1 ≤ n ∧ n ≤ 6 ∧ Ev (fun k=>bz.f k l at_ sz (K : Int)) (out,at2,sz) ∧ out.length = K ∧ (∀ t ∈ out,t.size = n) ∧ 0 ≤ at2 ∧ at2 ≤ 1100:=by
 obtain ⟨v,e1,p1,p2,_⟩:=n_tot hl hn at_ sz 6 h0 (by omega) (by omega)
 have p3:=p2 (by omega)
 obtain ⟨x,rfl⟩:=Int.eq_ofNat_of_zero_le p1
 have w1 : wrap64 (1 + (x : Int)) = ((1 + x : Nat) : Int):=by rw [w64 (by omega) (by omega)];omega
 obtain ⟨out,at2,g1,g2,g3,g4,g5⟩:=data_loop hl hn sz (n:=1 + x) (by omega) hK K 0 [] (at_ + 1) (by omega) rfl (fun t m=>by simp at m) (by omega) (by omega)
 refine ⟨1 + x,out,at2,by omega,by omega,?_,g2,g3,g4,g5⟩
 unfold bz.f
 refine Ev.bM e1 ?_
 dsimp only
 rw [w1]
 exact g1
theorem shards_loop {l : List Int} (hl : Bytes l) (hn : l.length ≤ 1048576) (sz : Int) {en : List ByteArray} (hen : en.length ≤ 64) (hsz : ∀ t ∈ en,t.size ≤ 6) : ∀ (d i : Nat) (acc : List S61) (at_ : Int),i + d = en.length → acc.length = i → (∀ s ∈ acc,s.f1.size ≤ 6) → 0 ≤ at_ → at_ ≤ 2000 + 20 * i →
  ∃ (out : List S61) (at2 : Int),Ev (fun k=>aE.l0 k en acc (i : Int) l at_ sz) (out,at2,sz) ∧ out.length = en.length ∧ (∀ s ∈ out,s.f1.size ≤ 6) ∧ 0 ≤ at2 ∧ at2 ≤ 4000
 | 0,i,acc,at_,hd,ha,hs,h0,h2=>⟨acc,at_,Ev.step (f:=fun _=>some (acc,at_,sz)) (fun k=>by rw [aE.l0,if_neg (by omega)]) (Ev.now _),by omega,hs,h0,by omega⟩
 | d + 1,i,acc,at_,hd,ha,hs,h0,h2=>by
  have hi : i < en.length:=by omega
  obtain ⟨b1,e1⟩:=one_tot hl hn at_ sz 3 h0 (by omega) (by omega)
  obtain ⟨b2,e2⟩:=one_tot hl hn (at_ + 1) sz 2 (by omega) (by omega) (by omega)
  obtain ⟨v,e3,p1,p2,_⟩:=n_tot hl hn (at_ + 1 + 1) sz 4 (by omega) (by omega) (by omega)
  have p3:=p2 (by omega)
  obtain ⟨y,a2,g1,g2,_,g4,g5⟩:=bytes_tot hl hn (at_ + 1 + 1 + 1) sz v p1 (by omega) (by omega) (by omega)
  have hsz2 : (rdOf ByteArray.empty en (i : Int)).size ≤ 6:=by rw [rd_get hi];exact hsz _ (List.getElem_mem hi)
  have step : ∀ (s : S61) (a : Int),s.f1.size ≤ 6 → at_ ≤ a → a ≤ at_ + 20 → ∃ (out : List S61) (at2 : Int),Ev (fun k=>aE.l0 k en (acc ++ [s]) ((i + 1 : Nat) : Int) l a sz) (out,at2,sz) ∧ out.length = en.length ∧ (∀ s ∈ out,s.f1.size ≤ 6) ∧ 0 ≤ at2 ∧ at2 ≤ 4000:=fun s a h3 h4 h5=>
   shards_loop hl hn sz hen hsz d (i + 1) (acc ++ [s]) a (by omega) (by simp [ha]) (fun x m=>by
    rcases List.mem_append.1 m with m|m
    ·exact hs x m
    ·rw [List.mem_singleton.1 m];exact h3) (by omega) (by omega)
  by_cases c1 : b1 = true
  ·by_cases c2 : b2 = true
   ·obtain ⟨out,at2,f1,f2⟩:=step ⟨false,strOfNums y⟩ a2 (by show (strOfNums y).size ≤ 6;rw [strOfNums_size];omega) (by omega) (by omega)
    refine ⟨out,at2,?_,f2⟩
    refine Ev.step (fun k=>by rw [aE.l0,suc_w (by omega)]) ?_
    exact Ev.ifT (by omega) (Ev.ifT (by omega) (Ev.bM e1 (Ev.ifT c1 (Ev.bM e2 (Ev.ifT c2 (Ev.bM e3 (Ev.bind g1 (Ev.ifT (by omega) f1))))))))
   ·obtain ⟨out,at2,f1,f2⟩:=step ⟨false,rdOf ByteArray.empty en (i : Int)⟩ (at_ + 1 + 1) hsz2 (by omega) (by omega)
    refine ⟨out,at2,?_,f2⟩
    refine Ev.step (fun k=>by rw [aE.l0,suc_w (by omega)]) ?_
    exact Ev.ifT (by omega) (Ev.ifT (by omega) (Ev.bM e1 (Ev.ifT c1 (Ev.bM e2 (Ev.ifF c2 (Ev.ifT (by omega) f1))))))
  ·obtain ⟨out,at2,f1,f2⟩:=step ⟨true,rdOf ByteArray.empty en (i : Int)⟩ (at_ + 1) hsz2 (by omega) (by omega)
   refine ⟨out,at2,?_,f2⟩
   refine Ev.step (fun k=>by rw [aE.l0,suc_w (by omega)]) ?_
   exact Ev.ifT (by omega) (Ev.ifT (by omega) (Ev.bM e1 (Ev.ifF c1 (Ev.ifT (by omega) f1))))
theorem shards_tot {l : List Int} (hl : Bytes l) (hn : l.length ≤ 1048576) (at_ sz : Int) (h0 : 0 ≤ at_) (h1 : at_ ≤ 900) {K M G : Nat} (hF : Fine K M G) (hK : K ≤ 6) : ∃ (out : List S61) (at2 : Int),Ev (fun k=>aE.f k l at_ sz (K : Int) (M : Int) (G : Int)) (out,at2,sz) ∧ out.length = K + M + G ∧ (∀ s ∈ out,s.f1.size ≤ 6) ∧ 0 ≤ at2 ∧ at2 ≤ 4000:=by
 have hs:=hF.s
 obtain ⟨n,dt,a2,n1,n2,e1,e2,e3,e4,e5⟩:=data_tot hl hn at_ sz h0 h1 hK
 have hd : ∀ j : Nat,j < dt.length → (rdOf ByteArray.empty dt (j : Int)).size = n:=fun j hj=>by rw [rd_get hj];exact e3 _ (List.getElem_mem hj)
 have hsz : ∀ t,(dP K M G n dt t).size = n:=shard_size (fun j hj=>hd j (by omega))
 obtain ⟨out,at2,g1,g2,g3⟩:=shards_loop hl hn sz (en:=encV K M G n dt) (by rw [dI];exact hs) (fun t m=>by
  unfold encV at m
  obtain ⟨q,_,rfl⟩:=List.mem_map.1 m
  rw [hsz];exact n2) (encV K M G n dt).length 0 [] a2 (by omega) rfl (fun s m=>by simp at m) e4 (by omega)
 rw [dI] at g2
 refine ⟨out,at2,?_,g2,g3⟩
 unfold aE.f
 exact Ev.bind e1 (Ev.bind (spec_encode hF e2 n1 (by omega) hd) g1)
theorem draw_f {l : List Int} (hl : Bytes l) (hn : l.length ≤ 1048576) : ∃ (a b c : Int) (x : List S61),Ev (fun k=>bW.f k l) (a,b,c,x):=by
 obtain ⟨sz,e0,_⟩:=source_tot hn
 obtain ⟨K,M,G,a2,hF,e1,hK,p1,p2⟩:=code2_fine hl hn 0 sz (by omega) (by omega)
 obtain ⟨x,a3,e2,hx,hs,p3,p4⟩:=shards_tot hl hn a2 sz p1 (by omega) hF hK
 obtain ⟨t,e3,_⟩:=n_tot hl hn a3 sz 14 p3 (by omega) (by omega)
 have hk1:=hF.k1
 have hx0 : 0 < x.length:=by omega
 have hz : (bj x 0).f1.size ≤ 6:=by
  have:=rd_sh (l:=x) (i:=0) hx0
  rw [show ((0 : Nat) : Int) = 0 from rfl] at this
  rw [this];exact hs _ (List.getElem_mem hx0)
 have hx0i : 0 < (x.length : Int):=by omega
 have hx1i : 1 ≤ (x.length : Int):=by omega
 have hz1 : (bj x 0).f1.size + 1 ≤ 9223372036854775807:=by omega
 unfold bW.f
 by_cases c0 : t = 0
 ·exact ⟨_,_,_,_,Ev.bM e0 (Ev.bM e1 (Ev.bind e2 (Ev.bM e3 (Ev.ifT c0 (Ev.ifT hx0i (Ev.ifT hz1 (Ev.now _)))))))⟩
 by_cases c1 : t = 1
 ·exact ⟨_,_,_,_,Ev.bM e0 (Ev.bM e1 (Ev.bind e2 (Ev.bM e3 (Ev.ifF c0 (Ev.ifT c1 (Ev.ifT hx1i (Ev.now _)))))))⟩
 by_cases c2 : t = 2
 ·obtain ⟨r,hr⟩:=any_tot hl hn (a3 + 1) sz (by omega) (by omega)
  exact ⟨_,_,_,_,Ev.bM e0 (Ev.bM e1 (Ev.bind e2 (Ev.bM e3 (Ev.ifF c0 (Ev.ifF c1 (Ev.ifT c2 (Ev.bM hr (Ev.now _))))))))⟩
 by_cases c3 : t = 3
 ·obtain ⟨y,a4,g1,_⟩:=bytes_tot hl hn (a3 + 1) sz ((bj x 0).f1.size : Int) (by omega) (by omega) (by omega) (by omega)
  exact ⟨_,_,_,_,Ev.bM e0 (Ev.bM e1 (Ev.bind e2 (Ev.bM e3 (Ev.ifF c0 (Ev.ifF c1 (Ev.ifF c2 (Ev.ifT c3 (Ev.ifT hx0i (Ev.bind g1 (Ev.now _))))))))))⟩
 ·exact ⟨_,_,_,_,Ev.bM e0 (Ev.bM e1 (Ev.bind e2 (Ev.bM e3 (Ev.ifF c0 (Ev.ifF c1 (Ev.ifF c2 (Ev.ifF c3 (Ev.now _))))))))⟩
/-! ### the law -/
theorem again_loop {K M G n : Nat} (hF : Fine K M G) {data : List ByteArray} (hl : data.length = K) (h1 : 1 ≤ n) (hn : n ≤ 4096) (hd : ∀ j : Nat,j < data.length → (rdOf ByteArray.empty data (j : Int)).size = n) :
  ∀ (d i : Nat),i + d = K + M + G → Ev (fun k=>aV.l0 k ((allL (encV K M G n data)).take i) (i : Int) (K : Int) (M : Int) (G : Int) 0 (encV K M G n data)) true
 | 0,i,he=>by
  have hs:=hF.s
  have hel : (encV K M G n data).length = K + M + G:=dI _ _ _ _ _
  refine Ev.step (fun k=>by rw [aV.l0,List.take_of_length_le (by rw [allL_len,hel];omega)]) (Ev.ifF (by omega) ?_)
  refine Ev.bind (decode_all hF hl h1 hn hd) (Ev.bind (texts_same (encV K M G n data) (by omega)) (Ev.ifT rfl (Ev.ifT (by omega) (Ev.ifT (by omega) ?_))))
  rw [Int.toNat_natCast,enc_take hl]
  exact Ev.bind (impl_encode hF hl h1 hn hd) (Ev.bind (texts_same (encV K M G n data) (by omega)) (Ev.now _))
 | d + 1,i,he=>by
  have hs:=hF.s
  have hel : (encV K M G n data).length = K + M + G:=dI _ _ _ _ _
  have IH:=again_loop hF hl h1 hn hd d (i + 1) (by omega)
  have hi : i < (allL (encV K M G n data)).length:=by rw [allL_len,hel];omega
  have hg : (allL (encV K M G n data))[i] = ⟨true,rdOf ByteArray.empty (encV K M G n data) (i : Int)⟩:=by
   rw [rd_get (by omega)]
   simp [allL]
  rw [List.take_succ_eq_append_getElem hi,hg] at IH
  refine Ev.step (fun k=>by rw [aV.l0,suc_w (by omega)]) ?_
  exact Ev.ifT (by omega) (Ev.ifT (by omega) (Ev.ifT (by rw [List.length_take,allL_len,hel];omega) IH))
theorem FnDecoded : aV.Pure:=fun l0 h0=>by
 have hn : Ev (fun k=>aV.f k l0) true:=by
  unfold aV.f
  by_cases c : (l0.length : Int) > 1048576
  ·exact Ev.ifT c (Ev.now _)
  ·obtain ⟨a,b,c2,x,hdraw⟩:=draw_f (l:=l0) (fun y m=>wf_u8 (h0.2 y m)) (by omega)
   obtain ⟨⟨rc,rl⟩,g1,g2,g3,g4⟩:=both_f a b c2 x
   dsimp only at g3 g4
   refine Ev.ifF c (Ev.bind hdraw (Ev.bind g2 (Ev.bind g1 (Ev.ifT rfl (Ev.bind (texts_same rl (by omega)) ?_)))))
   refine Ev.step (fun k=>by rw [aV.j0]) (Ev.ifF (by decide) ?_)
   by_cases e : rc = 0
   ·obtain ⟨K,M,G,n,data,hF,rfl,rfl,rfl,h1,h2,h3,h4,h5⟩:=g4 e
    subst h5
    subst e
    exact Ev.ifT rfl (again_loop hF h3 h1 h2 h4 (K + M + G) 0 (by omega))
   ·exact Ev.ifF e (Ev.now _)
 exact hn.rounds
end Go.Proofs.Ytffhbpepppodeaa.Pure
