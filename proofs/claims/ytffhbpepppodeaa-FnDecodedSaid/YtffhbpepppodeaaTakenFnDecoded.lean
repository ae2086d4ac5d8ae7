import Derived.Test.YtffhbpepppodeaaCodedFnDecoded
namespace Go.Proofs.Ytffhbpepppodeaa.Taken
open Go.RowKit Go.Proofs.YtffhbpepppodeaaW.PrintWords Go.Proofs.YtffhbpepppodeaaW.PrintLast Go.Proofs.YtffhbpepppodeaaW.PrintMore Go.Proofs.Ytffhbpepppodeaa.Base
open Go.Proofs.Ytffhbpepppodeaa.Gf Go.Proofs.Ytffhbpepppodeaa.Reduce Go.Proofs.Ytffhbpepppodeaa.Grid Go.Proofs.Ytffhbpepppodeaa.Field Go.Proofs.Ytffhbpepppodeaa.Elim Go.Proofs.Ytffhbpepppodeaa.Cauchy Go.Proofs.Ytffhbpepppodeaa.Plant Go.Proofs.Ytffhbpepppodeaa.Plant2 Go.Proofs.Ytffhbpepppodeaa.Plant4 Go.Proofs.Ytffhbpepppodeaa.Plant5 Go.Proofs.Ytffhbpepppodeaa.Plant6 Go.Proofs.Ytffhbpepppodeaa.Coded
theorem held_pre (hv : List Bool) : ∀ (d i : Nat),∃ R,df hv (i + d) = df hv i ++ R
 | 0,i=>⟨[],by simp⟩
 | d + 1,i=>by
  obtain ⟨R,h⟩:=held_pre hv d i
  show ∃ R,df hv ((i + d) + 1) = _
  rw [held_snoc,h]
  split
  ·exact ⟨R ++ [i + d],by rw [List.append_assoc]⟩
  ·exact ⟨R,rfl⟩
theorem held_sub {hv : List Bool} {K i N : Nat} (hi : i ≤ N) (hl : (df hv i).length ≤ K) : df hv i ⊆ (df hv N).take K:=by
 obtain ⟨R,h⟩:=held_pre hv (N - i) i
 rw [Nat.add_sub_cancel' hi] at h
 rw [h,List.take_append,List.take_of_length_le hl]
 exact fun t m=>List.mem_append_left _ m
theorem basis_take {K M G : Nat} (hN : K + M ≤ 64) {hv : List Bool} (hK : K ≤ (df hv (K + M)).length) : ∀ i,i ≤ K + M → (bQ K M G hv i).1 = (df hv i).take K
 | 0,_=>by simp [bQ,df]
 | i + 1,hi=>by
  have ih:=basis_take (G:=G) hN hK i (by omega)
  have inv:=basis_inv (G:=G) hN hv i
  rw [held_snoc]
  show (bStep K M G hv (bQ K M G hv i) i).1 = _
  unfold bStep
  by_cases c : rdOf false hv (i : Int) = true
  ·rw [if_pos c]
   by_cases hf : K ≤ (df hv i).length
   ·rw [if_pos (.inr (by rw [ih,List.length_take];omega)),ih,List.take_append,show K - (df hv i).length = 0 by omega,List.take_zero,List.append_nil]
   ·rw [List.take_of_length_le (by omega)] at ih
    have hH : ((df hv (K + M)).take K).length = K:=by rw [List.length_take];omega
    have nH : ((df hv (K + M)).take K).Nodup:=List.Nodup.sublist (List.take_sublist _ _) (held_nodup hv _)
    have lH : ∀ t ∈ (df hv (K + M)).take K,t < K + M:=fun t m=>(held_mem.1 (List.mem_of_mem_take m)).1
    have hs:=held_sub (hv:=hv) (K:=K) (i:=i + 1) (N:=K + M) hi (by rw [held_snoc,if_pos c,List.length_append,List.length_singleton];omega)
    rw [held_snoc,if_pos c] at hs
    rw [if_neg (by rw [c,ih];exact fun h=>h.elim (fun e=>by cases e) (fun e=>by omega)),List.take_of_length_le (by rw [List.length_append,List.length_singleton];omega),if_neg,← ih]
    intro hz
    have mi : i ∈ (df hv (K + M)).take K:=hs (by simp)
    have hel : (((df hv (K + M)).take K).erase i).length = K - 1:=by rw [List.length_erase_of_mem mi,hH]
    obtain ⟨cc,h1,⟨j,hj,hjn⟩,h3⟩:=few_rows (P:=fun a=>rw_ K ((((df hv (K + M)).take K).erase i).getD a 0)) (fun a b=>rw_lt _ _ _) (R:=K - 1) (C:=K) (by omega)
    have hrow : ∀ t ∈ ((df hv (K + M)).take K).erase i,dot K (rw_ K t) cc = 0:=fun t m=>by
     obtain ⟨a,ha,rfl⟩:=List.getElem_of_mem m
     have : dot K (rw_ K ((((df hv (K + M)).take K).erase i).getD a 0)) cc = 0:=h3 a (by omega)
     rw [List.getD_eq_getElem?_getD,List.getElem?_eq_getElem ha] at this
     exact this
    have hoff : ∀ t ∈ df hv i,dot K (tn (rowN K M G t)) cc = 0:=fun t m=>by
     have hti:=(held_mem.1 m).1
     rw [dot_row hN (by omega)]
     exact hrow t ((List.mem_erase_of_ne (by omega)).2 (hs (List.mem_append_left _ m)))
    rw [← ih] at hoff
    have hS:=(inv.ker cc h1).2 hoff
    have hi0:=dot_all h1 (dG (K:=K) (M:=M) (G:=G) (i:=i) hN) inv.byt hS
    rw [dot_zero hz,dot_row hN (by omega)] at hi0
    refine hjn (any_K (K:=K) (N:=K + M) (by omega) hH nH lH h1 (fun t m=>?_) j hj)
    by_cases e : t = i
    ·rw [e];exact hi0.symm
    ·exact hrow t ((List.mem_erase_of_ne e).2 m)
  ·rw [if_pos (.inl (by simpa using c)),if_neg c];exact ih
end Go.Proofs.Ytffhbpepppodeaa.Taken
