import Derived.Test.YtffhbpepppodeaaPureCodeFnRepaired
import Derived.Test.YtffhbpepppodeaaRepair2FnRepaired
namespace Go.Proofs.Ytffhbpepppodeaa.Pure
open Go.RowKit Go.Proofs.Ytffhbpepppodeaa.PFnRepaired Go.Proofs.Ytffhbpepppodeaa.Base Go.Proofs.YtffhbpepppodeaaW.PrintWords Go.Proofs.YtffhbpepppodeaaW.PrintLast Go.Proofs.YtffhbpepppodeaaW.PrintMore
open Go.Proofs.Ytffhbpepppodeaa.Gf Go.Proofs.Ytffhbpepppodeaa.Reduce Go.Proofs.Ytffhbpepppodeaa.Grid Go.Proofs.Ytffhbpepppodeaa.Field Go.Proofs.Ytffhbpepppodeaa.Elim Go.Proofs.Ytffhbpepppodeaa.Cauchy Go.Proofs.Ytffhbpepppodeaa.Plant Go.Proofs.Ytffhbpepppodeaa.Plant2 Go.Proofs.Ytffhbpepppodeaa.Plant4 Go.Proofs.Ytffhbpepppodeaa.Plant5 Go.Proofs.Ytffhbpepppodeaa.Plant6
open Go.Proofs.Ytffhbpepppodeaa.Coded (bt_byte bt_str str_ext mix_sum shard_size dcol dcol_byt)

open Go.Proofs.Ytffhbpepppodeaa.Repair Go.Proofs.Ytffhbpepppodeaa.Repair2
open Go.Proofs.Ytffhbpepppodeaa.Greedy (rk gTake gStep gTake_le basis_greedy)
open Go.Proofs.Ytffhbpepppodeaa.Coded (tn tn_byt dot_dot)

/-! ### what is made again -/
theorem shard_any {K M G n : Nat} (hF : Fine K M G) {data : List ByteArray} (hd : ∀ j : Nat,j < K → (rdOf ByteArray.empty data (j : Int)).size = n) (t : Nat) {i : Nat} (hi : i < n) : (bt (shardV K M G n data t) (i : Int)).toNat = dot K (tn (rowN K M G t)) (dcol K data i):=by
 have hN : K + M ≤ 64:=by have:=hF.s;omega
 have hb : ∀ j : Nat,j < K → 0 ≤ rd (rowV K M G t) (j : Int) ∧ rd (rowV K M G t) (j : Int) ≤ 255:=fun j hj=>by rw [rowV_rd _ _ _ _ _ hj];exact rowF_byte hN hj
 rw [← row_data hF hd t,bt_str (fun i=>mixN_byte _ _ _ i) hi,mix_sum hb,Int.toNat_natCast]
 refine sumN_congr K fun j hj=>?_
 show gm _ _ = gm (rowN K M G t j).toNat (dcol K data i j)
 unfold rowN dcol
 rw [if_pos hj,if_pos hj,rowV_rd _ _ _ _ _ hj]
theorem data_full {K M G n : Nat} (hF : Fine K M G) {data : List ByteArray} (hl : data.length = K) (hd : ∀ j : Nat,j < K → (rdOf ByteArray.empty data (j : Int)).size = n) {T : List Nat} (hT : T.length = K) (hf : cnt (rk K M G T) K K K = K)
  {texts : List ByteArray} (hx : ∀ t ∈ T,rdOf ByteArray.empty texts (t : Int) = shardV K M G n data t) : dataV K M G n T texts = data:=by
 have hN : K + M ≤ 64:=by have:=hF.s;omega
 have hM:=takM_byt (G:=G) hN T
 have hI : Bytes2 (invT_ K M G T):=(redS_good hM idM_byt K (Nat.le_refl _)).2.2
 have main : ∀ r,r < K → datumV K M G n T texts r = rdOf ByteArray.empty data (r : Int):=fun r hr=>by
  unfold datumV
  have hrd : ∀ j : Nat,j < K → rd ((List.range K).map (invT_ K M G T r)) (j : Int) = invT_ K M G T r j:=fun j hj=>by
   unfold rd;rw [Int.toNat_natCast,List.getD_eq_getElem?_getD,List.getElem?_map,List.getElem?_range hj];rfl
  refine str_ext (fun i=>mixN_byte _ _ _ i) (hd r hr) fun i hi=>?_
  rw [mix_sum (fun j hj=>by rw [hrd j hj];exact hI r j)]
  have e1 : sumN (fun j=>gm (rd ((List.range K).map (invT_ K M G T r)) (j : Int)).toNat (bt (rdOf ByteArray.empty (takenV T texts) (j : Int)) (i : Int)).toNat) K = dot K (toN (invT_ K M G T) r) (fun a=>dot K (rk K M G T a) (dcol K data i)):=sumN_congr K fun a ha=>by
   show gm _ _ = gm (invT_ K M G T r a).toNat _
   have e : rdOf ByteArray.empty (takenV T texts) (a : Int) = shardV K M G n data (T.getD a 0):=by
    rw [taken_at (by omega)];exact hx _ (getD_mem 0 (by omega))
   rw [hrd a ha,e,shard_any hF hd _ hi];rfl
  rw [e1,dot_dot (toN_byt hI r) (dcol_byt K data i) (toN_byt hM)]
  have e2 : dot K (fun j=>dot K (toN (invT_ K M G T) r) (fun a=>rk K M G T a j)) (dcol K data i) = dcol K data i r:=dot_id K (dcol_byt K data i) hr _ fun j hj=>(red_inv hM hf r j hr hj).2
  rw [e2]
  unfold dcol
  rw [if_pos hr]
  have:=bt_byte (rdOf ByteArray.empty data (r : Int)) (i : Int)
  omega
 apply List.ext_getElem
 ·simp [dataV,hl]
 ·intro r h1 h2
  have hr : r < K:=by simpa [dataV] using h1
  have:=main r hr
  unfold rdOf at this
  rw [Int.toNat_natCast,List.getD_eq_getElem?_getD,List.getElem?_eq_getElem h2] at this
  simp only [dataV,List.getElem_map,List.getElem_range]
  exact this
theorem far_shard {K M G n lost : Nat} (hF : Fine K M G) {data : List ByteArray} (hl : data.length = K) (hd : ∀ j : Nat,j < K → (rdOf ByteArray.empty data (j : Int)).size = n) {T : List Nat} (hT : T.length = K) (hf : cnt (rk K M G T) K K K = K)
  {texts : List ByteArray} (hx : ∀ t ∈ T,rdOf ByteArray.empty texts (t : Int) = shardV K M G n data t) : farV K M G n lost T texts = shardV K M G n data lost:=by
 unfold farV
 rw [data_full hF hl hd hT hf hx,row_data hF hd]
/-! ### the group -/
theorem sum_getD (f : Nat → Nat) (l : List Nat) : ∀ k,k ≤ l.length → sumN (fun j=>f (l.getD j 0)) k = ls (l.take k) f
 | 0,_=>rfl
 | k + 1,h=>by
  have ih:=sum_getD f l k (by omega)
  show sumN _ k ^^^ f (l.getD k 0) = _
  rw [ih,List.take_succ_eq_append_getElem (by omega),ls_snoc,List.getD_eq_getElem?_getD,List.getElem?_eq_getElem (by omega)];rfl
theorem unit_dot {K M G t : Nat} (h : t < K) {D : Nat → Nat} (hD : ByV D) : dot K (tn (rowN K M G t)) D = D t:=by
 refine dot_id K hD h _ fun j hj=>?_
 show (rowN K M G t j).toNat = _
 unfold rowN rowF
 rw [if_pos hj,if_pos h]
 by_cases e : j = t
 ·rw [if_pos e,if_pos e.symm];rfl
 ·rw [if_neg e,if_neg (Ne.symm e)];rfl
def grD (G g : Nat) (D : Nat → Nat) : Nat → Nat:=fun j=>if j % G = g then D j else 0
theorem loc_dot {K M G g : Nat} {D : Nat → Nat} (hD : ByV D) : dot K (tn (rowN K M G (K + M + g))) D = sumN (grD G g D) K:=sumN_congr K fun j hj=>by
 show gm (rowN K M G (K + M + g) j).toNat (D j) = if j % G = g then D j else 0
 unfold rowN rowF
 rw [if_pos hj,if_neg (by omega),if_neg (by omega),Nat.add_sub_cancel_left]
 by_cases e : j % G = g
 ·rw [if_pos e,if_pos e];exact gm_one (hD j)
 ·rw [if_neg e,if_neg e];exact gm_zl _
theorem inG_iff {G g lost d : Nat} : inG G g lost d = true ↔ d % G = g ∧ d ≠ lost:=by
 unfold inG
 rw [Bool.and_eq_true,Bool.not_eq_true',decide_eq_true_iff,decide_eq_false_iff_not]
theorem group_ls {K M G lost : Nat} (hl : lost < K + M + G) (hne : groupV K M G lost ≠ []) {D : Nat → Nat} (hD : ByV D) : ls (groupV K M G lost) (fun t=>dot K (tn (rowN K M G t)) D) = dot K (tn (rowN K M G lost)) D:=by
 by_cases h0 : G = 0 ∨ K ≤ lost ∧ lost < K + M
 ·exact absurd (by unfold groupV;rw [if_pos h0]) hne
 unfold groupV
 rw [if_neg h0]
 have hm : ∀ t ∈ (List.range K).filter (inG G (groupI K M G lost) lost),dot K (tn (rowN K M G t)) D = D t:=fun t m=>unit_dot (List.mem_range.1 (List.mem_filter.1 m).1) hD
 by_cases c : lost < K
 ·rw [if_pos c,ls_snoc,ls_congr hm,unit_dot c hD]
  show ls _ (fun y=>D y) ^^^ dot K (tn (rowN K M G (K + M + groupI K M G lost))) D = _
  rw [loc_dot hD]
  have hg : groupI K M G lost = lost % G:=by unfold groupI;rw [if_pos c]
  rw [hg]
  have e1 : ls ((List.range K).filter (inG G (lost % G) lost)) (fun y=>D y) = sumN (fun j=>if inG G (lost % G) lost j = true then D j else 0) K:=by
   rw [sum_ls _ (inG G (lost % G) lost) K (fun j _ h=>by rw [if_neg (by rw [h];decide)])]
   exact ls_congr fun y m=>by rw [if_pos (List.mem_filter.1 m).2]
  rw [e1,← sumN_xor,sumN_one K c (fun j hj hne=>?_)]
  ·show (if inG G (lost % G) lost lost = true then D lost else 0) ^^^ (if lost % G = lost % G then D lost else 0) = _
   rw [if_neg (fun h=>(inG_iff.1 h).2 rfl),if_pos rfl,Nat.zero_xor]
  ·show (if inG G (lost % G) lost j = true then D j else 0) ^^^ (if j % G = lost % G then D j else 0) = 0
   by_cases e : j % G = lost % G
   ·rw [if_pos (inG_iff.2 ⟨e,hne⟩),if_pos e,Nat.xor_self]
   ·rw [if_neg (fun h=>e (inG_iff.1 h).1),if_neg e];rfl
 ·rw [if_neg c,List.append_nil,ls_congr hm]
  have hg : groupI K M G lost = lost - (K + M):=by unfold groupI;rw [if_neg c]
  have e : lost = K + M + groupI K M G lost:=by omega
  conv=>rhs;rw [e]
  rw [loc_dot hD,sum_ls (grD G (groupI K M G lost) D) (inG G (groupI K M G lost) lost) K (fun j hj h=>if_neg fun e2=>by rw [inG_iff.2 ⟨e2,by omega⟩] at h;cases h)]
  exact ls_congr fun y m=>(if_pos (inG_iff.1 (List.mem_filter.1 m).2).1).symm
theorem near_shard {K M G n lost : Nat} (hF : Fine K M G) {data : List ByteArray} (hd : ∀ j : Nat,j < K → (rdOf ByteArray.empty data (j : Int)).size = n) (hl : lost < K + M + G) (hne : groupV K M G lost ≠ [])
  {texts : List ByteArray} (hx : ∀ t ∈ groupV K M G lost,rdOf ByteArray.empty texts (t : Int) = shardV K M G n data t) : nearV n (groupV K M G lost) texts = shardV K M G n data lost:=by
 unfold nearV
 refine str_ext (fun i=>mixN_byte _ _ _ i) (shard_size hd lost) fun i hi=>?_
 rw [mix_sum (fun j hj=>by rw [ones_rd hj];decide)]
 have e1 : sumN (fun j=>gm (rd (List.replicate (groupV K M G lost).length (1 : Int)) (j : Int)).toNat (bt (rdOf ByteArray.empty (takenV (groupV K M G lost) texts) (j : Int)) (i : Int)).toNat) (groupV K M G lost).length = sumN (fun j=>dot K (tn (rowN K M G ((groupV K M G lost).getD j 0))) (dcol K data i)) (groupV K M G lost).length:=sumN_congr _ fun j hj=>by
  rw [ones_rd hj,taken_at hj,hx _ (getD_mem 0 hj),← shard_any hF hd _ hi]
  have:=bt_byte (shardV K M G n data ((groupV K M G lost).getD j 0)) (i : Int)
  exact gm_one (by omega)
 rw [e1,sum_getD (fun t=>dot K (tn (rowN K M G t)) (dcol K data i)) _ _ (Nat.le_refl _),List.take_length,group_ls hl hne (dcol_byt K data i),← shard_any hF hd _ hi]
 have:=bt_byte (shardV K M G n data lost) (i : Int)
 omega
end Go.Proofs.Ytffhbpepppodeaa.Pure
