import Derived.Test.YtffhbpepppodeaaCauchyFnDecoded
import Derived.Test.YtffhbpepppodeaaPlant6FnDecoded
import Derived.Test.YtffhbpepppodeaaPlant5FnDecoded
import Derived.Test.YtffhbpepppodeaaBytesFnDecoded
namespace Go.Proofs.Ytffhbpepppodeaa.Coded
open Go.RowKit Go.Proofs.YtffhbpepppodeaaW.PrintWords Go.Proofs.YtffhbpepppodeaaW.PrintLast Go.Proofs.YtffhbpepppodeaaW.PrintMore Go.Proofs.Ytffhbpepppodeaa.Base
open Go.Proofs.Ytffhbpepppodeaa.Gf Go.Proofs.Ytffhbpepppodeaa.Reduce Go.Proofs.Ytffhbpepppodeaa.Grid Go.Proofs.Ytffhbpepppodeaa.Field Go.Proofs.Ytffhbpepppodeaa.Elim Go.Proofs.Ytffhbpepppodeaa.Cauchy Go.Proofs.Ytffhbpepppodeaa.Plant Go.Proofs.Ytffhbpepppodeaa.Plant2 Go.Proofs.Ytffhbpepppodeaa.Plant4 Go.Proofs.Ytffhbpepppodeaa.Plant5 Go.Proofs.Ytffhbpepppodeaa.Plant6

theorem ofInt_64 (a : Nat) (ha : a < 512) : (BitVec.ofInt 64 (a : Int)).toNat = a:=by
 rw [BitVec.ofInt_natCast,BitVec.toNat_ofNat];exact Nat.mod_eq_of_lt (by omega)
theorem xor64 (a b : Nat) (ha : a < 512) (hb : b < 512) : Go.bits .xor .i64 (a : Int) (b : Int) = ((a ^^^ b : Nat) : Int):=by
 have hx : a ^^^ b < 2 ^ 9:=Nat.xor_lt_two_pow (by omega) (by omega)
 show IntKind.i64.wrap ((BitVec.ofInt 64 (a : Int) ^^^ BitVec.ofInt 64 (b : Int)).toNat : Int) = _
 rw [BitVec.toNat_xor,ofInt_64 a ha,ofInt_64 b hb]
 have h1 : ((a ^^^ b : Nat) : Int) % 18446744073709551616 = ((a ^^^ b : Nat) : Int):=by omega
 simp only [IntKind.wrap,IntKind.bits,IntKind.signed]
 simp
 omega
abbrev tn (f : Nat → Int) : Nat → Nat:=fun j=>(f j).toNat
theorem tn_byt {f : Nat → Int} (h : cX f) : ByV (tn f):=fun j=>by have:=h j;show (f j).toNat < 256;omega
theorem row_eq {K M G i j : Nat} (hN : K + M ≤ 64) (hi : i < K + M) (hj : j < K) : tn (rowN K M G i) j = rw_ K i j:=by
 show (rowN K M G i j).toNat = _
 unfold rowN rowF rw_
 rw [if_pos hj]
 by_cases c : i < K
 ·rw [if_pos c,if_pos c];split <;> rfl
 ·rw [if_neg c,if_neg c,if_pos hi]
  unfold rowG v
  have hx : i ^^^ j < 64:=Nat.xor_lt_two_pow (n:=6) (by omega) (by omega)
  rw [xor64 i j (by omega) (by omega),tinv_gm ⟨by omega,by omega⟩]
  simp
theorem dot_congr {C : Nat} {r s c d : Nat → Nat} (h : ∀ j,j < C → r j = s j) (h2 : ∀ j,j < C → c j = d j) : dot C r c = dot C s d:=b9 C fun j hj=>by rw [h j hj,h2 j hj]
theorem dot_row {K M G i : Nat} (hN : K + M ≤ 64) (hi : i < K + M) (c : Nat → Nat) : dot K (tn (rowN K M G i)) c = dot K (rw_ K i) c:=dot_congr (fun j hj=>row_eq hN hi hj) fun _ _=>rfl
/-! ### the basis -/
theorem dot_one {K : Nat} {r s : Nat → Int} (hr : cX r) (hs : cX s) {c : Nat → Nat} (hc : ByV c) (h : dot K (tn s) c = 0) : dot K (tn (dJ K r s)) c = dot K (tn r) c:=by
 unfold dJ
 split
 ·rfl
 ·have e : tn (fun j=>Go.bits .xor .u8 (r j) (tmul (r (bD K s)) (s j))) = fun j=>tn r j ^^^ gm (r (bD K s)).toNat (tn s j):=by
   funext j
   have h1:=cO (s j).toNat (show (r (bD K s)).toNat < 256 by have:=hr (bD K s);omega)
   show (Go.bits .xor .u8 (r j) (tmul (r (bD K s)) (s j))).toNat = _
   rw [tmul_gm (hr _) (hs j),xor8 (hr j) ⟨by omega,by omega⟩]
   simp
  have hl : (r (bD K s)).toNat < 256:=by have:=hr (bD K s);omega
  rw [e,dot_xl K (tn_byt hr) (fun j=>cO _ hl),dot_gm K hl (tn_byt hs) hc,h,dj,Nat.xor_zero]
theorem dot_all {K : Nat} {c : Nat → Nat} (hc : ByV c) : ∀ {S : List (Nat → Int)} {r : Nat → Int},cX r → (∀ s ∈ S,cX s) → (∀ s ∈ S,dot K (tn s) c = 0) → dot K (tn (cI K S r)) c = dot K (tn r) c
 | [],_,_,_,_=>rfl
 | s :: S,r,hr,hS,h=>by
  show dot K (tn (cI K S (dJ K r s))) c = _
  rw [dot_all hc (redOne_byte hr) (fun x m=>hS x (by simp [m])) (fun x m=>h x (by simp [m])),dot_one hr (hS s (by simp)) hc (h s (by simp))]
theorem dot_nrm {K : Nat} {r : Nat → Int} (hr : cX r) (hl : bD K r < K) {c : Nat → Nat} (hc : ByV c) : dot K (tn (nrm K r)) c = 0 ↔ dot K (tn r) c = 0:=by
 have hi:=dr (r (bD K r)).toNat
 have e : tn (nrm K r) = fun j=>gm (invN (r (bD K r)).toNat) (tn r j):=by
  funext j
  show (tmul (r j) (tinv (r (bD K r)))).toNat = _
  rw [tinv_gm (hr _),tmul_gm (hr j) ⟨by omega,by omega⟩]
  simp only [Int.toNat_natCast]
  exact cu (tn_byt hr j) hi
 rw [e,dot_gm K hi (tn_byt hr) hc]
 have h0 : invN (r (bD K r)).toNat ≠ 0:=fun e0=>by
  have h1:=hr (bD K r)
  have h2:=dM (r (bD K r)).toNat (by omega) (by have:=leadN_ne hl;omega)
  rw [e0,gm_zl] at h2;omega
 exact ⟨fun h=>gm_nz hi (dot_lt (tn_byt hr)) h h0,fun h=>by rw [h,dj]⟩
theorem dot_zero {K : Nat} {r : Nat → Int} (h : bD K r = K) (c : Nat → Nat) : dot K (tn r) c = 0:=sumN_zero K fun j hj=>by
 show gm (r j).toNat (c j) = 0
 rw [leadN_lt (K:=K) (f:=r) (j:=j) (by omega)]
 exact gm_zl _
structure BInv (K M G : Nat) (st : BSt) : Prop where
 byt : ∀ s ∈ st.2,cX s
 ker : ∀ c,ByV c → ((∀ s ∈ st.2,dot K (tn s) c = 0) ↔ ∀ t ∈ st.1,dot K (tn (rowN K M G t)) c = 0)
theorem bstep_inv {K M G : Nat} (hN : K + M ≤ 64) {hv : List Bool} {st : BSt} (h : BInv K M G st) (i : Nat) : BInv K M G (bStep K M G hv st i):=by
 unfold bStep
 split
 ·exact h
 ·split
  ·exact h
  ·rename_i _ hl
   have hR : cX (cI K st.2 (rowN K M G i)):=redAll_byte (dG hN)
   have hl2 : bD K (cI K st.2 (rowN K M G i)) < K:=by have:=leadN_le K (cI K st.2 (rowN K M G i));omega
   refine ⟨fun s m=>?_,fun c hc=>?_⟩
   ·rcases List.mem_append.1 m with m|m
    ·exact h.byt s m
    ·rw [List.mem_singleton.1 m];exact nrm_byte hR
   ·constructor
    ·intro H t m
     have H1 : ∀ s ∈ st.2,dot K (tn s) c = 0:=fun s m=>H s (List.mem_append_left _ m)
     rcases List.mem_append.1 m with m|m
     ·exact (h.ker c hc).1 H1 t m
     ·rw [List.mem_singleton.1 m]
      have H2:=H _ (List.mem_append_right _ (List.mem_singleton_self _))
      rw [dot_nrm hR hl2 hc,dot_all hc (dG hN) h.byt H1] at H2
      exact H2
    ·intro H s m
     have H1 : ∀ s ∈ st.2,dot K (tn s) c = 0:=(h.ker c hc).2 fun t m=>H t (List.mem_append_left _ m)
     rcases List.mem_append.1 m with m|m
     ·exact H1 s m
     ·rw [List.mem_singleton.1 m,dot_nrm hR hl2 hc,dot_all hc (dG hN) h.byt H1]
      exact H _ (List.mem_append_right _ (List.mem_singleton_self _))
theorem basis_inv {K M G : Nat} (hN : K + M ≤ 64) (hv : List Bool) : ∀ i,BInv K M G (bQ K M G hv i)
 | 0=>⟨fun s m=>by simp [bQ] at m,fun c _=>⟨fun _ t m=>by simp [bQ] at m,fun _ s m=>by simp [bQ] at m⟩⟩
 | i + 1=>bstep_inv hN (basis_inv hN hv i) i
def df (hv : List Bool) (n : Nat) : List Nat:=(List.range n).filter fun i=>rdOf false hv (i : Int)
theorem held_snoc (hv : List Bool) (n : Nat) : df hv (n + 1) = if rdOf false hv (n : Int) = true then df hv n ++ [n] else df hv n:=by
 unfold df
 rw [List.range_succ,List.filter_append]
 by_cases c : rdOf false hv (n : Int) = true
 ·rw [if_pos c,List.filter_cons_of_pos (by exact c),List.filter_nil]
 ·rw [if_neg c,List.filter_cons_of_neg (by exact c),List.filter_nil,List.append_nil]
theorem held_mem {hv : List Bool} {n t : Nat} : t ∈ df hv n ↔ t < n ∧ rdOf false hv (t : Int) = true:=by
 unfold df;rw [List.mem_filter,List.mem_range]
theorem held_nodup (hv : List Bool) (n : Nat) : (df hv n).Nodup:=List.Nodup.sublist List.filter_sublist List.nodup_range
/-! ### the data again -/
def dcol (K : Nat) (data : List ByteArray) (i : Nat) : Nat → Nat:=fun j=>if j < K then (bt (rdOf ByteArray.empty data (j : Int)) (i : Int)).toNat else 0
theorem bt_byte (s : ByteArray) (i : Int) : 0 ≤ bt s i ∧ bt s i ≤ 255:=by rw [← rd_bytesOf];exact (Bytes.of s).rd i
theorem dcol_byt (K : Nat) (data : List ByteArray) (i : Nat) : ByV (dcol K data i):=fun j=>by
 have:=bt_byte (rdOf ByteArray.empty data (j : Int)) (i : Int)
 unfold dcol
 split
 ·omega
 ·omega
theorem mix_sum {row : List Int} {K : Nat} (hr : ∀ j : Nat,j < K → 0 ≤ rd row (j : Int) ∧ rd row (j : Int) ≤ 255) (data : List ByteArray) (i : Nat) : mixN row data K i = ((sumN (fun j=>gm (rd row (j : Int)).toNat (bt (rdOf ByteArray.empty data (j : Int)) (i : Int)).toNat) K : Nat) : Int):=by
 induction K with
 | zero=>rfl
 | succ K ih=>
  have ih:=ih fun j hj=>hr j (by omega)
  have h1:=hr K (by omega)
  have hb:=bt_byte (rdOf ByteArray.empty data (K : Int)) (i : Int)
  have hm:=mixN_byte row data K i
  have hg:=cO (bt (rdOf ByteArray.empty data (K : Int)) (i : Int)).toNat (show (rd row (K : Int)).toNat < 256 by omega)
  unfold mixN
  show _ = ((sumN _ K ^^^ gm (rd row (K : Int)).toNat (bt (rdOf ByteArray.empty data (K : Int)) (i : Int)).toNat : Nat) : Int)
  by_cases c : rd row (K : Int) = 0
  ·rw [if_pos c,ih]
   have e : (rd row (K : Int)).toNat = 0:=by rw [c];rfl
   rw [e,gm_zl,Nat.xor_zero]
  ·rw [if_neg c,tmul_gm h1 hb,xor8 hm ⟨by omega,by omega⟩,ih]
   simp only [Int.toNat_natCast]
theorem bt_str {f : Nat → Int} (hf : ∀ i,0 ≤ f i ∧ f i ≤ 255) {n i : Nat} (h : i < n) : bt (strOfNums ((List.range n).map f)) (i : Int) = f i:=by
 rw [bt_bytes,bytesOf_str (fun x m=>by obtain ⟨j,_,rfl⟩:=List.mem_map.1 m;exact hf j),List.getD_eq_getElem?_getD,List.getElem?_map,List.getElem?_range h]
 rfl
theorem str_ext {f : Nat → Int} (hf : ∀ i,0 ≤ f i ∧ f i ≤ 255) {n : Nat} {s : ByteArray} (hs : s.size = n) (h : ∀ i,i < n → f i = bt s (i : Int)) : strOfNums ((List.range n).map f) = s:=by
 apply bytesOf_inj
 rw [bytesOf_str (fun x m=>by obtain ⟨j,_,rfl⟩:=List.mem_map.1 m;exact hf j)]
 apply List.ext_getElem
 ·rw [List.length_map,List.length_range,bytesOf_length,hs]
 ·intro i h1 h2
  rw [List.length_map,List.length_range] at h1
  rw [List.getElem_map,List.getElem_range,h i h1,bt_bytes,List.getD_eq_getElem?_getD,List.getElem?_eq_getElem h2]
  rfl
theorem shard_byte {K M G n : Nat} (hN : K + M ≤ 64) (data : List ByteArray) {t i : Nat} (ht : t < K + M) (hi : i < n) : (bt (dP K M G n data t) (i : Int)).toNat = dot K (rw_ K t) (dcol K data i):=by
 unfold dP
 by_cases c : t < K
 ·rw [if_pos c,dot_id K (dcol_byt K data i) c (rw_ K t) (fun l _=>by unfold rw_;rw [if_pos c];by_cases e : t = l <;> simp [e,eq_comm])]
  unfold dcol;rw [if_pos c]
 ·have hb : ∀ j : Nat,j < K → 0 ≤ rd (rowV K M G t) (j : Int) ∧ rd (rowV K M G t) (j : Int) ≤ 255:=fun j hj=>by rw [rowV_rd _ _ _ _ _ hj];exact rowF_byte hN hj
  rw [if_neg c,bt_str (fun i=>mixN_byte _ _ _ i) hi,mix_sum hb,Int.toNat_natCast]
  refine b9 K fun j hj=>?_
  show gm _ _ = gm (rw_ K t j) (dcol K data i j)
  rw [← row_eq (G:=G) hN ht hj]
  unfold dcol tn
  rw [if_pos hj,rowV_rd _ _ _ _ _ hj]
  unfold rowN
  rw [if_pos hj]
theorem shard_size {K M G n : Nat} {data : List ByteArray} (hd : ∀ j,j < K → (rdOf ByteArray.empty data (j : Int)).size = n) (t : Nat) : (dP K M G n data t).size = n:=by
 unfold dP
 split
 ·exact hd t ‹_›
 ·rw [strOfNums_size];simp
theorem sumN_swap (f : Nat → Nat → Nat) (C : Nat) : ∀ R,sumN (fun a=>sumN (fun j=>f a j) C) R = sumN (fun j=>sumN (fun a=>f a j) R) C
 | 0=>(sumN_zero C fun _ _=>rfl).symm
 | R + 1=>by
  show sumN (fun a=>sumN (fun j=>f a j) C) R ^^^ sumN (fun j=>f R j) C = sumN (fun j=>sumN (fun a=>f a j) R ^^^ f R j) C
  rw [sumN_swap f C R,sumN_xor]
theorem dot_dot {K : Nat} {x d : Nat → Nat} {m : Nat → Nat → Nat} (hx : ByV x) (hd : ByV d) (hm : ByM m) : dot K x (fun a=>dot K (m a) d) = dot K (fun j=>dot K x (fun a=>m a j)) d:=by
 unfold dot
 have e1 : ∀ a,gm (x a) (sumN (fun j=>gm (m a j) (d j)) K) = sumN (fun j=>gm (gm (x a) (m a j)) (d j)) K:=fun a=>by
  rw [sumN_gm];exact b9 K fun j _=>(dC (hx a) (hm a j) (hd j)).symm
 have e2 : ∀ j,gm (sumN (fun a=>gm (x a) (m a j)) K) (d j) = sumN (fun a=>gm (gm (x a) (m a j)) (d j)) K:=fun j=>by
  rw [cu (sumN_lt (fun a=>cO _ (hx a)) K) (hd j),sumN_gm]
  exact b9 K fun a _=>cu (hd j) (cO _ (hx a))
 rw [b9 K fun a _=>e1 a,sumN_swap,b9 K fun j _=>(e2 j).symm]
theorem dot_cut {K : Nat} {r c : Nat → Nat} : dot K r c = dot K r (fun j=>if j < K then c j else 0):=b9 K fun j hj=>by show gm _ _ = gm _ (if _ then _ else _);rw [if_pos hj]
theorem data_again {K M G n : Nat} (hN : K + M ≤ 64) {data : List ByteArray} (hl : data.length = K) (hd : ∀ j,j < K → (rdOf ByteArray.empty data (j : Int)).size = n) {T : List Nat} (hT : T.length = K) (nT : T.Nodup) (hT2 : ∀ t ∈ T,t < K + M)
  {texts : List ByteArray} (hx : ∀ t ∈ T,rdOf ByteArray.empty texts (t : Int) = dP K M G n data t) : ck K M G n T texts = data:=by
 have hTk : ∀ a,a < K → T.getD a 0 ∈ T:=fun a ha=>getD_mem 0 (by omega)
 have hM:=takM_byt (G:=G) hN T
 have hq : ∀ a j,a < K → j < K → toN (takM K M G T) a j = rw_ K (T.getD a 0) j:=fun a j ha hj=>row_eq hN (hT2 _ (hTk a ha)) hj
 have hf : cnt (toN (takM K M G T)) K K K = K:=full_cnt (fun c hc hk=>any_K (K:=K) (N:=K + M) (by omega) hT nT hT2 hc fun t m=>by
  obtain ⟨a,ha,rfl⟩:=List.getElem_of_mem m
  have:=hk a (by omega)
  rw [dot_congr (s:=rw_ K (T.getD a 0)) (d:=c) (fun j hj=>hq a j (by omega) hj) (fun _ _=>rfl),List.getD_eq_getElem?_getD,List.getElem?_eq_getElem ha] at this
  exact this) K (Nat.le_refl _)
 have hI : bC (dE K M G T):=(dv hM dW K (Nat.le_refl _)).2.2
 have main : ∀ r,r < K → datumV K M G n T texts r = rdOf ByteArray.empty data (r : Int):=fun r hr=>by
  unfold datumV
  have hrd : ∀ j : Nat,j < K → rd ((List.range K).map (dE K M G T r)) (j : Int) = dE K M G T r j:=fun j hj=>by
   unfold rd;rw [Int.toNat_natCast,List.getD_eq_getElem?_getD,List.getElem?_map,List.getElem?_range hj];rfl
  refine str_ext (fun i=>mixN_byte _ _ _ i) (hd r hr) fun i hi=>?_
  rw [mix_sum (fun j hj=>by rw [hrd j hj];exact hI r j)]
  have e1 : sumN (fun j=>gm (rd ((List.range K).map (dE K M G T r)) (j : Int)).toNat (bt (rdOf ByteArray.empty (cf T texts) (j : Int)) (i : Int)).toNat) K = dot K (toN (dE K M G T) r) (fun a=>dot K (rw_ K (T.getD a 0)) (dcol K data i)):=b9 K fun a ha=>by
   show gm _ _ = gm (dE K M G T r a).toNat _
   have e : rdOf ByteArray.empty (cf T texts) (a : Int) = dP K M G n data (T.getD a 0):=by
    unfold cf rdOf
    rw [Int.toNat_natCast,List.getD_eq_getElem?_getD,List.getElem?_map,List.getElem?_eq_getElem (by omega : a < T.length)]
    have:=hx (T.getD a 0) (hTk a ha)
    rw [List.getD_eq_getElem?_getD,List.getElem?_eq_getElem (by omega : a < T.length)] at this ⊢
    exact this
   rw [hrd a ha,e,shard_byte hN data (hT2 _ (hTk a ha)) hi]
  rw [e1,dot_dot (dy hI r) (dcol_byt K data i) (fun a j=>rw_lt _ _ _)]
  have e2 : dot K (fun j=>dot K (toN (dE K M G T) r) (fun a=>rw_ K (T.getD a 0) j)) (dcol K data i) = dcol K data i r:=dot_id K (dcol_byt K data i) hr _ fun j hj=>by
   rw [dot_congr (s:=toN (dE K M G T) r) (d:=fun a=>toN (takM K M G T) a j) (fun _ _=>rfl) (fun a ha=>(hq a j ha hj).symm)]
   exact (red_inv hM hf r j hr hj).2
  rw [e2]
  unfold dcol
  rw [if_pos hr]
  have:=bt_byte (rdOf ByteArray.empty data (r : Int)) (i : Int)
  omega
 apply List.ext_getElem
 ·simp [ck,hl]
 ·intro r h1 h2
  have hr : r < K:=by simpa [ck] using h1
  have:=main r hr
  unfold rdOf at this
  rw [Int.toNat_natCast,List.getD_eq_getElem?_getD,List.getElem?_eq_getElem h2] at this
  simp only [ck,List.getElem_map,List.getElem_range]
  exact this
end Go.Proofs.Ytffhbpepppodeaa.Coded
