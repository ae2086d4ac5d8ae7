import Derived.Test.YtffhbpepppodeaaCauchyFnRepaired
import Derived.Test.YtffhbpepppodeaaPlant6FnRepaired
import Derived.Test.YtffhbpepppodeaaPlant5FnRepaired
import Derived.Test.YtffhbpepppodeaaBytesFnRepaired
namespace Go.Proofs.Ytffhbpepppodeaa.Coded
open Go.RowKit Go.Proofs.YtffhbpepppodeaaW.PrintWords Go.Proofs.YtffhbpepppodeaaW.PrintLast Go.Proofs.YtffhbpepppodeaaW.PrintMore Go.Proofs.Ytffhbpepppodeaa.Base
open Go.Proofs.Ytffhbpepppodeaa.Gf Go.Proofs.Ytffhbpepppodeaa.Reduce Go.Proofs.Ytffhbpepppodeaa.Grid Go.Proofs.Ytffhbpepppodeaa.Field Go.Proofs.Ytffhbpepppodeaa.Elim Go.Proofs.Ytffhbpepppodeaa.Cauchy Go.Proofs.Ytffhbpepppodeaa.Plant Go.Proofs.Ytffhbpepppodeaa.Plant2 Go.Proofs.Ytffhbpepppodeaa.Plant4 Go.Proofs.Ytffhbpepppodeaa.Plant5 Go.Proofs.Ytffhbpepppodeaa.Plant6

theorem ofInt_64 (a : Nat) (ha : a < 512) : (BitVec.ofInt 64 (a : Int)).toNat = a:=by
 rw [BitVec.ofInt_natCast,BitVec.toNat_ofNat];exact Nat.mod_eq_of_lt (by omega)
theorem xor64 (a b : Nat) (ha : a < 512) (hb : b < 512) : Go.bits .xor .i64 (a : Int) (b : Int) = ((a ^^^ b : Nat) : Int):=by
 have hx : a ^^^ b < 2 ^ 9:=Nat.xor_lt_two_pow (by omega) (by omega)
 show IntKind.i64.wrap ((BitVec.ofInt 64 (a : Int) ^^^ BitVec.ofInt 64 (b : Int)).toNat : Int) = _
 rw [BitVec.toNat_xor,ofInt_64 a ha,ofInt_64 b hb]
 have h1 : ((a ^^^ b : Nat) : Int) % 18446744073709551616 = ((a ^^^ b : Nat) : Int):=by omega
 simp only [IntKind.wrap,IntKind.bits,IntKind.signed]
 simp
 omega
abbrev tn (f : Nat → Int) : Nat → Nat:=fun j=>(f j).toNat
theorem tn_byt {f : Nat → Int} (h : BytesF f) : ByV (tn f):=fun j=>by have:=h j;show (f j).toNat < 256;omega
/-! ### the basis -/
theorem dot_one {K : Nat} {r s : Nat → Int} (hr : BytesF r) (hs : BytesF s) {c : Nat → Nat} (hc : ByV c) (h : dot K (tn s) c = 0) : dot K (tn (redOne K r s)) c = dot K (tn r) c:=by
 unfold redOne
 split
 ·rfl
 ·have e : tn (fun j=>Go.bits .xor .u8 (r j) (tmul (r (leadN K s)) (s j))) = fun j=>tn r j ^^^ gm (r (leadN K s)).toNat (tn s j):=by
   funext j
   have h1:=gm_lt (s j).toNat (show (r (leadN K s)).toNat < 256 by have:=hr (leadN K s);omega)
   show (Go.bits .xor .u8 (r j) (tmul (r (leadN K s)) (s j))).toNat = _
   rw [tmul_gm (hr _) (hs j),xor8 (hr j) ⟨by omega,by omega⟩]
   simp
  have hl : (r (leadN K s)).toNat < 256:=by have:=hr (leadN K s);omega
  rw [e,dot_xl K (tn_byt hr) (fun j=>gm_lt _ hl),dot_gm K hl (tn_byt hs) hc,h,gm_zr,Nat.xor_zero]
theorem dot_all {K : Nat} {c : Nat → Nat} (hc : ByV c) : ∀ {S : List (Nat → Int)} {r : Nat → Int},BytesF r → (∀ s ∈ S,BytesF s) → (∀ s ∈ S,dot K (tn s) c = 0) → dot K (tn (redAll K S r)) c = dot K (tn r) c
 | [],_,_,_,_=>rfl
 | s :: S,r,hr,hS,h=>by
  show dot K (tn (redAll K S (redOne K r s))) c = _
  rw [dot_all hc (redOne_byte hr) (fun x m=>hS x (by simp [m])) (fun x m=>h x (by simp [m])),dot_one hr (hS s (by simp)) hc (h s (by simp))]
theorem dot_nrm {K : Nat} {r : Nat → Int} (hr : BytesF r) (hl : leadN K r < K) {c : Nat → Nat} (hc : ByV c) : dot K (tn (nrm K r)) c = 0 ↔ dot K (tn r) c = 0:=by
 have hi:=invN_lt (r (leadN K r)).toNat
 have e : tn (nrm K r) = fun j=>gm (invN (r (leadN K r)).toNat) (tn r j):=by
  funext j
  show (tmul (r j) (tinv (r (leadN K r)))).toNat = _
  rw [tinv_gm (hr _),tmul_gm (hr j) ⟨by omega,by omega⟩]
  simp only [Int.toNat_natCast]
  exact gm_comm (tn_byt hr j) hi
 rw [e,dot_gm K hi (tn_byt hr) hc]
 have h0 : invN (r (leadN K r)).toNat ≠ 0:=fun e0=>by
  have h1:=hr (leadN K r)
  have h2:=inv_all (r (leadN K r)).toNat (by omega) (by have:=leadN_ne hl;omega)
  rw [e0,gm_zl] at h2;omega
 exact ⟨fun h=>gm_nz hi (dot_lt (tn_byt hr)) h h0,fun h=>by rw [h,gm_zr]⟩
theorem dot_zero {K : Nat} {r : Nat → Int} (h : leadN K r = K) (c : Nat → Nat) : dot K (tn r) c = 0:=sumN_zero K fun j hj=>by
 show gm (r j).toNat (c j) = 0
 rw [leadN_lt (K:=K) (f:=r) (j:=j) (by omega)]
 exact gm_zl _
structure BInv (K M G : Nat) (st : BSt) : Prop where
 byt : ∀ s ∈ st.2,BytesF s
 ker : ∀ c,ByV c → ((∀ s ∈ st.2,dot K (tn s) c = 0) ↔ ∀ t ∈ st.1,dot K (tn (rowN K M G t)) c = 0)
theorem bstep_inv {K M G : Nat} (hN : K + M ≤ 64) {hv : List Bool} {st : BSt} (h : BInv K M G st) (i : Nat) : BInv K M G (bStep K M G hv st i):=by
 unfold bStep
 split
 ·exact h
 ·split
  ·exact h
  ·rename_i _ hl
   have hR : BytesF (redAll K st.2 (rowN K M G i)):=redAll_byte (rowN_byte hN)
   have hl2 : leadN K (redAll K st.2 (rowN K M G i)) < K:=by have:=leadN_le K (redAll K st.2 (rowN K M G i));omega
   refine ⟨fun s m=>?_,fun c hc=>?_⟩
   ·rcases List.mem_append.1 m with m|m
    ·exact h.byt s m
    ·rw [List.mem_singleton.1 m];exact nrm_byte hR
   ·constructor
    ·intro H t m
     have H1 : ∀ s ∈ st.2,dot K (tn s) c = 0:=fun s m=>H s (List.mem_append_left _ m)
     rcases List.mem_append.1 m with m|m
     ·exact (h.ker c hc).1 H1 t m
     ·rw [List.mem_singleton.1 m]
      have H2:=H _ (List.mem_append_right _ (List.mem_singleton_self _))
      rw [dot_nrm hR hl2 hc,dot_all hc (rowN_byte hN) h.byt H1] at H2
      exact H2
    ·intro H s m
     have H1 : ∀ s ∈ st.2,dot K (tn s) c = 0:=(h.ker c hc).2 fun t m=>H t (List.mem_append_left _ m)
     rcases List.mem_append.1 m with m|m
     ·exact H1 s m
     ·rw [List.mem_singleton.1 m,dot_nrm hR hl2 hc,dot_all hc (rowN_byte hN) h.byt H1]
      exact H _ (List.mem_append_right _ (List.mem_singleton_self _))
/-! ### the data again -/
def dcol (K : Nat) (data : List ByteArray) (i : Nat) : Nat → Nat:=fun j=>if j < K then (bt (rdOf ByteArray.empty data (j : Int)) (i : Int)).toNat else 0
theorem bt_byte (s : ByteArray) (i : Int) : 0 ≤ bt s i ∧ bt s i ≤ 255:=by rw [← rd_bytesOf];exact (Bytes.of s).rd i
theorem dcol_byt (K : Nat) (data : List ByteArray) (i : Nat) : ByV (dcol K data i):=fun j=>by
 have:=bt_byte (rdOf ByteArray.empty data (j : Int)) (i : Int)
 unfold dcol
 split
 ·omega
 ·omega
theorem mix_sum {row : List Int} {K : Nat} (hr : ∀ j : Nat,j < K → 0 ≤ rd row (j : Int) ∧ rd row (j : Int) ≤ 255) (data : List ByteArray) (i : Nat) : mixN row data K i = ((sumN (fun j=>gm (rd row (j : Int)).toNat (bt (rdOf ByteArray.empty data (j : Int)) (i : Int)).toNat) K : Nat) : Int):=by
 induction K with
 | zero=>rfl
 | succ K ih=>
  have ih:=ih fun j hj=>hr j (by omega)
  have h1:=hr K (by omega)
  have hb:=bt_byte (rdOf ByteArray.empty data (K : Int)) (i : Int)
  have hm:=mixN_byte row data K i
  have hg:=gm_lt (bt (rdOf ByteArray.empty data (K : Int)) (i : Int)).toNat (show (rd row (K : Int)).toNat < 256 by omega)
  unfold mixN
  show _ = ((sumN _ K ^^^ gm (rd row (K : Int)).toNat (bt (rdOf ByteArray.empty data (K : Int)) (i : Int)).toNat : Nat) : Int)
  by_cases c : rd row (K : Int) = 0
  ·rw [if_pos c,ih]
   have e : (rd row (K : Int)).toNat = 0:=by rw [c];rfl
   rw [e,gm_zl,Nat.xor_zero]
  ·rw [if_neg c,tmul_gm h1 hb,xor8 hm ⟨by omega,by omega⟩,ih]
   simp only [Int.toNat_natCast]
theorem bt_str {f : Nat → Int} (hf : ∀ i,0 ≤ f i ∧ f i ≤ 255) {n i : Nat} (h : i < n) : bt (strOfNums ((List.range n).map f)) (i : Int) = f i:=by
 rw [bt_bytes,bytesOf_str (fun x m=>by obtain ⟨j,_,rfl⟩:=List.mem_map.1 m;exact hf j),List.getD_eq_getElem?_getD,List.getElem?_map,List.getElem?_range h]
 rfl
theorem str_ext {f : Nat → Int} (hf : ∀ i,0 ≤ f i ∧ f i ≤ 255) {n : Nat} {s : ByteArray} (hs : s.size = n) (h : ∀ i,i < n → f i = bt s (i : Int)) : strOfNums ((List.range n).map f) = s:=by
 apply bytesOf_inj
 rw [bytesOf_str (fun x m=>by obtain ⟨j,_,rfl⟩:=List.mem_map.1 m;exact hf j)]
 apply List.ext_getElem
 ·rw [List.length_map,List.length_range,bytesOf_length,hs]
 ·intro i h1 h2
  rw [List.length_map,List.length_range] at h1
  rw [List.getElem_map,List.getElem_range,h i h1,bt_bytes,List.getD_eq_getElem?_getD,List.getElem?_eq_getElem h2]
  rfl
theorem shard_size {K M G n : Nat} {data : List ByteArray} (hd : ∀ j,j < K → (rdOf ByteArray.empty data (j : Int)).size = n) (t : Nat) : (shardV K M G n data t).size = n:=by
 unfold shardV
 split
 ·exact hd t ‹_›
 ·rw [strOfNums_size];simp
theorem sumN_swap (f : Nat → Nat → Nat) (C : Nat) : ∀ R,sumN (fun a=>sumN (fun j=>f a j) C) R = sumN (fun j=>sumN (fun a=>f a j) R) C
 | 0=>(sumN_zero C fun _ _=>rfl).symm
 | R + 1=>by
  show sumN (fun a=>sumN (fun j=>f a j) C) R ^^^ sumN (fun j=>f R j) C = sumN (fun j=>sumN (fun a=>f a j) R ^^^ f R j) C
  rw [sumN_swap f C R,sumN_xor]
theorem dot_dot {K : Nat} {x d : Nat → Nat} {m : Nat → Nat → Nat} (hx : ByV x) (hd : ByV d) (hm : ByM m) : dot K x (fun a=>dot K (m a) d) = dot K (fun j=>dot K x (fun a=>m a j)) d:=by
 unfold dot
 have e1 : ∀ a,gm (x a) (sumN (fun j=>gm (m a j) (d j)) K) = sumN (fun j=>gm (gm (x a) (m a j)) (d j)) K:=fun a=>by
  rw [sumN_gm];exact sumN_congr K fun j _=>(gm_assoc (hx a) (hm a j) (hd j)).symm
 have e2 : ∀ j,gm (sumN (fun a=>gm (x a) (m a j)) K) (d j) = sumN (fun a=>gm (gm (x a) (m a j)) (d j)) K:=fun j=>by
  rw [gm_comm (sumN_lt (fun a=>gm_lt _ (hx a)) K) (hd j),sumN_gm]
  exact sumN_congr K fun a _=>gm_comm (hd j) (gm_lt _ (hx a))
 rw [sumN_congr K fun a _=>e1 a,sumN_swap,sumN_congr K fun j _=>(e2 j).symm]
theorem dot_cut {K : Nat} {r c : Nat → Nat} : dot K r c = dot K r (fun j=>if j < K then c j else 0):=sumN_congr K fun j hj=>by show gm _ _ = gm _ (if _ then _ else _);rw [if_pos hj]
end Go.Proofs.Ytffhbpepppodeaa.Coded
