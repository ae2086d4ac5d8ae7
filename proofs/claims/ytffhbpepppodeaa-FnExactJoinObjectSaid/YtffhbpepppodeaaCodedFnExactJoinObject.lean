import Derived.Test.YtffhbpepppodeaaCauchyFnExactJoinObject
import Derived.Test.YtffhbpepppodeaaPlant6FnExactJoinObject
import Derived.Test.YtffhbpepppodeaaPlant5FnExactJoinObject
import Derived.Test.YtffhbpepppodeaaBytesFnExactJoinObject
namespace Go.Proofs.Ytffhbpepppodeaa.Coded
open Go.RowKit Go.Proofs.YtffhbpepppodeaaW.PrintWords Go.Proofs.YtffhbpepppodeaaW.PrintLast Go.Proofs.YtffhbpepppodeaaW.PrintMore Go.Proofs.Ytffhbpepppodeaa.Base
open Go.Proofs.Ytffhbpepppodeaa.Gf Go.Proofs.Ytffhbpepppodeaa.Reduce Go.Proofs.Ytffhbpepppodeaa.Grid Go.Proofs.Ytffhbpepppodeaa.Field Go.Proofs.Ytffhbpepppodeaa.Elim Go.Proofs.Ytffhbpepppodeaa.Cauchy Go.Proofs.Ytffhbpepppodeaa.Plant Go.Proofs.Ytffhbpepppodeaa.Plant2 Go.Proofs.Ytffhbpepppodeaa.Plant4 Go.Proofs.Ytffhbpepppodeaa.Plant5 Go.Proofs.Ytffhbpepppodeaa.Plant6

theorem ofInt_64 (a : Nat) (ha : a < 512) : (BitVec.ofInt 64 (a : Int)).toNat = a:=by
 rw [BitVec.ofInt_natCast,BitVec.toNat_ofNat];exact Nat.mod_eq_of_lt (by omega)
theorem xor64 (a b : Nat) (ha : a < 512) (hb : b < 512) : Go.bits .xor .i64 (a : Int) (b : Int) = ((a ^^^ b : Nat) : Int):=by
 have hx : a ^^^ b < 2 ^ 9:=Nat.xor_lt_two_pow (by omega) (by omega)
 show IntKind.i64.wrap ((BitVec.ofInt 64 (a : Int) ^^^ BitVec.ofInt 64 (b : Int)).toNat : Int) = _
 rw [BitVec.toNat_xor,ofInt_64 a ha,ofInt_64 b hb]
 have h1 : ((a ^^^ b : Nat) : Int) % 18446744073709551616 = ((a ^^^ b : Nat) : Int):=by omega
 simp only [IntKind.wrap,IntKind.bits,IntKind.signed]
 simp
 omega
abbrev tn (f : Nat → Int) : Nat → Nat:=fun j=>(f j).toNat
theorem tn_byt {f : Nat → Int} (h : cN f) : ByV (tn f):=fun j=>by have:=h j;show (f j).toNat < 256;omega
/-! ### the basis -/
theorem dot_one {K : Nat} {r s : Nat → Int} (hr : cN r) (hs : cN s) {c : Nat → Nat} (hc : ByV c) (h : dot K (tn s) c = 0) : dot K (tn (dG K r s)) c = dot K (tn r) c:=by
 unfold dG
 split
 ·rfl
 ·have e : tn (fun j=>Go.bits .xor .u8 (r j) (tmul (r (bx K s)) (s j))) = fun j=>tn r j ^^^ gm (r (bx K s)).toNat (tn s j):=by
   funext j
   have h1:=dr (s j).toNat (show (r (bx K s)).toNat < 256 by have:=hr (bx K s);omega)
   show (Go.bits .xor .u8 (r j) (tmul (r (bx K s)) (s j))).toNat = _
   rw [tmul_gm (hr _) (hs j),xor8 (hr j) ⟨by omega,by omega⟩]
   simp
  have hl : (r (bx K s)).toNat < 256:=by have:=hr (bx K s);omega
  rw [e,dot_xl K (tn_byt hr) (fun j=>dr _ hl),dot_gm K hl (tn_byt hs) hc,h,dE,Nat.xor_zero]
theorem dot_all {K : Nat} {c : Nat → Nat} (hc : ByV c) : ∀ {S : List (Nat → Int)} {r : Nat → Int},cN r → (∀ s ∈ S,cN s) → (∀ s ∈ S,dot K (tn s) c = 0) → dot K (tn (cC K S r)) c = dot K (tn r) c
 | [],_,_,_,_=>rfl
 | s :: S,r,hr,hS,h=>by
  show dot K (tn (cC K S (dG K r s))) c = _
  rw [dot_all hc (redOne_byte hr) (fun x m=>hS x (by simp [m])) (fun x m=>h x (by simp [m])),dot_one hr (hS s (by simp)) hc (h s (by simp))]
theorem dot_nrm {K : Nat} {r : Nat → Int} (hr : cN r) (hl : bx K r < K) {c : Nat → Nat} (hc : ByV c) : dot K (tn (nrm K r)) c = 0 ↔ dot K (tn r) c = 0:=by
 have hi:=dn (r (bx K r)).toNat
 have e : tn (nrm K r) = fun j=>gm (invN (r (bx K r)).toNat) (tn r j):=by
  funext j
  show (tmul (r j) (tinv (r (bx K r)))).toNat = _
  rw [tinv_gm (hr _),tmul_gm (hr j) ⟨by omega,by omega⟩]
  simp only [Int.toNat_natCast]
  exact dD (tn_byt hr j) hi
 rw [e,dot_gm K hi (tn_byt hr) hc]
 have h0 : invN (r (bx K r)).toNat ≠ 0:=fun e0=>by
  have h1:=hr (bx K r)
  have h2:=inv_all (r (bx K r)).toNat (by omega) (by have:=leadN_ne hl;omega)
  rw [e0,gm_zl] at h2;omega
 exact ⟨fun h=>gm_nz hi (dot_lt (tn_byt hr)) h h0,fun h=>by rw [h,dE]⟩
theorem dot_zero {K : Nat} {r : Nat → Int} (h : bx K r = K) (c : Nat → Nat) : dot K (tn r) c = 0:=sumN_zero K fun j hj=>by
 show gm (r j).toNat (c j) = 0
 rw [leadN_lt (K:=K) (f:=r) (j:=j) (by omega)]
 exact gm_zl _
structure BInv (K M G : Nat) (st : BSt) : Prop where
 byt : ∀ s ∈ st.2,cN s
 ker : ∀ c,ByV c → ((∀ s ∈ st.2,dot K (tn s) c = 0) ↔ ∀ t ∈ st.1,dot K (tn (rowN K M G t)) c = 0)
theorem bstep_inv {K M G : Nat} (hN : K + M ≤ 64) {hv : List Bool} {st : BSt} (h : BInv K M G st) (i : Nat) : BInv K M G (bStep K M G hv st i):=by
 unfold bStep
 split
 ·exact h
 ·split
  ·exact h
  ·rename_i _ hl
   have hR : cN (cC K st.2 (rowN K M G i)):=redAll_byte (dI hN)
   have hl2 : bx K (cC K st.2 (rowN K M G i)) < K:=by have:=leadN_le K (cC K st.2 (rowN K M G i));omega
   refine ⟨fun s m=>?_,fun c hc=>?_⟩
   ·rcases List.mem_append.1 m with m|m
    ·exact h.byt s m
    ·rw [List.mem_singleton.1 m];exact nrm_byte hR
   ·constructor
    ·intro H t m
     have H1 : ∀ s ∈ st.2,dot K (tn s) c = 0:=fun s m=>H s (List.mem_append_left _ m)
     rcases List.mem_append.1 m with m|m
     ·exact (h.ker c hc).1 H1 t m
     ·rw [List.mem_singleton.1 m]
      have H2:=H _ (List.mem_append_right _ (List.mem_singleton_self _))
      rw [dot_nrm hR hl2 hc,dot_all hc (dI hN) h.byt H1] at H2
      exact H2
    ·intro H s m
     have H1 : ∀ s ∈ st.2,dot K (tn s) c = 0:=(h.ker c hc).2 fun t m=>H t (List.mem_append_left _ m)
     rcases List.mem_append.1 m with m|m
     ·exact H1 s m
     ·rw [List.mem_singleton.1 m,dot_nrm hR hl2 hc,dot_all hc (dI hN) h.byt H1]
      exact H _ (List.mem_append_right _ (List.mem_singleton_self _))
/-! ### the data again -/
theorem bt_byte (s : ByteArray) (i : Int) : 0 ≤ bt s i ∧ bt s i ≤ 255:=by rw [← rd_bytesOf];exact (Bytes.of s).rd i
theorem mix_sum {row : List Int} {K : Nat} (hr : ∀ j : Nat,j < K → 0 ≤ rd row (j : Int) ∧ rd row (j : Int) ≤ 255) (data : List ByteArray) (i : Nat) : mixN row data K i = ((sumN (fun j=>gm (rd row (j : Int)).toNat (bt (rdOf ByteArray.empty data (j : Int)) (i : Int)).toNat) K : Nat) : Int):=by
 induction K with
 | zero=>rfl
 | succ K ih=>
  have ih:=ih fun j hj=>hr j (by omega)
  have h1:=hr K (by omega)
  have hb:=bt_byte (rdOf ByteArray.empty data (K : Int)) (i : Int)
  have hm:=mixN_byte row data K i
  have hg:=dr (bt (rdOf ByteArray.empty data (K : Int)) (i : Int)).toNat (show (rd row (K : Int)).toNat < 256 by omega)
  unfold mixN
  show _ = ((sumN _ K ^^^ gm (rd row (K : Int)).toNat (bt (rdOf ByteArray.empty data (K : Int)) (i : Int)).toNat : Nat) : Int)
  by_cases c : rd row (K : Int) = 0
  ·rw [if_pos c,ih]
   have e : (rd row (K : Int)).toNat = 0:=by rw [c];rfl
   rw [e,gm_zl,Nat.xor_zero]
  ·rw [if_neg c,tmul_gm h1 hb,xor8 hm ⟨by omega,by omega⟩,ih]
   simp only [Int.toNat_natCast]
theorem str_ext {f : Nat → Int} (hf : ∀ i,0 ≤ f i ∧ f i ≤ 255) {n : Nat} {s : ByteArray} (hs : s.size = n) (h : ∀ i,i < n → f i = bt s (i : Int)) : strOfNums ((List.range n).map f) = s:=by
 apply bytesOf_inj
 rw [bytesOf_str (fun x m=>by obtain ⟨j,_,rfl⟩:=List.mem_map.1 m;exact hf j)]
 apply List.ext_getElem
 ·rw [List.length_map,List.length_range,bytesOf_length,hs]
 ·intro i h1 h2
  rw [List.length_map,List.length_range] at h1
  rw [List.getElem_map,List.getElem_range,h i h1,bt_bytes,List.getD_eq_getElem?_getD,List.getElem?_eq_getElem h2]
  rfl
theorem shard_size {K M G n : Nat} {data : List ByteArray} (hd : ∀ j,j < K → (rdOf ByteArray.empty data (j : Int)).size = n) (t : Nat) : (shardV K M G n data t).size = n:=by
 unfold shardV
 split
 ·exact hd t ‹_›
 ·rw [strOfNums_size];simp
theorem dot_cut {K : Nat} {r c : Nat → Nat} : dot K r c = dot K r (fun j=>if j < K then c j else 0):=dx K fun j hj=>by show gm _ _ = gm _ (if _ then _ else _);rw [if_pos hj]
end Go.Proofs.Ytffhbpepppodeaa.Coded
