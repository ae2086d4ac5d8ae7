import Derived.Test.YtffhbpepppodeaaPureSpecRankFnExactJoinObject
import Derived.Test.YtffhbpepppodeaaGreedyFnExactJoinObject
namespace Go.Proofs.Ytffhbpepppodeaa.Pure
open Go.RowKit Go.Proofs.Ytffhbpepppodeaa.PFnExactJoinObject Go.Proofs.Ytffhbpepppodeaa.Base Go.Proofs.YtffhbpepppodeaaW.PrintWords Go.Proofs.YtffhbpepppodeaaW.PrintLast Go.Proofs.YtffhbpepppodeaaW.PrintMore
open Go.Proofs.Ytffhbpepppodeaa.Gf Go.Proofs.Ytffhbpepppodeaa.Reduce Go.Proofs.Ytffhbpepppodeaa.Grid Go.Proofs.Ytffhbpepppodeaa.Field Go.Proofs.Ytffhbpepppodeaa.Elim Go.Proofs.Ytffhbpepppodeaa.Cauchy Go.Proofs.Ytffhbpepppodeaa.Plant Go.Proofs.Ytffhbpepppodeaa.Plant2 Go.Proofs.Ytffhbpepppodeaa.Plant4 Go.Proofs.Ytffhbpepppodeaa.Plant5 Go.Proofs.Ytffhbpepppodeaa.Plant6
open Go.Proofs.Ytffhbpepppodeaa.Coded (bt_byte str_ext mix_sum shard_size)

theorem set_map {α : Type} {n m : Nat} {f g : Nat → α} {x : α} (h1 : g m = x) (h2 : ∀ b,b ≠ m → g b = f b) : ((List.range n).map f).set m x = (List.range n).map g:=by
 apply List.ext_getElem
 ·simp
 ·intro b hb _
  rw [List.getElem_set]
  by_cases e : m = b
  ·rw [if_pos e];subst e;simp [h1]
  ·rw [if_neg e];simp [h2 b (Ne.symm e)]
theorem rd_map {n b : Nat} (f : Nat → Int) (h : b < n) : rd ((List.range n).map f) (b : Int) = f b:=by
 unfold rd;rw [Int.toNat_natCast,List.getD_eq_getElem?_getD,List.getElem?_map,List.getElem?_range h];rfl
theorem cO {α : Type} {n : Nat} {f g : Nat → α} (h : ∀ b,b < n → f b = g b) : (List.range n).map f = (List.range n).map g:=List.map_congr_left fun b m=>h b (List.mem_range.1 m)
theorem repl_map {α : Type} (n : Nat) (x : α) : List.replicate n x = (List.range n).map (fun _=>x):=by
 apply List.ext_getElem
 ·simp
 ·intro b _ _;simp
structure Fine (K M G : Nat) : Prop where
 k1 : 1 ≤ K
 k2 : K ≤ 32
 m : M ≤ 16
 g : G ≤ K
 s : K + M + G ≤ 64
theorem spec_fault {K M G : Nat} (h : Fine K M G) : aY.f (K : Int) (M : Int) (G : Int) = some 0:=by
 obtain ⟨h1,h2,h3,h4,h5⟩:=h
 unfold aY.f
 rw [if_neg (by omega),if_neg (by omega),if_neg (by omega),if_neg (by omega),if_neg (by omega),if_neg (by omega),if_neg]
 rw [w64 (x:=(K : Int) + M) (by omega) (by omega),w64 (by omega) (by omega)];omega
theorem impl_fault {K M G : Nat} (h : Fine K M G) : a4.f (K : Int) (M : Int) (G : Int) = some 0:=by
 obtain ⟨h1,h2,h3,h4,h5⟩:=h
 unfold a4.f
 rw [if_neg (by omega),if_neg (by omega),if_neg (by omega),if_neg (by omega),if_neg (by omega),if_neg (by omega),if_neg]
 rw [w64 (x:=(K : Int) + M) (by omega) (by omega),w64 (by omega) (by omega)];omega
theorem size_w {K M G : Nat} (h : Fine K M G) : wrap64 (wrap64 ((K : Int) + M) + G) = ((K + M + G : Nat) : Int):=by
 obtain ⟨h1,h2,h3,h4,h5⟩:=h
 rw [w64 (x:=(K : Int) + M) (by omega) (by omega),w64 (by omega) (by omega)];omega
theorem spec_size {K M G : Nat} (h : Fine K M G) : b8.f (K : Int) (M : Int) (G : Int) = some ((K + M + G : Nat) : Int):=by
 unfold b8.f
 rw [spec_fault h,Option.bind_some,if_pos rfl,size_w h]
theorem impl_size {K M G : Nat} (h : Fine K M G) : bT.f (K : Int) (M : Int) (G : Int) = some ((K + M + G : Nat) : Int):=by
 unfold bT.f
 rw [impl_fault h,Option.bind_some,if_pos rfl,size_w h]
theorem rowG_inv {i j : Nat} (hi : i < 64) (hj : j < 64) : rowG i j = ((invN (i ^^^ j) : Nat) : Int):=by
 have hx : i ^^^ j < 64:=Nat.xor_lt_two_pow (n:=6) (by omega) (by omega)
 unfold rowG
 rw [xor64 i j (by omega) (by omega),tinv_gm ⟨by omega,by omega⟩]
 simp
theorem sub_w {K M G i : Nat} (h : Fine K M G) (hi : K + M ≤ i) (hi2 : i < K + M + G) : wrap64 (wrap64 ((i : Int) - K) - M) = ((i - (K + M) : Nat) : Int):=by
 obtain ⟨h1,h2,h3,h4,h5⟩:=h
 rw [w64 (x:=(i : Int) - K) (by omega) (by omega),w64 (by omega) (by omega)];omega
theorem mod_w (j G : Nat) : Int.tmod (j : Int) (G : Int) = ((j % G : Nat) : Int):=by rw [Int.tmod_eq_emod_of_nonneg (by omega)];omega
theorem suc_w {j : Nat} (h : j < 1048576) : wrap64 ((j : Int) + 1) = ((j + 1 : Nat) : Int):=by rw [w64 (by omega) (by omega)];rfl
theorem dec_suc {K M G i j : Nat} {x : Int} (h : rowF K M G i j = x) : ((List.range K).map fun b=>if b < j then rowF K M G i b else 0).set j x = (List.range K).map fun b=>if b < j + 1 then rowF K M G i b else 0:=
 set_map (g:=fun b=>if b < j + 1 then rowF K M G i b else 0) ((if_pos (Nat.lt_succ_self j)).trans h) fun b hb=>by
  show (if b < j + 1 then _ else _) = if b < j then _ else _
  by_cases c : b < j
  ·rw [if_pos c,if_pos (Nat.lt_succ_of_lt c)]
  ·rw [if_neg c,if_neg (fun e=>c (Nat.lt_of_le_of_ne (Nat.le_of_lt_succ e) hb))]
theorem dec_zero {K M G i j : Nat} (h : rowF K M G i j = 0) : ((List.range K).map fun b=>if b < j then rowF K M G i b else 0) = (List.range K).map fun b=>if b < j + 1 then rowF K M G i b else 0:=cO fun b _=>by
 show (if b < j then _ else _) = if b < j + 1 then _ else _
 by_cases c : b < j
 ·rw [if_pos c,if_pos (Nat.lt_succ_of_lt c)]
 ·rw [if_neg c]
  by_cases e : b = j
  ·subst e;rw [if_pos (Nat.lt_succ_self b),h]
  ·rw [if_neg (fun e2=>c (Nat.lt_of_le_of_ne (Nat.le_of_lt_succ e2) e))]
theorem row_l0 {K M G i : Nat} (h : Fine K M G) (hi : K ≤ i) (hi2 : i < K + M) : ∀ (d j : Nat),j + d = K → Ev (fun k=>aG.l0 k (i : Int) ((List.range K).map fun b=>if b < j then rowF K M G i b else 0) (j : Int) (K : Int) (M : Int) (G : Int)) (rowV K M G i)
 | 0,j,hd=>by
  refine Ev.step (f:=fun _=>some (rowV K M G i)) (fun k=>?_) (Ev.now _)
  rw [aG.l0,if_neg (by omega)]
  congr 1
  exact cO fun b hb=>if_pos (by omega)
 | d + 1,j,hd=>by
  obtain ⟨h1,h2,h3,h4,h5⟩:=h
  refine Ev.step (fun k=>by rw [aG.l0,xor64 i j (by omega) (by omega)]) ?_
  refine Ev.ifT (by omega) ?_
  have hx : i ^^^ j < 64:=Nat.xor_lt_two_pow (n:=6) (by omega) (by omega)
  refine Ev.bind (spec_inv (i ^^^ j) (by omega) (xne (by omega))) (Ev.ifT (by omega) (Ev.ifT (by simp;omega) ?_))
  rw [suc_w (by omega),Int.toNat_natCast,dec_suc (by
   rw [← rowG_inv (by omega) (by omega)]
   unfold rowF
   rw [if_neg (by omega),if_pos hi2])]
  exact row_l0 ⟨h1,h2,h3,h4,h5⟩ hi hi2 d (j + 1) (by omega)
theorem row_l1 {K M G i : Nat} (h : Fine K M G) (hi : K + M ≤ i) (hi2 : i < K + M + G) : ∀ (d j : Nat),j + d = K → Ev (fun k=>aG.l1 k (i : Int) ((List.range K).map fun b=>if b < j then rowF K M G i b else 0) (j : Int) (K : Int) (M : Int) (G : Int)) (rowV K M G i)
 | 0,j,hd=>by
  refine Ev.step (f:=fun _=>some (rowV K M G i)) (fun k=>?_) (Ev.now _)
  rw [aG.l1,if_neg (by omega)]
  congr 1
  exact cO fun b hb=>if_pos (by omega)
 | d + 1,j,hd=>by
  have IH:=row_l1 h hi hi2 d (j + 1) (by omega)
  have hk:=h.k2
  have hF : rowF K M G i j = if j % G = i - (K + M) then 1 else 0:=by unfold rowF;rw [if_neg (by omega),if_neg (by omega)]
  refine Ev.step (fun k=>by rw [aG.l1,sub_w h hi hi2,mod_w,suc_w (by omega)]) ?_
  refine Ev.ifT (by omega) (Ev.ifF (by omega) ?_)
  by_cases c : j % G = i - (K + M)
  ·refine Ev.ifT (congrArg Int.ofNat c) (Ev.ifT (by omega) (Ev.ifT (by simp;omega) ?_))
   rw [Int.toNat_natCast,dec_suc (hF.trans (if_pos c))]
   exact IH
  ·refine Ev.ifF (fun e=>c (Int.ofNat.inj e)) ?_
   rw [dec_zero (hF.trans (if_neg c))]
   exact IH
theorem spec_row {K M G i : Nat} (h : Fine K M G) (hi : i < K + M + G) : Ev (fun k=>aG.f k (K : Int) (M : Int) (G : Int) (i : Int)) (rowV K M G i):=by
 have hh:=h
 obtain ⟨h1,h2,h3,h4,h5⟩:=hh
 unfold aG.f
 refine Ev.bN (spec_fault h) (Ev.ifT rfl (Ev.ifF (by omega) ?_))
 rw [size_w h,decide_eq_false (by omega)]
 have e0 : wrap64 ((K : Int) + M) = ((K + M : Nat) : Int):=by rw [w64 (by omega) (by omega)];rfl
 refine Ev.step (fun k=>by rw [aG.j0,e0]) (Ev.ifF (by decide) (Ev.ifT (by omega) (Ev.ifT (by omega) ?_)))
 rw [Int.toNat_natCast]
 have ez : List.replicate K (0 : Int) = (List.range K).map fun b=>if b < 0 then rowF K M G i b else 0:=by
  rw [repl_map];exact cO fun b _=>(if_neg (by omega)).symm
 refine Ev.bN rfl ?_
 by_cases c1 : i < K
 ·refine Ev.ifT (by omega) (Ev.ifT (by omega) (Ev.ifT (by simp;omega) ?_))
  rw [Int.toNat_natCast,repl_map,set_map (g:=rowF K M G i) (by unfold rowF;rw [if_pos c1,if_pos rfl]) (fun b hb=>by unfold rowF;rw [if_pos c1,if_neg hb])]
  exact Ev.now _
 ·by_cases c2 : i < K + M
  ·refine Ev.ifF (by omega) (Ev.ifT (by omega) ?_)
   rw [ez]
   exact row_l0 h (by omega) c2 K 0 (by omega)
  ·refine Ev.ifF (by omega) (Ev.ifF (by omega) ?_)
   rw [ez]
   exact row_l1 h (by omega) hi K 0 (by omega)
theorem mixK_self (row : List Int) (data : List ByteArray) (j b : Nat) : mixK row data j b b = mixN row data j b:=if_neg (Nat.lt_irrefl b)
theorem mix_l1 {row : List Int} {data : List ByteArray} {n : Nat} (hr : ∀ j : Nat,j < row.length → 0 ≤ rd row (j : Int) ∧ rd row (j : Int) ≤ 255) (hl : row.length ≤ 64) (hdl : row.length ≤ data.length) (hn : n ≤ 4096) (hd : ∀ j : Nat,j < data.length → (rdOf ByteArray.empty data (j : Int)).size = n)
  {j : Nat} (hj : j < row.length) (h0 : ¬ rd row (j : Int) = 0) {R : ByteArray} (next : Ev (fun k=>a5.l0 k row data (n : Int) ((List.range n).map (mixN row data (j + 1))) ((j + 1 : Nat) : Int)) R) :
  ∀ (d b : Nat),b + d = n → Ev (fun k=>a5.l1 k row data (n : Int) ((List.range n).map fun i=>mixK row data j b i) (j : Int) (b : Int)) R
 | 0,b,hd'=>by
  refine Ev.step (fun k=>by rw [a5.l1,if_neg (by omega),w64 (by omega) (by omega)]) ?_
  rw [cO (g:=mixN row data (j + 1)) fun i hi=>mixK_all row data j b i (by omega)]
  exact next
 | d + 1,b,hd'=>by
  have hb:=bt_byte (rdOf ByteArray.empty data (j : Int)) (b : Int)
  have h1:=hr j hj
  have hm:=mixN_byte row data j b
  refine Ev.step (fun k=>by rw [a5.l1]) ?_
  refine Ev.ifT (by omega) <| Ev.ifT (by omega) (Ev.ifT (by simp;omega) (Ev.ifT (by omega) (Ev.ifT (by omega) (Ev.ifT (by omega) (Ev.ifT (by rw [hd j (by omega)];omega) ?_)))))
  rw [w64 (x:=bt (rdOf ByteArray.empty data (j : Int)) (b : Int)) (by omega) (by omega),w64 (x:=(b : Int) + 1) (by omega) (by omega)]
  obtain ⟨x,hx⟩:=Int.eq_ofNat_of_zero_le h1.1
  obtain ⟨y,hy⟩:=Int.eq_ofNat_of_zero_le hb.1
  have hg:=dr y (show x < 256 by omega)
  rw [hx,hy]
  refine Ev.bind (spec_mul x y (by omega) (by omega)) ?_
  rw [Int.emod_eq_of_lt (by omega) (by omega),rd_map _ (by omega),mixK_self row data j b,Int.toNat_natCast,set_map (g:=fun i=>mixK row data j (b + 1) i) (by
   show mixK row data j (b + 1) b = _
   rw [mixK_all _ _ _ _ _ (by omega)]
   show (if rd row (j : Int) = 0 then _ else _) = _
   rw [if_neg h0,hx,hy,tmul_nat x y (by omega) (by omega)]) (fun i hi=>by
    show mixK _ _ _ _ _ = mixK _ _ _ _ _
    unfold mixK
    by_cases c : i < b
    ·rw [if_pos c,if_pos (by omega)]
    ·rw [if_neg c,if_neg (by omega)])]
  exact mix_l1 hr hl hdl hn hd hj h0 next d (b + 1) (by omega)
theorem mix_l0 {row : List Int} {data : List ByteArray} {n : Nat} (hr : ∀ j : Nat,j < row.length → 0 ≤ rd row (j : Int) ∧ rd row (j : Int) ≤ 255) (hl : row.length ≤ 64) (hdl : row.length ≤ data.length) (hn : n ≤ 4096) (hd : ∀ j : Nat,j < data.length → (rdOf ByteArray.empty data (j : Int)).size = n) :
  ∀ (d j : Nat),j + d = row.length → Ev (fun k=>a5.l0 k row data (n : Int) ((List.range n).map (mixN row data j)) (j : Int)) (strOfNums ((List.range n).map (mixN row data row.length)))
 | 0,j,hd'=>by
  obtain rfl : j = row.length:=by omega
  exact Ev.step (fun k=>by rw [a5.l0,if_neg (by omega)]) (Ev.now _)
 | d + 1,j,hd'=>by
  have IH:=mix_l0 hr hl hdl hn hd d (j + 1) (by omega)
  refine Ev.step (fun k=>by rw [a5.l0]) ?_
  refine Ev.ifT (by omega) (Ev.ifT (by omega) ?_)
  by_cases c : rd row (j : Int) = 0
  ·refine Ev.ifT c ?_
   rw [w64 (by omega) (by omega),cO (g:=mixN row data (j + 1)) fun i _=>by show _ = (if rd row (j : Int) = 0 then _ else _);rw [if_pos c]]
   exact IH
  ·refine Ev.ifF c ?_
   rw [cO (g:=fun i=>mixK row data j 0 i) fun i _=>(mixK_zero row data j i).symm]
   exact mix_l1 hr hl hdl hn hd (by omega) c IH n 0 (by omega)
theorem spec_mix {row : List Int} {data : List ByteArray} {n : Nat} (hr : ∀ j : Nat,j < row.length → 0 ≤ rd row (j : Int) ∧ rd row (j : Int) ≤ 255) (hl : row.length ≤ 64) (hdl : row.length ≤ data.length) (hn : n ≤ 4096) (hd : ∀ j : Nat,j < data.length → (rdOf ByteArray.empty data (j : Int)).size = n) :
  Ev (fun k=>a5.f k row data (n : Int)) (strOfNums ((List.range n).map (mixN row data row.length))):=by
 unfold a5.f
 refine Ev.ifT (by omega) (Ev.ifT (by omega) ?_)
 rw [Int.toNat_natCast,repl_map]
 exact mix_l0 hr hl hdl hn hd row.length 0 (by omega)
theorem row_data {K M G n : Nat} (h : Fine K M G) {data : List ByteArray} (hd : ∀ j : Nat,j < K → (rdOf ByteArray.empty data (j : Int)).size = n) (i : Nat) : strOfNums ((List.range n).map (mixN (rowV K M G i) data K)) = shardV K M G n data i:=by
 obtain ⟨h1,h2,h3,h4,h5⟩:=h
 unfold shardV
 by_cases c : i < K
 ·rw [if_pos c]
  have hb : ∀ j : Nat,j < K → 0 ≤ rd (rowV K M G i) (j : Int) ∧ rd (rowV K M G i) (j : Int) ≤ 255:=fun j hj=>by rw [rowV_rd _ _ _ _ _ hj];exact rowF_byte (by omega) hj
  refine str_ext (fun i=>mixN_byte _ _ _ i) (hd i c) fun b hb'=>?_
  have hbb:=bt_byte (rdOf ByteArray.empty data (i : Int)) (b : Int)
  rw [mix_sum hb,sumN_one K c (fun j hj hne=>by
   show gm (rd (rowV K M G i) (j : Int)).toNat _ = 0
   rw [rowV_rd _ _ _ _ _ hj]
   unfold rowF
   rw [if_pos c,if_neg hne];exact gm_zl _),rowV_rd _ _ _ _ _ c]
  unfold rowF
  rw [if_pos c,if_pos rfl]
  show ((gm 1 _ : Nat) : Int) = _
  rw [gm_one (by omega)];omega
 ·rw [if_neg c]
theorem all_loop {K M G n : Nat} (h : Fine K M G) {data : List ByteArray} (hl : data.length = K) (hn : n ≤ 4096) (hd : ∀ j : Nat,j < data.length → (rdOf ByteArray.empty data (j : Int)).size = n) :
  ∀ (d i : Nat),i + d = K + M + G → Ev (fun k=>bH.l0 k data (n : Int) ((encV K M G n data).take i) (i : Int) (K : Int) (M : Int) (G : Int)) (encV K M G n data)
 | 0,i,hd'=>by
  refine Ev.step (fun k=>by rw [bH.l0]) ?_
  refine Ev.bN (spec_size h) ?_
  refine Ev.ifF (by omega) ?_
  rw [List.take_of_length_le (by rw [encV_len];omega)]
  exact Ev.now _
 | d + 1,i,hd'=>by
  refine Ev.step (fun k=>by rw [bH.l0]) ?_
  refine Ev.bN (spec_size h) ?_
  refine Ev.ifT (by omega) ?_
  refine Ev.bind (spec_row h (by omega)) ?_
  have hlen:=ef K M G i
  have hm:=spec_mix (row:=rowV K M G i) (data:=data) (n:=n) (fun j hj=>by rw [hlen] at hj;rw [rowV_rd _ _ _ _ _ hj];exact rowF_byte (by have:=h.s;omega) hj) (by have:=h.k2;omega) (by omega) hn hd
  rw [hlen,row_data h (fun j hj=>hd j (by omega))] at hm
  refine Ev.bind hm (Ev.ifT (by rw [List.length_take,encV_len];have:=h.s;omega) ?_)
  have hs:=h.s
  rw [w64 (by omega) (by omega),← encV_take K M G n data i (by omega)]
  exact all_loop h hl hn hd d (i + 1) (by omega)
theorem spec_all {K M G n : Nat} (h : Fine K M G) {data : List ByteArray} (hl : data.length = K) (hn : n ≤ 4096) (hd : ∀ j : Nat,j < data.length → (rdOf ByteArray.empty data (j : Int)).size = n) :
  Ev (fun k=>bH.f k (K : Int) (M : Int) (G : Int) data (n : Int)) (encV K M G n data):=by
 have:=all_loop h hl hn hd (K + M + G) 0 (by omega)
 rw [List.take_zero] at this
 exact this
end Go.Proofs.Ytffhbpepppodeaa.Pure
