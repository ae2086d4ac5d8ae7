import Derived.Test.YtffhbpepppodeaaPureDecFnExactJoinObject
namespace Go.Proofs.Ytffhbpepppodeaa.Pure
open Go.RowKit Go.Proofs.Ytffhbpepppodeaa.PFnExactJoinObject Go.Proofs.Ytffhbpepppodeaa.Base Go.Proofs.YtffhbpepppodeaaW.PrintWords Go.Proofs.YtffhbpepppodeaaW.PrintLast Go.Proofs.YtffhbpepppodeaaW.PrintMore
open Go.Proofs.Ytffhbpepppodeaa.Gf Go.Proofs.Ytffhbpepppodeaa.Reduce Go.Proofs.Ytffhbpepppodeaa.Grid Go.Proofs.Ytffhbpepppodeaa.Field Go.Proofs.Ytffhbpepppodeaa.Elim Go.Proofs.Ytffhbpepppodeaa.Cauchy Go.Proofs.Ytffhbpepppodeaa.Plant Go.Proofs.Ytffhbpepppodeaa.Plant2 Go.Proofs.Ytffhbpepppodeaa.Plant4 Go.Proofs.Ytffhbpepppodeaa.Plant5 Go.Proofs.Ytffhbpepppodeaa.Plant6
open Go.Proofs.Ytffhbpepppodeaa.Coded (bt_byte str_ext mix_sum shard_size)

/-! ### the arguments -/
def conv (y : S145) : S61:=⟨y.f0,y.f1⟩
theorem rd_arg {l : List S145} {i : Nat} (h : i < l.length) : cM l (i : Int) = l[i]:=by
 unfold cM
 rw [Int.toNat_natCast,List.getD_eq_getElem?_getD,List.getElem?_eq_getElem h];rfl
theorem sucI {i : Nat} (h : i ≤ 4611686018427387904) : wrap64 ((i : Int) + 1) = (i : Int) + 1:=w64 (by omega) (by omega)
theorem szS (l : List S145) (left : Int) (k0 : 0 ≤ left) (k1 : left ≤ 1048576) (hl : l.length ≤ maxLen) (hq : ∀ y ∈ l,Q145 y) : ∃ r,Ev (fun k=>bA.f k l left) r ∧ (r < 0 ∨ 0 ≤ r ∧ r ≤ left ∧ l.length ≤ 1048576):=by
 rw [lmax] at hl
 unfold bA.f
 rw [w64 (x:=left - (l.length : Int)) (by omega) (by omega)]
 by_cases c : (l.length : Int) ≤ left
 ·obtain ⟨r,h1,h2⟩:=sz_loop (fun k x left i=>bA.l0 k x left i) (fun y=>Q145 y) (fun x left i hx hok hi h0 h1=>by
   have hs : x[i].f1.size ≤ 9223372036854775807:=by have:=hok _ (List.getElem_mem hi);simpa [Q145,lmax] using this
   by_cases c : left - (x[i].f1.size : Int) < 0
   ·refine .inl ⟨-1,?_,by decide⟩
    refine Ev.step (fun k=>by rw [bA.l0,rd_arg hi]) ?_
    refine Ev.ifT (by omega) (Ev.ifT (by omega) (Ev.bN (a:=-1) ?_ (Ev.ifT (by decide) (Ev.now _))))
    unfold di.f
    rw [w64 (by omega) (by omega),if_pos c]
   ·refine .inr ⟨left - (x[i].f1.size : Int),by omega,by omega,fun r hr=>?_⟩
    refine Ev.step (fun k=>by rw [bA.l0,rd_arg hi,sucI (by omega)]) ?_
    refine Ev.ifT (by omega) (Ev.ifT (by omega) (Ev.bN (a:=left - (x[i].f1.size : Int)) ?_ (Ev.ifF c hr)))
    unfold di.f
    rw [w64 (by omega) (by omega),if_neg c]) (fun x left i hi=>Ev.step (f:=fun _=>some left) (fun k=>by rw [bA.l0,if_neg (by omega)]) (Ev.now _)) l (by omega) hq (left - (l.length : Int)) (by omega) (by omega)
  refine ⟨r,Ev.ifF (by omega) h1,?_⟩
  rcases h2 with h2|h2
  ·exact .inl h2
  ·exact .inr ⟨h2.1,by omega,by omega⟩
 ·exact ⟨-1,Ev.ifT (by omega) (Ev.now _),.inl (by decide)⟩
theorem toS_f (l : List S145) (hl : l.length ≤ 1048576) : Ev (fun k=>bG.f k l) (l.map conv):=by
 have:=map_loop (fun k x y i=>bG.l0 k x y i) conv z145 (fun _=>True) (fun x y i hx _ hi hy r hr=>by
  refine Ev.step (fun k=>by rw [bG.l0,rd_arg hi,sucI (by omega)]) ?_
  refine Ev.ifT (by omega) (Ev.ifT (by omega) (Ev.bN rfl (Ev.ifT (by omega) ?_)))
  rw [Int.toNat_natCast]
  rw [List.getD_eq_getElem?_getD,List.getElem?_eq_getElem hi] at hr
  exact hr) (fun x y i hi=>Ev.step (f:=fun _=>some y) (fun k=>by rw [bG.l0,if_neg (by omega)]) (Ev.now _)) l (by omega) (fun _ _=>trivial) z61
 unfold bG.f
 rw [Int.toNat_natCast]
 exact Ev.ifT (by omega) (Ev.ifT (by omega) this)
theorem eqSh_f (l : List S61) (hl : l.length ≤ 1048576) : Ev (fun k=>a9.f k l l) true:=by
 unfold a9.f
 exact Ev.ifT rfl (eq_loop (fun k x y i=>a9.l0 k x y i) (fun _=>True) (fun x i hx _ hi h=>by
  refine Ev.step (fun k=>by rw [a9.l0,sucI (by omega)]) ?_
  refine Ev.ifT (by omega) (Ev.ifT (by omega) (Ev.ifT (by omega) (Ev.bN (a:=true) ?_ (Ev.ifT rfl h))))
  unfold dy.f
  rw [if_neg (by simp),if_pos rfl]) (fun x i hi=>Ev.step (f:=fun _=>some true) (fun k=>by rw [a9.l0,if_neg (by omega)]) (Ev.now _)) l (by omega) (fun _ _=>trivial))
theorem rd_harg {l : List S156} {i : Nat} (h : i < l.length) : dC l (i : Int) = l[i]:=by
 unfold dC
 rw [Int.toNat_natCast,List.getD_eq_getElem?_getD,List.getElem?_eq_getElem h];rfl
theorem rd_H {l : List S55} {i : Nat} (h : i < l.length) : bB l (i : Int) = l[i]:=by
 unfold bB
 rw [Int.toNat_natCast,List.getD_eq_getElem?_getD,List.getElem?_eq_getElem h];rfl
theorem szH_loop (l : List S156) (hl : l.length ≤ 1048576) (hq : ∀ y ∈ l,Q156 y) : ∀ (d i : Nat) (left : Int),i + d = l.length → 0 ≤ left → left ≤ 1048576 → ∃ r,Ev (fun k=>a6.l0 k l left (i : Int)) r ∧ (r < 0 ∨ ∀ j (h : j < l.length),i ≤ j → l[j].f0.length ≤ 1048576)
 | 0,i,left,hd,h0,h1=>⟨left,Ev.step (f:=fun _=>some left) (fun k=>by rw [a6.l0,if_neg (by omega)]) (Ev.now _),.inr fun j h hj=>by omega⟩
 | d + 1,i,left,hd,h0,h1=>by
  have hi : i < l.length:=by omega
  obtain ⟨q1,q2⟩:=hq _ (List.getElem_mem hi)
  obtain ⟨t,e1,e2⟩:=szS l[i].f0 left h0 h1 q1 q2
  by_cases c : t < 0
  ·have eH : Ev (fun k=>bU.f k l[i].f0 left) (-1):=by unfold bU.f;exact Ev.bind e1 (Ev.ifT c (Ev.now _))
   refine ⟨-1,?_,.inl (by decide)⟩
   refine Ev.step (fun k=>by rw [a6.l0,rd_harg hi]) ?_
   exact Ev.ifT (by omega) (Ev.ifT (by omega) (Ev.bind eH (Ev.ifT (by decide) (Ev.now _))))
  ·have e3:=e2.resolve_left c
   have eH : Ev (fun k=>bU.f k l[i].f0 left) t:=by unfold bU.f;exact Ev.bind e1 (Ev.ifF c (Ev.now _))
   obtain ⟨r,g1,g2⟩:=szH_loop l hl hq d (i + 1) t (by omega) (by omega) (by omega)
   refine ⟨r,?_,?_⟩
   ·refine Ev.step (fun k=>by rw [a6.l0,rd_harg hi,suc_w (by omega)]) ?_
    exact Ev.ifT (by omega) (Ev.ifT (by omega) (Ev.bind eH (Ev.ifF c g1)))
   ·rcases g2 with g|g
    ·exact .inl g
    ·refine .inr fun j h hj=>?_
     by_cases e : j = i
     ·subst e;exact e3.2.2
     ·exact g j h (by omega)
theorem szH (l : List S156) (hl : l.length ≤ maxLen) (hq : ∀ y ∈ l,Q156 y) : ∃ r,Ev (fun k=>a6.f k l 1048576) r ∧ (r < 0 ∨ l.length ≤ 1048576 ∧ ∀ y ∈ l,y.f0.length ≤ 1048576):=by
 rw [lmax] at hl
 unfold a6.f
 rw [w64 (x:=1048576 - (l.length : Int)) (by omega) (by omega)]
 by_cases c : l.length < 1048576
 ·obtain ⟨r,h1,h2⟩:=szH_loop l (by omega) hq l.length 0 (1048576 - (l.length : Int)) (by omega) (by omega) (by omega)
  refine ⟨r,Ev.ifF (by omega) h1,?_⟩
  rcases h2 with h2|h2
  ·exact .inl h2
  ·refine .inr ⟨by omega,fun y m=>?_⟩
   obtain ⟨j,hj,rfl⟩:=List.getElem_of_mem m
   exact h2 j hj (by omega)
 ·by_cases c2 : l.length ≤ 1048576
  ·obtain ⟨r,h1,h2⟩:=szH_loop l (by omega) hq l.length 0 (1048576 - (l.length : Int)) (by omega) (by omega) (by omega)
   refine ⟨r,Ev.ifF (by omega) h1,?_⟩
   rcases h2 with h2|h2
   ·exact .inl h2
   ·refine .inr ⟨by omega,fun y m=>?_⟩
    obtain ⟨j,hj,rfl⟩:=List.getElem_of_mem m
    exact h2 j hj (by omega)
  ·exact ⟨-1,Ev.ifT (by omega) (Ev.now _),.inl (by decide)⟩
def convH (y : S156) : S55:=⟨y.f0.map conv⟩
theorem toHS_f (l : List S156) (hl : l.length ≤ 1048576) (hb : ∀ y ∈ l,y.f0.length ≤ 1048576) : Ev (fun k=>aA.f k l) (l.map convH):=by
 have:=map_loop (fun k x y i=>aA.l0 k x y i) convH z156 (fun y=>y.f0.length ≤ 1048576) (fun x y i hx hok hi hy r hr=>by
  have hlen:=hok _ (List.getElem_mem hi)
  have e1 : Ev (fun k=>cy.f k x[i].f0) (x[i].f0.map conv):=by unfold cy.f;exact Ev.bind (toS_f _ hlen) (Ev.now _)
  refine Ev.step (fun k=>by rw [aA.l0,rd_harg hi,sucI (by omega)]) ?_
  refine Ev.ifT (by omega) (Ev.ifT (by omega) (Ev.bind e1 (Ev.ifT (by omega) ?_)))
  rw [Int.toNat_natCast]
  rw [List.getD_eq_getElem?_getD,List.getElem?_eq_getElem hi] at hr
  exact hr) (fun x y i hi=>Ev.step (f:=fun _=>some y) (fun k=>by rw [aA.l0,if_neg (by omega)]) (Ev.now _)) l (by omega) hb z55
 unfold aA.f
 rw [Int.toNat_natCast]
 exact Ev.ifT (by omega) (Ev.ifT (by omega) this)
theorem eqHS_f (l : List S55) (hl : l.length ≤ 1048576) (hb : ∀ y ∈ l,y.f0.length ≤ 1048576) : Ev (fun k=>aC.f k l l) true:=by
 unfold aC.f
 exact Ev.ifT rfl (eq_loop (fun k x y i=>aC.l0 k x y i) (fun y=>y.f0.length ≤ 1048576) (fun x i hx hok hi h=>by
  have e1 : Ev (fun k=>cm.f k x[i].f0 x[i].f0) true:=by unfold cm.f;exact Ev.bind (eqSh_f _ (hok _ (List.getElem_mem hi))) (Ev.ifT rfl (Ev.now _))
  refine Ev.step (fun k=>by rw [aC.l0,rd_H hi,sucI (by omega)]) ?_
  exact Ev.ifT (by omega) (Ev.ifT (by omega) (Ev.ifT (by omega) (Ev.bind e1 (Ev.ifT rfl h))))) (fun x i hi=>Ev.step (f:=fun _=>some true) (fun k=>by rw [aC.l0,if_neg (by omega)]) (Ev.now _)) l (by omega) hb)
/-! ### how many stripes -/
theorem ar0 {K u : Nat} (hK : K ≤ 32) (hu : u ≤ 4096) : K * u ≤ 131072:=Nat.le_trans (Nat.mul_le_mul hK hu) (by decide)
theorem ar1 {K u : Nat} (hK : K ≤ 32) (hu : u ≤ 4096) : wrap64 ((K : Int) * (u : Int)) = ((K * u : Nat) : Int):=by
 have h:=ar0 hK hu
 rw [← Int.natCast_mul]
 generalize K * u = B at h
 exact w64 (by omega) (by omega)
theorem ar2 {z B : Nat} (hz : z ≤ 100000) (h1 : 1 ≤ B) (hB : B ≤ 131072) : wrap64 (wrap64 ((z : Int) + (B : Int)) - 1) = ((z + B - 1 : Nat) : Int):=by
 rw [w64 (x:=(z : Int) + B) (by omega) (by omega),w64 (by omega) (by omega)];omega
theorem ar3 {x B : Nat} (hx : x ≤ 1000000) : wrap64 (Int.tdiv (x : Int) (B : Int)) = ((x / B : Nat) : Int):=by
 have h:=Nat.div_le_self x B
 rw [Int.tdiv_eq_ediv_of_nonneg (by omega),← Int.natCast_ediv]
 generalize x / B = q at h
 exact w64 (by omega) (by omega)
theorem ar4 {z B : Nat} (h1 : 1 ≤ B) : z ≤ (z + B - 1) / B * B:=by
 have hm:=Nat.div_add_mod (z + B - 1) B
 have hr:=Nat.mod_lt (z + B - 1) (show 0 < B from h1)
 rw [Nat.mul_comm] at hm
 generalize (z + B - 1) / B * B = y at hm
 generalize (z + B - 1) % B = w at hm hr
 omega
theorem ar6 {n : Nat} (h : n > 200) : (n : Int) > 200:=by omega
theorem ar7 {n : Nat} (h : ¬ n > 200) : ¬ (n : Int) > 200:=by omega
theorem ar8 {B : Nat} (h : 1 ≤ B) : ¬ (B : Int) = 0:=by omega
theorem ar9 {z B : Nat} (h : z ≤ 100000) (h2 : B ≤ 131072) : z + B - 1 ≤ 1000000:=by omega
theorem ar5 {K u : Nat} (hK : 1 ≤ K) (hu : 1 ≤ u) : 1 ≤ K * u:=Nat.mul_pos hK hu
theorem stripes (a b c a1 a2 : Int) : ∃ t,Ev (fun k=>aU.f k a b c a1 a2) t ∧ Ev (fun k=>aV.f k a b c a1 a2) t ∧ (t < 0 ∨ ∃ K M G u z n : Nat,Fine K M G ∧ a = (K : Int) ∧ b = (M : Int) ∧ c = (G : Int) ∧ a1 = (u : Int) ∧ 1 ≤ u ∧ u ≤ 4096 ∧ a2 = (z : Int) ∧ z ≤ 100000 ∧ t = (n : Int) ∧ n ≤ 200 ∧ z ≤ n * (K * u)):=by
 obtain ⟨f,hf⟩:=fault_some a b c
 have hf2 : aY.f a b c = some f:=by rw [fault_same];exact hf
 have jI : ∀ v : Bool,v = true → Ev (fun k=>aU.j0 k a1 a2 v a b c) (-1):=fun v hv=>by rw [hv];exact Ev.step (fun k=>by rw [aU.j0,if_pos rfl]) (Ev.now _)
 have jS : ∀ v : Bool,v = true → Ev (fun k=>aV.j0 k a1 a2 v a b c) (-1):=fun v hv=>by rw [hv];exact Ev.step (fun k=>by rw [aV.j0,if_pos rfl]) (Ev.now _)
 unfold aU.f aV.f
 by_cases h0 : f = 0
 ·subst h0
  obtain ⟨f1,f2,f3,f4,f5,f6,f7⟩:=fault_okD hf
  by_cases c1 : a1 < 1
  ·exact ⟨-1,Ev.bN hf (Ev.ifT rfl (Ev.ifT c1 (jI _ rfl))),Ev.bN hf2 (Ev.ifT rfl (Ev.ifT c1 (jS _ rfl))),.inl (by decide)⟩
  by_cases c2 : a1 > 4096
  ·exact ⟨-1,Ev.bN hf (Ev.ifT rfl (Ev.ifF c1 (Ev.ifT c2 (jI _ rfl)))),Ev.bN hf2 (Ev.ifT rfl (Ev.ifF c1 (Ev.ifT c2 (jS _ rfl)))),.inl (by decide)⟩
  by_cases c3 : a2 < 0
  ·exact ⟨-1,Ev.bN hf (Ev.ifT rfl (Ev.ifF c1 (Ev.ifF c2 (Ev.ifT c3 (jI _ rfl))))),Ev.bN hf2 (Ev.ifT rfl (Ev.ifF c1 (Ev.ifF c2 (Ev.ifT c3 (jS _ rfl))))),.inl (by decide)⟩
  by_cases c4 : a2 > 100000
  ·exact ⟨-1,Ev.bN hf (Ev.ifT rfl (Ev.ifF c1 (Ev.ifF c2 (Ev.ifF c3 (jI _ (decide_eq_true c4)))))),Ev.bN hf2 (Ev.ifT rfl (Ev.ifF c1 (Ev.ifF c2 (Ev.ifF c3 (jS _ (decide_eq_true c4)))))),.inl (by decide)⟩
  obtain ⟨K,rfl⟩:=Int.eq_ofNat_of_zero_le (show 0 ≤ a by omega)
  obtain ⟨M,rfl⟩:=Int.eq_ofNat_of_zero_le f3
  obtain ⟨G,rfl⟩:=Int.eq_ofNat_of_zero_le f5
  obtain ⟨u,rfl⟩:=Int.eq_ofNat_of_zero_le (show 0 ≤ a1 by omega)
  obtain ⟨z,rfl⟩:=Int.eq_ofNat_of_zero_le (show 0 ≤ a2 by omega)
  have hK1 : 1 ≤ K:=by omega
  have hK2 : K ≤ 32:=by omega
  have hu1 : 1 ≤ u:=by omega
  have hu2 : u ≤ 4096:=by omega
  have hz2 : z ≤ 100000:=by omega
  have hF : Fine K M G:=⟨hK1,hK2,by omega,by omega,by omega⟩
  have eB:=ar1 hK2 hu2
  have eA:=ar2 hz2 (ar5 hK1 hu1) (ar0 hK2 hu2)
  have eD : wrap64 (Int.tdiv ((z + K * u - 1 : Nat) : Int) ((K * u : Nat) : Int)) = (((z + K * u - 1) / (K * u) : Nat) : Int):=ar3 (ar9 hz2 (ar0 hK2 hu2))
  have hle : z ≤ (z + K * u - 1) / (K * u) * (K * u):=ar4 (ar5 hK1 hu1)
  have hB0 : ¬ ((K * u : Nat) : Int) = 0:=ar8 (ar5 hK1 hu1)
  clear f1 f2 f3 f4 f5 f6 f7
  generalize (z + K * u - 1) / (K * u) = n at eD hle
  by_cases c5 : n > 200
  ·refine ⟨-1,Ev.bN hf (Ev.ifT rfl (Ev.ifF c1 (Ev.ifF c2 (Ev.ifF c3 ?_)))),Ev.bN hf2 (Ev.ifT rfl (Ev.ifF c1 (Ev.ifF c2 (Ev.ifF c3 ?_)))),.inl (by decide)⟩
   ·rw [decide_eq_false c4]
    exact Ev.step (fun k=>by rw [aU.j0,eB,eA,eD]) (Ev.ifF (by decide) (Ev.ifF hB0 (Ev.ifT (ar6 c5) (Ev.now _))))
   ·rw [decide_eq_false c4]
    exact Ev.step (fun k=>by rw [aV.j0,eB,eA,eD]) (Ev.ifF (by decide) (Ev.ifF hB0 (Ev.ifT (ar6 c5) (Ev.now _))))
  ·refine ⟨(n : Int),Ev.bN hf (Ev.ifT rfl (Ev.ifF c1 (Ev.ifF c2 (Ev.ifF c3 ?_)))),Ev.bN hf2 (Ev.ifT rfl (Ev.ifF c1 (Ev.ifF c2 (Ev.ifF c3 ?_)))),.inr ⟨K,M,G,u,z,n,hF,rfl,rfl,rfl,rfl,hu1,hu2,rfl,hz2,rfl,Nat.not_lt.1 c5,hle⟩⟩
   ·rw [decide_eq_false c4]
    exact Ev.step (fun k=>by rw [aU.j0,eB,eA,eD]) (Ev.ifF (by decide) (Ev.ifF hB0 (Ev.ifF (ar7 c5) (Ev.now _))))
   ·rw [decide_eq_false c4]
    exact Ev.step (fun k=>by rw [aV.j0,eB,eA,eD]) (Ev.ifF (by decide) (Ev.ifF hB0 (Ev.ifF (ar7 c5) (Ev.now _))))
 ·exact ⟨-1,Ev.bN hf (Ev.ifF h0 (jI _ rfl)),Ev.bN hf2 (Ev.ifF h0 (jS _ rfl)),.inl (by decide)⟩
/-! ### both -/
theorem bytes_len (s : ByteArray) : (bytesOf s).length = s.size:=bytesOf_length s
theorem rd_take {en : List ByteArray} {K j : Nat} (h : j < K) : rdOf ByteArray.empty (en.take K) (j : Int) = rdOf ByteArray.empty en (j : Int):=by
 unfold rdOf
 rw [Int.toNat_natCast,List.getD_eq_getElem?_getD,List.getD_eq_getElem?_getD,List.getElem?_take_of_lt h]
theorem enc_rd {K M G n : Nat} {data : List ByteArray} {t : Nat} (h : t < K + M + G) : rdOf ByteArray.empty (encV K M G n data) (t : Int) = shardV K M G n data t:=by
 unfold rdOf encV
 rw [Int.toNat_natCast,List.getD_eq_getElem?_getD,List.getElem?_map,List.getElem?_range h];rfl
theorem inner {K M G u i : Nat} {a1 a2 cd : Int} {L : List S55} {en : List ByteArray} (hen : K ≤ en.length) (hs : ∀ t : Nat,t < K → (rdOf ByteArray.empty en (t : Int)).size = u) (hK : K ≤ 32) (hi : i ≤ 1000) :
  ∀ (d j : Nat) (acc : List Int),j + d = K → acc.length + d * u ≤ 1000000000 → ∃ acc' : List Int,acc'.length = acc.length + d * u ∧ ∀ R,
   (Ev (fun k=>av.l0 k a1 a2 L acc' ((i + 1 : Nat) : Int) (K : Int) (M : Int) (G : Int)) R → Ev (fun k=>av.l1 k a1 a2 L acc (i : Int) (j : Int) (K : Int) (M : Int) (G : Int) cd en) R) ∧
   (Ev (fun k=>az.l0 k a1 a2 acc' L (L.length : Int) ((i + 1 : Nat) : Int) (K : Int) (M : Int) (G : Int)) R → Ev (fun k=>az.l1 k a1 a2 acc L (L.length : Int) (i : Int) (en.take K) ((en.take K).length : Int) (j : Int) (K : Int) (M : Int) (G : Int)) R)
 | 0,j,acc,hd,hb=>by
  have hl : (en.take K).length = K:=by rw [List.length_take];omega
  refine ⟨acc,by omega,fun R=>⟨fun h=>?_,fun h=>?_⟩⟩
  ·refine Ev.step (fun k=>by rw [av.l1,suc_w (show i < 1048576 by omega)]) ?_
   exact Ev.ifF (by omega) h
  ·refine Ev.step (fun k=>by rw [az.l1,suc_w (show i < 1048576 by omega)]) ?_
   exact Ev.ifF (by omega) h
 | d + 1,j,acc,hd,hb=>by
  have hl : (en.take K).length = K:=by rw [List.length_take];omega
  rw [Nat.succ_mul] at hb
  have hj:=hs j (by omega)
  obtain ⟨acc',g1,g2⟩:=inner (i:=i) (M:=M) (G:=G) (a1:=a1) (a2:=a2) (cd:=cd) (L:=L) hen hs hK hi d (j + 1) (acc ++ bytesOf (rdOf ByteArray.empty en (j : Int))) (by omega) (by rw [List.length_append,bytes_len,hj];omega)
  rw [List.length_append,bytes_len,hj] at g1
  refine ⟨acc',by rw [Nat.succ_mul];omega,fun R=>⟨fun h=>?_,fun h=>?_⟩⟩
  ·refine Ev.step (fun k=>by rw [av.l1,suc_w (show j < 1048576 by omega)]) ?_
   exact Ev.ifT (by omega) (Ev.ifT (by omega) (Ev.ifT (by omega) (Ev.ifT (by omega) ((g2 R).1 h))))
  ·refine Ev.step (fun k=>by rw [az.l1,suc_w (show j < 1048576 by omega),rd_take (show j < K by omega)]) ?_
   exact Ev.ifT (by omega) (Ev.ifT (by omega) (Ev.ifT (by omega) (Ev.ifT (by omega) ((g2 R).2 h))))
theorem join_loop {K M G u z : Nat} (hF : Fine K M G) (hu : u ≤ 4096) {L : List S55} (hL : L.length ≤ 200) (hz : z ≤ L.length * (K * u)) :
  ∀ (d i : Nat) (acc : List Int),i + d = L.length → acc.length = i * (K * u) → ∃ R,Ev (fun k=>av.l0 k (u : Int) (z : Int) L acc (i : Int) (K : Int) (M : Int) (G : Int)) R ∧ Ev (fun k=>az.l0 k (u : Int) (z : Int) acc L (L.length : Int) (i : Int) (K : Int) (M : Int) (G : Int)) R
 | 0,i,acc,hd,ha=>by
  obtain rfl : i = L.length:=by omega
  have hz2 : z ≤ acc.length:=by rw [ha];exact hz
  clear ha hz
  refine ⟨(0,strOfNums (acc.take z)),?_,?_⟩
  ·refine Ev.step (fun k=>by rw [av.l0,Int.toNat_natCast]) ?_
   exact Ev.ifF (by omega) (Ev.ifT (by omega) (Ev.ifT (by omega) (Ev.now _)))
  ·refine Ev.step (fun k=>by rw [az.l0,Int.toNat_natCast]) ?_
   exact Ev.ifF (by omega) (Ev.ifT (by omega) (Ev.ifT (by omega) (Ev.now _)))
 | d + 1,i,acc,hd,ha=>by
  have hi : i < L.length:=by omega
  have hs:=hF.s
  have hk1:=hF.k1
  have hk2:=hF.k2
  obtain ⟨⟨rc,rl⟩,h1,h2,h3,h4⟩:=both_f (K : Int) (M : Int) (G : Int) L[i].f0
  dsimp only at h3 h4
  by_cases e : rc = 0
  ·obtain ⟨K',M',G',n,data,hF',e1,e2,e3,n1,n2,hl,hdd,hr⟩:=h4 e
   obtain rfl : K = K':=by omega
   obtain rfl : M = M':=by omega
   obtain rfl : G = G':=by omega
   subst hr
   subst e
   have hel : (encV K M G n data).length = K + M + G:=encV_len _ _ _ _ _
   have hsz : ∀ t : Nat,t < K → (rdOf ByteArray.empty (encV K M G n data) (t : Int)).size = n:=fun t ht=>by
    rw [enc_rd (by omega)];exact shard_size (fun j hj=>hdd j (by omega)) t
   have e0 : (rdOf ByteArray.empty (encV K M G n data) 0).size = n:=hsz 0 (by omega)
   by_cases cu : n = u
   ·subst cu
    have hb2 : i * (K * n) + K * n ≤ 1000000000:=by
     have:=ar0 hk2 hu
     have h2:=Nat.mul_le_mul (show i ≤ 200 by omega) this
     generalize K * n = B at this h2 ⊢
     generalize i * B = C at h2 ⊢
     omega
    obtain ⟨acc',g1,g2⟩:=inner (i:=i) (M:=M) (G:=G) (a1:=(n : Int)) (a2:=(z : Int)) (cd:=0) (L:=L) (show K ≤ (encV K M G n data).length by omega) hsz hk2 (by omega) K 0 acc (by omega) (by rw [ha];exact hb2)
    obtain ⟨R,r1,r2⟩:=join_loop hF hu hL hz d (i + 1) acc' (by omega) (by rw [Nat.succ_mul,g1,ha])
    refine ⟨R,?_,?_⟩
    ·refine Ev.step (fun k=>by rw [av.l0,rd_H hi]) ?_
     exact Ev.ifT (by omega) (Ev.ifT (by omega) (Ev.bind h1 (Ev.ifT rfl (Ev.ifT (show (0 : Int) < ((encV K M G n data).length : Int) by omega) (Ev.ifT (show ((rdOf ByteArray.empty (encV K M G n data) 0).size : Int) = _ by rw [e0]) ((g2 R).1 r1))))))
    ·refine Ev.step (fun k=>by rw [az.l0,rd_H hi]) ?_
     exact Ev.ifT (by omega) (Ev.ifT (by omega) (Ev.ifT (by omega) (Ev.bind h2 (Ev.ifT rfl (Ev.ifT (show (0 : Int) < ((encV K M G n data).length : Int) by omega) (Ev.ifT (show ((rdOf ByteArray.empty (encV K M G n data) 0).size : Int) = _ by rw [e0]) (Ev.ifT (by omega) (Ev.ifT (show (K : Int) ≤ ((encV K M G n data).length : Int) by omega) (Ev.bN (by rw [Int.toNat_natCast]) ((g2 R).2 r2))))))))))
   ·refine ⟨(2,⟨#[]⟩),?_,?_⟩
    ·refine Ev.step (fun k=>by rw [av.l0,rd_H hi]) ?_
     exact Ev.ifT (by omega) (Ev.ifT (by omega) (Ev.bind h1 (Ev.ifT rfl (Ev.ifT (show (0 : Int) < ((encV K M G n data).length : Int) by omega) (Ev.ifF (show ¬ ((rdOf ByteArray.empty (encV K M G n data) 0).size : Int) = (u : Int) by rw [e0];omega) (Ev.now _))))))
    ·refine Ev.step (fun k=>by rw [az.l0,rd_H hi]) ?_
     exact Ev.ifT (by omega) (Ev.ifT (by omega) (Ev.ifT (by omega) (Ev.bind h2 (Ev.ifT rfl (Ev.ifT (show (0 : Int) < ((encV K M G n data).length : Int) by omega) (Ev.ifF (show ¬ ((rdOf ByteArray.empty (encV K M G n data) 0).size : Int) = (u : Int) by rw [e0];omega) (Ev.now _)))))))
  ·refine ⟨(rc,⟨#[]⟩),?_,?_⟩
   ·refine Ev.step (fun k=>by rw [av.l0,rd_H hi]) ?_
    exact Ev.ifT (by omega) (Ev.ifT (by omega) (Ev.bind h1 (Ev.ifF e (Ev.now _))))
   ·refine Ev.step (fun k=>by rw [az.l0,rd_H hi]) ?_
    exact Ev.ifT (by omega) (Ev.ifT (by omega) (Ev.ifT (by omega) (Ev.bind h2 (Ev.ifF e (Ev.now _)))))
theorem join_both (a b c a1 a2 : Int) (L : List S55) : ∃ R,Ev (fun k=>av.f k a b c a1 a2 L) R ∧ Ev (fun k=>az.f k a b c a1 a2 L) R:=by
 obtain ⟨t,h1,h2,h3⟩:=stripes a b c a1 a2
 have jI : ∀ v : Bool,v = true → Ev (fun k=>az.j0 k a1 a2 L v a b c) (1,⟨#[]⟩):=fun v hv=>by rw [hv];exact Ev.step (fun k=>by rw [az.j0,if_pos rfl]) (Ev.now _)
 have jS : ∀ v : Bool,v = true → Ev (fun k=>av.j0 k a1 a2 L v a b c) (1,⟨#[]⟩):=fun v hv=>by rw [hv];exact Ev.step (fun k=>by rw [av.j0,if_pos rfl]) (Ev.now _)
 unfold av.f az.f
 by_cases c0 : t < 0
 ·exact ⟨_,Ev.bind h2 (Ev.ifT c0 (jS _ rfl)),Ev.bind h1 (Ev.ifT c0 (jI _ rfl))⟩
 by_cases cl : (L.length : Int) = t
 ·obtain ⟨K,M,G,u,z,n,hF,rfl,rfl,rfl,rfl,hu1,hu2,rfl,hz1,rfl,hn,hz⟩:=h3.resolve_left c0
  have hLn : L.length = n:=by omega
  obtain ⟨R,r1,r2⟩:=join_loop (z:=z) hF hu2 (L:=L) (by omega) (by rw [hLn];exact hz) L.length 0 [] (by omega) (by simp)
  replace r1 : Ev (fun k=>av.l0 k (u : Int) (z : Int) L [] 0 (K : Int) (M : Int) (G : Int)) R:=r1
  replace r2 : Ev (fun k=>az.l0 k (u : Int) (z : Int) [] L (L.length : Int) 0 (K : Int) (M : Int) (G : Int)) R:=r2
  have e : ((L.length : Int) != (n : Int)) = false:=by rw [hLn];simp
  refine ⟨R,Ev.bind h2 (Ev.ifF c0 ?_),Ev.bind h1 (Ev.ifF c0 ?_)⟩
  ·rw [e];exact Ev.step (fun k=>by rw [av.j0,if_neg (by decide)]) r1
  ·rw [e];exact Ev.step (fun k=>by rw [az.j0,if_neg (by decide)]) r2
 ·exact ⟨_,Ev.bind h2 (Ev.ifF c0 (jS _ (bne_iff_ne.2 cl))),Ev.bind h1 (Ev.ifF c0 (jI _ (bne_iff_ne.2 cl)))⟩
/-! ### the law -/
theorem FnExactJoinObject : bJ.Pure:=by
 intro a b c a1 a2 l ha hb hc h1 h2 hl
 refine Ev.rounds (g:=fun k=>bJ.f k a b c a1 a2 l) ?_
 obtain ⟨z,hz1,hz2⟩:=szH l hl.1 hl.2
 unfold bJ.f
 by_cases hz : z < 0
 ·exact Ev.bind hz1 (Ev.ifT hz (Ev.now _))
 obtain ⟨hlen,hin⟩:=hz2.resolve_left hz
 have hto:=toHS_f l hlen hin
 obtain ⟨⟨rc,rd⟩,g1,g2⟩:=join_both a b c a1 a2 (l.map convH)
 have heq:=eqHS_f (l.map convH) (by rw [List.length_map];exact hlen) (fun y m=>by
  obtain ⟨q,hq,rfl⟩:=List.mem_map.1 m
  show (q.f0.map conv).length ≤ 1048576
  rw [List.length_map];exact hin q hq)
 have er : bF.f rc rd rc rd = some true:=by unfold bF.f;rw [if_pos rfl,if_pos rfl]
 exact Ev.bind hz1 (Ev.ifF hz (Ev.bN rfl (Ev.bind hto (Ev.bind g1 (Ev.bind hto (Ev.bN rfl (Ev.bind g2 (Ev.bN er (Ev.ifT rfl (Ev.bind hto (Ev.bind heq (Ev.ifT rfl (Ev.now _)))))))))))))
end Go.Proofs.Ytffhbpepppodeaa.Pure
