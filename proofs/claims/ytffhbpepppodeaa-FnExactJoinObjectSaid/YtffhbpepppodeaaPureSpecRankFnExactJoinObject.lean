import Derived.Test.YtffhbpepppodeaaPFnExactJoinObjectq
import Derived.Test.YtffhbpepppodeaaNumFnExactJoinObject
import Derived.Test.YtffhbpepppodeaaInvFnExactJoinObject
import Derived.Test.YtffhbpepppodeaaElim2FnExactJoinObject
namespace Go.Proofs.Ytffhbpepppodeaa.Pure
open Go.RowKit Go.Proofs.Ytffhbpepppodeaa.PFnExactJoinObject Go.Proofs.Ytffhbpepppodeaa.Base Go.Proofs.YtffhbpepppodeaaW.PrintWords Go.Proofs.YtffhbpepppodeaaW.PrintLast Go.Proofs.YtffhbpepppodeaaW.PrintMore
open Go.Proofs.Ytffhbpepppodeaa.Gf Go.Proofs.Ytffhbpepppodeaa.Reduce Go.Proofs.Ytffhbpepppodeaa.Grid Go.Proofs.Ytffhbpepppodeaa.Field Go.Proofs.Ytffhbpepppodeaa.Elim

open Go.Proofs.Ytffhbpepppodeaa.Gf Go.Proofs.Ytffhbpepppodeaa.Reduce Go.Proofs.Ytffhbpepppodeaa.Grid Go.Proofs.Ytffhbpepppodeaa.Field Go.Proofs.Ytffhbpepppodeaa.Elim
theorem ofInt_64 (a : Nat) (ha : a < 512) : (BitVec.ofInt 64 (a : Int)).toNat = a:=by
 rw [BitVec.ofInt_natCast,BitVec.toNat_ofNat];exact Nat.mod_eq_of_lt (by omega)
theorem xor64 (a b : Nat) (ha : a < 512) (hb : b < 512) : Go.bits .xor .i64 (a : Int) (b : Int) = ((a ^^^ b : Nat) : Int):=by
 have hx : a ^^^ b < 2 ^ 9:=Nat.xor_lt_two_pow (by omega) (by omega)
 show IntKind.i64.wrap ((BitVec.ofInt 64 (a : Int) ^^^ BitVec.ofInt 64 (b : Int)).toNat : Int) = _
 rw [BitVec.toNat_xor,ofInt_64 a ha,ofInt_64 b hb]
 have h1 : ((a ^^^ b : Nat) : Int) % 18446744073709551616 = ((a ^^^ b : Nat) : Int):=by omega
 simp only [IntKind.wrap,IntKind.bits,IntKind.signed]
 simp
 omega
theorem gN_zero : ∀ (n a : Nat),gN n a 0 = 0
 | 0,_=>rfl
 | n + 1,a=>by show (if 0 % 2 = 1 then a else 0) ^^^ gN n (dblN a) (0 / 2) = 0;rw [if_neg (by decide),Nat.zero_div,gN_zero n,Nat.xor_zero]
theorem spec_times : ∀ (n a b c : Nat),a < 256 → b < 2 ^ n → b < 256 → c < 256 → Ev (fun k=>bh.l0 k (a : Int) (b : Int) 285 256 (c : Int)) ((c ^^^ gN n a b : Nat) : Int)
 | 0,a,b,c,ha,hb,_,hc=>by
  obtain rfl : b = 0:=by simpa using hb
  refine Ev.step (f:=fun _=>some (c : Int)) (fun k=>?_) ?_
  ·simp only [bh.l0];rw [if_neg (by decide)]
  ·show Ev _ ((c ^^^ 0 : Nat) : Int)
   rw [Nat.xor_zero];exact Ev.now _
 | n + 1,a,b,c,ha,hb,hb2,hc=>by
  by_cases h0 : b = 0
  ·subst h0
   refine Ev.step (f:=fun _=>some (c : Int)) (fun k=>?_) ?_
   ·simp only [bh.l0];rw [if_neg (by decide)]
   ·rw [gN_zero,Nat.xor_zero];exact Ev.now _
  have e1 : wrap64 ((a : Int) * 2) = ((2 * a : Nat) : Int):=by rw [w64 (by omega) (by omega)];omega
  have e2 : wrap64 (Int.tdiv (b : Int) 2) = ((b / 2 : Nat) : Int):=by rw [Int.tdiv_eq_ediv_of_nonneg (by omega),w64 (by omega) (by omega)];omega
  have e3 : Int.tmod (b : Int) 2 = ((b % 2 : Nat) : Int):=by rw [Int.tmod_eq_emod_of_nonneg (by omega)];omega
  have hb' : b / 2 < 2 ^ n:=by rw [Nat.pow_succ] at hb;omega
  have ed : (if ((2 * a : Nat) : Int) ≥ 256 then Go.bits .xor .i64 ((2 * a : Nat) : Int) 285 else ((2 * a : Nat) : Int)) = ((dblN a : Nat) : Int):=by
   unfold dblN
   by_cases h : a < 128
   ·rw [if_neg (by omega),if_pos h]
   ·rw [if_pos (by omega),if_neg h]
    exact xor64 (2 * a) 285 (by omega) (by omega)
  have eg : gN (n + 1) a b = (if b % 2 = 1 then a else 0) ^^^ gN n (dblN a) (b / 2):=rfl
  have IH:=fun c hc=>spec_times n (dblN a) (b / 2) c (dblN_lt ha) hb' (by omega) hc
  by_cases hp : b % 2 = 1
  ·have ex' : Go.bits .xor .i64 (c : Int) (a : Int) = ((c ^^^ a : Nat) : Int):=xor64 c a (by omega) (by omega)
   have H:=IH (c ^^^ a) (xlt hc ha)
   rw [eg,if_pos hp,← Nat.xor_assoc]
   by_cases h : ((2 * a : Nat) : Int) ≥ 256
   ·rw [if_pos h] at ed
    rw [← ed] at H
    refine Ev.step (fun k=>?_) H
    simp only [bh.l0,e1,e2,e3,ex']
    rw [if_pos (by omega),if_pos (by omega),if_pos h]
   ·rw [if_neg h] at ed
    rw [← ed] at H
    refine Ev.step (fun k=>?_) H
    simp only [bh.l0,e1,e2,e3,ex']
    rw [if_pos (by omega),if_pos (by omega),if_neg h]
  ·have H:=IH c hc
   rw [eg,if_neg hp,Nat.zero_xor]
   by_cases h : ((2 * a : Nat) : Int) ≥ 256
   ·rw [if_pos h] at ed
    rw [← ed] at H
    refine Ev.step (fun k=>?_) H
    simp only [bh.l0,e1,e2,e3]
    rw [if_pos (by omega),if_neg (by omega),if_pos h]
   ·rw [if_neg h] at ed
    rw [← ed] at H
    refine Ev.step (fun k=>?_) H
    simp only [bh.l0,e1,e2,e3]
    rw [if_pos (by omega),if_neg (by omega),if_neg h]
theorem spec_in (a : Nat) (h : a < 256) : bE.f (a : Int) 256 = some true:=by
 unfold bE.f
 rw [if_pos (by omega)]
 exact congrArg some (decide_eq_true (by omega))
theorem spec_mul (a b : Nat) (ha : a < 256) (hb : b < 256) : Ev (fun k=>cf.f k (a : Int) (b : Int)) ((gm a b : Nat) : Int):=by
 unfold cf.f
 refine Ev.bN (spec_in a ha) (Ev.ifT rfl (Ev.bN (spec_in b hb) (Ev.ifT rfl ?_)))
 refine Ev.bind (a:=((gm a b : Nat) : Int)) ?_ (Ev.now _)
 have:=spec_times 8 a b 0 ha hb hb (by decide)
 rw [Nat.zero_xor] at this
 exact this
theorem spec_inv_loop (a : Nat) (ha : a < 256) (h0 : a ≠ 0) : ∀ (d x : Nat),x + d = 256 → 1 ≤ x → x ≤ invN a → Ev (fun k=>bI.l0 k (a : Int) (x : Int)) ((invN a : Nat) : Int)
 | 0,x,h,_,h2=>by have:=dn a;omega
 | d + 1,x,h,h1,h2=>by
  have hx : x < 256:=by omega
  by_cases e : x = invN a
  ·refine Ev.step (f:=fun k=>(cf.f k (a : Int) (x : Int)).bind fun t117=>(if t117 = 1 then (some (x : Int)) else (bI.l0 k (a : Int) (wrap64 ((x : Int) + 1))))) (fun k=>?_) ?_
   ·simp only [bI.l0];rw [if_pos (by omega)]
   ·refine Ev.bind (spec_mul a x ha hx) (Ev.ifT ?_ ?_)
    ·rw [e,dD ha (dn a),inv_all a ha h0];rfl
    ·rw [e];exact Ev.now _
  ·refine Ev.step (f:=fun k=>(cf.f k (a : Int) (x : Int)).bind fun t117=>(if t117 = 1 then (some (x : Int)) else (bI.l0 k (a : Int) (wrap64 ((x : Int) + 1))))) (fun k=>?_) ?_
   ·simp only [bI.l0];rw [if_pos (by omega)]
   ·refine Ev.bind (spec_mul a x ha hx) (Ev.ifF (fun c=>e (inv_uniq ha hx (by omega))) ?_)
    have:=spec_inv_loop a ha h0 d (x + 1) (by omega) (by omega) (by omega)
    rw [w64 (by omega) (by omega)]
    simpa using this
theorem spec_inv (a : Nat) (ha : a < 256) (h0 : a ≠ 0) : Ev (fun k=>bI.f k (a : Int)) ((invN a : Nat) : Int):=by
 have hn : invN a ≠ 0:=fun e=>by have:=inv_all a ha h0;rw [e,gm_zl] at this;cases this
 unfold bI.f
 refine Ev.bN (spec_in a ha) (Ev.ifT rfl ?_)
 exact spec_inv_loop a ha h0 255 1 (by omega) (by omega) (by omega)

def Rep (R C : Nat) (l : List Int) (P : MatN) : Prop:=l.length = R * C ∧ ∀ i j,i < R → j < C → rd l ((i * C + j : Nat) : Int) = (P i j : Int)
theorem idx_lt {R C i j : Nat} (hi : i < R) (hj : j < C) : i * C + j < R * C:=by
 have:=Nat.mul_le_mul_right C hi
 rw [Nat.succ_mul] at this;omega
theorem idx_eq {C i j : Nat} (hi : i ≤ 64) (hC : C ≤ 128) (hj : j ≤ C) : wrap64 ((wrap64 ((i : Int) * (C : Int))) + (j : Int)) = ((i * C + j : Nat) : Int):=by
 have h1 : i * C ≤ 64 * 128:=Nat.mul_le_mul hi hC
 have e : (i : Int) * (C : Int) = ((i * C : Nat) : Int):=by rw [Int.natCast_mul]
 rw [e,w64 (x:=((i * C : Nat) : Int)) (by omega) (by omega),w64 (by omega) (by omega)]
 omega
theorem at_eq {R C : Nat} {l : List Int} {P : MatN} (h : Rep R C l P) {i j : Nat} (hR : R ≤ 64) (hC : C ≤ 128) (hi : i < R) (hj : j < C) : bs.f (R : Int) (C : Int) l (i : Int) (j : Int) = some ((P i j : Nat) : Int):=by
 have h1:=idx_lt hi hj
 unfold bs.f
 rw [idx_eq (by omega) hC (by omega),if_pos (by omega),if_pos (by have:=h.1;omega),h.2 i j hi hj]
def upd (P : MatN) (i j v : Nat) : MatN:=fun i' j'=>if i' = i ∧ j' = j then v else P i' j'
theorem Rep.set {R C : Nat} {l : List Int} {P : MatN} (h : Rep R C l P) {i j : Nat} (hi : i < R) (hj : j < C) (v : Nat) : Rep R C (l.set (i * C + j) (v : Int)) (upd P i j v):=by
 refine ⟨by rw [List.length_set];exact h.1,fun i' j' hi' hj'=>?_⟩
 have h1:=idx_lt hi hj
 have h2:=h.2 i' j' hi' hj'
 unfold rd at h2 ⊢
 rw [Int.toNat_natCast] at h2 ⊢
 rw [List.getD_eq_getElem?_getD] at h2 ⊢
 unfold upd
 by_cases e : i' = i ∧ j' = j
 ·obtain ⟨rfl,rfl⟩:=e
  rw [if_pos ⟨rfl,rfl⟩,List.getElem?_set_self (by rw [h.1];exact h1)];rfl
 ·rw [if_neg e,List.getElem?_set_ne (fun e'=>e (by obtain ⟨e1,e2⟩:=cells_apart hj hj' e';exact ⟨e1.symm,e2.symm⟩))]
  exact h2
theorem Rep.congr {R C : Nat} {l : List Int} {P P' : MatN} (h : Rep R C l P) (e : ∀ i j,i < R → j < C → P' i j = P i j) : Rep R C l P':=⟨h.1,fun i j hi hj=>by rw [e i j hi hj];exact h.2 i j hi hj⟩
def swK (P : MatN) (a b c : Nat) : MatN:=fun i j=>if j < c then P (sw a b i) j else P i j
theorem swap_ev {R C : Nat} (P : MatN) {a b : Nat} (hR : R ≤ 64) (hC : C ≤ 128) (ha : a < R) (hb : b < R) : ∀ (d c : Nat) (l : List Int),c + d = C → Rep R C l (swK P a b c) → ∃ l',Ev (fun k=>bp.l0 k (b : Int) (a : Int) (c : Int) (R : Int) (C : Int) l) l' ∧ Rep R C l' (swK P a b C)
 | 0,c,l,hd,h=>by
  obtain rfl : c = C:=by omega
  exact ⟨l,Ev.step (fun k=>by rw [bp.l0,if_neg (by omega)]) (Ev.now _),h⟩
 | d + 1,c,l,hd,h=>by
  have hc : c < C:=by omega
  have v1 : swK P a b c b c = P b c:=by unfold swK;rw [if_neg (by omega)]
  have v2 : swK P a b c a c = P a c:=by unfold swK;rw [if_neg (by omega)]
  have h1:=(h.set hb hc (P a c)).set ha hc (P b c)
  have h2 : Rep R C ((l.set (b * C + c) ((P a c : Nat) : Int)).set (a * C + c) ((P b c : Nat) : Int)) (swK P a b (c + 1)):=h1.congr fun i j hi hj=>by
   unfold upd swK sw
   by_cases e : j = c
   ·subst e
    by_cases e1 : i = a
    ·subst e1;simp
    ·by_cases e2 : i = b
     ·subst e2;simp [e1]
     ·simp [e1,e2]
   ·have : j < c + 1 ↔ j < c:=by omega
    simp [e,this]
  obtain ⟨l',ev,hl⟩:=swap_ev P hR hC ha hb d (c + 1) _ (by omega) h2
  refine ⟨l',Ev.step (fun k=>by rw [bp.l0,if_pos (by omega)]) ?_,hl⟩
  refine Ev.bN (at_eq h hR hC hb hc) (Ev.bN (at_eq h hR hC ha hc) ?_)
  rw [idx_eq (by omega) hC (by omega),idx_eq (by omega) hC (by omega),v1,v2]
  have b1:=idx_lt hb hc
  have b2:=idx_lt ha hc
  have hlen:=h.1
  refine Ev.ifT (by omega) (Ev.ifT (by omega) (Ev.ifT (by omega) (Ev.ifT (by omega) ?_)))
  rw [w64 (by omega) (by omega),Int.toNat_natCast,Int.toNat_natCast]
  exact ev
def nrm (S : MatN) (rk f c : Nat) : MatN:=fun i j=>if i = rk ∧ j < c then gm f (S i j) else S i j
def inK (U : MatN) (rk i0 g c : Nat) : MatN:=fun i j=>if i = i0 ∧ j < c then U i j ^^^ gm g (U rk j) else U i j
def rwK (T : MatN) (rk col n : Nat) : MatN:=fun i j=>if i < n ∧ i ≠ rk then T i j ^^^ gm (T i col) (T rk j) else T i j
theorem Rep.uniq {R C : Nat} {l l' : List Int} {P : MatN} (h : Rep R C l P) (h' : Rep R C l' P) : l = l':=by
 have e1:=h.1
 have e2:=h'.1
 apply List.ext_getElem (by omega)
 intro n h1 h2
 have hC : 0 < C:=by
  rcases Nat.eq_zero_or_pos C with e|e
  ·subst e;rw [Nat.mul_zero] at e1;omega
  ·exact e
 have hi : n / C < R:=(Nat.div_lt_iff_lt_mul hC).2 (by omega)
 have hj : n % C < C:=Nat.mod_lt _ hC
 have hn : n / C * C + n % C = n:=by rw [Nat.mul_comm];exact Nat.div_add_mod n C
 have q1:=h.2 _ _ hi hj
 have q2:=h'.2 _ _ hi hj
 rw [hn] at q1 q2
 have q:=q1.trans q2.symm
 unfold rd at q
 rw [Int.toNat_natCast,List.getD_eq_getElem?_getD,List.getD_eq_getElem?_getD,List.getElem?_eq_getElem h1,List.getElem?_eq_getElem h2] at q
 exact q
theorem rep_step {R C : Nat} {l : List Int} {P P' : MatN} (h : Rep R C l P) {i j v : Nat} (hi : i < R) (hj : j < C) (e : ∀ i' j',i' < R → j' < C → P' i' j' = upd P i j v i' j') : Rep R C (l.set (i * C + j) (v : Int)) P':=(h.set hi hj v).congr e
theorem clear2_ev {R C : Nat} (U : MatN) {rk col i0 g : Nat} (hU : ByM U) (hg : g < 256) (hR : R ≤ 64) (hC : C ≤ 128) (hrk : rk < R) (hi0 : i0 < R) (hne : i0 ≠ rk) (r : List Int) : ∀ (d c : Nat) (l : List Int),c + d = C → Rep R C l (inK U rk i0 g c) →
  (∀ l',Rep R C l' (inK U rk i0 g C) → Ev (fun k=>ao.l1 k (rk : Int) (col : Int) (wrap64 ((i0 : Int) + 1)) (R : Int) (C : Int) l') r) →
  Ev (fun k=>ao.l2 k (rk : Int) (col : Int) (i0 : Int) (g : Int) (c : Int) (R : Int) (C : Int) l) r
 | 0,c,l,hd,h,K=>by
  obtain rfl : c = C:=by omega
  exact Ev.step (fun k=>by rw [ao.l2,if_neg (by omega)]) (K l h)
 | d + 1,c,l,hd,h,K=>by
  have hc : c < C:=by omega
  have v1 : inK U rk i0 g c i0 c = U i0 c:=by unfold inK;rw [if_neg (by omega)]
  have v2 : inK U rk i0 g c rk c = U rk c:=by unfold inK;rw [if_neg (by omega)]
  have h2 : Rep R C (l.set (i0 * C + c) ((U i0 c ^^^ gm g (U rk c) : Nat) : Int)) (inK U rk i0 g (c + 1)):=rep_step h hi0 hc fun i j hi hj=>by
   unfold upd inK
   by_cases e : i = i0 ∧ j = c
   ·obtain ⟨rfl,rfl⟩:=e
    rw [if_pos ⟨rfl,by omega⟩,if_pos ⟨rfl,rfl⟩]
   ·rw [if_neg e]
    by_cases e2 : i = i0 ∧ j < c
    ·rw [if_pos e2,if_pos ⟨e2.1,by omega⟩]
    ·rw [if_neg e2,if_neg (fun x=>e ⟨x.1,by have:=x.2;have : ¬ j < c:=fun y=>e2 ⟨x.1,y⟩;omega⟩)]
  have ev:=clear2_ev U hU hg hR hC hrk hi0 hne r d (c + 1) _ (by omega) h2 K
  refine Ev.step (fun k=>by rw [ao.l2,if_pos (by omega)]) ?_
  refine Ev.bN (at_eq h hR hC hi0 hc) (Ev.bN (at_eq h hR hC hrk hc) ?_)
  rw [v1,v2]
  refine Ev.bind (spec_mul g (U rk c) hg (hU _ _)) ?_
  have b1:=idx_lt hi0 hc
  have hlen:=h.1
  rw [idx_eq (by omega) hC (by omega)]
  refine Ev.ifT (by omega) (Ev.ifT (by omega) ?_)
  rw [w64 (by omega) (by omega),Int.toNat_natCast,xor64 _ _ (by have:=hU i0 c;omega) (by have:=dr (U rk c) hg;omega)]
  exact ev
theorem clear1_ev {R C : Nat} (T : MatN) {rk col : Nat} (hT : ByM T) (hR : R ≤ 64) (hC : C ≤ 128) (hrk : rk < R) (hcol : col < C) : ∀ (d n : Nat) (l : List Int),n + d = R → Rep R C l (rwK T rk col n) → ∃ l',Ev (fun k=>ao.l1 k (rk : Int) (col : Int) (n : Int) (R : Int) (C : Int) l) l' ∧ Rep R C l' (rwK T rk col R)
 | 0,n,l,hd,h=>by
  obtain rfl : n = R:=by omega
  exact ⟨l,Ev.step (fun k=>by rw [ao.l1,if_neg (by omega)]) (Ev.now _),h⟩
 | d + 1,n,l,hd,h=>by
  have hn : n < R:=by omega
  have hU : ByM (rwK T rk col n):=fun i j=>by
   unfold rwK;split
   ·exact xlt (hT _ _) (dr _ (hT _ _))
   ·exact hT _ _
  have v1 : rwK T rk col n n col = T n col:=by unfold rwK;rw [if_neg (by omega)]
  have v2 : ∀ j,rwK T rk col n rk j = T rk j:=fun j=>by unfold rwK;rw [if_neg (fun e=>e.2 rfl)]
  have hskip : (n = rk ∨ T n col = 0) → ∀ i j,rwK T rk col (n + 1) i j = rwK T rk col n i j:=by
   intro hs i j
   unfold rwK
   by_cases e : i < n ∧ i ≠ rk
   ·rw [if_pos e,if_pos ⟨by omega,e.2⟩]
   ·rw [if_neg e]
    by_cases e2 : i < n + 1 ∧ i ≠ rk
    ·rw [if_pos e2]
     obtain rfl : i = n:=by omega
     rw [hs.resolve_left e2.2,gm_zl,Nat.xor_zero]
    ·rw [if_neg e2]
  have es : wrap64 ((n : Int) + 1) = ((n + 1 : Nat) : Int):=by rw [w64 (by omega) (by omega)];omega
  by_cases c1 : n = rk
  ·obtain ⟨l',ev,hl⟩:=clear1_ev T hT hR hC hrk hcol d (n + 1) l (by omega) (h.congr fun i j _ _=>hskip (Or.inl c1) i j)
   refine ⟨l',Ev.step (fun k=>by rw [ao.l1,if_pos (by omega)]) ?_,hl⟩
   refine Ev.bN (at_eq h hR hC hn hcol) (Ev.ifT (by omega) ?_)
   refine Ev.step (fun k=>by rw [ao.j2,if_pos rfl]) ?_
   rw [es];exact ev
  ·by_cases c2 : T n col = 0
   ·obtain ⟨l',ev,hl⟩:=clear1_ev T hT hR hC hrk hcol d (n + 1) l (by omega) (h.congr fun i j _ _=>hskip (Or.inr c2) i j)
    refine ⟨l',Ev.step (fun k=>by rw [ao.l1,if_pos (by omega)]) ?_,hl⟩
    refine Ev.bN (at_eq h hR hC hn hcol) (Ev.ifF (by omega) ?_)
    rw [v1,c2]
    refine Ev.step (fun k=>by rw [ao.j2,if_pos (by simp)]) ?_
    rw [es];exact ev
   ·have hfin : ∀ l',Rep R C l' (inK (rwK T rk col n) rk n (T n col) C) → Rep R C l' (rwK T rk col (n + 1)):=fun l' hl=>hl.congr fun i j hi hj=>by
     unfold inK
     by_cases e : i = n ∧ j < C
     ·obtain ⟨rfl,e2⟩:=e
      rw [if_pos ⟨rfl,e2⟩,v2]
      unfold rwK
      rw [if_pos ⟨by omega,c1⟩,if_neg (by omega)]
     ·rw [if_neg e]
      unfold rwK
      have : i ≠ n:=fun x=>e ⟨x,hj⟩
      by_cases e2 : i < n ∧ i ≠ rk
      ·rw [if_pos e2,if_pos ⟨by omega,e2.2⟩]
      ·rw [if_neg e2,if_neg (fun x=>e2 ⟨by omega,x.2⟩)]
    obtain ⟨l2,hl2⟩ : ∃ l2,Rep R C l2 (inK (rwK T rk col n) rk n (T n col) C):=by
     exact ⟨List.ofFn (fun x : Fin (R * C)=>((inK (rwK T rk col n) rk n (T n col) C (x.1 / C) (x.1 % C) : Nat) : Int)),by simp,fun i j hi hj=>by
      unfold rd
      rw [Int.toNat_natCast,List.getD_eq_getElem?_getD,List.getElem?_eq_getElem (by simp;exact idx_lt hi hj)]
      simp [List.getElem_ofFn,Nat.mul_comm i C,Nat.mul_add_div (show 0 < C by omega),Nat.div_eq_of_lt hj,Nat.mul_add_mod,Nat.mod_eq_of_lt hj]⟩
    have huni : ∀ l3,Rep R C l3 (inK (rwK T rk col n) rk n (T n col) C) → l3 = l2:=fun l3 h3=>Rep.uniq h3 hl2
    obtain ⟨l',ev,hl⟩:=clear1_ev T hT hR hC hrk hcol d (n + 1) l2 (by omega) (hfin l2 hl2)
    refine ⟨l',Ev.step (fun k=>by rw [ao.l1,if_pos (by omega)]) ?_,hl⟩
    refine Ev.bN (at_eq h hR hC hn hcol) (Ev.ifF (by omega) ?_)
    rw [v1]
    refine Ev.step (fun k=>by rw [ao.j2,if_neg (by simp;exact c2)]) ?_
    refine clear2_ev (rwK T rk col n) hU (hT n col) hR hC hrk hn c1 l' C 0 l (by omega) (h.congr fun i j _ _=>by unfold inK;rw [if_neg (by omega)]) (fun l3 h3=>?_)
    rw [es,huni l3 h3];exact ev
theorem clear0_ev {R C : Nat} (S : MatN) {rk col f : Nat} (hS : ByM S) (hf : f < 256) (hR : R ≤ 64) (hC : C ≤ 128) (hrk : rk < R) (hcol : col < C) : ∀ (d c : Nat) (l : List Int),c + d = C → Rep R C l (nrm S rk f c) → ∃ l',Ev (fun k=>ao.l0 k (rk : Int) (col : Int) (f : Int) (c : Int) (R : Int) (C : Int) l) l' ∧ Rep R C l' (rwK (nrm S rk f C) rk col R)
 | 0,c,l,hd,h=>by
  obtain rfl : c = C:=by omega
  have hb : ByM (nrm S rk f c):=fun i j=>by
   unfold nrm;split
   ·exact dr _ hf
   ·exact hS _ _
  obtain ⟨l',ev,hl⟩:=clear1_ev (nrm S rk f c) hb hR hC hrk hcol R 0 l (by omega) (h.congr fun i j _ _=>by unfold rwK;rw [if_neg (by omega)])
  exact ⟨l',Ev.step (fun k=>by rw [ao.l0,if_neg (by omega)];rfl) ev,hl⟩
 | d + 1,c,l,hd,h=>by
  have hc : c < C:=by omega
  have v1 : nrm S rk f c rk c = S rk c:=by unfold nrm;rw [if_neg (by omega)]
  have h2 : Rep R C (l.set (rk * C + c) ((gm f (S rk c) : Nat) : Int)) (nrm S rk f (c + 1)):=rep_step h hrk hc fun i j hi hj=>by
   unfold upd nrm
   by_cases e : i = rk ∧ j = c
   ·obtain ⟨rfl,rfl⟩:=e
    rw [if_pos ⟨rfl,by omega⟩,if_pos ⟨rfl,rfl⟩]
   ·rw [if_neg e]
    by_cases e2 : i = rk ∧ j < c
    ·rw [if_pos e2,if_pos ⟨e2.1,by omega⟩]
    ·rw [if_neg e2,if_neg (fun x=>e ⟨x.1,by have:=x.2;have : ¬ j < c:=fun y=>e2 ⟨x.1,y⟩;omega⟩)]
  obtain ⟨l',ev,hl⟩:=clear0_ev S hS hf hR hC hrk hcol d (c + 1) _ (by omega) h2
  refine ⟨l',Ev.step (fun k=>by rw [ao.l0,if_pos (by omega)]) ?_,hl⟩
  refine Ev.bN (at_eq h hR hC hrk hc) ?_
  rw [v1]
  refine Ev.bind (spec_mul f (S rk c) hf (hS _ _)) ?_
  have b1:=idx_lt hrk hc
  have hlen:=h.1
  rw [idx_eq (by omega) hC (by omega)]
  refine Ev.ifT (by omega) (Ev.ifT (by omega) ?_)
  rw [w64 (by omega) (by omega),Int.toNat_natCast]
  exact ev
theorem clear_ev {R C : Nat} (S : MatN) {rk col : Nat} {l : List Int} (hS : ByM S) (hR : R ≤ 64) (hC : C ≤ 128) (hrk : rk < R) (hcol : col < C) (h0 : S rk col ≠ 0) (h : Rep R C l S) : ∃ l',Ev (fun k=>ao.f k (R : Int) (C : Int) l (rk : Int) (col : Int)) l' ∧ Rep R C l' (rwK (nrm S rk (invN (S rk col)) C) rk col R):=by
 obtain ⟨l',ev,hl⟩:=clear0_ev S hS (dn (S rk col)) hR hC hrk hcol C 0 l (by omega) (h.congr fun i j _ _=>by unfold nrm;rw [if_neg (by omega)])
 refine ⟨l',?_,hl⟩
 unfold ao.f
 exact Ev.bN (at_eq h hR hC hrk hcol) (Ev.bind (spec_inv _ (hS _ _) h0) ev)
theorem swap_f {R C : Nat} {P : MatN} {a b : Nat} {l : List Int} (hR : R ≤ 64) (hC : C ≤ 128) (ha : a < R) (hb : b < R) (h : Rep R C l P) : ∃ l',Ev (fun k=>bp.f k (R : Int) (C : Int) l (b : Int) (a : Int)) l' ∧ Rep R C l' (fun i j=>P (sw a b i) j):=by
 obtain ⟨l',ev,hl⟩:=swap_ev P hR hC ha hb C 0 l (by omega) (h.congr fun i j _ _=>by unfold swK;rw [if_neg (by omega)])
 refine ⟨l',?_,hl.congr fun i j _ hj=>by unfold swK;rw [if_pos hj]⟩
 unfold bp.f
 exact ev
theorem step_ev {R C : Nat} {P : MatN} {a rk k : Nat} {l : List Int} (hP : ByM P) (hR : R ≤ 64) (hC : C ≤ 128) (ha : a < R) (hrk : rk < R) (hk : k < C) (h0 : P a k ≠ 0) (h : Rep R C l P) :
  ∃ l1 l2,Ev (fun n=>bp.f n (R : Int) (C : Int) l (rk : Int) (a : Int)) l1 ∧ Ev (fun n=>ao.f n (R : Int) (C : Int) l1 (rk : Int) (k : Int)) l2 ∧ Rep R C l2 (gj P rk k a (invN (P a k))):=by
 obtain ⟨l1,e1,h1⟩:=swap_f hR hC ha hrk h
 have hs : P (sw a rk rk) k ≠ 0:=by rw [sw_r];exact h0
 obtain ⟨l2,e2,h2⟩:=clear_ev (fun i j=>P (sw a rk i) j) (fun i j=>hP _ _) hR hC hrk hk hs h1
 refine ⟨l1,l2,e1,e2,h2.congr fun i j hi hj=>?_⟩
 simp only [sw_r]
 unfold gj rwK nrm
 by_cases e : i = rk
 ·subst e
  rw [if_pos rfl,if_neg (fun x=>x.2 rfl),if_pos ⟨rfl,hj⟩]
  show _ = gm _ (P (sw a i i) j)
  rw [sw_r]
 ·rw [if_neg e,if_pos ⟨hi,e⟩,if_neg (fun x=>e x.1),if_neg (fun x=>e x.1),if_pos ⟨rfl,hj⟩]
  show _ = P (sw a rk i) j ^^^ gm (P (sw a rk i) k) (gm (invN (P a k)) (P (sw a rk rk) j))
  rw [sw_r]
theorem good_full {M P : MatN} {R C k rk : Nat} (h : Go.Proofs.Ytffhbpepppodeaa.Elim.Good M R C k rk P) (hf : ¬ rk < R) : ∀ d,k + d ≤ C → Go.Proofs.Ytffhbpepppodeaa.Elim.Good M R C (k + d) rk P
 | 0,_=>h
 | d + 1,hd=>Go.Proofs.Ytffhbpepppodeaa.Elim.Good.none (good_full h hf d (by omega)) (show k + d < C by omega) (fun i hi hi'=>by omega)
theorem rows_ev {R C : Nat} {P : MatN} {rk k : Nat} {l : List Int} (hR : R ≤ 64) (hC : C ≤ 128) (hk : k < C) (h : Rep R C l P) (r : Int)
  (Hn : (∀ i,rk ≤ i → i < R → P i k = 0) → Ev (fun n=>ay.l0 n (rk : Int) (wrap64 ((k : Int) + 1)) (R : Int) (C : Int) l) r)
  (Hs : ∀ a : Nat,rk ≤ a → a < R → P a k ≠ 0 → Ev (fun n=>(bp.f n (R : Int) (C : Int) l (rk : Int) (a : Int)).bind fun t138=>((ao.f n (R : Int) (C : Int) t138 (rk : Int) (k : Int)).bind fun t139=>(ay.l0 n (wrap64 ((rk : Int) + 1)) (wrap64 ((k : Int) + 1)) (R : Int) (C : Int) t139))) r) :
  ∀ (d n : Nat) (at_ : Int),n + d = R → rk ≤ n → (at_ = -1 ∧ (∀ i,rk ≤ i → i < n → P i k = 0) ∨ ∃ a : Nat,at_ = a ∧ rk ≤ a ∧ a < R ∧ P a k ≠ 0) → Ev (fun m=>ay.l1 m (rk : Int) (k : Int) at_ (n : Int) (R : Int) (C : Int) l) r
 | 0,n,at_,hd,hn,hat=>by
  rcases hat with ⟨rfl,hz⟩|⟨a,rfl,h1,h2,h3⟩
  ·refine Ev.step (fun m=>by rw [ay.l1,if_neg (by omega),if_pos (by decide)]) (Hn fun i hi hi'=>hz i hi (by omega))
  ·refine Ev.step (fun m=>by rw [ay.l1,if_neg (by omega),if_neg (by omega)]) (Hs a h1 h2 h3)
 | d + 1,n,at_,hd,hn,hat=>by
  have hnR : n < R:=by omega
  have es : wrap64 ((n : Int) + 1) = ((n + 1 : Nat) : Int):=by rw [w64 (by omega) (by omega)];omega
  refine Ev.step (fun m=>by rw [ay.l1,if_pos (by omega)]) ?_
  refine Ev.bN (at_eq h hR hC hnR hk) ?_
  by_cases c : P n k = 0
  ·refine Ev.ifT (by omega) ?_
   rw [es]
   refine rows_ev hR hC hk h r Hn Hs d (n + 1) at_ (by omega) (by omega) ?_
   rcases hat with ⟨rfl,hz⟩|hs
   ·refine .inl ⟨rfl,fun i hi hi'=>?_⟩
    by_cases e : i = n
    ·subst e;exact c
    ·exact hz i hi (by omega)
   ·exact .inr hs
  ·refine Ev.ifF (by omega) ?_
   rw [es]
   exact rows_ev hR hC hk h r Hn Hs d (n + 1) n (by omega) (by omega) (.inr ⟨n,rfl,hn,hnR,c⟩)
theorem rank_ev {M : MatN} {R C : Nat} (hR : R ≤ 64) (hC : C ≤ 128) : ∀ (d k rk : Nat) (P : MatN) (l : List Int),k + d = C → Go.Proofs.Ytffhbpepppodeaa.Elim.Good M R C k rk P → Rep R C l P → Ev (fun n=>ay.l0 n (rk : Int) (k : Int) (R : Int) (C : Int) l) ((cnt M R C C : Nat) : Int)
 | 0,k,rk,P,l,hd,hg,h=>by
  obtain rfl : k = C:=by omega
  refine Ev.step (fun n=>by rw [ay.l0,if_neg (by omega)]) (Ev.step (fun n=>by rw [ay.j1,if_neg (by decide)]) ?_)
  rw [← hg.cnt];exact Ev.now _
 | d + 1,k,rk,P,l,hd,hg,h=>by
  have hk : k < C:=by omega
  have ek : wrap64 ((k : Int) + 1) = ((k + 1 : Nat) : Int):=by rw [w64 (by omega) (by omega)];omega
  refine Ev.step (fun n=>by rw [ay.l0,if_pos (by omega)]) ?_
  by_cases hf : rk < R
  ·have er : wrap64 ((rk : Int) + 1) = ((rk + 1 : Nat) : Int):=by rw [w64 (by omega) (by omega)];omega
   refine Ev.step (fun n=>by rw [ay.j1,if_pos (decide_eq_true (by omega))]) ?_
   refine rows_ev hR hC hk h _ (fun hz=>?_) (fun a h1 h2 h3=>?_) (R - rk) rk (-1) (by omega) (Nat.le_refl _) (.inl ⟨rfl,fun i hi hi'=>by omega⟩)
   ·rw [ek]
    exact rank_ev hR hC d (k + 1) rk P l (by omega) (Go.Proofs.Ytffhbpepppodeaa.Elim.Good.none hg hk hz) h
   ·obtain ⟨l1,l2,e1,e2,hl⟩:=step_ev hg.byt hR hC h2 hf hk h3 h
    refine Ev.bind e1 (Ev.bind e2 ?_)
    rw [ek,er]
    exact rank_ev hR hC d (k + 1) (rk + 1) _ l2 (by omega) (Go.Proofs.Ytffhbpepppodeaa.Elim.Good.some hg hk h1 h2 (dn _) (inv_all _ (hg.byt a k) h3)) hl
  ·refine Ev.step (fun n=>by rw [ay.j1,if_neg (by simp;omega)]) ?_
   have hg2:=good_full hg hf (d + 1) (by omega)
   rw [hd] at hg2
   rw [← hg2.cnt];exact Ev.now _
theorem rank_f {M : MatN} {R C : Nat} {l : List Int} (hM : ByM M) (hR : R ≤ 64) (hC : C ≤ 128) (h : Rep R C l M) : Ev (fun n=>ay.f n (R : Int) (C : Int) l) ((cnt M R C C : Nat) : Int):=by
 unfold ay.f
 refine Ev.bN rfl (Ev.ifT ?_ ?_)
 ·have h1 : R * C ≤ 64 * 128:=Nat.mul_le_mul hR hC
  have:=h.1
  simp;omega
 ·exact rank_ev hR hC C 0 0 M l (by omega) (Go.Proofs.Ytffhbpepppodeaa.Elim.Good.start R C hM) h

def allB (l : List Int) : Prop:=∀ x ∈ l,0 ≤ x ∧ x ≤ 255
theorem rd_nat (l : List Int) (i : Nat) : rd l (i : Int) = l.getD i 0:=by unfold rd;rw [Int.toNat_natCast]
theorem in_yes {x : Int} (h : 0 ≤ x ∧ x ≤ 255) : bE.f x 256 = some true:=by
 unfold bE.f;rw [if_pos (by omega)];exact congrArg some (decide_eq_true (by omega))
theorem in_no {x : Int} (h : ¬ (0 ≤ x ∧ x ≤ 255)) : bE.f x 256 = some false:=by
 unfold bE.f
 by_cases c : x ≥ 0
 ·rw [if_pos c];exact congrArg some (decide_eq_false (by omega))
 ·rw [if_neg c]
theorem allB_of {l : List Int} (h : ∀ j,j < l.length → 0 ≤ l.getD j 0 ∧ l.getD j 0 ≤ 255) : allB l:=fun x hx=>by
 obtain ⟨j,hj,rfl⟩:=List.getElem_of_mem hx
 have:=h j hj
 rw [List.getD_eq_getElem?_getD,List.getElem?_eq_getElem hj] at this
 exact this
open Classical in
theorem sfault_loop (a b : Int) (l : List Int) (hl : l.length ≤ 1048576) : ∀ (d i : Nat),i + d = l.length → (∀ j,j < i → 0 ≤ l.getD j 0 ∧ l.getD j 0 ≤ 255) → Ev (fun k=>aI.l0 k (i : Int) a b l) (if allB l then 0 else 1)
 | 0,i,hd,h=>by
  rw [if_pos (allB_of fun j hj=>h j (by omega))]
  exact Ev.step (fun k=>by rw [aI.l0,if_neg (by omega)]) (Ev.now _)
 | d + 1,i,hd,h=>by
  refine Ev.step (fun k=>by rw [aI.l0,if_pos (by omega),if_pos (by omega)]) ?_
  rw [rd_nat]
  by_cases c : 0 ≤ l.getD i 0 ∧ l.getD i 0 ≤ 255
  ·refine Ev.bN (in_yes c) (Ev.ifT rfl ?_)
   rw [w64 (by omega) (by omega)]
   exact sfault_loop a b l hl d (i + 1) (by omega) (fun j hj=>by
    by_cases e : j = i
    ·subst e;exact c
    ·exact h j (by omega))
  ·refine Ev.bN (in_no c) (Ev.ifF (by decide) ?_)
   rw [if_neg (fun hb=>c (hb _ (getD_mem 0 (by omega))))]
   exact Ev.now _
open Classical in
theorem ab_nat {a b : Int} (h1 : 1 ≤ a) (h2 : a ≤ 64) (h3 : 1 ≤ b) (h4 : b ≤ 64) : wrap64 (a * b) = ((a.toNat * b.toNat : Nat) : Int):=by
 obtain ⟨A,rfl⟩:=Int.eq_ofNat_of_zero_le (show 0 ≤ a by omega)
 obtain ⟨B,rfl⟩:=Int.eq_ofNat_of_zero_le (show 0 ≤ b by omega)
 have h5 : A * B ≤ 64 * 64:=Nat.mul_le_mul (by omega) (by omega)
 rw [← Int.natCast_mul,w64 (by omega) (by omega)];rfl
theorem sj_true (a b : Int) (l : List Int) : Ev (fun k=>aI.j0 k true a b l) 1:=Ev.step (fun k=>by rw [aI.j0,if_pos rfl]) (Ev.now _)
theorem sfault_f (a b : Int) (l : List Int) (hl : l.length ≤ 1048576) : Ev (fun k=>aI.f k a b l) (if Fit a b l then 0 else 1):=by
 classical
 unfold aI.f
 by_cases h1 : a < 1
 ·rw [if_neg (fun h=>by have:=h.1;omega)];exact Ev.ifT h1 (sj_true a b l)
 refine Ev.ifF h1 ?_
 by_cases h2 : a > 64
 ·rw [if_neg (fun h=>by have:=h.2.1;omega)];exact Ev.ifT h2 (sj_true a b l)
 refine Ev.ifF h2 ?_
 by_cases h3 : b < 1
 ·rw [if_neg (fun h=>by have:=h.2.2.1;omega)];exact Ev.ifT h3 (sj_true a b l)
 refine Ev.ifF h3 ?_
 by_cases h4 : b > 64
 ·rw [if_neg (fun h=>by have:=h.2.2.2.1;omega)];exact Ev.ifT h4 (sj_true a b l)
 refine Ev.ifF h4 ?_
 rw [ab_nat (by omega) (by omega) (by omega) (by omega)]
 by_cases h5 : l.length = a.toNat * b.toNat
 ·have e : ((l.length : Int) != ((a.toNat * b.toNat : Nat) : Int)) = false:=by rw [h5];simp
  rw [e]
  refine Ev.step (fun k=>by rw [aI.j0,if_neg (by decide)]) ?_
  have:=sfault_loop a b l hl l.length 0 (by omega) (fun j hj=>by omega)
  by_cases h6 : allB l
  ·rw [if_pos h6] at this
   rw [if_pos ⟨by omega,by omega,by omega,by omega,h5,h6⟩];exact this
  ·rw [if_neg h6] at this
   rw [if_neg (fun h=>h6 h.2.2.2.2.2)];exact this
 ·have e : ((l.length : Int) != ((a.toNat * b.toNat : Nat) : Int)) = true:=bne_iff_ne.2 (fun h=>h5 (Int.ofNat_inj.1 h))
  rw [e,if_neg (fun h=>h5 h.2.2.2.2.1)]
  exact sj_true a b l
def cellsK (C : Nat) (Q : Mat) (n : Nat) : List Int:=(List.range n).map fun q=>Q (q / C) (q % C)
theorem cellsK_len (C : Nat) (Q : Mat) (n : Nat) : (cellsK C Q n).length = n:=by simp [cellsK]
theorem rep_cells {R C : Nat} {P : MatN} {Q : Mat} (h : ∀ i j,i < R → j < C → Q i j = (P i j : Int)) : Rep R C (cellsK C Q (R * C)) P:=by
 refine ⟨cellsK_len _ _ _,fun i j hi hj=>?_⟩
 have h1:=idx_lt hi hj
 have e1 : (i * C + j) / C = i:=by rw [Nat.mul_comm,Nat.mul_add_div (by omega),Nat.div_eq_of_lt hj];rfl
 have e2 : (i * C + j) % C = j:=by rw [Nat.mul_comm,Nat.mul_add_mod,Nat.mod_eq_of_lt hj]
 rw [rd_nat,List.getD_eq_getElem?_getD]
 unfold cellsK
 rw [List.getElem?_map,List.getElem?_range h1]
 show Q ((i * C + j) / C) ((i * C + j) % C) = _
 rw [e1,e2,h i j hi hj]
theorem new_f {R C : Nat} (hR : R ≤ 64) (hC : C ≤ 128) : cA.f (R : Int) (C : Int) = some ((R : Int),(C : Int),List.replicate (R * C) 0):=by
 have h1 : R * C ≤ 64 * 128:=Nat.mul_le_mul hR hC
 unfold cA.f
 rw [← Int.natCast_mul,w64 (by omega) (by omega),if_pos (by omega),Int.toNat_natCast,if_pos (by omega)]
theorem rep_zero (R C : Nat) : Rep R C (List.replicate (R * C) 0) (fun _ _=>0):=by
 refine ⟨List.length_replicate,fun i j hi hj=>?_⟩
 rw [rd_nat,List.getD_eq_getElem?_getD,List.getElem?_replicate,if_pos (idx_lt hi hj)];rfl
theorem sp_idx {n i j : Nat} (hn : n ≤ 64) (hi : i < n) (hj : j ≤ n + n) : wrap64 ((wrap64 ((wrap64 ((i : Int) * 2)) * (n : Int))) + (j : Int)) = ((i * (n + n) + j : Nat) : Int):=by
 have h1 : i * n ≤ 64 * 64:=Nat.mul_le_mul (by omega) hn
 have e1 : wrap64 ((i : Int) * 2) = ((i * 2 : Nat) : Int):=by rw [w64 (by omega) (by omega)];omega
 have e2 : i * 2 * n = i * (n + n):=by rw [Nat.mul_assoc,Nat.two_mul]
 have e3 : i * (n + n) = i * n + i * n:=Nat.mul_add _ _ _
 rw [e1,← Int.natCast_mul,e2,w64 (x:=((i * (n + n) : Nat) : Int)) (by omega) (by omega),w64 (by omega) (by omega)]
 omega
theorem sp_idx2 {n i : Nat} (hn : n ≤ 64) (hi : i < n) : wrap64 ((wrap64 ((wrap64 ((wrap64 ((i : Int) * 2)) * (n : Int))) + (n : Int))) + (i : Int)) = ((i * (n + n) + (n + i) : Nat) : Int):=by
 have h1 : i * n ≤ 64 * 64:=Nat.mul_le_mul (by omega) hn
 have e3 : i * (n + n) = i * n + i * n:=Nat.mul_add _ _ _
 rw [sp_idx hn hi (by omega),w64 (by omega) (by omega)]
 omega
def stW (n : Nat) (M : MatN) (i0 j0 : Nat) : MatN:=fun i j=>if i < i0 then aug n M (fun a b=>if a = b then 1 else 0) i j else if i = i0 ∧ j < j0 then M i j else 0
theorem sinv_row {n : Nat} {M : MatN} {l : List Int} (hn : n ≤ 64) (hM : Rep n n l M) {i : Nat} (hi : i < n) (r : Int × Int × Int × List Int)
  (K : ∀ w,Rep n (n + n) w (stW n M (i + 1) 0) → Ev (fun k=>an.l0 k (n : Int) (wrap64 ((i : Int) + 1)) (n : Int) (n : Int) l (n : Int) ((n + n : Nat) : Int) w) r) :
  ∀ (d j : Nat) (w : List Int),j + d = n → Rep n (n + n) w (stW n M i j) → Ev (fun k=>an.l1 k (n : Int) (i : Int) (j : Int) (n : Int) (n : Int) l (n : Int) ((n + n : Nat) : Int) w) r
 | 0,j,w,hd,h=>by
  obtain rfl : j = n:=by omega
  have h1:=idx_lt (C:=j + j) hi (show j + i < j + j by omega)
  have h2:=h.1
  refine Ev.step (fun k=>by rw [an.l1,if_neg (by omega)]) ?_
  rw [sp_idx2 hn hi]
  refine Ev.ifT (by omega) (Ev.ifT (by omega) ?_)
  rw [Int.toNat_natCast]
  refine K _ (rep_step (v:=1) h hi (show j + i < j + j by omega) fun a b ha hb=>?_)
  unfold stW upd aug
  dsimp only
  by_cases e : a = i ∧ b = j + i
  ·obtain ⟨rfl,rfl⟩:=e
   rw [if_pos (by omega),if_neg (by omega),if_pos (by omega),if_pos ⟨rfl,rfl⟩]
  ·rw [if_neg e]
   by_cases c : a < i
   ·rw [if_pos (by omega),if_pos c]
   ·rw [if_neg c]
    by_cases c2 : a = i
    ·rw [if_pos (by omega)]
     by_cases c3 : b < j
     ·rw [if_pos c3,if_pos ⟨c2,c3⟩]
     ·rw [if_neg c3,if_neg (show ¬ a = b - j from fun x=>e ⟨c2,by omega⟩),if_neg (show ¬ (a = i ∧ b < j) from fun x=>c3 x.2)]
    ·rw [if_neg (show ¬ a < i + 1 by omega),if_neg (show ¬ (a = i + 1 ∧ b < 0) by omega),if_neg (show ¬ (a = i ∧ b < j) from fun x=>c2 x.1)]
 | d + 1,j,w,hd,h=>by
  have h1:=idx_lt (C:=n + n) hi (show j < n + n by omega)
  have h2:=h.1
  refine Ev.step (fun k=>by rw [an.l1,if_pos (by omega)]) ?_
  refine Ev.bN (at_eq hM hn (by omega) hi (by omega)) ?_
  rw [sp_idx hn hi (by omega),w64 (x:=(j : Int) + 1) (by omega) (by omega)]
  refine Ev.ifT (by omega) (Ev.ifT (by omega) ?_)
  rw [Int.toNat_natCast]
  refine sinv_row hn hM hi r K d (j + 1) _ (by omega) (rep_step h hi (show j < n + n by omega) fun a b ha hb=>?_)
  unfold stW upd
  dsimp only
  by_cases e : a = i ∧ b = j
  ·obtain ⟨rfl,rfl⟩:=e
   rw [if_neg (by omega),if_pos ⟨rfl,by omega⟩,if_pos ⟨rfl,rfl⟩]
  ·rw [if_neg e]
   by_cases c : a < i
   ·rw [if_pos c,if_pos c]
   ·rw [if_neg c,if_neg c]
    by_cases c2 : a = i ∧ b < j
    ·rw [if_pos c2,if_pos ⟨c2.1,by omega⟩]
    ·rw [if_neg c2,if_neg (fun x=>e ⟨x.1,by have:=x.2;have : ¬ b < j:=fun y=>c2 ⟨x.1,y⟩;omega⟩)]
theorem sinv_rows {n : Nat} {M : MatN} {l : List Int} (hn : n ≤ 64) (hM : Rep n n l M) (r : Int × Int × Int × List Int)
  (K : ∀ w,Rep n (n + n) w (aug n M (fun a b=>if a = b then 1 else 0)) → Ev (fun k=>an.l2 k (n : Int) 0 (n : Int) ((n + n : Nat) : Int) w) r) :
  ∀ (d i : Nat) (w : List Int),i + d = n → Rep n (n + n) w (stW n M i 0) → Ev (fun k=>an.l0 k (n : Int) (i : Int) (n : Int) (n : Int) l (n : Int) ((n + n : Nat) : Int) w) r
 | 0,i,w,hd,h=>by
  obtain rfl : i = n:=by omega
  exact Ev.step (fun k=>by rw [an.l0,if_neg (by omega)]) (K w (h.congr fun a b ha _=>by unfold stW;rw [if_pos ha]))
 | d + 1,i,w,hd,h=>by
  refine Ev.step (fun k=>by rw [an.l0,if_pos (by omega)]) ?_
  refine sinv_row hn hM (show i < n by omega) r (fun w2 h2=>?_) n 0 w (by omega) h
  rw [w64 (by omega) (by omega)]
  exact sinv_rows hn hM r K d (i + 1) w2 (by omega) h2
theorem sinv_piv {n k a : Nat} {W : MatN} {w : List Int} (hn : n ≤ 64) (hk : k < n) (ha : a < n) (hz : ∀ i,k ≤ i → i < a → W i k = 0) (h0 : W a k ≠ 0) (h : Rep n (n + n) w W) (r : Int × Int × Int × List Int)
  (K : Ev (fun m=>(bp.f m (n : Int) ((n + n : Nat) : Int) w (k : Int) (a : Int)).bind fun t174=>((ao.f m (n : Int) ((n + n : Nat) : Int) t174 (k : Int) (k : Int)).bind fun t175=>(an.l2 m (n : Int) (wrap64 ((k : Int) + 1)) (n : Int) ((n + n : Nat) : Int) t175))) r) :
  ∀ (d i : Nat),i + d = a → k ≤ i → Ev (fun m=>an.l3 m (n : Int) (k : Int) (i : Int) (n : Int) ((n + n : Nat) : Int) w) r
 | 0,i,hd,hi=>by
  obtain rfl : i = a:=by omega
  refine Ev.step (fun m=>by rw [an.l3]) ?_
  exact Ev.bN (at_eq h hn (by omega) ha (by omega)) (Ev.ifF (by omega) K)
 | d + 1,i,hd,hi=>by
  refine Ev.step (fun m=>by rw [an.l3]) ?_
  refine Ev.bN (at_eq h hn (by omega) (by omega) (by omega)) (Ev.ifT (by rw [hz i hi (by omega)];rfl) ?_)
  rw [w64 (by omega) (by omega)]
  exact sinv_piv hn hk ha hz h0 h r K d (i + 1) (by omega) (by omega)
theorem sinv_cols {n : Nat} {M : Mat} (hn : n ≤ 64) (hM : bD M) (hf : cnt (toN M) n n n = n) (r : Int × Int × Int × List Int)
  (K : ∀ w,Rep n (n + n) w (atK n M idM n) → Ev (fun m=>(cA.f (n : Int) (n : Int)).bind fun bt176=>(an.l4 m (n : Int) 0 (n : Int) ((n + n : Nat) : Int) w bt176.1 bt176.2.1 bt176.2.2)) r) :
  ∀ (d k : Nat) (w : List Int),k + d = n → Rep n (n + n) w (atK n M idM k) → Ev (fun m=>an.l2 m (n : Int) (k : Int) (n : Int) ((n + n : Nat) : Int) w) r
 | 0,k,w,hd,h=>by
  obtain rfl : k = n:=by omega
  exact Ev.step (fun m=>by rw [an.l2,if_neg (by omega)]) (K w h)
 | d + 1,k,w,hd,h=>by
  have hk : k < n:=by omega
  obtain ⟨a,p1,p2,p3,p4,p5⟩:=red_next hM idM_byt hf k hk
  have hW : ByM (atK n M idM k):=atK_byt hM idM_byt k (by omega)
  obtain ⟨l1,l2,e1,e2,hl⟩:=step_ev hW hn (by omega) p2 hk (show k < n + n by omega) p4 h
  refine Ev.step (fun m=>by rw [an.l2,if_pos (by omega)]) ?_
  refine sinv_piv hn hk p2 p3 p4 h r (Ev.bind e1 (Ev.bind e2 ?_)) (a - k) k (by omega) (Nat.le_refl _)
  rw [w64 (by omega) (by omega)]
  exact sinv_cols hn hM hf r K d (k + 1) l2 (by omega) (hl.congr fun i j hi hj=>p5 i j hi hj)
theorem sout_row {n : Nat} {W : MatN} {w : List Int} (hn : n ≤ 64) (h : Rep n (n + n) w W) {i : Nat} (hi : i < n) (r : Int × Int × Int × List Int)
  (K : ∀ o,Rep n n o (fun a b=>if a < i + 1 then W a (n + b) else 0) → Ev (fun k=>an.l4 k (n : Int) (wrap64 ((i : Int) + 1)) (n : Int) ((n + n : Nat) : Int) w (n : Int) (n : Int) o) r) :
  ∀ (d j : Nat) (o : List Int),j + d = n → Rep n n o (fun a b=>if a < i ∨ a = i ∧ b < j then W a (n + b) else 0) → Ev (fun k=>an.l5 k (n : Int) (i : Int) (j : Int) (n : Int) ((n + n : Nat) : Int) w (n : Int) (n : Int) o) r
 | 0,j,o,hd,ho=>by
  obtain rfl : j = n:=by omega
  refine Ev.step (fun k=>by rw [an.l5,if_neg (by omega)]) (K o (ho.congr fun a b ha hb=>?_))
  by_cases c : a < i + 1
  ·rw [if_pos c,if_pos (by omega)]
  ·rw [if_neg c,if_neg (by omega)]
 | d + 1,j,o,hd,ho=>by
  have h1:=idx_lt (C:=n) hi (show j < n by omega)
  have h2:=ho.1
  have e1 : wrap64 ((n : Int) + (j : Int)) = ((n + j : Nat) : Int):=by rw [w64 (by omega) (by omega)];omega
  refine Ev.step (fun k=>by rw [an.l5,if_pos (by omega),e1]) ?_
  refine Ev.bN (at_eq h hn (by omega) hi (show n + j < n + n by omega)) ?_
  rw [idx_eq (by omega) (by omega) (by omega),w64 (x:=(j : Int) + 1) (by omega) (by omega)]
  refine Ev.ifT (by omega) (Ev.ifT (by omega) ?_)
  rw [Int.toNat_natCast]
  refine sout_row hn h hi r K d (j + 1) _ (by omega) (rep_step ho hi (show j < n by omega) fun a b ha hb=>?_)
  unfold upd
  dsimp only
  by_cases e : a = i ∧ b = j
  ·obtain ⟨rfl,rfl⟩:=e
   rw [if_pos (by omega),if_pos ⟨rfl,rfl⟩]
  ·rw [if_neg e]
   by_cases c : a < i ∨ a = i ∧ b < j
   ·rw [if_pos c,if_pos (by omega)]
   ·rw [if_neg c,if_neg (fun x=>e (by omega))]
theorem sout_rows {n : Nat} {W : MatN} {w : List Int} (hn : n ≤ 64) (h : Rep n (n + n) w W) (r : List Int) (hr : Rep n n r (fun a b=>W a (n + b))) :
  ∀ (d i : Nat) (o : List Int),i + d = n → Rep n n o (fun a b=>if a < i then W a (n + b) else 0) → Ev (fun k=>an.l4 k (n : Int) (i : Int) (n : Int) ((n + n : Nat) : Int) w (n : Int) (n : Int) o) (0,(n : Int),(n : Int),r)
 | 0,i,o,hd,ho=>by
  obtain rfl : i = n:=by omega
  have e : o = r:=Rep.uniq (ho.congr fun a b ha hb=>by rw [if_pos ha]) hr
  refine Ev.step (f:=fun _=>some (0,(i : Int),(i : Int),o)) (fun k=>by rw [an.l4,if_neg (by omega)]) ?_
  rw [e];exact Ev.now _
 | d + 1,i,o,hd,ho=>by
  refine Ev.step (fun k=>by rw [an.l4,if_pos (by omega)]) ?_
  refine sout_row hn h (show i < n by omega) _ (fun o2 h2=>?_) n 0 o (by omega) (ho.congr fun a b ha hb=>?_)
  ·rw [w64 (by omega) (by omega)]
   exact sout_rows hn h r hr d (i + 1) o2 (by omega) h2
  ·by_cases c : a < i
   ·rw [if_pos c,if_pos (Or.inl c)]
   ·rw [if_neg c,if_neg (by omega)]
theorem fit_rep {n : Nat} {M : Mat} {l : List Int} (hn : n ≤ 64) (h1 : 1 ≤ n) (hby : bD M) (hrep : Rep n n l (toN M)) : Fit (n : Int) (n : Int) l:=by
 refine ⟨by omega,by omega,by omega,by omega,by simp only [Int.toNat_natCast];exact hrep.1,fun x hx=>?_⟩
 obtain ⟨p,hp,rfl⟩:=List.getElem_of_mem hx
 have hp2:=hp
 rw [hrep.1] at hp2
 have h2 : p / n < n:=(Nat.div_lt_iff_lt_mul (by omega)).2 hp2
 have h3 : p % n < n:=Nat.mod_lt _ (by omega)
 have h4:=hrep.2 (p / n) (p % n) h2 h3
 have e : p / n * n + p % n = p:=by rw [Nat.mul_comm];exact Nat.div_add_mod p n
 rw [e,rd_nat,List.getD_eq_getElem?_getD,List.getElem?_eq_getElem hp] at h4
 have h5:=hby (p / n) (p % n)
 have h6 : l[p] = ((M (p / n) (p % n)).toNat : Int):=h4
 omega
theorem sinv_full {n : Nat} {M : Mat} {l : List Int} (hn : n ≤ 64) (h1 : 1 ≤ n) (hby : bD M) (hrep : Rep n n l (toN M)) (hf : cnt (toN M) n n n = n) : Ev (fun k=>an.f k (n : Int) (n : Int) l) (0,(n : Int),(n : Int),cellsK n (redS n n n (0,M,idM) n).2.2 (n * n)):=by
 have hfs:=sfault_f (n : Int) (n : Int) l (by rw [hrep.1];exact Nat.le_trans (Nat.mul_le_mul hn hn) (by decide))
 rw [if_pos (fit_rep hn h1 hby hrep)] at hfs
 unfold an.f
 refine Ev.bind hfs (Ev.ifT rfl ?_)
 refine Ev.step (fun k=>by rw [an.j0,if_neg (by simp)]) ?_
 refine Ev.bind (rank_f (dJ hby) hn (by omega) hrep) ?_
 refine Ev.ifF (by omega) ?_
 have e2 : wrap64 (2 * (n : Int)) = ((n + n : Nat) : Int):=by rw [w64 (by omega) (by omega)];omega
 rw [e2]
 refine Ev.bN (new_f hn (by omega)) ?_
 refine sinv_rows hn hrep _ (fun w hw=>?_) n 0 _ (by omega) ((rep_zero n (n + n)).congr fun i j _ _=>by unfold stW;rw [if_neg (by omega),if_neg (by omega)])
 refine sinv_cols hn hby hf _ (fun w2 hw2=>?_) n 0 w (by omega) (hw.congr fun i j hi hj=>by
  show aug n _ (toN idM) i j = _
  unfold aug
  by_cases c2 : j < n
  ·rw [if_pos c2,if_pos c2];rfl
  ·rw [if_neg c2,if_neg c2,idM_N])
 refine Ev.bN (new_f hn (by omega)) ?_
 refine sout_rows hn hw2 _ (rep_cells fun i j hi hj=>?_) n 0 _ (by omega) ((rep_zero n n).congr fun i j _ _=>by rw [if_neg (by omega)])
 have hb2:=(dK (R:=n) (C:=n) (C2:=n) hby idM_byt n (Nat.le_refl _)).2.2
 show _ = ((atK n _ idM n i (n + j) : Nat) : Int)
 unfold atK aug
 rw [if_neg (by omega),Nat.add_sub_cancel_left]
 have:=hb2 i j
 show _ = ((Int.toNat _ : Nat) : Int)
 omega
end Go.Proofs.Ytffhbpepppodeaa.Pure
