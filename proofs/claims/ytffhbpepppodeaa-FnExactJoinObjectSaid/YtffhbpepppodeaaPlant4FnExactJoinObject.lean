import Derived.Test.YtffhbpepppodeaaPlant2FnExactJoinObject
namespace Go.Proofs.Ytffhbpepppodeaa.Plant4
open Go.RowKit Go.Proofs.YtffhbpepppodeaaW.PrintWords Go.Proofs.YtffhbpepppodeaaW.PrintLast Go.Proofs.YtffhbpepppodeaaW.PrintMore Go.Proofs.Ytffhbpepppodeaa.Hs Go.Proofs.Ytffhbpepppodeaa.Gf Go.Proofs.Ytffhbpepppodeaa.Grid Go.Proofs.Ytffhbpepppodeaa.Reduce Go.Proofs.Ytffhbpepppodeaa.Plant Go.Proofs.Ytffhbpepppodeaa.Plant2
set_option linter.unusedVariables false
set_option linter.unusedSimpArgs false
def rowA (K : Nat) (f : Nat → Int) : Array Value:=(nums .u8 ((List.range K).map f)).toArray
theorem rowA_size (K : Nat) (f : Nat → Int) : (rowA K f).size = K:=by simp [rowA,nums]
theorem dR {K : Nat} {f : Nat → Int} {j : Nat} (h : j < K) : (rowA K f)[j]? = some (.int .u8 (f j)):=by simp [rowA,nums,h]
theorem rowA_congr {K : Nat} {f g : Nat → Int} (h : ∀ j,j < K → f j = g j) : rowA K f = rowA K g:=by
 unfold rowA
 rw [List.map_congr_left (fun j hj=>h j (List.mem_range.1 hj))]
theorem rowA_set {K : Nat} {f g : Nat → Int} {k : Nat} {x : Int} (hk : k < K) (h1 : g k = x) (h2 : ∀ j,j < K → j ≠ k → g j = f j) : (rowA K f).setIfInBounds k (.int .u8 x) = rowA K g:=by
 refine (row_arr (n:=K) (by simp [rowA_size]) fun j hj=>?_)
 by_cases e : j = k
 ·subst e;rw [Array.getElem?_setIfInBounds_self_of_lt (by rw [rowA_size];exact hk),h1]
 ·rw [Array.getElem?_setIfInBounds_ne (fun e'=>e e'.symm),dR hj,h2 j hj e]
abbrev cN (f : Nat → Int) : Prop:=∀ j,0 ≤ f j ∧ f j ≤ 255
def rowN (K M G i j : Nat) : Int:=if j < K then rowF K M G i j else 0
theorem dI {K M G i : Nat} (h : K + M ≤ 64) : cN (rowN K M G i):=fun j=>by
 unfold rowN
 split
 ·exact rowF_byte h ‹_›
 ·omega
theorem rowV_rowA (K M G i : Nat) : (nums .u8 (rowV K M G i)).toArray = rowA K (rowN K M G i):=by
 show rowA K (rowF K M G i) = _
 exact rowA_congr fun j hj=>(if_pos hj).symm
def leadL (f : Nat → Int) : Nat → Nat → Nat
 | 0,i=>i
 | n + 1,i=>if f i = 0 then leadL f n (i + 1) else i
theorem leadL_spec (f : Nat → Int) : ∀ n i,i ≤ leadL f n i ∧ leadL f n i ≤ i + n ∧ (∀ j,i ≤ j → j < leadL f n i → f j = 0) ∧ (leadL f n i < i + n → f (leadL f n i) ≠ 0)
 | 0,i=>⟨Nat.le_refl _,Nat.le_refl _,fun j h1 h2=>by unfold leadL at h2;omega,fun h=>by unfold leadL at h;omega⟩
 | n + 1,i=>by
  unfold leadL
  by_cases c : f i = 0
  ·rw [if_pos c]
   obtain ⟨a,b,d,e⟩:=leadL_spec f n (i + 1)
   refine ⟨by omega,by omega,fun j h1 h2=>?_,fun h=>e (by omega)⟩
   by_cases q : j = i
   ·rw [q];exact c
   ·exact d j (by omega) h2
  ·rw [if_neg c]
   exact ⟨Nat.le_refl _,by omega,fun j h1 h2=>by omega,fun _=>c⟩
def bx (K : Nat) (f : Nat → Int) : Nat:=leadL f K 0
theorem leadN_le (K : Nat) (f : Nat → Int) : bx K f ≤ K:=by have:=(leadL_spec f K 0).2.1;unfold bx;omega
theorem leadN_ne {K : Nat} {f : Nat → Int} (h : bx K f < K) : f (bx K f) ≠ 0:=(leadL_spec f K 0).2.2.2 (by unfold bx at h;omega)
theorem leadN_lt {K : Nat} {f : Nat → Int} {j : Nat} (h : j < bx K f) : f j = 0:=(leadL_spec f K 0).2.2.1 j (Nat.zero_le _) h
theorem leadN_hit {K : Nat} {f : Nat → Int} {k : Nat} (h : k < K) (h0 : ∀ j,j < k → f j = 0) (h1 : f k ≠ 0) : bx K f = k:=by
 rcases Nat.lt_trichotomy (bx K f) k with c|c|c
 ·exact absurd (h0 _ c) (leadN_ne (by omega))
 ·exact c
 ·exact absurd (leadN_lt c) h1
theorem leadN_none {K : Nat} {f : Nat → Int} (h0 : ∀ j,j < K → f j = 0) : bx K f = K:=by
 rcases Nat.lt_or_ge (bx K f) K with c|c
 ·exact absurd (h0 _ c) (leadN_ne c)
 ·have:=leadN_le K f;omega
def leadI (K : Nat) (f : Nat → Int) : Int:=if bx K f < K then (bx K f : Int) else -1

set_option maxHeartbeats 8000000 in
set_option maxRecDepth 100000 in
theorem lead_calls (g K : Nat) (f : Nat → Int) (w : World) (hg : w.heap[g]? = some (.cells (rowA K f) 5 (0,0))) (hk2 : K ≤ 64) : Calls Try.prog 129 #[.slice (some ⟨g,0,none⟩) K K] w fun e w'=>e = .returned (.int .i64 (leadI K f)) ∧ Drawn0 w w':=by
 have HG:=Aside0.mk hg
 have k0 : (K : Int) ≤ 64:=by omega
 clear hg
 go_enter Try.func129,Try.ntmps129
 go_wp2
 go_loop [7] (fun v7=>∃ k : Nat,k ≤ K ∧ v7 = .int .i64 k ∧ Aside0 (∀ j,j < k → f j = 0)) (fun k=>K - (intOf k).toNat)
 case atStart=>exact ⟨0,by omega,rfl,Aside0.mk (fun j hj=>by omega)⟩
 case round=>
  obtain ⟨k,hk,rfl,hz⟩:=hrel
  have k1 : 0 ≤ (k : Int):=by omega
  by_cases hlt : k < K
  ·have k2 : (k : Int) < (K : Int):=by omega
   have hc : w.cell? ⟨g,k,none⟩ = some (.int .u8 (f k)):=(cell_of_row w g k _ _ _ HG.out).trans (dR hlt)
   by_cases c : f k = 0
   ·have c1 : (f k != 0) = false:=by simpa using c
    have HC:=Aside0.mk c
    clear c
    go_wp2
    go_round
    case rel=>exact ⟨k + 1,by omega,by go_num,Aside0.mk (fun j hj=>by
     by_cases e : j = k
     ·rw [e];exact HC.out
     ·exact hz.out j (by omega))⟩
    case measure=>simp [intOf];omega
   ·have c1 : (f k != 0) = true:=by simpa using c
    have HC:=Aside0.mk (leadN_hit hlt hz.out c)
    clear c
    go_wp2
    go_ret
    exact ⟨by unfold leadI;rw [HC.out,if_pos hlt];rfl,Drawn0.refl _⟩
  ·obtain rfl : K = k:=by omega
   have HC:=Aside0.mk (leadN_none hz.out)
   have k2 : decide ((K : Int) < (K : Int)) = false:=decide_eq_false (by omega)
   go_wp2
   go_ret
   exact ⟨by unfold leadI;rw [HC.out,if_neg (by omega)];rfl,Drawn0.refl _⟩
end Go.Proofs.Ytffhbpepppodeaa.Plant4
