import Derived.Test.YtffhbpepppodeaaZFnExactJoinObject0
namespace Go.Proofs.Ytffhbpepppodeaa.Base
open Go.RowKit Go.Proofs.YtffhbpepppodeaaW.PrintWords Go.Proofs.YtffhbpepppodeaaW.PrintMore

theorem w64 {x : Int} (h1 : -9223372036854775808 ≤ x) (h2 : x < 9223372036854775808) : wrap64 x = x:=by
 unfold wrap64;omega
theorem lmax : maxLen = 9223372036854775807:=rfl
theorem Ev.some_ {α : Type} {g : Nat → Option α} {r : α} (h : ∀ k,g k = some r) : Ev g r:=⟨0,fun k _=>h k⟩
theorem Ev.bN {α β : Type} {g : Option α} {f : Nat → α → Option β} {a : α} {r : β} (h : g = some a) (k : Ev (fun n=>f n a) r) : Ev (fun n=>g.bind (f n)) r:=Ev.bind (g:=fun _=>g) (Ev.some_ fun _=>h) k
theorem Ev.ifT {α : Type} {c : Prop} [Decidable c] {f g : Nat → Option α} {r : α} (h : c) (k : Ev f r) : Ev (fun n=>if c then f n else g n) r:=Ev.congr (fun _=>if_pos h) k
theorem Ev.ifF {α : Type} {c : Prop} [Decidable c] {f g : Nat → Option α} {r : α} (h : ¬ c) (k : Ev g r) : Ev (fun n=>if c then f n else g n) r:=Ev.congr (fun _=>if_neg h) k
theorem map_loop {α β : Type} (L : Nat → List α → List β → Int → Option (List β)) (c : α → β) (z : α) (ok : α → Prop)
  (hs : ∀ (x : List α) (y : List β) (i : Nat),x.length ≤ 4611686018427387904 → (∀ a ∈ x,ok a) → i < x.length → y.length = x.length → ∀ r,Ev (fun k=>L k x (y.set i (c (x.getD i z))) ((i : Int) + 1)) r → Ev (fun k=>L k x y (i : Int)) r)
  (he : ∀ (x : List α) (y : List β) (i : Nat),¬ i < x.length → Ev (fun k=>L k x y (i : Int)) y)
  (x : List α) (hx : x.length ≤ 4611686018427387904) (hok : ∀ a ∈ x,ok a) (zb : β) : Ev (fun k=>L k x (List.replicate x.length zb) 0) (x.map c):=by
 have key : ∀ (d i : Nat) (y : List β),x.length = i + d → y.length = x.length → y.take i = (x.map c).take i → Ev (fun k=>L k x y (i : Int)) (x.map c):=by
  intro d
  induction d with
  | zero=>
   intro i y hi hy ht
   have : y = x.map c:=by
    rw [List.take_of_length_le (by omega),List.take_of_length_le (by simp;omega)] at ht
    exact ht
   subst this
   exact he x _ i (by omega)
  | succ d ih=>
   intro i y hi hy ht
   have hlt : i < x.length:=by omega
   refine hs x y i hx hok hlt hy _ ?_
   have:=ih (i + 1) (y.set i (c (x.getD i z))) (by omega) (by simpa using hy) ?_
   ·simpa using this
   ·rw [List.take_succ_eq_append_getElem (by simp;omega),List.take_succ_eq_append_getElem (by simp;omega),List.take_set_of_le (Nat.le_refl _),ht]
    simp [List.getD_eq_getElem?_getD,List.getElem?_eq_getElem hlt]
 have:=key x.length 0 (List.replicate x.length zb) (by omega) (by simp) (by simp)
 simpa using this
theorem sz_loop {α : Type} (L : Nat → List α → Int → Int → Option Int) (ok : α → Prop)
  (hs : ∀ (x : List α) (left : Int) (i : Nat),x.length ≤ 4611686018427387904 → (∀ a ∈ x,ok a) → i < x.length → 0 ≤ left → left ≤ 1048576 → (∃ r,Ev (fun k=>L k x left (i : Int)) r ∧ r < 0) ∨ ∃ t,0 ≤ t ∧ t ≤ left ∧ ∀ r,Ev (fun k=>L k x t ((i : Int) + 1)) r → Ev (fun k=>L k x left (i : Int)) r)
  (he : ∀ (x : List α) (left : Int) (i : Nat),¬ i < x.length → Ev (fun k=>L k x left (i : Int)) left)
  (x : List α) (hx : x.length ≤ 4611686018427387904) (hok : ∀ a ∈ x,ok a) (left : Int) (h0 : 0 ≤ left) (h1 : left ≤ 1048576) : ∃ r,Ev (fun k=>L k x left 0) r ∧ (r < 0 ∨ 0 ≤ r ∧ r ≤ left):=by
 have key : ∀ (d i : Nat) (left : Int),x.length = i + d → 0 ≤ left → left ≤ 1048576 → ∃ r,Ev (fun k=>L k x left (i : Int)) r ∧ (r < 0 ∨ 0 ≤ r ∧ r ≤ left):=by
  intro d
  induction d with
  | zero=>intro i left hi h0 h1;exact ⟨left,he x left i (by omega),.inr ⟨h0,Int.le_refl _⟩⟩
  | succ d ih=>
   intro i left hi h0 h1
   rcases hs x left i hx hok (by omega) h0 h1 with ⟨r,hr,hn⟩|⟨t,t0,t1,ht⟩
   ·exact ⟨r,hr,.inl hn⟩
   ·obtain ⟨r,hr,hr2⟩:=ih (i + 1) t (by omega) t0 (by omega)
    exact ⟨r,ht r (by simpa using hr),by omega⟩
 have:=key x.length 0 left (by omega) h0 h1
 simpa using this
theorem eq_loop {α : Type} (L : Nat → List α → List α → Int → Option Bool) (ok : α → Prop)
  (hs : ∀ (x : List α) (i : Nat),x.length ≤ 4611686018427387904 → (∀ a ∈ x,ok a) → i < x.length → Ev (fun k=>L k x x ((i : Int) + 1)) true → Ev (fun k=>L k x x (i : Int)) true)
  (he : ∀ (x : List α) (i : Nat),¬ i < x.length → Ev (fun k=>L k x x (i : Int)) true)
  (x : List α) (hx : x.length ≤ 4611686018427387904) (hok : ∀ a ∈ x,ok a) : Ev (fun k=>L k x x 0) true:=by
 have key : ∀ (d i : Nat),x.length = i + d → Ev (fun k=>L k x x (i : Int)) true:=by
  intro d
  induction d with
  | zero=>intro i hi;exact he x i (by omega)
  | succ d ih=>
   intro i hi
   exact hs x i hx hok (by omega) (by simpa using ih (i + 1) (by omega))
 have:=key x.length 0 (by omega)
 simpa using this
theorem getD_mem {α : Type} {x : List α} {i : Nat} (z : α) (h : i < x.length) : x.getD i z ∈ x:=by
 rw [List.getD_eq_getElem?_getD,List.getElem?_eq_getElem h]
 exact List.getElem_mem h
end Go.Proofs.Ytffhbpepppodeaa.Base
