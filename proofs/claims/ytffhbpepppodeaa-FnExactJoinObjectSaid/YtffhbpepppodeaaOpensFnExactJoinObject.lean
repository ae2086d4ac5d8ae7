import Derived.Test.YtffhbpepppodeaaZFnExactJoinObject0
import Derived.ChangeArms
import Derived.OpenShut
namespace Go.Proofs.Ytffhbpepppodeaa.Opens
open Go.RowKit Go.Proofs.YtffhbpepppodeaaW.PrintWords

def Opens {α : Type} (P : Program) (d : Kd α) (t : TypeId) (Q : α → Prop) : Prop:=
 d.sz = P.cellsOf t ∧ ∀ (H : Type) (enc : TypeId × Value → H) (w : World) (base : Nat) (sp : Nat → Bool) (held : Bool) (fuel : Nat) (cs : List Value) (x : DataW H × List MemPlace),
  DataW.trod enc P w base sp held fuel t cs = some x → ∃ a,d.K w a cs ∧ Q a

theorem Opens.int {P : Program} {t : TypeId} {k : IntKind} (ht : P.underlying t = some (.int k)) (hc : P.cellsOf t = 1) : Opens P (Kd.int k) t (fun n=>(Lit.int k n).wf = true):=by
 refine ⟨hc.symm,fun H enc w base sp held fuel cs x h=>?_⟩
 cases fuel with
 | zero=>simp [DataW.trod] at h
 | succ m=>
  unfold DataW.trod at h
  rw [ht] at h
  split at h <;> simp_all
  exact ⟨_,rfl,h.1.2⟩
theorem Opens.bool {P : Program} {t : TypeId} (ht : P.underlying t = some .bool) (hc : P.cellsOf t = 1) : Opens P Kd.bool t (fun _=>True):=by
 refine ⟨hc.symm,fun H enc w base sp held fuel cs x h=>?_⟩
 cases fuel with
 | zero=>simp [DataW.trod] at h
 | succ m=>
  unfold DataW.trod at h
  rw [ht] at h
  split at h <;> simp_all
  rename_i b
  cases b
  ·exact .inl rfl
  ·exact .inr rfl
theorem Opens.string {P : Program} {t : TypeId} (ht : P.underlying t = some .string) (hc : P.cellsOf t = 1) : Opens P Kd.string t (fun s=>s.size ≤ maxLen):=by
 refine ⟨hc.symm,fun H enc w base sp held fuel cs x h=>?_⟩
 cases fuel with
 | zero=>simp [DataW.trod] at h
 | succ m=>
  unfold DataW.trod at h
  rw [ht] at h
  split at h <;> simp_all
  exact ⟨_,rfl,h.1⟩
theorem cells_get {w : World} {base : Nat} {a : Addr} {n : Nat} {cs : List Value} (h : w.cells? base a n = some cs) : cs.length = n ∧ ∀ i u,cs[i]? = some u → w.cell? (a.add i) = some u:=by
 unfold World.cells? at h
 split at h
 ·have hl : cs.length = n:=by simpa using mapM_some_length h
  refine ⟨hl,fun i u hu=>?_⟩
  have hi : i < n:=by rw [← hl];exact (List.getElem?_eq_some_iff.1 hu).1
  have:=mapM_some_get h i i (by simp [hi])
  rw [this,hu]
 ·cases h
theorem list_of {α : Type} (n : Nat) (p : Nat → α → Prop) (h : ∀ i,i < n → ∃ a,p i a) : ∃ l : List α,l.length = n ∧ ∀ i a,l[i]? = some a → p i a:=by
 induction n with
 | zero=>exact ⟨[],rfl,fun i a h=>by simp at h⟩
 | succ n ih=>
  obtain ⟨l,hl,hp⟩:=ih (fun i hi=>h i (by omega))
  obtain ⟨a,ha⟩:=h n (by omega)
  refine ⟨l ++ [a],by simp [hl],fun i b hb=>?_⟩
  rcases Nat.lt_or_ge i n with hi|hi
  ·rw [List.getElem?_append_left (by omega)] at hb
   exact hp i b hb
  ·have hi' : i = n:=by
    have:=(List.getElem?_eq_some_iff.1 hb).1
    simp at this
    omega
   subst hi'
   rw [← hl,List.getElem?_append_right (Nat.le_refl _)] at hb
   simp at hb
   subst hb
   rw [← hl] at ha ⊢
   exact ha
theorem Opens.slice {α : Type} {P : Program} {d : Kd α} {t e : TypeId} {Q : α → Prop} (he : Opens P d e Q) (ht : P.underlying t = some (.slice e)) (hc : P.cellsOf t = 1) :
  Opens P (Kd.slice e d) t (fun xs=>xs.length ≤ maxLen ∧ ∀ x ∈ xs,Q x):=by
 refine ⟨hc.symm,fun H enc w base sp held fuel cs x h=>?_⟩
 rcases DataW.trod_slice ht h with ⟨rfl,_⟩|⟨a,len,cap,elems,rest,n,_,rfl,_,_,hl,hm,hlen,hel,_⟩
 ·exact ⟨[],⟨none,0,rfl,Nat.le_refl _,rfl,by simp,fun h=>absurd h (by simp)⟩,by simp,by simp⟩
 ·obtain ⟨l,hll,hp⟩:=list_of len (fun i (y : α)=>Q y ∧ ∃ c,c.length = d.sz ∧ d.K w y c ∧ ∀ j u,c[j]? = some u → w.cell? (a.add (i * d.sz + j)) = some u) (fun i hi=>by
   have hE:=hel i hi
   have hlt : i < elems.length:=by omega
   rw [List.getElem?_eq_getElem hlt,Option.bind_eq_some_iff] at hE
   obtain ⟨c,hc1,hy⟩:=hE
   obtain ⟨y,hK,hQ⟩:=he.2 H enc w base sp held n c _ hy
   refine ⟨y,hQ,c,d.K_len hK,hK,fun j u hu=>?_⟩
   have:=(cells_get hc1).2 j u hu
   rw [he.1,← add_add]
   exact this)
  refine ⟨l,⟨some a,cap,by rw [hll],by omega,rfl,?_,fun _=>⟨a,rfl,fun j p hj=>(hp j p hj).2⟩⟩,by omega,fun y hy=>?_⟩
  ·have : maxLen ≤ 9223372036854775807:=by decide
   omega
  ·obtain ⟨i,hi,rfl⟩:=List.mem_iff_getElem.1 hy
   exact (hp i _ (List.getElem?_eq_getElem hi)).1
def dN {α : Type} (P : Program) (l : List Field) (off : Nat) (d : Kd α) (Q : α → Prop) : Prop:=
 ∀ (H : Type) (enc : TypeId × Value → H) (w : World) (base : Nat) (sp : Nat → Bool) (held : Bool) (fuel : Nat) (cs : List Value),
  (∀ f ∈ l,∃ x,DataW.trod enc P w base sp held fuel f.type ((cs.drop f.offset).take (P.cellsOf f.type)) = some x) → ∃ a,d.K w a ((cs.drop off).take d.sz) ∧ Q a
theorem dN.one {α : Type} {P : Program} {f : Field} {d : Kd α} {Q : α → Prop} (h : Opens P d f.type Q) : dN P [f] f.offset d Q:=fun H enc w base sp held fuel cs hf=>by
 obtain ⟨x,hx⟩:=hf f (by simp)
 rw [← h.1] at hx
 exact h.2 H enc w base sp held fuel _ x hx
theorem dN.cons {α β : Type} {P : Program} {f : Field} {l : List Field} {d : Kd α} {d' : Kd β} {Q : α → Prop} {Q' : β → Prop} (h : Opens P d f.type Q) (hs : dN P l (f.offset + d.sz) d' Q') :
  dN P (f :: l) f.offset (Kd.pair d d') (fun x=>Q x.1 ∧ Q' x.2):=fun H enc w base sp held fuel cs hf=>by
 obtain ⟨x,hx⟩:=hf f (by simp)
 rw [← h.1] at hx
 obtain ⟨a,ha,qa⟩:=h.2 H enc w base sp held fuel _ x hx
 obtain ⟨b,hb,qb⟩:=hs H enc w base sp held fuel cs (fun g hg=>hf g (by simp [hg]))
 refine ⟨(a,b),⟨_,_,?_,ha,hb⟩,qa,qb⟩
 show (cs.drop f.offset).take (d.sz + d'.sz) = _
 rw [List.take_add,List.drop_drop]
theorem dN.struct {α : Type} {P : Program} {t : TypeId} {fs : Array Field} {d : Kd α} {Q : α → Prop} (hs : dN P fs.toList 0 d Q) (ht : P.underlying t = some (.struct fs)) (hc : P.cellsOf t = d.sz) : Opens P d t Q:=by
 refine ⟨hc.symm,fun H enc w base sp held fuel cs x h=>?_⟩
 obtain ⟨xs,n,_,_,hl,hx,hf⟩:=DataW.trod_struct ht h
 obtain ⟨a,ha,qa⟩:=hs H enc w base sp held n cs (fun f hf'=>by
  obtain ⟨i,hi,rfl⟩:=List.mem_iff_getElem.1 hf'
  have hi' : i < fs.size:=by simpa using hi
  have:=hf i fs.toList[i] (by simp [Array.getElem?_eq_getElem hi'])
  exact ⟨xs[i]'(by omega),by rw [this];exact List.getElem?_eq_getElem (by omega)⟩)
 refine ⟨a,?_,qa⟩
 rw [List.drop_zero,List.take_of_length_le (by omega)] at ha
 exact ha
theorem Opens.iso {α β : Type} {P : Program} {d : Kd α} {t : TypeId} {Q : α → Prop} (h : Opens P d t Q) (f : β → α) (g : α → β) (hg : ∀ a,f (g a) = a) : Opens P (Kd.iso d f) t (fun b=>Q (f b)):=
 ⟨h.1,fun H enc w base sp held fuel cs x hx=>by
  obtain ⟨a,ha,qa⟩:=h.2 H enc w base sp held fuel cs x hx
  exact ⟨g a,by show d.K w (f (g a)) cs;rw [hg];exact ha,by show Q (f (g a));rw [hg];exact qa⟩⟩
theorem Opens.weaken {α : Type} {P : Program} {d : Kd α} {t : TypeId} {Q Q' : α → Prop} (h : Opens P d t Q) (hq : ∀ a,Q a → Q' a) : Opens P d t Q':=
 ⟨h.1,fun H enc w base sp held fuel cs x hx=>by
  obtain ⟨a,ha,qa⟩:=h.2 H enc w base sp held fuel cs x hx
  exact ⟨a,ha,hq a qa⟩⟩
theorem okWide_struct {P : Program} {w : World} {r : Reach} {base : Nat} {t : TypeId} {fs : Array Field} {v : Value} (ht : P.underlying t = some (.struct fs)) (h : Value.okWide P w r base t v) : ∃ cs,v = .agg cs:=by
 unfold Value.okWide at h
 rw [ht] at h
 obtain ⟨cs,rfl,_⟩:=h
 exact ⟨cs,rfl⟩
end Go.Proofs.Ytffhbpepppodeaa.Opens
