import Derived.Test.YtffhbpepppodeaaZFnExactJoinObject0
namespace Go.Proofs.Ytffhbpepppodeaa.Hs
open Go.RowKit Go.Proofs.YtffhbpepppodeaaW.PrintWords Go.Proofs.YtffhbpepppodeaaW.PrintLast Go.Proofs.YtffhbpepppodeaaW.PrintMore

abbrev Blk:=Nat × Obj
structure Hs (w0 w : World) (L : List Blk) : Prop where
 below : Below w0.heap.size w0 w
 nodup : (L.map (·.1)).Nodup
 mem : ∀ x ∈ L,w0.heap.size ≤ x.1 ∧ w.heap[x.1]? = some x.2

theorem Hs.nil (w : World) : Hs w w []:=⟨Below.refl _ _,List.nodup_nil,fun _ h=>by cases h⟩
theorem Hs.get {w0 w : World} {L : List Blk} (h : Hs w0 w L) (i : Nat) {g : Nat} {o : Obj} (hi : L[i]? = some (g,o)) : w.heap[g]? = some o:=(h.mem _ (List.mem_of_getElem? hi)).2
theorem Hs.ge {w0 w : World} {L : List Blk} (h : Hs w0 w L) (i : Nat) {g : Nat} {o : Obj} (hi : L[i]? = some (g,o)) : w0.heap.size ≤ g:=(h.mem _ (List.mem_of_getElem? hi)).1
theorem Hs.lt {w0 w : World} {L : List Blk} (h : Hs w0 w L) (i : Nat) {g : Nat} {o : Obj} (hi : L[i]? = some (g,o)) : g < w.heap.size:=a7 (h.get i hi)
theorem Hs.ne {w0 w : World} {L : List Blk} (h : Hs w0 w L) (i j : Nat) {g g' : Nat} {o o' : Obj} (hi : L[i]? = some (g,o)) (hj : L[j]? = some (g',o')) (hne : i ≠ j) : g ≠ g':=by
 intro e
 have h1 : (L.map (·.1))[i]? = some g:=by rw [List.getElem?_map,hi];rfl
 have h2 : (L.map (·.1))[j]? = some g:=by rw [List.getElem?_map,hj,e];rfl
 obtain ⟨l1,_⟩:=List.getElem?_eq_some_iff.1 h1
 exact hne ((List.getElem?_inj l1 h.nodup).1 (h1.trans h2.symm))
theorem Hs.size {w0 w : World} {L : List Blk} (h : Hs w0 w L) : w0.heap.size ≤ w.heap.size:=h.below.size
theorem Hs.cell {w0 w : World} {L : List Blk} (h : Hs w0 w L) (i : Nat) {g : Nat} {cs : Array Value} {t : TypeId} {fr : Nat × Nat} (hi : L[i]? = some (g,.cells cs t fr)) (off : Nat) : w.cell? ⟨g,off,none⟩ = cs[off]?:=cell_of_row w g off cs t fr (h.get i hi)
theorem Hs.aJ {w0 w : World} {L : List Blk} (h : Hs w0 w L) (i : Nat) {g : Nat} {cs : Array Value} {t : TypeId} {fr : Nat × Nat} (hi : L[i]? = some (g,.cells cs t fr)) (off : Nat) {v : Value} (hv : cs[off]? = some v) : w.cell? ⟨g,off,none⟩ = some v:=(h.cell i hi off).trans hv
theorem Hs.frozen {w0 w : World} {L : List Blk} (h : Hs w0 w L) (i : Nat) {g : Nat} {cs : Array Value} {t : TypeId} (hi : L[i]? = some (g,.cells cs t (0,0))) (off : Nat) : w.frozen? ⟨g,off,none⟩ = false:=ag (h.get i hi) off
theorem Hs.call {w0 w w1 : World} {L : List Blk} (h : Hs w0 w L) (hb : Below w.heap.size w w1) : Hs w0 w1 L:=
 ⟨aa h.below hb,h.nodup,fun x hx=>⟨(h.mem x hx).1,ab (h.mem x hx).2 hb⟩⟩
theorem Hs.draw {w0 w w1 : World} {L : List Blk} (h : Hs w0 w L) (hd : Drawn0 w w1) : Hs w0 w1 L:=h.call hd.below
theorem Hs.drewN {w0 w : World} {L : List Blk} (h : Hs w0 w L) (n : Nat) : Hs w0 (w.drewN n) L:=⟨aN h.below n,h.nodup,h.mem⟩
theorem Hs.drew {w0 w : World} {L : List Blk} (h : Hs w0 w L) : Hs w0 w.drew L:=⟨below_drew h.below,h.nodup,h.mem⟩
theorem Hs.push {w0 w w1 : World} {L : List Blk} (h : Hs w0 w L) {g : Nat} {o : Obj} (hg : w.heap.size ≤ g) (ho : w1.heap[g]? = some o) (hb : Below w.heap.size w w1) : Hs w0 w1 ((g,o) :: L):=by
 have h1:=h.call hb
 refine ⟨h1.below,?_,fun x hx=>?_⟩
 ·rw [List.map_cons,List.nodup_cons]
  refine ⟨fun hm=>?_,h.nodup⟩
  obtain ⟨x,hx,e⟩:=List.mem_map.1 hm
  have:=a7 (h.mem x hx).2
  have e' : x.1 = g:=e
  omega
 ·rcases List.mem_cons.1 hx with rfl|hx
  ·exact ⟨Nat.le_trans h.below.size hg,ho⟩
  ·exact h1.mem x hx
theorem Hs.alloc {w0 w : World} {L : List Blk} (h : Hs w0 w L) (o : Obj) : Hs w0 (w.alloc o) ((w.heap.size,o) :: L):=h.push (Nat.le_refl _) (blk_new w o) (ba (Below.refl _ _) o)
theorem Hs.turn {w0 w w1 : World} {L : List Blk} (h : Hs w0 w L) (i : Nat) {g : Nat} {o o' : Obj} (hi : L[i]? = some (g,o)) (hb : Below w0.heap.size w0 w1) (hk : ∀ k,k < w.heap.size → k ≠ g → w1.heap[k]? = w.heap[k]?) (ho : w1.heap[g]? = some o') : Hs w0 w1 (L.set i (g,o')):=by
 refine ⟨hb,?_,fun x hx=>?_⟩
 ·have e : (L.set i (g,o')).map (·.1) = L.map (·.1):=by
   rw [List.map_set]
   have h1 : (L.map (·.1))[i]? = some g:=by rw [List.getElem?_map,hi];rfl
   obtain ⟨l1,h2⟩:=List.getElem?_eq_some_iff.1 h1
   show (L.map (·.1)).set i g = _
   rw [← h2,List.set_getElem_self]
  rw [e];exact h.nodup
 ·obtain ⟨j,hj⟩:=List.getElem?_of_mem hx
  by_cases e : j = i
  ·subst e
   have hl : j < L.length:=(List.getElem?_eq_some_iff.1 hi).1
   rw [List.getElem?_set_self hl] at hj
   cases hj
   exact ⟨h.ge j hi,ho⟩
  ·rw [List.getElem?_set_ne (Ne.symm e)] at hj
   obtain ⟨y,z⟩:=x
   exact ⟨h.ge j hj,(hk y (h.lt j hj) (h.ne j i hj hi e)).trans (h.get j hj)⟩
theorem Hs.grown {w0 w w1 : World} {L : List Blk} (h : Hs w0 w L) (i : Nat) {g : Nat} {o o' : Obj} (hi : L[i]? = some (g,o)) (hg : w.grownBy w1 (some g)) (ho : w1.heap[g]? = some o') : Hs w0 w1 (L.set i (g,o')):=
 h.turn i hi (h.below.grown hg h.below.size (fun k hk=>by cases hk;exact h.ge i hi)) (fun k hl hne=>hg.block k hl (fun e=>hne (Option.some.inj e))) ho
theorem Hs.set {w0 w : World} {L : List Blk} (h : Hs w0 w L) (i : Nat) {g : Nat} {cs : Array Value} {t : TypeId} {fr : Nat × Nat} (hi : L[i]? = some (g,.cells cs t fr)) (off : Nat) (u : Value) : Hs w0 (w.setCell ⟨g,off,none⟩ u) (L.set i (g,.cells (cs.setIfInBounds off u) t fr)):=by
 refine h.turn i hi (h.below.setCell (h.ge i hi) u) (fun k _ hne=>Below.heap_setCell w ⟨g,off,none⟩ u k hne) ?_
 simp [World.setCell,Array.getElem?_modify,h.get i hi]
theorem Hs.tail {w0 w : World} {x : Blk} {L : List Blk} (h : Hs w0 w (x :: L)) : Hs w0 w L:=⟨h.below,(List.nodup_cons.1 h.nodup).2,fun y hy=>h.mem y (List.mem_cons_of_mem _ hy)⟩
theorem Hs.rest {w0 w w1 : World} {B L : List Blk} (h : Hs w0 w (B ++ L)) (hb : Below w0.heap.size w0 w1) (hk : ∀ x ∈ L,w1.heap[x.1]? = w.heap[x.1]?) : Hs w0 w1 L:=by
 refine ⟨hb,?_,fun x hx=>⟨(h.mem x (List.mem_append_right _ hx)).1,(hk x hx).trans (h.mem x (List.mem_append_right _ hx)).2⟩⟩
 have:=h.nodup
 rw [List.map_append] at this
 exact (List.nodup_append.1 this).2.1
theorem Hs.left {w0 w : World} {B L : List Blk} (h : Hs w0 w (B ++ L)) : Hs w0 w L:=h.rest h.below (fun _ _=>rfl)
theorem Hs.comm {w0 w : World} {B L : List Blk} (h : Hs w0 w (B ++ L)) : Hs w0 w (L ++ B):=by
 refine ⟨h.below,?_,fun x hx=>h.mem x (List.mem_append.2 ((List.mem_append.1 hx).symm))⟩
 have:=h.nodup
 rw [List.map_append] at this ⊢
 exact (List.perm_append_comm.nodup_iff).1 this
theorem Hs.add {w0 w : World} {L : List Blk} (h : Hs w0 w L) {g : Nat} {o : Obj} (hg : w0.heap.size ≤ g) (ho : w.heap[g]? = some o) (hn : ∀ x ∈ L,x.1 ≠ g) : Hs w0 w ((g,o) :: L):=by
 refine ⟨h.below,?_,fun x hx=>?_⟩
 ·rw [List.map_cons,List.nodup_cons]
  refine ⟨fun hm=>?_,h.nodup⟩
  obtain ⟨x,hx,e⟩:=List.mem_map.1 hm
  exact hn x hx e
 ·rcases List.mem_cons.1 hx with rfl|hx
  ·exact ⟨hg,ho⟩
  ·exact h.mem x hx
def RowB (e size : Nat) (v : Value) (n : Nat) (xs : List Value) (B : List Blk) : Prop:=
 xs.length = n * size ∧ ((v = .slice none 0 0 ∧ n = 0 ∧ B = []) ∨ ∃ g cap cur,v = .slice (some ⟨g,0,none⟩) n cap ∧ B = [(g,.cells cur e (0,0))] ∧ n ≤ cap ∧ cap ≤ maxLen ∧ cur.size = cap * size ∧ cur.toList.take (n * size) = xs)
theorem RowB.nil (e size : Nat) : RowB e size (.slice none 0 0) 0 [] []:=⟨by simp,.inl ⟨rfl,rfl,rfl⟩⟩
theorem RowB.owns {e size : Nat} {v : Value} {n : Nat} {xs : List Value} {B L : List Blk} {w0 W : World} (h : RowB e size v n xs B) (H : Hs w0 W (B ++ L)) : W.ownsRow w0.heap.size e size v n xs:=by
 refine ⟨h.1,?_⟩
 rcases h.2 with ⟨h1,h2,_⟩|⟨g,cap,cur,h1,rfl,h3,h4,h5,h6⟩
 ·exact .inl ⟨h1,h2⟩
 ·exact .inr ⟨g,cap,cur,h1,H.ge 0 rfl,H.get 0 rfl,h3,h4,h5,h6⟩
theorem RowB.back {e size : Nat} {v v1 : Value} {n n1 : Nat} {xs xs1 : List Value} {B L : List Blk} {w0 W w1 : World} (h : RowB e size v n xs B) (H : Hs w0 W (B ++ L)) (hown : w1.ownsRow w0.heap.size e size v1 n1 xs1) (hb : Below w0.heap.size w0 w1) (hg : W.grownBy w1 v.ownBlock)
  (hat : v1.ownBlock = v.ownBlock ∨ ∃ b,v1.ownBlock = some b ∧ W.heap.size ≤ b) : ∃ B1,RowB e size v1 n1 xs1 B1 ∧ Hs w0 w1 (B1 ++ L):=by
 have hv : ∀ x ∈ L,some x.1 ≠ v.ownBlock:=by
  intro x hx
  rcases h.2 with ⟨rfl,_,_⟩|⟨g,cap,cur,rfl,rfl,_⟩
  ·simp [Value.ownBlock]
  ·have hn:=H.nodup
   rw [List.map_append,List.map_cons,List.map_nil,List.singleton_append,List.nodup_cons] at hn
   intro e
   have e' : x.1 = g:=by simpa [Value.ownBlock] using e
   exact hn.1 (List.mem_map.2 ⟨x,hx,e'⟩)
 have HL : Hs w0 w1 L:=H.rest hb (fun x hx=>hg.block x.1 (a7 (H.mem x (List.mem_append_right _ hx)).2) (hv x hx))
 obtain ⟨hl,ho⟩:=hown
 rcases ho with ⟨h1,h2⟩|⟨g,cap,cur,h1,h2,h3,h4,h5,h6,h7⟩
 ·exact ⟨[],⟨hl,.inl ⟨h1,h2,rfl⟩⟩,HL⟩
 ·refine ⟨[(g,.cells cur e (0,0))],⟨hl,.inr ⟨g,cap,cur,h1,rfl,h4,h5,h6,h7⟩⟩,HL.add h2 h3 (fun x hx e=>?_)⟩
  subst h1
  rcases hat with e1|⟨b,e1,hb1⟩
  ·exact hv x hx (by rw [← e1,e];rfl)
  ·have hbg : b = g:=by simpa [Value.ownBlock] using e1.symm
   have:=a7 (H.mem x (List.mem_append_right _ hx)).2
   omega
theorem Hs.perm {w0 w : World} {L M : List Blk} (h : Hs w0 w L) (p : L.Perm M) : Hs w0 w M:=⟨h.below,((p.map (·.1)).nodup_iff).1 h.nodup,fun x hx=>h.mem x (p.mem_iff.2 hx)⟩
theorem Hs.swap {w0 w : World} {x y : Blk} {L : List Blk} (h : Hs w0 w (x :: y :: L)) : Hs w0 w (y :: x :: L):=h.perm (List.Perm.swap _ _ _)
theorem Hs.setM {w0 w : World} {B L : List Blk} {g : Nat} {cs : Array Value} {t : TypeId} {fr : Nat × Nat} (h : Hs w0 w (B ++ (g,.cells cs t fr) :: L)) (off : Nat) (u : Value) : Hs w0 (w.setCell ⟨g,off,none⟩ u) (B ++ (g,.cells (cs.setIfInBounds off u) t fr) :: L):=by
 have h1:=h.set B.length (g:=g) (cs:=cs) (t:=t) (fr:=fr) (by simp) off u
 rwa [List.set_append_right _ _ (Nat.le_refl _),Nat.sub_self,List.set_cons_zero] at h1
theorem made_at (z : Value) (n k : Nat) (h : k < n) : (madeCells #[z] n)[k]? = some z:=by
 simp [madeCells,h,Nat.mod_one]
theorem arr_some {cs : Array Value} {j : Nat} (h : j < cs.size) : ∃ v,cs[j]? = some v:=⟨cs[j],Array.getElem?_eq_getElem h⟩
theorem make_ev {P : Program} {ops : Array Oper} {rest : List Oper} {o : Oper} {a : Act} {Q : Exit → Act → World → Prop} {W : World} (hgd : o.guard = none) (t e : TypeId) (x y : Operand) (ho : o.op = .makeSlice t x y) (n : Int) (m : Nat) (hx : a.eval x = .int .i64 n) (hy : a.eval y = .int .i64 n) (hm : n = (m : Int))
  (ht : P.underlying t = some (.slice e)) (z : Value) (bytes : Nat) (hinfo : (P.info? e).map (fun i=>(i.zero,i.size,i.bytes)) = some (some z,1,bytes)) (hz : z.cells = #[z]) (hb0 : 0 < bytes) (hl : m * bytes ≤ 281474976710656)
  (h : ∀ g,g = W.heap.size → ∀ w1,w1.heap[g]? = some (.cells (madeCells #[z] m) e (0,0)) → Below W.heap.size W w1 → wpList P ops Q rest (a.put o.dst (.slice (some ⟨g,0,none⟩) m m)) w1) : wpList P ops Q (o :: rest) a W:=by
 subst hm
 obtain ⟨i0,hi,hzz⟩:=Option.map_eq_some_iff.1 hinfo
 simp only [Prod.mk.injEq] at hzz
 obtain ⟨hz0,hz1,hz2⟩:=hzz
 have hm : m ≤ 281474976710656:=Nat.le_trans (Nat.le_mul_of_pos_right _ hb0) hl
 have hr:=run_make (P:=P) W t e i0 z ht hi hz0 .i64 .i64 (m : Int) (m : Int) (by omega) (by omega)
  (by
   have h3 : ((i0.bytes * m : Nat) : Int) ≤ 281474976710656:=by rw [hz2,Nat.mul_comm];omega
   rwa [Int.natCast_mul] at h3) (by omega)
 simp only [Int.toNat_natCast] at hr
 rw [hz1,hz,Nat.mul_one] at hr
 refine Kd.event_run hgd (w1:=W.alloc (.cells (madeCells #[z] m) e (0,0))) (v:=.slice (some ⟨W.heap.size,0,none⟩) m m) ?_ (h _ rfl _ (blk_new W _) (ba (Below.refl _ _) _))
 simp [execOp,ho,hx,hy,hr]
theorem dp {P : Program} {ops : Array Oper} {rest : List Oper} {o : Oper} {a : Act} {Q : Exit → Act → World → Prop} {W : World} (F : World → World) (hgd : o.guard = none) {t : TypeId} {p : Tmp} {v : Operand} (ho : o.op = .store t (.tmp p) v) (hN : o.dst = none)
  (hrun : (execOp a.eval o).run P W = .ok .skip (F W)) (h : ∀ w',w' = F W → wpList P ops Q rest a w') : wpList P ops Q (o :: rest) a W:=bK hgd ho hN hrun h
theorem cY {P : Program} {ops : Array Oper} {rest : List Oper} {o : Oper} {a : Act} {Q : Exit → Act → World → Prop} {W : World} (v : Value) (hgd : o.guard = none) (hrun : (execOp a.eval o).run P W = .ok (.value v) W) (h : wpList P ops Q rest (a.put o.dst v) W) : wpList P ops Q (o :: rest) a W:=Kd.event_run hgd hrun h
end Go.Proofs.Ytffhbpepppodeaa.Hs
