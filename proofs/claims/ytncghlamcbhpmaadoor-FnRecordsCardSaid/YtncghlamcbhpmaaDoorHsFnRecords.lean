/-
  What a heap holds, told as a list of blocks with their contents: the blocks of the call's own, each from w0 on, no two the same; below them nothing has turned.
-/
import Derived.Test.YtncghlamcbhpmaaDoorZFnRecords0
namespace Go.Proofs.YtncghlamcbhpmaaDoor.Hs
open Go.RowKit Go.Proofs.YtncghlamcbhpmaaDoorW.PrintWords Go.Proofs.YtncghlamcbhpmaaDoorW.PrintLast Go.Proofs.YtncghlamcbhpmaaDoorW.PrintMore

abbrev Blk := Nat × Obj
/-- The world w is w0 with these blocks beside it. -/
structure Hs (w0 w : World) (L : List Blk) : Prop where
  below : Below w0.heap.size w0 w
  nodup : (L.map (·.1)).Nodup
  mem : ∀ x ∈ L, w0.heap.size ≤ x.1 ∧ w.heap[x.1]? = some x.2

theorem Hs.nil (w : World) : Hs w w [] := ⟨Below.refl _ _, List.nodup_nil, fun _ h => by cases h⟩
theorem Hs.get {w0 w : World} {L : List Blk} (h : Hs w0 w L) (i : Nat) {g : Nat} {o : Obj} (hi : L[i]? = some (g, o)) : w.heap[g]? = some o := (h.mem _ (List.mem_of_getElem? hi)).2
theorem Hs.ge {w0 w : World} {L : List Blk} (h : Hs w0 w L) (i : Nat) {g : Nat} {o : Obj} (hi : L[i]? = some (g, o)) : w0.heap.size ≤ g := (h.mem _ (List.mem_of_getElem? hi)).1
theorem Hs.lt {w0 w : World} {L : List Blk} (h : Hs w0 w L) (i : Nat) {g : Nat} {o : Obj} (hi : L[i]? = some (g, o)) : g < w.heap.size := blk_lt (h.get i hi)
theorem Hs.ne {w0 w : World} {L : List Blk} (h : Hs w0 w L) (i j : Nat) {g g' : Nat} {o o' : Obj} (hi : L[i]? = some (g, o)) (hj : L[j]? = some (g', o')) (hne : i ≠ j) : g ≠ g' := by
  intro e
  have h1 : (L.map (·.1))[i]? = some g := by rw [List.getElem?_map, hi]; rfl
  have h2 : (L.map (·.1))[j]? = some g := by rw [List.getElem?_map, hj, e]; rfl
  obtain ⟨l1, _⟩ := List.getElem?_eq_some_iff.1 h1
  exact hne ((List.getElem?_inj l1 h.nodup).1 (h1.trans h2.symm))
theorem Hs.size {w0 w : World} {L : List Blk} (h : Hs w0 w L) : w0.heap.size ≤ w.heap.size := h.below.size
theorem Hs.cell {w0 w : World} {L : List Blk} (h : Hs w0 w L) (i : Nat) {g : Nat} {cs : Array Value} {t : TypeId} {fr : Nat × Nat} (hi : L[i]? = some (g, .cells cs t fr)) (off : Nat) : w.cell? ⟨g, off, none⟩ = cs[off]? := cell_of_row w g off cs t fr (h.get i hi)
theorem Hs.cellv {w0 w : World} {L : List Blk} (h : Hs w0 w L) (i : Nat) {g : Nat} {cs : Array Value} {t : TypeId} {fr : Nat × Nat} (hi : L[i]? = some (g, .cells cs t fr)) (off : Nat) {v : Value} (hv : cs[off]? = some v) : w.cell? ⟨g, off, none⟩ = some v := (h.cell i hi off).trans hv
theorem Hs.frozen {w0 w : World} {L : List Blk} (h : Hs w0 w L) (i : Nat) {g : Nat} {cs : Array Value} {t : TypeId} (hi : L[i]? = some (g, .cells cs t (0, 0))) (off : Nat) : w.frozen? ⟨g, off, none⟩ = false := blk_frozen (h.get i hi) off
theorem Hs.call {w0 w w1 : World} {L : List Blk} (h : Hs w0 w L) (hb : Below w.heap.size w w1) : Hs w0 w1 L :=
  ⟨below_step h.below hb, h.nodup, fun x hx => ⟨(h.mem x hx).1, blk_below (h.mem x hx).2 hb⟩⟩
theorem Hs.draw {w0 w w1 : World} {L : List Blk} (h : Hs w0 w L) (hd : Drawn0 w w1) : Hs w0 w1 L := h.call hd.below
theorem Hs.drewN {w0 w : World} {L : List Blk} (h : Hs w0 w L) (n : Nat) : Hs w0 (w.drewN n) L := ⟨pw_below_drewN h.below n, h.nodup, h.mem⟩
theorem Hs.drew {w0 w : World} {L : List Blk} (h : Hs w0 w L) : Hs w0 w.drew L := ⟨below_drew h.below, h.nodup, h.mem⟩
theorem Hs.push {w0 w w1 : World} {L : List Blk} (h : Hs w0 w L) {g : Nat} {o : Obj} (hg : w.heap.size ≤ g) (ho : w1.heap[g]? = some o) (hb : Below w.heap.size w w1) : Hs w0 w1 ((g, o) :: L) := by
  have h1 := h.call hb
  refine ⟨h1.below, ?_, fun x hx => ?_⟩
  · rw [List.map_cons, List.nodup_cons]
    refine ⟨fun hm => ?_, h.nodup⟩
    obtain ⟨x, hx, e⟩ := List.mem_map.1 hm
    have := blk_lt (h.mem x hx).2
    have e' : x.1 = g := e
    omega
  · rcases List.mem_cons.1 hx with rfl | hx
    · exact ⟨Nat.le_trans h.below.size hg, ho⟩
    · exact h1.mem x hx
theorem Hs.alloc {w0 w : World} {L : List Blk} (h : Hs w0 w L) (o : Obj) : Hs w0 (w.alloc o) ((w.heap.size, o) :: L) := h.push (Nat.le_refl _) (blk_new w o) (below_alloc (Below.refl _ _) o)
/-- One block turned, new ones beside it. -/
theorem Hs.turn {w0 w w1 : World} {L : List Blk} (h : Hs w0 w L) (i : Nat) {g : Nat} {o o' : Obj} (hi : L[i]? = some (g, o)) (hb : Below w0.heap.size w0 w1) (hk : ∀ k, k < w.heap.size → k ≠ g → w1.heap[k]? = w.heap[k]?) (ho : w1.heap[g]? = some o') : Hs w0 w1 (L.set i (g, o')) := by
  refine ⟨hb, ?_, fun x hx => ?_⟩
  · have e : (L.set i (g, o')).map (·.1) = L.map (·.1) := by
      rw [List.map_set]
      have h1 : (L.map (·.1))[i]? = some g := by rw [List.getElem?_map, hi]; rfl
      obtain ⟨l1, h2⟩ := List.getElem?_eq_some_iff.1 h1
      show (L.map (·.1)).set i g = _
      rw [← h2, List.set_getElem_self]
    rw [e]; exact h.nodup
  · obtain ⟨j, hj⟩ := List.getElem?_of_mem hx
    by_cases e : j = i
    · subst e
      have hl : j < L.length := (List.getElem?_eq_some_iff.1 hi).1
      rw [List.getElem?_set_self hl] at hj
      cases hj
      exact ⟨h.ge j hi, ho⟩
    · rw [List.getElem?_set_ne (Ne.symm e)] at hj
      obtain ⟨y, z⟩ := x
      exact ⟨h.ge j hj, (hk y (h.lt j hj) (h.ne j i hj hi e)).trans (h.get j hj)⟩
theorem Hs.keep {w0 w w1 : World} {L : List Blk} (h : Hs w0 w L) (i : Nat) {g : Nat} {o o' : Obj} (hi : L[i]? = some (g, o)) (hb : Below w0.heap.size w0 w1) (hk : KeepBut w w1 g none) (ho : w1.heap[g]? = some o') : Hs w0 w1 (L.set i (g, o')) :=
  h.turn i hi hb (fun k hl hne => hk.2 k hl hne (by simp)) ho
theorem Hs.grown {w0 w w1 : World} {L : List Blk} (h : Hs w0 w L) (i : Nat) {g : Nat} {o o' : Obj} (hi : L[i]? = some (g, o)) (hg : w.grownBy w1 (some g)) (ho : w1.heap[g]? = some o') : Hs w0 w1 (L.set i (g, o')) :=
  h.turn i hi (h.below.grown hg h.below.size (fun k hk => by cases hk; exact h.ge i hi)) (fun k hl hne => hg.block k hl (fun e => hne (Option.some.inj e))) ho
theorem Hs.set {w0 w : World} {L : List Blk} (h : Hs w0 w L) (i : Nat) {g : Nat} {cs : Array Value} {t : TypeId} {fr : Nat × Nat} (hi : L[i]? = some (g, .cells cs t fr)) (off : Nat) (u : Value) : Hs w0 (w.setCell ⟨g, off, none⟩ u) (L.set i (g, .cells (cs.setIfInBounds off u) t fr)) := by
  refine h.turn i hi (h.below.setCell (h.ge i hi) u) (fun k _ hne => Below.heap_setCell w ⟨g, off, none⟩ u k hne) ?_
  simp [World.setCell, Array.getElem?_modify, h.get i hi]
/-- Some of the blocks, in another order. -/
theorem Hs.pick {w0 w : World} {L : List Blk} (h : Hs w0 w L) (s : List Nat) (hs : s.Nodup) {M : List Blk} (hM : s.map (fun i => L[i]?) = M.map some) : Hs w0 w M := by
  have hj : ∀ (j : Nat) x, M[j]? = some x → ∃ i, s[j]? = some i ∧ L[i]? = some x := by
    intro j x hx
    have h1 : (M.map some)[j]? = some (some x) := by rw [List.getElem?_map, hx]; rfl
    rw [← hM, List.getElem?_map] at h1
    obtain ⟨i, hi, he⟩ := Option.map_eq_some_iff.1 h1
    exact ⟨i, hi, he⟩
  refine ⟨h.below, ?_, fun x hx => ?_⟩
  · rw [List.nodup_iff_pairwise_ne, List.pairwise_iff_getElem]
    intro a b ha hb hab
    simp only [List.length_map] at ha hb
    rw [List.getElem_map, List.getElem_map]
    obtain ⟨ia, hia, hLa⟩ := hj a M[a] (List.getElem?_eq_getElem ha)
    obtain ⟨ib, hib, hLb⟩ := hj b M[b] (List.getElem?_eq_getElem hb)
    obtain ⟨la, ea⟩ := List.getElem?_eq_some_iff.1 hia
    refine h.ne ia ib (o := (M[a]).2) (o' := (M[b]).2) hLa hLb (fun e => ?_)
    subst e
    have := (List.getElem?_inj la hs).1 (hia.trans hib.symm)
    omega
  · obtain ⟨j, hx⟩ := List.getElem?_of_mem hx
    obtain ⟨i, _, hi⟩ := hj j x hx
    obtain ⟨g, o⟩ := x
    exact ⟨h.ge i hi, h.get i hi⟩
theorem Hs.tail {w0 w : World} {x : Blk} {L : List Blk} (h : Hs w0 w (x :: L)) : Hs w0 w L := ⟨h.below, (List.nodup_cons.1 h.nodup).2, fun y hy => h.mem y (List.mem_cons_of_mem _ hy)⟩
/-- A store; what becomes of the world is told as a function of it. -/
theorem store_at {P : Program} {ops : Array Oper} {rest : List Oper} {o : Oper} {a : Act} {Q : Exit → Act → World → Prop} {W : World} (F : World → World) (hgd : o.guard = none) {t : TypeId} {p : Tmp} {v : Operand} (ho : o.op = .store t (.tmp p) v) (hN : o.dst = none)
    (hrun : (execOp a.eval o).run P W = .ok .skip (F W)) (h : ∀ w', w' = F W → wpList P ops Q rest a w') : wpList P ops Q (o :: rest) a W := store_event hgd ho hN hrun h
/-- An operation that gives a value and leaves the world. -/
theorem load_at {P : Program} {ops : Array Oper} {rest : List Oper} {o : Oper} {a : Act} {Q : Exit → Act → World → Prop} {W : World} (v : Value) (hgd : o.guard = none) (hrun : (execOp a.eval o).run P W = .ok (.value v) W) (h : wpList P ops Q rest (a.put o.dst v) W) : wpList P ops Q (o :: rest) a W := Kd.event_run hgd hrun h
end Go.Proofs.YtncghlamcbhpmaaDoor.Hs
