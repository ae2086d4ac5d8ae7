/-
  A map of int64 keys of one's own, the heap told as a list of blocks: which keys it has; looking one up; laying one in.
-/
import Derived.Test.YtmkeepildbkmeaaHsAppFnMoves
import Derived.MapKept
import Derived.Laws.CopyOwn
set_option linter.unusedVariables false
set_option linter.unusedSimpArgs false
namespace Go.Proofs.Ytmkeepildbkmeaa.Hs
open Go.RowKit Go.Proofs.YtmkeepildbkmeaaW.PrintWords Go.Proofs.YtmkeepildbkmeaaW.PrintLast Go.Proofs.YtmkeepildbkmeaaW.PrintMore
/-- The map's keys, in the order in which they came. -/
def mapI (es : Array MapEntry) (ks : List Int) : Prop := es.toList.map (·.key) = ks.map (Value.int .i64)
theorem mapI_nil : mapI #[] [] := rfl
theorem mapI_push {es : Array MapEntry} {ks : List Int} (h : mapI es ks) (d : Int) (v : Value) (c : Nat) : mapI (es.push { key := .int .i64 d, val := v, born := c }) (ks ++ [d]) := by
  unfold mapI at h ⊢
  rw [Array.toList_push, List.map_append, h, List.map_append]
  rfl
theorem findNow_int : ∀ (l : List MapEntry) (ks : List Int) (j : Nat) (d : Int), l.map (·.key) = ks.map (Value.int .i64) → (d ∉ ks → Instr.findNow (.int .i64) (.int .i64 d) l j = some none) ∧ (d ∈ ks → ∃ i v, Instr.findNow (.int .i64) (.int .i64 d) l j = some (some (i, v)))
  | [], [], j, d, _ => ⟨fun _ => rfl, fun h => by cases h⟩
  | [], _ :: _, _, _, h => by cases h
  | _ :: _, [], _, _, h => by cases h
  | e :: l, k :: ks, j, d, h => by
    simp only [List.map_cons, List.cons.injEq] at h
    obtain ⟨h1, h2⟩ := h
    obtain ⟨i1, i2⟩ := findNow_int l ks (j + 1) d h2
    unfold Instr.findNow
    rw [h1]
    have e0 : Instr.sameNow (.int .i64) (.int .i64 d) (.int .i64 k) = some (d == k) := by simp [Instr.sameNow]
    rw [e0]
    by_cases c : d = k
    · subst c
      simp
    · have e1 : (d == k) = false := by simpa using c
      rw [e1]
      refine ⟨fun hn => i1 (fun hm => hn (List.mem_cons_of_mem _ hm)), fun hm => ?_⟩
      rcases List.mem_cons.1 hm with hm | hm
      · exact absurd hm c
      · exact i2 hm
section
variable {P : Program} {w : World} {t k e : TypeId} {b : Nat} {es : Array MapEntry} {clock : Nat} {ks : List Int}
theorem lookup_int (ht : P.underlying t = some (.map k e)) (hk : P.underlying k = some (.int .i64)) (hz : ∃ z, (zeroValue e).run P w = .ok z w) (hb : w.heap[b]? = some (.map es clock)) (hm : mapI es ks) (d : Int) :
    ∃ v, (Instr.lookup t (.map (some b)) (.int .i64 d) true).run P w = .ok (.tuple #[v, .bool (decide (d ∈ ks))]) w := by
  obtain ⟨z, hz⟩ := hz
  obtain ⟨h1, h2⟩ := findNow_int es.toList ks 0 d hm
  have hc : ∀ em n, (Instr.checkKey em (n + 1) k (.int .i64 d)).run P w = .ok () w := fun em n => by simp [Instr.checkKey, run_underlying hk]
  by_cases c : d ∈ ks
  · obtain ⟨i, v, hf⟩ := h2 c
    have hfk := MapKept.run_findKey (w := w) hk hf
    exact ⟨v, by simp [Instr.lookup, run_underlying ht, MapKept.run_getObj_map hb, hc, hfk, Result.andThen, c]⟩
  · have hfk := MapKept.run_findKey (w := w) hk (h1 c)
    exact ⟨z, by simp [Instr.lookup, run_underlying ht, MapKept.run_getObj_map hb, hc, hfk, hz, Result.andThen, c]⟩
theorem update_int (ht : P.underlying t = some (.map k e)) (hk : P.underlying k = some (.int .i64)) (hb : w.heap[b]? = some (.map es clock)) (hm : mapI es ks) (d : Int) (hd : d ∉ ks) (v : Value) :
    (Instr.mapUpdate t (.map (some b)) (.int .i64 d) v).run P w = .ok () { w with heap := w.heap.setIfInBounds b (.map (es.push { key := .int .i64 d, val := v, born := clock }) (clock + 1)) } := by
  obtain ⟨h1, _⟩ := findNow_int es.toList ks 0 d hm
  have hc : ∀ em n, (Instr.checkKey em (n + 1) k (.int .i64 d)).run P w = .ok () w := fun em n => by simp [Instr.checkKey, run_underlying hk]
  have hfk := MapKept.run_findKey (w := w) hk (h1 hd)
  simp [Instr.mapUpdate, run_underlying ht, MapKept.run_getObj_map hb, hc, hfk, Result.andThen, setObj, Sem.run, hb]
end
theorem Hs.setB {w0 w : World} {L : List Blk} (h : Hs w0 w L) (i : Nat) {g : Nat} {o : Obj} (hi : L[i]? = some (g, o)) (o' : Obj) : Hs w0 { w with heap := w.heap.setIfInBounds g o' } (L.set i (g, o')) := by
  refine h.turn i hi (h.below.trans ⟨rfl, rfl, rfl, by simp, fun k hk => ?_⟩) (fun k _ hne => ?_) ?_
  · have := h.ge i hi
    show (w.heap.setIfInBounds g o')[k]? = _
    rw [Array.getElem?_setIfInBounds_ne (by omega)]
  · show (w.heap.setIfInBounds g o')[k]? = _
    rw [Array.getElem?_setIfInBounds_ne (fun e => hne e.symm)]
  · show (w.heap.setIfInBounds g o')[g]? = _
    have := h.lt i hi
    rw [Array.getElem?_setIfInBounds_self_of_lt this]
section
variable {P : Program} {ops : Array Oper} {rest : List Oper} {o : Oper} {a : Act} {Q : Exit → Act → World → Prop} {w0 W : World} {L : List Blk}
theorem makeMap_ev (hgd : o.guard = none) (t : TypeId) (ho : o.op = .makeMap t none) (H : Hs w0 W L)
    (h : ∀ b w1, Hs w0 w1 ((b, .map #[] 0) :: L) → wpList P ops Q rest (a.put o.dst (.map (some b))) w1) : wpList P ops Q (o :: rest) a W :=
  Kd.event_run hgd (w1 := W.alloc (.map #[] 0)) (v := .map (some W.heap.size)) (by simp [execOp, ho, Instr.makeMap]) (h _ _ (H.alloc _))
theorem lookup_ev (hgd : o.guard = none) (t k e : TypeId) (m x : Operand) (ho : o.op = .lookup t m x true) (ht : P.underlying t = some (.map k e)) (hk : P.underlying k = some (.int .i64)) (hz : ∀ w, ∃ z, (zeroValue e).run P w = .ok z w) (b : Nat) (es : Array MapEntry) (clock : Nat) (ks : List Int) (d : Int)
    (hmv : a.eval m = .map (some b)) (hxv : a.eval x = .int .i64 d) (H : Hs w0 W L) (i : Nat) (hi : L[i]? = some (b, .map es clock)) (hm : mapI es ks)
    (h : ∀ v, wpList P ops Q rest (a.put o.dst (.tuple #[v, .bool (decide (d ∈ ks))])) W) : wpList P ops Q (o :: rest) a W := by
  obtain ⟨v, hv⟩ := lookup_int (w := W) ht hk (hz W) (H.get i hi) hm d
  exact Kd.event_run hgd (w1 := W) (v := .tuple #[v, .bool (decide (d ∈ ks))]) (by simp [execOp, ho, hmv, hxv, hv]) (h v)
theorem update_ev (hgd : o.guard = none) (hN : o.dst = none) (t k e : TypeId) (m x y : Operand) (ho : o.op = .mapUpdate t m x y) (ht : P.underlying t = some (.map k e)) (hk : P.underlying k = some (.int .i64)) (b : Nat) (es : Array MapEntry) (clock : Nat) (ks : List Int) (d : Int)
    (hmv : a.eval m = .map (some b)) (hxv : a.eval x = .int .i64 d) (H : Hs w0 W L) (i : Nat) (hi : L[i]? = some (b, .map es clock)) (hm : mapI es ks) (hd : d ∉ ks)
    (h : ∀ es1 c1 w1, mapI es1 (ks ++ [d]) → Hs w0 w1 (L.set i (b, .map es1 c1)) → wpList P ops Q rest a w1) : wpList P ops Q (o :: rest) a W := by
  have hr := update_int (w := W) ht hk (H.get i hi) hm d hd (a.eval y)
  refine wpList_plain hgd fun K hK => ?_
  unfold Oper.wp
  have hrun : (execOp a.eval o).run P W = .ok .skip { W with heap := W.heap.setIfInBounds b (.map (es.push { key := .int .i64 d, val := a.eval y, born := clock }) (clock + 1)) } := by simp [execOp, ho, hmv, hxv, hr]
  rw [hrun]
  show K (a.put o.dst undef) _
  rw [hN]
  exact hK _ _ (h _ _ _ (mapI_push hm d _ clock) (H.setB i hi _))
end
end Go.Proofs.Ytmkeepildbkmeaa.Hs
