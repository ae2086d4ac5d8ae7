/-
  One byte of a text turned: what the call does.
-/
import Derived.Test.YtncghlamcbhpmaaDoorPFnRecordsx0
namespace Go.Proofs.YtncghlamcbhpmaaDoor.PFnRecords
open Go.RowKit Go.Proofs.YtncghlamcbhpmaaDoorW.PrintWords Go.Proofs.YtncghlamcbhpmaaDoorW.PrintLast Go.Proofs.YtncghlamcbhpmaaDoorW.PrintMore
/-- A row of bytes of one's own, laid by a conversion: its mark lies behind its end. -/
def RowT (W : World) (g : Nat) (xs : List Int) : Prop := ∃ (cs : Array Value) (n : Nat), W.heap[g]? = some (.cells cs 5 (n, n + 1)) ∧ xs.length ≤ n ∧ cs.size = n ∧ ∀ j, j < xs.length → cs[j]? = some (.int .u8 (xs.getD j 0))
theorem RowT.cell {W : World} {g : Nat} {xs : List Int} (h : RowT W g xs) (j : Nat) (hj : j < xs.length) : W.cell? ⟨g, j, none⟩ = some (.int .u8 (xs.getD j 0)) := by
  obtain ⟨cs, n, hh, hn, hs, hc⟩ := h
  rw [cell_of_row W g j cs _ _ hh]
  exact hc j hj
theorem RowT.frozen {W : World} {g : Nat} {xs : List Int} (h : RowT W g xs) (j : Nat) (hj : j < xs.length) : W.frozen? ⟨g, j, none⟩ = false := by
  obtain ⟨cs, n, hh, hn, hs, hc⟩ := h
  simp [World.frozen?, hh]
  omega
theorem RowT.set {W : World} {g : Nat} {xs : List Int} (h : RowT W g xs) (j : Nat) (hj : j < xs.length) (v : Int) : RowT (W.setCell ⟨g, j, none⟩ (.int .u8 v)) g (xs.set j v) := by
  obtain ⟨cs, n, hh, hn, hs, hc⟩ := h
  refine ⟨cs.setIfInBounds j (.int .u8 v), n, by simp [World.setCell, Array.getElem?_modify, hh], by simpa using hn, by simpa using hs, fun i hi => ?_⟩
  have hi' : i < xs.length := by simpa using hi
  by_cases e : j = i
  · subst e
    rw [Array.getElem?_setIfInBounds_self_of_lt (by omega)]
    simp [List.getD_eq_getElem?_getD, hi']
  · rw [Array.getElem?_setIfInBounds_ne e, hc i hi', List.getD_eq_getElem?_getD, List.getD_eq_getElem?_getD, List.getElem?_set_ne e]
theorem RowT.far {W : World} {g : Nat} {xs : List Int} (h : RowT W g xs) {p : Addr} (hp : g ≠ p.block) (u : Value) : RowT (W.setCell p u) g xs := by
  obtain ⟨cs, n, hh, hr⟩ := h
  exact ⟨cs, n, (Below.heap_setCell W p u g hp).trans hh, hr⟩
theorem RowT.new (W : World) (s : ByteArray) : RowT (Lib.bytesWorld W 5 s) W.heap.size (bytesOf s) := by
  refine ⟨Lib.bytesCells W 5 s, (Lib.bytesCells W 5 s).size, Lib.bytesWorld_at_new W _ s, ?_, rfl, fun j hj => ?_⟩
  · rw [bytesOf_length]; unfold Lib.bytesCells; rw [Array.size_append, Array.size_map]; exact Nat.le_add_right _ _
  · rw [bytesOf_length] at hj
    have h1 := Lib.bytesWorld_cell W 5 s j hj
    rw [cell_of_row _ _ _ _ _ _ (Lib.bytesWorld_at_new W 5 s)] at h1
    rw [h1]
    have hl : j < s.data.toList.length := by rw [data_length]; exact hj
    simp [bytesOf, List.getD_eq_getElem?_getD, List.getElem?_eq_getElem hl]
def laws_lwTurn.f (a0 : ByteArray) (a1 : Int) (a2 : Int) : Option ByteArray :=
  if (a0.size : Int) = 0 then some a0 else if a0.size ≤ 9223372036854775807 then (if 0 ≤ Int.tmod a1 (a0.size : Int) then (if Int.tmod a1 (a0.size : Int) < (a0.size : Int) then some (strOfNums ((bytesOf a0).set (Int.tmod a1 (a0.size : Int)).toNat (Go.bits .xor .u8 ((bytesOf a0).getD (Int.tmod a1 (a0.size : Int)).toNat 0) ((wrap64 (1 + Int.tmod a2 255)) % 256)))) else none) else none) else none
set_option maxHeartbeats 8000000 in
set_option maxRecDepth 100000 in
theorem laws_lwTurn.calls (a0 : ByteArray) (a1 : Int) (a2 : Int) (r : ByteArray) (w : World) (h : laws_lwTurn.f a0 a1 a2 = some r) :
    Calls Tryd.prog 16 #[.string a0, .int .i64 a1, .int .i64 a2] w fun e w' => e = .returned (.string r) ∧ Below w.heap.size w w' := by
  unfold laws_lwTurn.f at h
  by_cases hz : (a0.size : Int) = 0
  · rw [if_pos hz] at h
    simp only [Option.some.injEq] at h
    subst h
    have hb1 : decide ((a0.size : Int) = 0) = true := decide_eq_true hz
    have hb2 : ((a0.size : Int) == 0) = true := by simpa using hz
    go_enter Tryd.func16, Tryd.ntmps16
    go_wp2
    go_ret
    exact ⟨rfl, Below.refl _ _⟩
  rw [if_neg hz] at h
  by_cases hsz : a0.size ≤ 9223372036854775807
  rotate_left
  · rw [if_neg hsz] at h; cases h
  rw [if_pos hsz] at h
  by_cases c1 : 0 ≤ Int.tmod a1 (a0.size : Int)
  rotate_left
  · rw [if_neg c1] at h; cases h
  rw [if_pos c1] at h
  by_cases c2 : Int.tmod a1 (a0.size : Int) < (a0.size : Int)
  rotate_left
  · rw [if_neg c2] at h; cases h
  rw [if_pos c2] at h
  simp only [Option.some.injEq] at h
  obtain ⟨i, hi⟩ := Int.eq_ofNat_of_zero_le c1
  rw [hi, Int.toNat_natCast] at h
  subst h
  have hz2 : ¬ a0.size = 0 := by omega
  have hb1 : decide ((a0.size : Int) = 0) = false := decide_eq_false hz
  have hb2 : ((a0.size : Int) == 0) = false := by simpa using hz
  have hlt : i < a0.size := by omega
  have hb3 : (i < a0.size) = True := eq_true hlt
  have kb := fun W => print_bytes (P := Tryd.prog) 9 29 5 Tryd.underlying9 Tryd.underlying29 Tryd.underlying5 a0 W
  have hlen : (bytesOf a0).length = a0.size := bytesOf_length a0
  have R0 := Aside0.mk (RowT.new w a0)
  have HB0 := Aside0.mk (bytes_below (Below.refl w.heap.size w) (Nat.le_refl _) 5 a0)
  have hc0 : (Lib.bytesWorld w 5 a0).cell? ⟨w.heap.size, i, none⟩ = some (.int .u8 ((bytesOf a0).getD i 0)) := R0.out.cell i (by omega)
  have hf0 : (Lib.bytesWorld w 5 a0).frozen? ⟨w.heap.size, i, none⟩ = false := R0.out.frozen i (by omega)
  have hsl : ((bytesOf a0).set i (Go.bits .xor .u8 ((bytesOf a0).getD i 0) (wrap64 (1 + Int.tmod a2 255) % 256))).length = a0.size := by rw [List.length_set, hlen]
  have R1 := Aside0.mk (R0.out.set i (by omega) (Go.bits .xor .u8 ((bytesOf a0).getD i 0) (wrap64 (1 + Int.tmod a2 255) % 256)))
  have HB1 := Aside0.mk (below_set (j := i) (v := .int .u8 (Go.bits .xor .u8 ((bytesOf a0).getD i 0) (wrap64 (1 + Int.tmod a2 255) % 256))) HB0.out (Nat.le_refl _))
  have hcv := run_convert_bytes_arg (P := Tryd.prog) ((Lib.bytesWorld w 5 a0).setCell ⟨w.heap.size, i, none⟩ (.int .u8 (Go.bits .xor .u8 ((bytesOf a0).getD i 0) (wrap64 (1 + Int.tmod a2 255) % 256)))) 29 5 Tryd.underlying29 Tryd.underlying5 w.heap.size 0 a0.size (grownCap w a0.size 0 5) _ hsl (fun i hi => by rw [Nat.zero_add]; exact R1.out.cell i (by omega)) 9 Tryd.underlying9
  generalize (bytesOf a0).getD i 0 = b0 at *
  clear hlen hsl R0 HB0 R1
  go_enter Tryd.func16, Tryd.ntmps16
  go_wp2
  go_ret
  exact ⟨rfl, HB1.out⟩

end Go.Proofs.YtncghlamcbhpmaaDoor.PFnRecords
