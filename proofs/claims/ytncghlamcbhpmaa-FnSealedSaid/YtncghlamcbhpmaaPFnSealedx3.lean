/-
  The stream, and what it covers: what the calls do.
-/
import Derived.Test.YtncghlamcbhpmaaPFnSealedx0
import Derived.Test.YtncghlamcbhpmaaPFnSealedx2
namespace Go.Proofs.Ytncghlamcbhpmaa.PFnSealed
open Go.RowKit Go.Proofs.YtncghlamcbhpmaaW.PrintWords Go.Proofs.YtncghlamcbhpmaaW.PrintLast Go.Proofs.YtncghlamcbhpmaaW.PrintMore
/-- What the stream's number becomes, and the byte that it gives. -/
def strmNext (x : Int) : Int := Int.tmod (wrap64 (x * 48271)) 2147483647
def strmByte (x : Int) : Int := (wrap64 (Int.tdiv (strmNext x) 256)) % 256
def strmAt : Nat → Int → Int
  | 0, x => x
  | n + 1, x => strmNext (strmAt n x)
/-- The first n bytes under the stream. -/
def coverN (xs : List Int) (x : Int) : Nat → List Int
  | 0 => xs
  | n + 1 => (coverN xs x n).set n (Go.bits .xor .u8 (xs.getD n 0) (strmByte (strmAt n x)))
theorem coverN_length (xs : List Int) (x : Int) (n : Nat) : (coverN xs x n).length = xs.length := by
  induction n with
  | zero => rfl
  | succ n ih => simp [coverN, ih]
theorem coverN_get (xs : List Int) (x : Int) (n j : Nat) (h : n ≤ j) : (coverN xs x n).getD j 0 = xs.getD j 0 := by
  induction n with
  | zero => rfl
  | succ n ih =>
    have hne : n ≠ j := by omega
    simp only [coverN]
    rw [List.getD_eq_getElem?_getD, List.getElem?_set_ne hne, ← List.getD_eq_getElem?_getD]
    exact ih (by omega)
/-- A row of bytes of one's own, laid by a conversion: its mark lies behind its end. -/
def Row8 (W : World) (g : Nat) (xs : List Int) : Prop := ∃ (cs : Array Value) (n : Nat), W.heap[g]? = some (.cells cs 5 (n, n + 1)) ∧ xs.length ≤ n ∧ cs.size = n ∧ ∀ j, j < xs.length → cs[j]? = some (.int .u8 (xs.getD j 0))
theorem Row8.cell {W : World} {g : Nat} {xs : List Int} (h : Row8 W g xs) (j : Nat) (hj : j < xs.length) : W.cell? ⟨g, j, none⟩ = some (.int .u8 (xs.getD j 0)) := by
  obtain ⟨cs, n, hh, hn, hs, hc⟩ := h
  rw [cell_of_row W g j cs _ _ hh]
  exact hc j hj
theorem Row8.frozen {W : World} {g : Nat} {xs : List Int} (h : Row8 W g xs) (j : Nat) (hj : j < xs.length) : W.frozen? ⟨g, j, none⟩ = false := by
  obtain ⟨cs, n, hh, hn, hs, hc⟩ := h
  simp [World.frozen?, hh]
  omega
theorem Row8.set {W : World} {g : Nat} {xs : List Int} (h : Row8 W g xs) (j : Nat) (hj : j < xs.length) (v : Int) : Row8 (W.setCell ⟨g, j, none⟩ (.int .u8 v)) g (xs.set j v) := by
  obtain ⟨cs, n, hh, hn, hs, hc⟩ := h
  refine ⟨cs.setIfInBounds j (.int .u8 v), n, by simp [World.setCell, Array.getElem?_modify, hh], by simpa using hn, by simpa using hs, fun i hi => ?_⟩
  have hi' : i < xs.length := by simpa using hi
  by_cases e : j = i
  · subst e
    rw [Array.getElem?_setIfInBounds_self_of_lt (by omega)]
    simp [List.getD_eq_getElem?_getD, hi']
  · rw [Array.getElem?_setIfInBounds_ne e, hc i hi', List.getD_eq_getElem?_getD, List.getD_eq_getElem?_getD, List.getElem?_set_ne e]
theorem Row8.far {W : World} {g : Nat} {xs : List Int} (h : Row8 W g xs) {p : Addr} (hp : g ≠ p.block) (u : Value) : Row8 (W.setCell p u) g xs := by
  obtain ⟨cs, n, hh, hr⟩ := h
  exact ⟨cs, n, (Below.heap_setCell W p u g hp).trans hh, hr⟩
theorem Row8.new (W : World) (s : ByteArray) : Row8 (Lib.bytesWorld W 5 s) W.heap.size (bytesOf s) := by
  refine ⟨Lib.bytesCells W 5 s, (Lib.bytesCells W 5 s).size, Lib.bytesWorld_at_new W _ s, ?_, rfl, fun j hj => ?_⟩
  · rw [bytesOf_length]; unfold Lib.bytesCells; rw [Array.size_append, Array.size_map]; exact Nat.le_add_right _ _
  · rw [bytesOf_length] at hj
    have h1 := Lib.bytesWorld_cell W 5 s j hj
    rw [cell_of_row _ _ _ _ _ _ (Lib.bytesWorld_at_new W 5 s)] at h1
    rw [h1]
    have hl : j < s.data.toList.length := by rw [data_length]; exact hj
    simp [bytesOf, List.getD_eq_getElem?_getD, List.getElem?_eq_getElem hl]
/-- One byte of the stream: the captured number goes on. -/
theorem stream1.calls (gx : Nat) (x : Int) (w : World) (hc : w.heap[gx]? = some (.cells #[.int .i64 x] 2 (0, 0))) :
    Calls Try.prog 95 #[.pointer (some ⟨gx, 0, none⟩)] w fun e w' => e = .returned (.int .u8 (strmByte x)) ∧ w' = w.setCell ⟨gx, 0, none⟩ (.int .i64 (strmNext x)) := by
  have hcell : w.cell? ⟨gx, 0, none⟩ = some (.int .i64 x) := (blk_cell hc 0).trans rfl
  have hfz := blk_frozen hc 0
  clear hc
  go_enter Try.func95, Try.ntmps95
  go_wp2
  go_ret
  exact ⟨rfl, rfl⟩

/-- The stream: a function that holds its number in a block of its own. -/
theorem stream.calls (k : Nat) (a0 : ByteArray) (a1 : Int) (p : ByteArray) (x : Int) (w : World) (h1 : impl_PutNum.f k a1 = some p) (h2 : a0.size + p.size ≤ 9223372036854775807) (h3 : impl_SumOf.f k (a0 ++ p) 7 = some x) :
    Calls Try.prog 92 #[.string a0, .int .i64 a1] w fun e w' => ∃ gx : Nat, e = .returned (.func (.func 95) #[] #[.pointer (some ⟨gx, 0, none⟩)]) ∧ Below w.heap.size w w' ∧ w.heap.size ≤ gx ∧ w'.heap[gx]? = some (.cells #[.int .i64 x] 2 (0, 0)) := by
  have hmf : ∀ (fn : Fn) (first cap : Array Value) (w : World), (Instr.makeFunc fn first cap).run Try.prog w = .ok (.func fn first cap) w := fun _ _ _ _ => rfl
  have A1 := Aside0.mk h1
  have A3 := Aside0.mk h3
  have c2 := eq_true h2
  have c3 : (9223372036854775807 < a0.size + p.size) = False := eq_false (Nat.not_lt.2 h2)
  clear h1 h2 h3
  go_enter Try.func92, Try.ntmps92
  go_wp2_with (first
    | ((with_reducible refine gate_callee (f := 32) rfl ?_); refine goesL_ (some 8) rfl rfl Try.func32 (by kernel_rfl) rfl #[.int .i64 a1] rfl (by (try simp only [List.map_toArray, List.map_cons, List.map_nil]); first | done | rfl) ?_; (with_reducible refine (impl_PutNum.calls k a1 p _ A1.out).mono ?_); rintro e w1 ⟨rfl, hb⟩; refine ⟨_, rfl, ?_⟩; have HB := Aside0.mk hb; clear hb)
    | ((with_reducible refine gate_callee (f := 78) rfl ?_); refine goesL_ (some 10) rfl rfl Try.func78 (by kernel_rfl) rfl #[.string (a0 ++ p), .int .i64 7] rfl (by (try simp only [List.map_toArray, List.map_cons, List.map_nil]); first | done | rfl) ?_; (with_reducible refine (impl_SumOf.calls k (a0 ++ p) 7 x _ A3.out).mono ?_); rintro e w2 ⟨rfl, hd⟩; refine ⟨_, rfl, ?_⟩; have HB' := Aside0.mk (show Below w.heap.size w w2 by obtain ⟨nd, rfl⟩ := hd.out; exact pw_below_drewN HB.out nd); clear HB hd; have HB := HB'; clear HB')
    | ((with_reducible refine gate_dst (N := 5) rfl ?_); (try (refine gate_guard (by rfl) ?_; dsimp only)); refine box_event ?hg (N := 5) ?hd (cs := #[.int .i64 0]) (t := 2) ?hr ?_; (case hd => rfl); (case hg => rfl); (case hr => first | (go_simp; done) | (go_simp; rfl)); intro gx hg w3 hbox hb; have B1 := Aside0.mk hbox; have G1 := Aside0.mk (show w.heap.size ≤ gx by rw [hg]; exact HB.out.size); have HB' := Aside0.mk (below_step HB.out hb); clear HB hb hbox hg; have HB := HB'; clear HB'; have hcz0 : w3.cell? ⟨gx, 0, none⟩ = some (.int .i64 0) := (blk_cell B1.out 0).trans rfl; have hfz0 := blk_frozen B1.out 0))
  refine bodyPost_ret (v := .func (.func 95) #[] #[.pointer (some ⟨gx, 0, none⟩)]) (by simp [results, Try.results92, go_sem]) rfl ⟨gx, rfl, ?_, G1.out, ?_⟩
  · exact below_set HB.out G1.out
  · exact blk_put B1.out 0 _ rfl

def impl_covered.f (k : Nat) (a0 : ByteArray) (a1 : ByteArray) (a2 : Int) : Option ByteArray :=
  if a0.size ≤ 9223372036854775807 then (impl_PutNum.f k a2).bind fun p => if a1.size + p.size ≤ 9223372036854775807 then (impl_SumOf.f k (a1 ++ p) 7).bind fun x => some (strOfNums (coverN (bytesOf a0) x a0.size)) else none else none
theorem impl_covered.mono : ∀ a0 a1 a2 k, LeO (impl_covered.f k a0 a1 a2) (impl_covered.f (k + 1) a0 a1 a2) := by
  intro a0 a1 a2 k
  unfold impl_covered.f
  exact LeO.ite (LeO.bind (impl_PutNum.mono a2 k) (fun p => LeO.ite (LeO.bind (impl_SumOf.mono (a1 ++ p) 7 k) (fun _ => LeO.refl _)) (LeO.refl _))) (LeO.refl _)
set_option maxHeartbeats 8000000 in
set_option maxRecDepth 100000 in
theorem impl_covered.calls (k : Nat) (a0 : ByteArray) (a1 : ByteArray) (a2 : Int) (r : ByteArray) (w : World) (h : impl_covered.f k a0 a1 a2 = some r) :
    Calls Try.prog 76 #[.string a0, .string a1, .int .i64 a2] w fun e w' => e = .returned (.string r) ∧ Below w.heap.size w w' := by
  unfold impl_covered.f at h
  by_cases hsz : a0.size ≤ 9223372036854775807
  rotate_left
  · rw [if_neg hsz] at h; cases h
  rw [if_pos hsz] at h
  have HS := Aside0.mk hsz
  clear hsz
  obtain ⟨p, h1, h2⟩ := Option.bind_eq_some_iff.mp h
  split at h2
  · rename_i h3
    obtain ⟨x, h4, h5⟩ := Option.bind_eq_some_iff.mp h2
    simp only [Option.some.injEq] at h5
    subst h5
    have A := Aside0.mk (fun W => stream.calls k a1 a2 p x W h1 h3 h4)
    clear h h1 h2 h3 h4
    have kb := fun W => print_bytes (P := Try.prog) 9 30 5 Try.underlying9 Try.underlying30 Try.underlying5 a0 W
    have hn0 : 0 ≤ (a0.size : Int) := by omega
    go_enter Try.func76, Try.ntmps76
    go_wp2_with (first
      | ((with_reducible refine gate_callee (f := 92) rfl ?_); refine goesL_ (some 12) rfl rfl Try.func92 (by kernel_rfl) rfl #[.string a1, .int .i64 a2] rfl (by (try simp only [List.map_toArray, List.map_cons, List.map_nil]); first | done | rfl) ?_; (with_reducible refine (A.out _).mono ?_); rintro e w1 ⟨gx, rfl, hb, hg, hx⟩; refine ⟨_, rfl, ?_⟩; have HB := Aside0.mk hb; have G := Aside0.mk hg; have X := Aside0.mk hx; clear hb hg hx))
    have hgx : gx < w1.heap.size := blk_lt X.out
    have R0 := Aside0.mk (Row8.new w1 a0)
    have X0 := Aside0.mk ((Lib.bytesWorld_at_old w1 5 a0 gx hgx).trans X.out)
    have HB0 := Aside0.mk (bytes_below HB.out HB.out.size 5 a0)
    have GX := G
    have NE := Aside0.mk (show gx ≠ w1.heap.size by omega)
    have GO := Aside0.mk (show w.heap.size ≤ w1.heap.size from HB.out.size)
    clear X HB hgx kb hn0
    generalize Lib.bytesWorld w1 5 a0 = w2 at *
    generalize w1.heap.size = go at *
    generalize grownCap w1 a0.size 0 5 = cap at *
    go_loopg [17] a0.size (fun kq v17 w' => ∃ i : Nat, v17 = .int .i64 i ∧ Aside0 (kq + i = a0.size) ∧ Aside0 (Row8 w' go (coverN (bytesOf a0) x i)) ∧ Aside0 (w'.heap[gx]? = some (.cells #[.int .i64 (strmAt i x)] 2 (0, 0))) ∧ Aside0 (Below w.heap.size w w'))
    case atStart => exact ⟨0, rfl, ⟨rfl⟩, R0, X0, HB0⟩
    case round =>
      obtain ⟨i, rfl, HK, HR, HX, HB⟩ := hrel
      have hlen : (coverN (bytesOf a0) x i).length = a0.size := by rw [coverN_length, bytesOf_length]
      by_cases hlt : i < a0.size
      · obtain ⟨k1, rfl⟩ : ∃ k1, gk = k1 + 1 := ⟨gk - 1, by have := HK.out; omega⟩
        have e1 : (coverN (bytesOf a0) x i).getD i 0 = (bytesOf a0).getD i 0 := coverN_get _ _ _ _ (Nat.le_refl _)
        have hc1 : wr.cell? ⟨go, i, none⟩ = some (.int .u8 ((bytesOf a0).getD i 0)) := by rw [← e1]; exact HR.out.cell i (by omega)
        have hf1 : wr.frozen? ⟨go, i, none⟩ = false := HR.out.frozen i (by omega)
        have HRd := Aside0.mk (show Row8 wr.drew go (coverN (bytesOf a0) x i) from HR.out)
        have HR2 := Aside0.mk (HRd.out.far (p := ⟨gx, 0, none⟩) (fun e => NE.out e.symm) (.int .i64 (strmNext (strmAt i x))))
        have hc2 : (wr.drew.setCell ⟨gx, 0, none⟩ (.int .i64 (strmNext (strmAt i x)))).cell? ⟨go, i, none⟩ = some (.int .u8 ((bytesOf a0).getD i 0)) := by rw [← e1]; exact HR2.out.cell i (by omega)
        have hf2 : (wr.drew.setCell ⟨gx, 0, none⟩ (.int .i64 (strmNext (strmAt i x)))).frozen? ⟨go, i, none⟩ = false := HR2.out.frozen i (by omega)
        have hb1 : decide ((i : Int) < (a0.size : Int)) = true := by simpa using hlt
        have hb2 : (i < a0.size) = True := eq_true hlt
        have hb3 : (0 ≤ (i : Int)) = True := by simp
        have HI := Aside0.mk (show wr.drew.heap[gx]? = some (.cells #[.int .i64 (strmAt i x)] 2 (0, 0)) from HX.out)
        have hwr : IntKind.i64.wrap ((i : Int) + 1) = (i : Int) + 1 := by have := HS.out; simp [IntKind.wrap, IntKind.bits, IntKind.signed]; omega
        have hnb : gx ≠ go := NE.out
        have hnc : go ≠ gx := fun e => NE.out e.symm
        have HL := Aside0.mk (show i < (coverN (bytesOf a0) x i).length by omega)
        clear e1 hlen hlt
        go_wp2_with fail
        go_region_with (first | (go_at_call 95; refine (stream1.calls gx (strmAt i x) wr.drew HI.out).mono ?_; rintro e w' ⟨rfl, rfl⟩))
        all_goals go_wp2
        all_goals go_roundg k1
        all_goals first
          | (have := HK.out; omega)
          | exact ⟨i + 1, by first | rfl | (simp; done), ⟨by have := HK.out; omega⟩, ⟨HR2.out.set i HL.out _⟩, ⟨blk_far (g := gx) (p := ⟨go, i, none⟩) (blk_put (g := gx) HI.out 0 (.int .i64 (strmNext (strmAt i x))) rfl) hnb _⟩, ⟨(below_set (below_set (show Below w.heap.size w wr.drew from below_drew1 HB.out) GX.out) GO.out)⟩⟩
      · have hi : i = a0.size := by have := HK.out; omega
        subst hi
        have hb1 : decide ((a0.size : Int) < (a0.size : Int)) = false := by simp
        have hcv := run_convert_bytes_arg (P := Try.prog) wr 30 5 Try.underlying30 Try.underlying5 go 0 a0.size cap (coverN (bytesOf a0) x a0.size) hlen (fun i hi => by rw [Nat.zero_add]; exact HR.out.cell i (by omega)) 9 Try.underlying9
        clear hlen hlt
        go_wp2
        go_ret
        exact ⟨rfl, HB.out⟩
  · cases h2

end Go.Proofs.Ytncghlamcbhpmaa.PFnSealed
