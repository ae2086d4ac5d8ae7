/-
  The data of one stripe of an object, filled up with zeros; for every world.
-/
import Derived.Test.YtffhbpepppodeaaPlant2FnJoined
import Derived.Test.YtffhbpepppodeaaBytesFnJoined
namespace Go.Proofs.Ytffhbpepppodeaa.Cut
open Go.RowKit Go.Proofs.YtffhbpepppodeaaW.PrintWords Go.Proofs.YtffhbpepppodeaaW.PrintLast Go.Proofs.YtffhbpepppodeaaW.PrintMore Go.Proofs.Ytffhbpepppodeaa.Hs Go.Proofs.Ytffhbpepppodeaa.Gf Go.Proofs.Ytffhbpepppodeaa.Grid Go.Proofs.Ytffhbpepppodeaa.Reduce Go.Proofs.Ytffhbpepppodeaa.Base Go.Proofs.Ytffhbpepppodeaa.Plant Go.Proofs.Ytffhbpepppodeaa.Plant2
set_option linter.unusedVariables false
set_option linter.unusedSimpArgs false
/-- The cells of the first bytes of a text. -/
def strCells (t : ByteArray) (n : Nat) : List Value := (List.range n).map fun j : Nat => Value.int .u8 (bt t (j : Int))
theorem strCells_len (t : ByteArray) (n : Nat) : (strCells t n).length = n := by simp [strCells]
theorem strCells_of (t : ByteArray) (n : Nat) (h : n ≤ t.size) : List.take n (t.data.toList.map fun b : UInt8 => Value.int .u8 (b.toNat : Int)) = strCells t n := by
  have e : t.data.toList.map (fun b : UInt8 => Value.int .u8 (b.toNat : Int)) = (bytesOf t).map (Value.int .u8) := by
    unfold bytesOf
    rw [List.map_map]; rfl
  rw [e]
  unfold strCells
  apply List.ext_getElem
  · simp [bytesOf_length]; omega
  · intro j h1 h2
    simp only [List.length_map, List.length_range] at h2
    rw [List.getElem_take, List.getElem_map, List.getElem_map, List.getElem_range, bt_bytes, List.getD_eq_getElem?_getD, List.getElem?_eq_getElem (by rw [bytesOf_length]; omega)]
    rfl
theorem strCells_one (t : ByteArray) (n : Nat) : ∀ u ∈ strCells t n, u.oneCell' = true := by
  intro u hu
  obtain ⟨z, _, rfl⟩ := List.mem_map.1 hu; rfl
theorem run_copy_str {P : Program} (w : World) (dT sT ty elem : TypeId) (g o dLen dCap n : Nat) (s : ByteArray) (cur : Array Value) (t : TypeId)
    (hu : P.underlying dT = some (.slice elem)) (hs : (P.info? elem).map (·.size) = some 1) (hg : w.heap[g]? = some (.cells cur t (0, 0))) (hn : Nat.min s.size dLen = n) (hfit : o + n ≤ cur.size) :
    (Builtin.copy_ #[dT, sT] ty #[.slice (some ⟨g, o, none⟩) dLen dCap, .string s]).run P w = .ok (goInt n) (w.setRow g (splA cur o (strCells s n))) := by
  have hle : n ≤ s.size := by rw [← hn]; exact Nat.min_le_left _ _
  have hst := run_storeCells_at P g o t (strCells s n) 0 cur w hg (by rw [strCells_len]; simpa using hfit) (strCells_one _ _)
  simp only [Nat.add_zero] at hst
  have hsc := strCells_of s n hle
  cases hq : P.info? elem with
  | none => simp [hq] at hs
  | some i =>
    simp [Builtin.copy_, run_underlying hu, Builtin.lenOf, Builtin.firstCells, sizeOf, typeInfo, hq, hn]
    rw [hsc, hst]
    rfl
/-- copy(d, s): d in a row of one's own, s a text. -/
theorem copy_str_ev {P : Program} {ops : Array Oper} {rest : List Oper} {o : Oper} {a : Act} {Q : Exit → Act → World → Prop} {w0 W : World} {L : List Blk} (hgd : o.guard = none) (d s : Operand) (dT sT elem : TypeId)
    (ho : o.op = .call { callee := .builtin .copy, args := #[d, s], argTypes := #[dT, sT] }) (hu : P.underlying dT = some (.slice elem)) (hs : (P.info? elem).map (·.size) = some 1)
    (g off dLen dCap n : Nat) (t : ByteArray) (hd : a.eval d = .slice (some ⟨g, off, none⟩) dLen dCap) (hsv : a.eval s = .string t)
    (H : Hs w0 W L) (i : Nat) (cur : Array Value) (hi : L[i]? = some (g, .cells cur elem (0, 0))) (hn : Nat.min t.size dLen = n) (hfit : off + n ≤ cur.size)
    (h : ∀ w1, Hs w0 w1 (L.set i (g, .cells (splA cur off (strCells t n)) elem (0, 0))) → wpList P ops Q rest (a.put o.dst (goInt n)) w1) : wpList P ops Q (o :: rest) a W := by
  have hrun := run_copy_str (P := P) W dT sT o.type elem g off dLen dCap n t cur elem hu hs (H.get i hi) hn hfit
  refine wpList_plain hgd fun K hK => ?_
  unfold Oper.wp
  simp [execOp, ho, resolve, invoke, builtin, hd, hsv, hrun, Result.andThen]
  exact hK _ _ (h _ (H.setRow i hi _))
theorem bt_extract (d : ByteArray) (f p : Nat) (h : f ≤ d.size) : bt (d.extract f d.size) (p : Int) = bt d ((f + p : Nat) : Int) := by
  rw [bt_bytes, bt_bytes, bytesOf_extract, List.getD_eq_getElem?_getD, List.getD_eq_getElem?_getD, List.getElem?_take, List.getElem?_drop]
  split
  · rfl
  · rw [List.getElem?_eq_none (by rw [bytesOf_length]; omega)]
theorem bt_end (d : ByteArray) (p : Nat) (h : d.size ≤ p) : bt d (p : Int) = 0 := by
  rw [bt_bytes, List.getD_eq_getElem?_getD, List.getElem?_eq_none (by rw [bytesOf_length]; exact h)]; rfl
/-- The row that is filled. -/
theorem filled (d : ByteArray) (f N p : Nat) (hf : f ≤ d.size) (hp : p < N) : (splA (madeCells #[.int .u8 0] N) 0 (strCells (d.extract f d.size) (Nat.min (d.size - f) N)))[p]? = some (.int .u8 (bt d ((f + p : Nat) : Int))) := by
  have hs : (madeCells #[.int .u8 0] N).toList.length = N := by simp [madeCells]
  unfold splA
  rw [List.take_zero, List.nil_append, Nat.zero_add, List.getElem?_toArray, strCells_len]
  by_cases c : p < Nat.min (d.size - f) N
  · rw [List.getElem?_append_left (by rw [strCells_len]; exact c)]
    unfold strCells
    rw [List.getElem?_map, List.getElem?_range c, Option.map_some, bt_extract d f p hf]
  · have hc : d.size - f ≤ p := by
      rcases Nat.le_total (d.size - f) N with h | h
      · rw [show Nat.min (d.size - f) N = d.size - f from Nat.min_eq_left h] at c; omega
      · rw [show Nat.min (d.size - f) N = N from Nat.min_eq_right h] at c; omega
    rw [List.getElem?_append_right (by rw [strCells_len]; omega), strCells_len, List.getElem?_drop, Nat.add_sub_cancel' (by omega), Array.getElem?_toList, made_at _ _ _ hp, bt_end d (f + p) (by omega)]
theorem splA_fill (N n : Nat) (t : ByteArray) (h : n ≤ N) : (splA (madeCells #[.int .u8 0] N) 0 (strCells t n)).size = N := by
  rw [splA_size (by rw [strCells_len]; simp [madeCells]; omega)]; simp [madeCells]
/-- A piece of a stripe's data; all of them. -/
def pieceS (K u : Nat) (d : ByteArray) (i k : Nat) : ByteArray := strOfNums ((List.range u).map fun j : Nat => bt d ((i * K * u + (k * u + j) : Nat) : Int))
def dataS (K u : Nat) (d : ByteArray) (i : Nat) : List ByteArray := (List.range K).map (pieceS K u d i)
theorem dataS_len (K u : Nat) (d : ByteArray) (i : Nat) : (dataS K u d i).length = K := by simp [dataS]
theorem dataS_take (K u : Nat) (d : ByteArray) (i k : Nat) (h : k < K) : (dataS K u d i).take (k + 1) = (dataS K u d i).take k ++ [pieceS K u d i k] := by
  rw [List.take_succ_eq_append_getElem (by rw [dataS_len]; exact h)]
  congr 2
  simp [dataS]
theorem dataS_size (K u : Nat) (d : ByteArray) (i : Nat) : ∀ j : Nat, j < (dataS K u d i).length → (rdOf ByteArray.empty (dataS K u d i) (j : Int)).size = u := fun j hj => by
  rw [dataS_len] at hj
  have e : rdOf ByteArray.empty (dataS K u d i) (j : Int) = pieceS K u d i j := by
    unfold rdOf dataS
    rw [Int.toNat_natCast, List.getD_eq_getElem?_getD, List.getElem?_map, List.getElem?_range hj]; rfl
  rw [e]
  unfold pieceS
  rw [strOfNums_size]; simp

set_option maxHeartbeats 8000000 in
set_option maxRecDepth 100000 in
theorem dataAt_calls (K M G u : Nat) (sz : Int) (i : Nat) (d : ByteArray) (w : World) (hk1 : 1 ≤ K) (hk2 : K ≤ 32) (hu1 : 1 ≤ u) (hu2 : u ≤ 4096) (hd1 : i * K * u ≤ d.size) (hd2 : d.size ≤ 1073741824) :
    Calls Try.prog 86 #[.agg #[.int .i64 K, .int .i64 M, .int .i64 G, .int .i64 u, .int .i64 sz], .int .i64 i, .string d] w fun e w' => ∃ v, e = .returned v ∧ Kd.R Kd.string 9 w' w.heap.size (fun _ => True) v (dataS K u d i) ∧ Below w.heap.size w w' := by
  have hv1 := Try.underlying126
  have hv2 := Try.underlying43
  have hv3 := Try.underlying56
  have q1 : K * u ≤ 32 * 4096 := Nat.mul_le_mul hk2 hu2
  obtain ⟨N, hN0⟩ : ∃ N, N = K * u := ⟨_, rfl⟩
  obtain ⟨f, hf0⟩ : ∃ f, f = i * K * u := ⟨_, rfl⟩
  have q2 : i * K ≤ f := by rw [hf0]; exact Nat.le_mul_of_pos_right _ hu1
  have hN6 := Aside0.mk (show N ≤ 131072 by omega)
  have hN5 : N ≤ 131072 := hN6.out
  have hN7 : 0 ≤ (N : Int) := by omega
  have hN8 : (N : Int) ≤ 131072 := by omega
  have f1 : f ≤ d.size := by omega
  have f2 : (f : Int) ≤ (d.size : Int) := by omega
  have f3 : 0 ≤ (f : Int) := by omega
  have f4 := Aside0.mk f1
  have w1_ : wrap64 ((K : Int) * (u : Int)) = (N : Int) := by rw [← Int.natCast_mul, ← hN0]; unfold wrap64; omega
  have w2_ : wrap64 ((i : Int) * (K : Int)) = ((i * K : Nat) : Int) := by rw [← Int.natCast_mul]; unfold wrap64; omega
  have w3_ : wrap64 (wrap64 ((i : Int) * (K : Int)) * (u : Int)) = (f : Int) := by rw [w2_, ← Int.natCast_mul, ← hf0]; unfold wrap64; omega
  clear w2_
  have hext := Aside0.mk (show (d.extract f d.size).size = d.size - f from size_extract f1 (Nat.le_refl _))
  have hmin := Aside0.mk (show Nat.min (d.extract f d.size).size N = Nat.min (d.size - f) N by rw [hext.out])
  have hfit := Aside0.mk (show 0 + Nat.min (d.size - f) N ≤ (madeCells #[.int .u8 0] N).size by rw [Nat.zero_add]; simp [madeCells]; exact Nat.min_le_right _ _)
  have hNe := Aside0.mk hN0
  have hfe := Aside0.mk hf0
  have H := Aside0.mk (Hs.nil w)
  clear q1 q2 hN0 hf0 hd1 hd2
  go_enter Try.func86, Try.ntmps86
  go_wp2_with (first
    | ((with_reducible refine gate_dst (N := 3) rfl ?_); (try (refine gate_guard (by rfl) ?_; dsimp only)); refine box_event ?hg (N := 3) ?hd (cs := #[.int .i64 K, .int .i64 M, .int .i64 G, .int .i64 u, .int .i64 sz]) (t := 126) ?hr ?_; (case hd => rfl); (case hg => rfl); (case hr => first | (go_simp; done) | (go_simp; rfl)); intro gc hg w1 hbox hb; have H_ := Aside0.mk (Hs.push H.out (Nat.le_of_eq hg.symm) hbox hb); clear hbox hb hg; clear H; have H := H_; clear H_; have hx0_0 := H.out.cellv (v := .int .i64 K) 0 rfl 0 rfl; have hx0_3 := H.out.cellv (v := .int .i64 u) 0 rfl 3 rfl)
    | ((with_reducible refine gate_dst (N := 16) rfl ?_); (try (refine gate_guard (by rfl) ?_; dsimp only)); refine make_ev ?hg 37 5 (.tmp 15) (.tmp 15) ?ho (wrap64 ((K : Int) * (u : Int))) (N) ?hx ?hy (w1_) Try.underlying37 (.int .u8 0) 1 ?hi rfl (by decide) ((by have := hN6.out; omega)) ?_; (case hg => rfl); (case ho => rfl); (case hx => rfl); (case hy => rfl); (case hi => kernel_rfl); intro gw hg w2 hbox hb; have H_ := Aside0.mk (Hs.push H.out (Nat.le_of_eq hg.symm) hbox hb); clear hbox hb hg; clear H; have H := H_; clear H_; clear hx0_0 hx0_3; have hx1_0 := H.out.cellv (v := .int .i64 K) 1 rfl 0 rfl; have hx1_3 := H.out.cellv (v := .int .i64 u) 1 rfl 3 rfl)
    | ((with_reducible refine gate_dst (N := 28) rfl ?_); refine copy_str_ev rfl (.tmp 17) (.tmp 27) 37 9 5 rfl Try.underlying37 (by kernel_rfl) gw 0 N N (Nat.min (d.size - f) N) (d.extract f d.size) rfl ?hsv H.out 0 _ rfl hmin.out hfit.out ?_; (case hsv => first | rfl | (simp only [Int.toNat_natCast]; rfl)); intro w5 hH2; have H_ := Aside0.mk hH2; clear hH2; clear H hx1_0 hx1_3; have H := H_; clear H_; have hx2_0 := H.out.cellv (v := .int .i64 K) 1 rfl 0 rfl; have hx2_3 := H.out.cellv (v := .int .i64 u) 1 rfl 3 rfl)
    | ((with_reducible refine gate_dst (N := 29) rfl ?_); refine lit_ev rfl rfl (cs := #[]) (t := 9) (n := 0) ?hr ?_; (case hr => first | (go_simp; done) | (go_simp; rfl)); intro g0 hg w0_ hbox hb; have hB0 := Aside0.mk (RowB.lit0 (e := 9) (size := 1) (g := g0)); have H_ := Aside0.mk (Hs.push H.out (Nat.le_of_eq hg.symm) hbox hb); clear hbox hb hg; clear H; have H := H_; clear H_; clear hx2_0 hx2_3; have hx4_0 := H.out.cellv (v := .int .i64 K) 2 rfl 0 rfl))
  clear w3_ w1_ f1 f2 f3 hx4_0 hmin hfit hext
  go_loopw [8, 33] (fun v8 v33 wr => ∃ (k : Nat) (Bo : List Blk), k ≤ K ∧ v8 = v8 ∧ v33 = .int .i64 k ∧ Aside0 (RowB 9 1 v8 k (encs Value.string ((dataS K u d i).take k)) Bo) ∧ Aside0 (Hs w wr (Bo ++ [(gw, .cells (splA (madeCells #[.int .u8 0] N) 0 (strCells (d.extract f d.size) (Nat.min (d.size - f) N))) 5 (0, 0)), (gc, .cells #[.int .i64 K, .int .i64 M, .int .i64 G, .int .i64 u, .int .i64 sz] 126 (0, 0))]))) (fun _ k _ => K - (intOf k).toNat)
  case atStart => exact ⟨0, _, by omega, rfl, rfl, hB0, H⟩
  case round =>
    clear H hB0
    obtain ⟨k, Bo, hk0, -, rfl, hB, H⟩ := hrel
    obtain ⟨Av, cv, hv⟩ := hB.out.slice
    cases hv
    have hin := Aside0.mk (show k ≤ 32 by omega)
    have i0 : 0 ≤ (k : Int) := by omega
    by_cases hlt : k < K
    · have i1 : (k : Int) < (K : Int) := by omega
      have hx3 : wr.cell? ⟨gc, 3, none⟩ = some (.int .i64 u) := H.out.left.cellv 1 rfl 3 rfl
      obtain ⟨lo, hlo0⟩ : ∃ lo, lo = k * u := ⟨_, rfl⟩
      obtain ⟨hi, hhi0⟩ : ∃ hi, hi = lo + u := ⟨_, rfl⟩
      have k1 : hi ≤ N := by have h2 := Nat.mul_le_mul_right u hlt; rw [Nat.succ_mul] at h2; have h3 := hNe.out; omega
      have w1 : wrap64 ((k : Int) * (u : Int)) = (lo : Int) := by rw [← Int.natCast_mul, ← hlo0]; unfold wrap64; omega
      have w2 : wrap64 (((k : Int) + 1) * (u : Int)) = (hi : Int) := by
        have e1 : (k : Int) + 1 = ((k + 1 : Nat) : Int) := by omega
        have e2 : (k + 1) * u = hi := by rw [Nat.succ_mul]; omega
        rw [e1, ← Int.natCast_mul, e2]; unfold wrap64; omega
      have hne : (N = lo) = False := eq_false (by omega)
      have hC : hi - lo = u := by omega
      have k2 : lo ≤ hi := by omega
      have k3 : (lo : Int) ≤ (hi : Int) := by omega
      have k4 : (hi : Int) ≤ (N : Int) := by omega
      have k5 : 0 ≤ (lo : Int) := by omega
      have k6 : 0 ≤ (hi : Int) := by omega
      have hrow := run_convert_bytes_arg (P := Try.prog) wr 37 5 Try.underlying37 Try.underlying5 gw lo u (N - lo) ((List.range u).map fun j : Nat => bt d ((i * K * u + (k * u + j) : Nat) : Int)) (by simp) (fun j hj => by
        have e : ((List.range u).map fun j : Nat => bt d ((i * K * u + (k * u + j) : Nat) : Int)).getD j 0 = bt d ((f + (lo + j) : Nat) : Int) := by
          rw [List.getD_eq_getElem?_getD, List.getElem?_map, List.getElem?_range hj, ← hfe.out, ← hlo0]; rfl
        rw [e]
        exact (H.out.left.cell 0 rfl (lo + j)).trans (filled d f N (lo + j) f4.out (by omega))) 9 Try.underlying9
      have hpc : strOfNums ((List.range u).map fun j : Nat => bt d ((i * K * u + (k * u + j) : Nat) : Int)) = pieceS K u d i k := rfl
      rw [hpc] at hrow
      clear hlo0 hhi0 hpc
      go_wp2_with (first
        | ((with_reducible refine gate_dst (N := 50) rfl ?_); refine append_ev rfl (.tmp 36) (.tmp 49) 56 9 (.string ByteArray.empty) 1 16 rfl Try.underlying56 (by kernel_rfl) rfl (by decide) (by decide) _ k (encs Value.string ((dataS K u d i).take k)) [.string (pieceS K u d i k)] rfl rfl rfl (fun u_ hu_ => by rw [List.mem_singleton.1 hu_]; rfl) hB.out H.out (by have := hin.out; omega) ?_; intro A1 z1 w2 B1 hB1 hH1; have hB2 := Aside0.mk hB1; have H_ := Aside0.mk hH1; clear hB1 hH1; clear H; have H := H_; clear H_))
      go_roundw
      case rel => exact ⟨k + 1, B1, by omega, trivial, by go_num, Aside0.mk (by rw [dataS_take K u d i k hlt, encs_append]; exact hB2.out), H⟩
      case measure => simp [intOf]; omega
    · obtain rfl : k = K := by omega
      have i1 : decide ((k : Int) < (k : Int)) = false := decide_eq_false (by omega)
      go_wp2
      go_ret
      refine ⟨_, rfl, Kd.R_of_own ?_ (fun _ _ => trivial), H.out.below⟩
      have ho := hB.out.owns H.out
      rw [List.take_of_length_le (by rw [dataS_len]; exact Nat.le_refl _)] at ho
      rw [dataS_len]
      exact ho
end Go.Proofs.Ytffhbpepppodeaa.Cut
