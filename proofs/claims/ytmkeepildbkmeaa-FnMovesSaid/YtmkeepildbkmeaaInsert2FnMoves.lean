/-
  slices.Insert([]scored, i, one item), the four ways: at the end, with and without room; ahead of the end, with and without room.
-/
import Derived.Test.YtmkeepildbkmeaaInsertFnMoves
import Derived.Test.YtmkeepildbkmeaaProg
set_option linter.unusedVariables false
set_option linter.unusedSimpArgs false
namespace Go.Proofs.Ytmkeepildbkmeaa.Hs
open Go.RowKit Go.Proofs.YtmkeepildbkmeaaW.PrintWords Go.Proofs.YtmkeepildbkmeaaW.PrintLast Go.Proofs.YtmkeepildbkmeaaW.PrintMore
/-- What slices.Insert answers. -/
def Put2 (w0 : World) (L : List Blk) (n : Nat) (ys : List Value) (e : Ending) (w' : World) : Prop := ∃ A c B1, e = .returned (.slice A (n + 1) c) ∧ RowB 102 2 (.slice A (n + 1) c) (n + 1) ys B1 ∧ Hs w0 w' (B1 ++ L)
set_option maxHeartbeats 4000000 in
set_option maxRecDepth 100000 in
theorem insert_end {w0 w : World} {B L : List Blk} {v : Value} {n : Nat} {xs : List Value} (d s : Int) (hn : n ≤ 100000) (hB0 : RowB 102 2 v n xs B) (H0 : Hs w0 w (B ++ L)) :
    Calls Try.prog 120 #[v, .int .i64 n, .slice (some ⟨w.heap.size, 0, none⟩) 1 1] (w.alloc (.cells #[.int .i64 d, .int .i64 s] 102)) (Put2 w0 L n (xs ++ [.int .i64 d, .int .i64 s])) := by
  have hB := Aside0.mk hB0
  have H := Aside0.mk H0
  clear H0
  have hu := Try.underlying99
  have l1 : decide ((n : Int) ≤ (n : Int)) = true := by simp
  have l2 : ((n : Int) == (n : Int)) = true := by simp
  rcases hB0.2 with ⟨rfl, rfl, rfl⟩ | ⟨g, cap, cur, rfl, rfl, h1, h2, h3, h4⟩
  · clear hB0
    go_enter Try.func120, Try.ntmps120
    go_wp2_with (first | ((with_reducible refine gate_dst (N := 25) rfl ?_); refine append_ev rfl (.tmp 23) (.tmp 24) 99 102 (.agg #[.int .i64 0, .int .i64 0]) 2 16 rfl Try.underlying99 (by kernel_rfl) rfl (by decide) (by decide) _ 0 xs [.int .i64 d, .int .i64 s] rfl rfl rfl (by intro u hu; simp only [List.mem_cons, List.not_mem_nil, or_false] at hu; rcases hu with rfl | rfl <;> rfl) hB.out H.out (by omega) ?_; intro A1 z1 w1 B1 hB1 H1; have hB2 := Aside0.mk hB1; have H2 := Aside0.mk H1; clear hB1 H1))
    go_ret
    exact ⟨_, _, _, rfl, hB2.out, H2.out⟩
  · clear hB0
    have l3 : decide ((n : Int) ≤ (cap : Int)) = true := decide_eq_true (by omega)
    go_enter Try.func120, Try.ntmps120
    go_wp2_with (first | ((with_reducible refine gate_dst (N := 25) rfl ?_); refine append_ev rfl (.tmp 23) (.tmp 24) 99 102 (.agg #[.int .i64 0, .int .i64 0]) 2 16 rfl Try.underlying99 (by kernel_rfl) rfl (by decide) (by decide) _ n xs [.int .i64 d, .int .i64 s] rfl rfl rfl (by intro u hu; simp only [List.mem_cons, List.not_mem_nil, or_false] at hu; rcases hu with rfl | rfl <;> rfl) hB.out H.out (by omega) ?_; intro A1 z1 w1 B1 hB1 H1; have hB2 := Aside0.mk hB1; have H2 := Aside0.mk H1; clear hB1 H1))
    all_goals go_ret
    all_goals exact ⟨_, _, _, rfl, hB2.out, H2.out⟩
theorem src_row {w0 W : World} {L : List Blk} {g m : Nat} {cur : Array Value} {t : TypeId} {xs : List Value} (k : Nat) (H : Hs w0 W L) (hk : L[k]? = some (g, .cells cur t (0, 0))) (hx : cur.toList.take m = xs) (o : Nat) : ∀ j v, (xs.drop o)[j]? = some v → W.cell? ((⟨g, o, none⟩ : Addr).add j) = some v := by
  intro j v h
  rw [Addr.add_lit, H.cell k hk]
  rw [List.getElem?_drop, ← hx, List.getElem?_take] at h
  split at h
  · rw [← Array.getElem?_toList]; exact h
  · cases h
theorem src_two {w0 W : World} {L : List Blk} {g : Nat} {a b : Value} {t : TypeId} (k : Nat) (H : Hs w0 W L) (hk : L[k]? = some (g, .cells #[a, b] t (0, 0))) : ∀ j v, [a, b][j]? = some v → W.cell? ((⟨g, 0, none⟩ : Addr).add j) = some v := by
  intro j v h
  rw [Addr.add_lit, H.cell k hk, Nat.zero_add]
  rw [← List.getElem?_toArray] at h
  exact h
theorem ins_len {xs : List Value} {n i : Nat} (hl : xs.length = n * 2) (hi : i ≤ n) (a b : Value) : (xs.take (i * 2) ++ [a, b] ++ xs.drop (i * 2)).length = (n + 1) * 2 := by
  simp only [List.length_append, List.length_take, List.length_drop, List.length_cons, List.length_nil]; omega
theorem put_one (d s : Int) : ∀ u ∈ [Value.int .i64 d, Value.int .i64 s], u.oneCell' = true := by
  intro u hu
  simp only [List.mem_cons, List.not_mem_nil, or_false] at hu
  rcases hu with rfl | rfl <;> rfl
theorem drop_one {xs : List Value} (h : ∀ u ∈ xs, u.oneCell' = true) (k : Nat) : ∀ u ∈ xs.drop k, u.oneCell' = true := fun u hu => h u (List.mem_of_mem_drop hu)
theorem size2 : (Try.prog.info? 102).map (·.size) = some 2 := by kernel_rfl
theorem sizeOf2 : ∀ w, (Go.sizeOf 102).run Try.prog w = .ok 2 w := by
  intro w
  cases hq : Try.prog.info? 102 with
  | none => have := size2; rw [hq] at this; cases this
  | some i =>
    have := size2
    rw [hq] at this
    have h2 : i.size = 2 := by simpa using this
    simp [Go.sizeOf, typeInfo, hq, h2]
set_option maxHeartbeats 4000000 in
set_option maxRecDepth 100000 in
theorem insert_room {w0 W : World} {L : List Blk} (vb g n cap i : Nat) (xs : List Value) (cur : Array Value) (d s : Int) (hn : n ≤ 100000) (hi : i < n) (hroom : n + 1 ≤ cap) (hmax : cap ≤ maxLen) (hl : xs.length = n * 2) (h1x : ∀ u ∈ xs, u.oneCell' = true)
    (hc1 : cur.size = cap * 2) (hc2 : cur.toList.take (n * 2) = xs) (H0 : Hs w0 W ((vb, .cells #[.int .i64 d, .int .i64 s] 102 (0, 0)) :: (g, .cells cur 102 (0, 0)) :: L)) :
    Calls Try.prog 120 #[.slice (some ⟨g, 0, none⟩) n cap, .int .i64 i, .slice (some ⟨vb, 0, none⟩) 1 1] W (Put2 w0 L n (xs.take (i * 2) ++ [.int .i64 d, .int .i64 s] ++ xs.drop (i * 2))) := by
  have H := Aside0.mk H0
  have hne : vb ≠ g := H0.ne 0 1 rfl rfl (by decide)
  have hsa : W.shape? vb = some (102, 2) := by unfold World.shape?; rw [H0.get 0 rfl]; rfl
  have hsb : W.shape? g = some (102, cur.size) := by unfold World.shape?; rw [H0.get 1 rfl]
  have hov : ∀ o lb cb, (callFunc 137 #[.slice (some ⟨vb, 0, none⟩) 1 1, .slice (some ⟨g, o, none⟩) lb cb]).run Try.prog W = .ok (.value (.bool false)) W := fun o lb cb => by
    rw [run_callFunc_extern Try.func137 (by kernel_rfl) (by kernel_rfl) (by kernel_rfl) (e := Extern.SlicesOverlaps.overlaps #[99, 99] #[4]) (by kernel_rfl),
      Lib.run_overlaps_apart W 99 4 102 Try.underlying99 2 sizeOf2 ⟨vb, 0, none⟩ ⟨g, o, none⟩ 1 1 lb cb hne 102 102 2 cur.size hsa hsb (by omega) (H0.frozen 0 rfl 0) (H0.frozen 0 rfl 2)]
    rfl
  clear H0 hsa hsb
  have hu := Try.underlying99
  unfold maxLen at hmax
  have l1 : decide ((i : Int) ≤ (n : Int)) = true := decide_eq_true (by omega)
  have l2 : ((i : Int) == (n : Int)) = false := by simpa using (by omega : ¬ (i : Int) = (n : Int))
  have l3 : decide ((n : Int) ≤ (cap : Int)) = true := decide_eq_true (by omega)
  have l4 : decide ((cap : Int) < (n : Int) + 1) = false := decide_eq_false (by omega)
  have l5 : wrap64 ((n : Int) + 1) = (n : Int) + 1 := by unfold wrap64; omega
  have l6 : wrap64 ((i : Int) + 1) = (i : Int) + 1 := by unfold wrap64; omega
  have l7 : decide ((n : Int) + 1 ≤ (cap : Int)) = true := decide_eq_true (by omega)
  have l8 : decide ((i : Int) + 1 ≤ (n : Int) + 1) = true := decide_eq_true (by omega)
  have l9 : decide ((i : Int) ≤ (n : Int) + 1) = true := decide_eq_true (by omega)
  have hw1 : IntKind.i64.wrap ((i : Int) + 1) = (i : Int) + 1 := by rw [IntKind.wrap_i64]; omega
  have hb1 : (0 : Int) ≤ (i : Int) + 1 := by omega
  have htn : ((i : Int) + 1).toNat = i + 1 := by omega
  have hb2 : ¬ (cap = i + 1) := by omega
  have hb3 : (i : Int) ≤ (n : Int) + 1 := by omega
  have hb4 : ¬ (cap = i) := by omega
  have hb5 : (i : Int) ≤ (n : Int) := by omega
  have hb6 : (i : Int) + 1 ≤ (n : Int) + 1 := by omega
  have mixed : Try.prog.follows Departure.mixedOrders = true := by kernel_rfl
  go_enter Try.func120, Try.ntmps120
  go_wp2_with (simp only [hov])
  go_region_law (refine copy_stp rfl (.tmp 73) (.tmp 76) 99 102 2 rfl Try.underlying99 size2 g ((i + 1) * 2) (n + 1 - (i + 1)) (cap - (i + 1)) ⟨g, i * 2, none⟩ (n + 1 - i) (cap - i) (by simp [Act.eval, Act.put]) (by simp [Act.eval, Act.put]) H.out.drew 1 cur rfl (xs.drop (i * 2)) (n - i) ((i + 1) * 2) ?hmin ?hoff ?hn ?hsrc ?hfit (drop_one h1x _) ?_; (case hmin => simp only [Nat.min_def]; split <;> omega); (case hoff => rfl); (case hn => rw [List.length_drop]; omega); (case hsrc => exact src_row 1 H.out.drew rfl hc2 _); (case hfit => rw [List.length_drop]; omega); intro w1 H1)
  go_wp2_with (first | ((with_reducible refine gate_dst (N := 82) rfl ?_); refine copy_ev rfl (.tmp 80) (.tmp 81) 99 102 2 rfl Try.underlying99 size2 g (i * 2) (n + 1 - i) (cap - i) ⟨vb, 0, none⟩ 1 1 rfl rfl H1 1 _ rfl [.int .i64 d, .int .i64 s] 1 (i * 2) ?hmin rfl rfl (src_two 0 H1 rfl) ?hfit (put_one d s) ?_; (case hmin => simp only [Nat.min_def]; split <;> omega); (case hfit => rw [splA_size (by rw [List.length_drop]; omega)]; simp only [List.length_cons, List.length_nil]; omega); intro w2 H2))
  go_ret
  have hd : (xs.drop (i * 2)).length = n * 2 - i * 2 := by rw [List.length_drop, hl]
  have h5 := spl2' (cur := cur) (A := xs.take (i * 2)) (X := [.int .i64 d, .int .i64 s]) (Y := xs.drop (i * 2)) (a := i * 2) (b := (i + 1) * 2) (by rw [List.length_take]; omega) (by simp only [List.length_cons, List.length_nil]; omega) (by rw [← hc2, List.take_take, (by omega : min (i * 2) (n * 2) = i * 2)]) (by omega)
  rw [hd, (by omega : (i + 1) * 2 + (n * 2 - i * 2) = (n + 1) * 2)] at h5
  refine ⟨_, _, [(g, _)], rfl, ⟨ins_len hl (by omega) _ _, .inr ⟨g, cap, _, rfl, rfl, hroom, hmax, ?_, h5⟩⟩, H2.tail⟩
  rw [splA_size (by rw [splA_size (by rw [hd]; omega)]; simp only [List.length_cons, List.length_nil]; omega), splA_size (by rw [hd]; omega)]
  exact hc1
/-- append(s, make([]T, k)...) with no room. -/
theorem zeros_ev {P : Program} {ops : Array Oper} {rest : List Oper} {o : Oper} {a : Act} {Q : Exit → Act → World → Prop} {w0 W : World} {L : List Blk} (hgd : o.guard = none) (s x : Operand) (t tn e : TypeId) (z : Value) (size bytes : Nat)
    (ho : o.op = .call { callee := .builtin .append, args := #[s, x], argTypes := #[t, tn] }) (ht : P.underlying t = some (.slice e)) (htn : P.underlying tn = some (.int .i64)) (hinfo : (P.info? e).map (fun i => (i.zero, i.size, i.bytes)) = some (some z, size, bytes)) (hz : z.cells.size = size) (hs0 : 0 < size) (hb0 : 0 < bytes)
    (g i sLen sCap k m : Nat) (kk : Int) (cur : Array Value) (hs : a.eval s = .slice (some ⟨g, 0, none⟩) sLen sCap) (hx : a.eval x = .int .i64 kk) (hk : kk = (k : Int)) (H : Hs w0 W L) (hi : L[i]? = some (g, .cells cur e (0, 0))) (hfit : sLen * size ≤ cur.size) (h0 : 0 < k) (hg : sCap < sLen + k) (hm : sLen + k = m) (hl : m * bytes ≤ 140737488355328) (hml : m ≤ maxLen)
    (h : ∀ g1 G ROW w1, m ≤ G → G ≤ maxLen → ROW.size = G * size → ROW.toList.take (sLen * size) = cur.toList.take (sLen * size) → Hs w0 w1 ((g1, .cells ROW e (0, 0)) :: L) → wpList P ops Q rest (a.put o.dst (.slice (some ⟨g1, 0, none⟩) m G)) w1) : wpList P ops Q (o :: rest) a W := by
  subst hk
  obtain ⟨i0, hi0, hzz⟩ := Option.map_eq_some_iff.1 hinfo
  simp only [Prod.mk.injEq] at hzz
  obtain ⟨hz0, hz1, hz2⟩ := hzz
  have hc : (cur.toList.take (sLen * size)).length = sLen * size := by rw [List.length_take, Array.length_toList]; omega
  have hold : (Builtin.firstCells i0.size sLen (.slice (some ⟨g, 0, none⟩) sLen sCap)).run P W.drew = .ok (cur.toList.take (sLen * size)).toArray W.drew := by
    rw [hz1]
    refine run_firstCells_some W.drew size sLen ⟨g, 0, none⟩ sLen sCap (cur.toList.take (sLen * size)) hc fun j v hj => ?_
    have := src_row i H.drew hi (xs := cur.toList.take (sLen * size)) rfl 0 j v (by simpa using hj)
    exact this
  have hkb : k * i0.bytes ≤ m * bytes := by rw [hz2]; exact Nat.mul_le_mul_right _ (by omega)
  have hr := Lib.run_append_grow_zeros W t tn o.type e i0 z .i64 .i64 ht htn hi0 hz0 (some ⟨g, 0, none⟩) sLen sCap _ hold k h0 (by omega) hg (by unfold maxLen at hml; omega) (by omega) (by rw [hz2]; exact growslice_fits hg (by rw [hm]; exact hl))
  rw [hm] at hr
  have hG := grownCap_ge W m sCap e
  have hGm := grownCap_le_maxLen W m sCap e hml
  generalize grownCap W m sCap e = G at hr hG hGm
  refine Kd.event_run hgd (w1 := _) (v := _) (by simp only [execOp, ho, resolve, invoke, builtin, Sem.run_bind, Sem.run_pure, Result.andThen_ok, List.map_toArray, List.map_cons, List.map_nil, hs, hx, hr]; rfl) (h W.heap.size G _ _ hG hGm ?_ ?_ (H.drew.alloc _))
  · simp only [Array.size_append, Builtin.zeroCells, Array.size_map, Array.size_range, List.size_toArray, hc, hz]
    rw [← Nat.add_mul, ← Nat.add_mul, hm, (by omega : m + (G - m) = G)]
  · simp only [Array.toList_append]
    rw [List.append_assoc, List.take_append_of_le_length (by simp; omega), List.take_of_length_le (by simp; omega)]
set_option maxHeartbeats 4000000 in
set_option maxRecDepth 100000 in
theorem insert_grow {w0 W : World} {L : List Blk} (vb g n i : Nat) (xs : List Value) (cur : Array Value) (d s : Int) (hn : n ≤ 100000) (hi : i < n) (hl : xs.length = n * 2) (h1x : ∀ u ∈ xs, u.oneCell' = true)
    (hc1 : cur.size = n * 2) (hc2 : cur.toList.take (n * 2) = xs) (H0 : Hs w0 W ((vb, .cells #[.int .i64 d, .int .i64 s] 102 (0, 0)) :: (g, .cells cur 102 (0, 0)) :: L)) :
    Calls Try.prog 120 #[.slice (some ⟨g, 0, none⟩) n n, .int .i64 i, .slice (some ⟨vb, 0, none⟩) 1 1] W (Put2 w0 L n (xs.take (i * 2) ++ [.int .i64 d, .int .i64 s] ++ xs.drop (i * 2))) := by
  have H := Aside0.mk H0
  clear H0
  have hu := Try.underlying99
  have l1 : decide ((i : Int) ≤ (n : Int)) = true := decide_eq_true (by omega)
  have l2 : ((i : Int) == (n : Int)) = false := by simpa using (by omega : ¬ (i : Int) = (n : Int))
  have l4 : decide ((n : Int) < (n : Int) + 1) = true := decide_eq_true (by omega)
  have l5 : wrap64 ((n : Int) + 1) = (n : Int) + 1 := by unfold wrap64; omega
  have l6 : wrap64 ((i : Int) + 1) = (i : Int) + 1 := by unfold wrap64; omega
  have l7 : wrap64 ((n : Int) + 1 - (i : Int)) = (n : Int) + 1 - (i : Int) := by unfold wrap64; omega
  have hb5 : (i : Int) ≤ (n : Int) := by omega
  have hb4 : ¬ (n = i) := by omega
  have mixed : Try.prog.follows Departure.mixedOrders = true := by kernel_rfl
  have hk := Aside0.mk (show (n : Int) + 1 - (i : Int) = ((n + 1 - i : Nat) : Int) by omega)
  go_enter Try.func120, Try.ntmps120
  go_wp2_with (first
    | ((with_reducible refine gate_dst (N := 40) rfl ?_); refine zeros_ev rfl (.tmp 34) (.tmp 39) 99 3 102 (.agg #[.int .i64 0, .int .i64 0]) 2 16 rfl Try.underlying99 Try.underlying3 (by kernel_rfl) rfl (by decide) (by decide) g 1 i n (n + 1 - i) (n + 1) ((n : Int) + 1 - (i : Int)) cur rfl rfl hk.out H.out rfl (by omega) (by omega) (by omega) (by omega) (by omega) (by unfold maxLen; omega) ?_; intro g1 G ROW w1 hG1 hG2 hR1 hR2 H1)
    | ((with_reducible refine gate_dst (N := 45) rfl ?_); refine copy_ev rfl (.tmp 43) (.tmp 44) 99 102 2 rfl Try.underlying99 size2 g1 (i * 2) (n + 1 - i) (G - i) ⟨vb, 0, none⟩ 1 1 rfl rfl H1 0 _ rfl [.int .i64 d, .int .i64 s] 1 (i * 2) ?hmin rfl rfl (src_two 1 H1 rfl) ?hfit (put_one d s) ?_; (case hmin => simp only [Nat.min_def]; split <;> omega); (case hfit => simp only [List.length_cons, List.length_nil]; omega); intro w2 H2))
  have hw1 : IntKind.i64.wrap ((i : Int) + 1) = (i : Int) + 1 := by rw [IntKind.wrap_i64]; omega
  have hb1 : (0 : Int) ≤ (i : Int) + 1 := by omega
  have htn : ((i : Int) + 1).toNat = i + 1 := by omega
  have hb2 : ¬ (G = i + 1) := by omega
  have hb6 : (i : Int) + 1 ≤ (n : Int) + 1 := by omega
  go_region_law (refine copy_stp rfl (.tmp 50) (.tmp 53) 99 102 2 rfl Try.underlying99 size2 g1 ((i + 1) * 2) (n + 1 - (i + 1)) (G - (i + 1)) ⟨g, i * 2, none⟩ (n - i) (n - i) (by simp [Act.eval, Act.put]) (by simp [Act.eval, Act.put]) H2.drew 0 _ rfl (xs.drop (i * 2)) (n - i) ((i + 1) * 2) ?hmin ?hoff ?hn ?hsrc ?hfit (drop_one h1x _) ?_; (case hmin => simp only [Nat.min_def]; split <;> omega); (case hoff => rfl); (case hn => rw [List.length_drop]; omega); (case hsrc => exact src_row 2 H2.drew rfl hc2 _); (case hfit => rw [splA_size (by simp only [List.length_cons, List.length_nil]; omega), List.length_drop]; omega); intro w3 H3)
  go_wp2
  go_ret
  have hd : (xs.drop (i * 2)).length = n * 2 - i * 2 := by rw [List.length_drop, hl]
  have h5 := spl2 (cur := ROW) (A := xs.take (i * 2)) (X := [.int .i64 d, .int .i64 s]) (Y := xs.drop (i * 2)) (a := i * 2) (b := (i + 1) * 2) (by rw [List.length_take]; omega) (by simp only [List.length_cons, List.length_nil]; omega) (by rw [hR2, ← hc2, List.take_take, (by omega : min (i * 2) (n * 2) = i * 2)]) (by omega)
  rw [hd, (by omega : (i + 1) * 2 + (n * 2 - i * 2) = (n + 1) * 2)] at h5
  have H4 : Hs w0 w3 ((g1, _) :: (vb, _) :: (g, _) :: L) := H3
  refine ⟨_, _, [(g1, _)], rfl, ⟨ins_len hl (by omega) _ _, .inr ⟨g1, G, _, rfl, rfl, hG1, hG2, ?_, h5⟩⟩, H4.swap.tail.swap.tail⟩
  rw [splA_size (by rw [splA_size (by simp only [List.length_cons, List.length_nil]; omega), hd]; omega), splA_size (by simp only [List.length_cons, List.length_nil]; omega)]
  exact hR1
/-- slices.Insert of one item, laid in the newest block, into a row of one's own. -/
theorem insert_calls {w0 w : World} {B L : List Blk} {v : Value} {n : Nat} {xs : List Value} (i : Nat) (d s : Int) (hi : i ≤ n) (hn : n ≤ 100000) (h1x : ∀ u ∈ xs, u.oneCell' = true) (hB : RowB 102 2 v n xs B) (H : Hs w0 w (B ++ L)) :
    Calls Try.prog 120 #[v, .int .i64 i, .slice (some ⟨w.heap.size, 0, none⟩) 1 1] (w.alloc (.cells #[.int .i64 d, .int .i64 s] 102)) (Put2 w0 L n (xs.take (i * 2) ++ [.int .i64 d, .int .i64 s] ++ xs.drop (i * 2))) := by
  by_cases he : i = n
  · subst he
    have := insert_end d s hn hB H
    rw [List.take_of_length_le (by rw [hB.1]; omega), List.drop_of_length_le (by rw [hB.1]; omega), List.append_nil]
    exact this
  · rcases hB.2 with ⟨_, h0, _⟩ | ⟨g, cap, cur, rfl, rfl, h1, h2, h3, h4⟩
    · omega
    · have H1 := H.alloc (.cells #[.int .i64 d, .int .i64 s] 102)
      by_cases hr : n + 1 ≤ cap
      · exact insert_room _ g n cap i xs cur d s hn (by omega) hr h2 hB.1 h1x h3 h4 H1
      · obtain rfl : cap = n := by omega
        exact insert_grow _ g cap i xs cur d s hn (by omega) hB.1 h1x h3 h4 H1
end Go.Proofs.Ytmkeepildbkmeaa.Hs
