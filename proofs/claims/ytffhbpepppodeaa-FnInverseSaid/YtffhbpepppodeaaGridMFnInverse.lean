/-
  A grid told as a matrix of numbers; for every world.
-/
import Derived.Test.YtffhbpepppodeaaReduceFnInverse
namespace Go.Proofs.Ytffhbpepppodeaa.GridM
open Go.RowKit Go.Proofs.YtffhbpepppodeaaW.PrintWords Go.Proofs.YtffhbpepppodeaaW.PrintLast Go.Proofs.YtffhbpepppodeaaW.PrintMore Go.Proofs.Ytffhbpepppodeaa.Hs Go.Proofs.Ytffhbpepppodeaa.Gf Go.Proofs.Ytffhbpepppodeaa.Grid Go.Proofs.Ytffhbpepppodeaa.Reduce
set_option linter.unusedVariables false
set_option linter.unusedSimpArgs false
theorem getD_bytes {l : List Int} (h : ∀ x ∈ l, 0 ≤ x ∧ x ≤ 255) (n : Nat) : Bytes2 (fun i j => l.getD (i * n + j) 0) := fun i j => by
  show 0 ≤ l.getD _ 0 ∧ l.getD _ 0 ≤ 255
  rw [List.getD_eq_getElem?_getD]
  by_cases hx : i * n + j < l.length
  · rw [List.getElem?_eq_getElem hx]; exact h _ (List.getElem_mem hx)
  · rw [List.getElem?_eq_none (by omega)]; exact ⟨by decide, by decide⟩
/-- The first k cells of a matrix of C columns, row by row. -/
def cellsK (C : Nat) (M : Mat) (k : Nat) : List Int := (List.range k).map fun n => M (n / C) (n % C)
theorem cellsK_len (C : Nat) (M : Mat) (k : Nat) : (cellsK C M k).length = k := by simp [cellsK]
theorem cellsK_succ {C : Nat} (M : Mat) {i j : Nat} (hj : j < C) : cellsK C M (i * C + (j + 1)) = cellsK C M (i * C + j) ++ [M i j] := by
  have e1 : (i * C + j) / C = i := by rw [Nat.mul_comm, Nat.mul_add_div (by omega), Nat.div_eq_of_lt hj]; rfl
  have e2 : (i * C + j) % C = j := by rw [Nat.mul_comm, Nat.mul_add_mod, Nat.mod_eq_of_lt hj]
  unfold cellsK
  rw [← Nat.add_assoc, List.range_succ, List.map_append, List.map_cons, List.map_nil, e1, e2]

set_option maxHeartbeats 8000000 in
set_option maxRecDepth 100000 in
theorem matrix_calls (gt g R C : Nat) (M : Mat) (B L : List Blk) (w0 w : World) (hG : GridB gt g R C M B) (hM0 : Bytes2 M) (r1 : 1 ≤ R) (r2 : R ≤ 64) (c1 : 1 ≤ C) (c2 : C ≤ 64) (hH : Hs w0 w (B ++ L)) :
    Calls Try.prog 71 #[.pointer (some ⟨g, 0, none⟩)] w fun e w' => ∃ v Bk, e = .returned (.agg #[.int .i64 R, .int .i64 C, v]) ∧ RowB 2 1 v (R * C) (nums .i64 (cellsK C M (R * C))) Bk ∧ Hs w0 w' (Bk ++ L) := by
  have hu1 := Try.underlying111
  have hu2 := Try.underlying27
  obtain ⟨gr, ga, cR, rc, dc, off, cap, rfl, hRc, hsz, hmx, hrc0, hdc0, hap0⟩ := hG
  have H := Aside0.mk (show Hs w0 w ((g, .cells #[.slice (some ⟨gr, 0, none⟩) R cR, .pointer (some ⟨gt, 0, none⟩)] 111 (0, 0)) :: (gr, .cells rc 37 (0, 0)) :: (ga, .cells dc 5 (0, 0)) ::  L) from hH)
  have hM := Aside0.mk hM0
  have hrc := Aside0.mk hrc0
  have hdc := Aside0.mk hdc0
  have hRC := Aside0.mk (Nat.mul_le_mul r2 c2)
  clear hH hM0 hrc0 hdc0 hap0 hsz hmx
  have q0 : (0 : Int) < (R : Int) := by omega
  have q1 : (0 < R) = True := eq_true (by omega)
  go_enter Try.func71, Try.ntmps71
  go_wp2_with (first
    | ((with_reducible refine gate_dst (N := 2) rfl ?_); (try (refine gate_guard (by rfl) ?_; dsimp only)); refine box_event ?hg (N := 2) ?hd (cs := #[.int .i64 0, .int .i64 0, .slice none 0 0]) (t := 27) ?hr ?_; (case hd => rfl); (case hg => rfl); (case hr => first | (go_simp; done) | (go_simp; rfl)); intro gs hg w1 hbox hb; have H_ := Aside0.mk (Hs.push H.out (Nat.le_of_eq hg.symm) hbox hb); clear hbox hb hg; clear H; have H := H_; clear H_))
  have hc0 : w1.cell? ⟨g, 0, none⟩ = some (.slice (some ⟨gr, 0, none⟩) R cR) := H.out.cellv 1 rfl 0 rfl
  have hc1 : w1.cell? ⟨gr, 0, none⟩ = some (.slice (some ⟨ga, off 0, none⟩) C (cap 0)) := H.out.cellv 2 rfl 0 (hrc.out 0 (by omega)).1
  refine start_ (n := 15) (S := fun w' => w'.cell? ⟨g, 0, none⟩ = some (.slice (some ⟨gr, 0, none⟩) R cR) ∧ w'.cell? ⟨gr, 0, none⟩ = some (.slice (some ⟨ga, off 0, none⟩) C (cap 0))) (ds := [14]) #[false, false, false, false, false, false, false, false, false, false, false, false, false, false, false] (by kernel_rfl) rfl rfl ⟨hc0, hc1⟩ (fun hHeld => ?_)
  have H_ := Aside0.mk H.out.drew
  clear H hc0 hc1
  have H := H_
  clear H_
  generalize w1.drew = wd at H hHeld ⊢
  refine pure_ (i := 0) (N := some 8) (v := ?_) (a' := ?_) #[true, false, false, false, false, false, false, false, false, false, false, false, false, false, false] rfl rfl (by kernel_rfl) (fun _ _ _ h => h) (Or.inl ⟨by rfl, ?_⟩) ?_ ?_
  rotate_left
  · intro w'
    go_simp
    with_reducible rfl
  rotate_left
  · simp only [Act.put, List.setIfInBounds_toArray, List.set_cons_zero, List.set_cons_succ, i64_w, i32_w]
    rfl
  refine pure_ (i := 1) (N := some 9) (v := ?_) (a' := ?_) #[true, true, false, false, false, false, false, false, false, false, false, false, false, false, false] rfl rfl (by kernel_rfl) (fun _ _ _ h => h) (Or.inl ⟨by rfl, ?_⟩) ?_ ?_
  rotate_left
  · intro w'
    go_simp
    with_reducible rfl
  rotate_left
  · simp only [Act.put, List.setIfInBounds_toArray, List.set_cons_zero, List.set_cons_succ, i64_w, i32_w]
    rfl
  refine pure_ (i := 2) (N := some 10) (v := ?_) (a' := ?_) #[true, true, true, false, false, false, false, false, false, false, false, false, false, false, false] rfl rfl (by kernel_rfl) (fun _ _ _ h => h) (Or.inl ⟨by rfl, ?_⟩) ?_ ?_
  rotate_left
  · intro w'
    go_simp
    with_reducible rfl
  rotate_left
  · simp only [Act.put, List.setIfInBounds_toArray, List.set_cons_zero, List.set_cons_succ, i64_w, i32_w]
    rfl
  refine pure_ (i := 5) (N := some 13) (v := ?_) (a' := ?_) #[true, true, true, false, false, true, false, false, false, false, false, false, false, false, false] rfl rfl (by kernel_rfl) (fun _ _ _ h => h) (Or.inl ⟨by rfl, ?_⟩) ?_ ?_
  rotate_left
  · intro w'
    go_simp
    with_reducible rfl
  rotate_left
  · simp only [Act.put, List.setIfInBounds_toArray, List.set_cons_zero, List.set_cons_succ, i64_w, i32_w]
    rfl
  refine pure_ (i := 6) (N := some 14) (v := ?_) (a' := ?_) #[true, true, true, false, false, true, true, false, false, false, false, false, false, false, false] rfl rfl (by kernel_rfl) (fun _ _ _ h => h) (Or.inl ⟨by rfl, ?_⟩) ?_ ?_
  rotate_left
  · intro w'
    go_simp
    with_reducible rfl
  rotate_left
  · simp only [Act.put, List.setIfInBounds_toArray, List.set_cons_zero, List.set_cons_succ, i64_w, i32_w]
    rfl
  refine pure_ (i := 7) (N := some 15) (v := ?_) (a' := ?_) #[true, true, true, false, false, true, true, true, false, false, false, false, false, false, false] rfl rfl (by kernel_rfl) (fun _ _ _ h => h) (Or.inl ⟨by rfl, ?_⟩) ?_ ?_
  rotate_left
  · intro w'
    go_simp
    with_reducible rfl
  rotate_left
  · simp only [Act.put, List.setIfInBounds_toArray, List.set_cons_zero, List.set_cons_succ, i64_w, i32_w]
    rfl
  refine take_ (i := 3) (N := some 11) (v := ?_) (a' := ?_) #[true, true, true, true, false, true, true, true, false, false, false, false, false, false, false] rfl rfl (by kernel_rfl) (fun _ _ _ h => h) (Or.inl ⟨by rfl, ?_⟩) hHeld ?_ ?_
  rotate_left
  · rintro w' ⟨s0, s1⟩
    go_simp
    with_reducible rfl
  rotate_left
  · simp only [Act.put, List.setIfInBounds_toArray, List.set_cons_zero, List.set_cons_succ, i64_w, i32_w]
    rfl
  refine pure_ (i := 4) (N := some 12) (v := ?_) (a' := ?_) #[true, true, true, true, true, true, true, true, false, false, false, false, false, false, false] rfl rfl (by kernel_rfl) (fun _ _ _ h => h) (Or.inl ⟨by rfl, ?_⟩) ?_ ?_
  rotate_left
  · intro w'
    go_simp
    with_reducible rfl
  rotate_left
  · simp only [Act.put, List.setIfInBounds_toArray, List.set_cons_zero, List.set_cons_succ, i64_w, i32_w]
    rfl
  refine take_ (i := 8) (N := some 16) (v := ?_) (a' := ?_) #[true, true, true, true, true, true, true, true, true, false, false, false, false, false, false] rfl rfl (by kernel_rfl) (fun _ _ _ h => h) (Or.inl ⟨by rfl, ?_⟩) hHeld ?_ ?_
  rotate_left
  · rintro w' ⟨s0, s1⟩
    go_simp
    with_reducible rfl
  rotate_left
  · simp only [Act.put, List.setIfInBounds_toArray, List.set_cons_zero, List.set_cons_succ, i64_w, i32_w]
    rfl
  refine pure_ (i := 9) (N := some 17) (v := ?_) (a' := ?_) #[true, true, true, true, true, true, true, true, true, true, false, false, false, false, false] rfl rfl (by kernel_rfl) (fun _ _ _ h => h) (Or.inl ⟨by rfl, ?_⟩) ?_ ?_
  rotate_left
  · intro w'
    go_simp
    with_reducible rfl
  rotate_left
  · simp only [Act.put, List.setIfInBounds_toArray, List.set_cons_zero, List.set_cons_succ, i64_w, i32_w]
    rfl
  refine take_ (i := 10) (N := some 18) (v := ?_) (a' := ?_) #[true, true, true, true, true, true, true, true, true, true, true, false, false, false, false] rfl rfl (by kernel_rfl) (fun _ _ _ h => h) (Or.inl ⟨by rfl, ?_⟩) hHeld ?_ ?_
  rotate_left
  · rintro w' ⟨s0, s1⟩
    go_simp
    with_reducible rfl
  rotate_left
  · simp only [Act.put, List.setIfInBounds_toArray, List.set_cons_zero, List.set_cons_succ, i64_w, i32_w]
    rfl
  refine pure_ (i := 11) (N := some 19) (v := ?_) (a' := ?_) #[true, true, true, true, true, true, true, true, true, true, true, true, false, false, false] rfl rfl (by kernel_rfl) (fun _ _ _ h => h) (Or.inl ⟨by rfl, ?_⟩) ?_ ?_
  rotate_left
  · intro w'
    go_simp
    with_reducible rfl
  rotate_left
  · simp only [Act.put, List.setIfInBounds_toArray, List.set_cons_zero, List.set_cons_succ, i64_w, i32_w]
    rfl
  refine pure_ (i := 12) (N := some 20) (v := ?_) (a' := ?_) #[true, true, true, true, true, true, true, true, true, true, true, true, true, false, false] rfl rfl (by kernel_rfl) (fun _ _ _ h => h) (Or.inl ⟨by rfl, ?_⟩) ?_ ?_
  rotate_left
  · intro w'
    go_simp
    with_reducible rfl
  rotate_left
  · simp only [Act.put, List.setIfInBounds_toArray, List.set_cons_zero, List.set_cons_succ, i64_w, i32_w]
    rfl
  refine one_ (i := 13) (N := some 3) #[true, true, true, true, true, true, true, true, true, true, true, true, true, true, false] rfl rfl (by kernel_rfl) (by decide) (fun K hK => ?_)
  refine value_ (w1 := ?_) (v := ?_) (by rfl) rfl ?_ ?_
  rotate_left 2
  · go_simp
    constructor
    · rfl
    · rfl
  have H1 := Aside0.mk (H.out.alloc (.cells #[.int .i64 0, .int .i64 0, .slice none 0 0] 27 (0, 0)))
  generalize hwa : World.alloc wd (.cells #[.int .i64 0, .int .i64 0, .slice none 0 0] 27 (0, 0)) = wa at H1 ⊢
  have hz0 := H1.out.cellv 0 rfl 0 rfl
  have hz1 := H1.out.cellv 0 rfl 1 rfl
  have hz2 := H1.out.cellv 0 rfl 2 rfl
  have hf0 := H1.out.frozen 0 rfl 0
  have hf1 := H1.out.frozen 0 rfl 1
  have hf2 := H1.out.frozen 0 rfl 2
  refine hK.out _ _ ⟨(H1.out.cellv 2 rfl 0 rfl), (H1.out.cellv 3 rfl 0 (hrc.out 0 (by omega)).1)⟩ (fun hHeld => ?_)
  clear hK K
  refine norm_ (a' := ?_) ?_ ?_
  rotate_left
  · show Act.put _ (some 3) _ = _
    simp only [Act.put, List.setIfInBounds_toArray, List.set_cons_zero, List.set_cons_succ, i64_w, i32_w]
    rfl
  refine last_ (i := 14) (N := none) #[true, true, true, true, true, true, true, true, true, true, true, true, true, true, true] rfl rfl (by kernel_rfl) (by decide) (fun K hK => ?_)
  refine skip_ (w1 := ?_) (by rfl) rfl ?_ ?_
  rotate_left
  · go_simp
    rfl
  refine hK.out _ _ ?_
  clear hK K
  refine done_ (by kernel_rfl) ?_
  have H2 := Aside0.mk (((H1.out.set 0 rfl 0 (.int .i64 R)).set 0 rfl 1 (.int .i64 C)).set 0 rfl 2 (.slice none 0 0))
  clear H H1 hz0 hz1 hz2 hf0 hf1 hf2
  have H := Aside0.mk (show Hs w0 _ ((wd.heap.size, .cells #[.int .i64 R, .int .i64 C, .slice none 0 0] 27 (0, 0)) :: (gs, .cells #[.int .i64 0, .int .i64 0, .slice none 0 0] 27 (0, 0)) :: (g, .cells #[.slice (some ⟨gr, 0, none⟩) R cR, .pointer (some ⟨gt, 0, none⟩)] 111 (0, 0)) :: (gr, .cells rc 37 (0, 0)) :: (ga, .cells dc 5 (0, 0)) ::  L) from H2.out)
  clear H2
  generalize wd.heap.size = gm at H ⊢
  generalize World.setCell (World.setCell (World.setCell wa ⟨gm, 0, none⟩ (.int .i64 R)) ⟨gm, 1, none⟩ (.int .i64 C)) ⟨gm, 2, none⟩ (.slice none 0 0) = wb at H ⊢
  have hc0 : wb.cell? ⟨g, 0, none⟩ = some (.slice (some ⟨gr, 0, none⟩) R cR) := H.out.cellv 2 rfl 0 rfl
  go_wp2_with fail
  clear hc0
  go_loopw [26] (fun v26 wr => ∃ (i : Nat) (v : Value) (Bk : List Blk), i ≤ R ∧ v26 = .int .i64 i ∧ Aside0 (RowB 2 1 v (i * C) (nums .i64 (cellsK C M (i * C))) Bk) ∧ Aside0 (Hs w0 wr (Bk ++ (gm, .cells #[.int .i64 R, .int .i64 C, v] 27 (0, 0)) :: (gs, .cells #[.int .i64 0, .int .i64 0, .slice none 0 0] 27 (0, 0)) ::  (g, .cells #[.slice (some ⟨gr, 0, none⟩) R cR, .pointer (some ⟨gt, 0, none⟩)] 111 (0, 0)) :: (gr, .cells rc 37 (0, 0)) :: (ga, .cells dc 5 (0, 0)) ::  L))) (fun i _ => R - (intOf i).toNat)
  case atStart => exact ⟨0, .slice none 0 0, [], by omega, rfl, Aside0.mk (by rw [Nat.zero_mul]; exact RowB.nil _ _), H⟩
  case round =>
    clear H
    obtain ⟨i, v, Bk, hi0, rfl, hB, H⟩ := hrel
    by_cases hi1 : i < R
    · have hi := Aside0.mk hi1
      have hc1 : wr.cell? ⟨gr, i, none⟩ = some (.slice (some ⟨ga, off i, none⟩) C (cap i)) := H.out.left.cellv 3 rfl i (hrc.out i hi1).1
      have l1 : (i : Int) < (R : Int) := by omega
      have l2 : 0 ≤ (i : Int) := by omega
      go_wp2_with fail
      clear hc1
      go_loopw [32] (fun v32 wx => ∃ (j : Nat) (v : Value) (Bk : List Blk), j ≤ C ∧ v32 = .int .i64 j ∧ Aside0 (RowB 2 1 v (i * C + j) (nums .i64 (cellsK C M (i * C + j))) Bk) ∧ Aside0 (Hs w0 wx (Bk ++ (gm, .cells #[.int .i64 R, .int .i64 C, v] 27 (0, 0)) :: (gs, .cells #[.int .i64 0, .int .i64 0, .slice none 0 0] 27 (0, 0)) ::  (g, .cells #[.slice (some ⟨gr, 0, none⟩) R cR, .pointer (some ⟨gt, 0, none⟩)] 111 (0, 0)) :: (gr, .cells rc 37 (0, 0)) :: (ga, .cells dc 5 (0, 0)) ::  L))) (fun j _ => C - (intOf j).toNat)
      case atStart => exact ⟨0, v, Bk, by omega, rfl, hB, H⟩
      case round =>
        clear H hB
        obtain ⟨j, v, Bk, hj0, rfl, hB, H⟩ := hrel
        by_cases hj1 : j < C
        · have hj := Aside0.mk hj1
          obtain ⟨x, hx0⟩ : ∃ x, x = M i j := ⟨_, rfl⟩
          have hx1 : 0 ≤ x ∧ x ≤ 255 := by rw [hx0]; exact hM.out i j
          obtain ⟨x1, x2⟩ := hx1
          have hxe := Aside0.mk hx0
          have hcd : wr.cell? ⟨ga, off i + j, none⟩ = some (.int .u8 x) := by rw [hx0]; exact H.out.left.cellv 4 rfl (off i + j) (hdc.out i j hi1 hj1)
          have hcm : wr.cell? ⟨gm, 2, none⟩ = some v := H.out.left.cellv 0 rfl 2 rfl
          clear hx0
          have l3 : (j : Int) < (C : Int) := by omega
          have l4 : 0 ≤ (j : Int) := by omega
          have hwx : wrap64 x = x := by unfold wrap64; omega
          have hlen : (nums .i64 (cellsK C M (i * C + j))).length = i * C + j := by rw [nums_length, cellsK_len]
          have hO := Aside0.mk (show wr.ownsRow w0.heap.size 2 1 v (nums .i64 (cellsK C M (i * C + j))).length (nums .i64 (cellsK C M (i * C + j))) by rw [hlen]; exact hB.out.owns H.out)
          have hq := Aside0.mk (show ((nums .i64 (cellsK C M (i * C + j))).length + 1) * 8 ≤ 140737488355328 by
            rw [hlen]; have h1 := Nat.mul_le_mul_right C hi1; rw [Nat.succ_mul] at h1; have h2 := hRC.out; omega)
          have hN := Aside0.mk (show ∀ v1 w1, World.ownsRow w1 w0.heap.size 2 1 v1 (nums .i64 (cellsK C M (i * C + j)) ++ [Value.int .i64 x]).length (nums .i64 (cellsK C M (i * C + j)) ++ [Value.int .i64 x]) → World.ownsRow w1 w0.heap.size 2 1 v1 (i * C + (j + 1)) (nums .i64 (cellsK C M (i * C + (j + 1)))) by
            intro v1 w1 h1
            rw [List.length_append, hlen, hxe.out] at h1
            rw [cellsK_succ M hj1, nums_append]; exact h1)
          clear hlen
          go_wp2_with (first | ((with_reducible refine gate_dst (N := 41) rfl ?_); refine print_append (w0 := w0) w0.heap.size rfl (.tmp 37) (.tmp 40) 22 2 (.int .i64 0) 8 rfl Try.underlying22 (by kernel_rfl) rfl (by decide) v (nums .i64 (cellsK C M (i * C + j))) (.int .i64 x) rfl rfl rfl hO.out H.out.below H.out.below.size hq.out ?_; intro v1 w1 hown hb hg hat; have hown2 := hN.out v1 w1 hown; obtain ⟨A1, z1, rfl⟩ := own_slice hown2; obtain ⟨B1, hB1, hH1⟩ := hB.out.back H.out hown2 hb hg hat; have H1 := Aside0.mk hH1; have hB1' := Aside0.mk hB1; clear hH1 hB1 hown hown2 hb hg hat; have hm1 : w1.cell? ⟨gm, 2, none⟩ = some v := H1.out.left.cellv 0 rfl 2 rfl; have hm2 : w1.frozen? ⟨gm, 2, none⟩ = false := H1.out.left.frozen 0 rfl 2))
          go_roundw
          case rel => exact ⟨j + 1, .slice A1 (i * C + (j + 1)) z1, B1, by omega, by go_num, hB1', Aside0.mk (H1.out.setM 2 _)⟩
          case measure => simp [intOf]; omega
        · obtain rfl : j = C := by omega
          have l5 : decide ((j : Int) < (j : Int)) = false := decide_eq_false (by omega)
          go_wp2_with fail
          go_roundw
          case rel => exact ⟨i + 1, v, Bk, by omega, by go_num, Aside0.mk (by rw [Nat.succ_mul]; exact hB.out), H⟩
          case measure => simp [intOf]; omega
    · obtain rfl : i = R := by omega
      have l5 : decide ((i : Int) < (i : Int)) = false := decide_eq_false (by omega)
      obtain ⟨Av, zv, rfl⟩ := own_slice (hB.out.owns H.out)
      have H_ := Aside0.mk H.out.comm
      clear H
      have H := Aside0.mk (show Hs w0 wr ((gm, .cells #[.int .i64 i, .int .i64 C, .slice Av (i * C) zv] 27 (0, 0)) :: (gs, .cells #[.int .i64 0, .int .i64 0, .slice none 0 0] 27 (0, 0)) ::  (g, .cells #[.slice (some ⟨gr, 0, none⟩) i cR, .pointer (some ⟨gt, 0, none⟩)] 111 (0, 0)) :: (gr, .cells rc 37 (0, 0)) :: (ga, .cells dc 5 (0, 0)) ::  (L ++ Bk)) from H_.out)
      clear H_
      go_wp2_with (first
          | ((with_reducible refine gate_dst (N := 45) rfl ?_); (try (refine gate_guard (by rfl) ?_; dsimp only)); have hc0_ := H.out.cellv (v := .int .i64 i) 0 rfl 0 rfl; have hc1_ := H.out.cellv (v := .int .i64 C) 0 rfl 1 rfl; have hc2_ := H.out.cellv (v := .slice Av (i * C) zv) 0 rfl 2 rfl; refine load_at (.agg #[.int .i64 i, .int .i64 C, .slice Av (i * C) zv]) ?hg ?hr ?_; (case hg => rfl); (case hr => first | (go_simp; done) | (go_simp; rfl)); clear hc0_ hc1_ hc2_)
          | ((with_reducible refine gate_store (p := 2) rfl ?_); (try (refine gate_guard (by rfl) ?_; dsimp only)); have hc0_ := H.out.cellv (v := .int .i64 0) 1 rfl 0 rfl; have hf0_ := H.out.frozen 1 rfl 0; have hc1_ := H.out.cellv (v := .int .i64 0) 1 rfl 1 rfl; have hf1_ := H.out.frozen 1 rfl 1; have hc2_ := H.out.cellv (v := .slice none 0 0) 1 rfl 2 rfl; have hf2_ := H.out.frozen 1 rfl 2; refine store_at (fun W => (World.setCell (World.setCell (World.setCell W ⟨gs, 0, none⟩ (.int .i64 i)) ⟨gs, 1, none⟩ (.int .i64 C)) ⟨gs, 2, none⟩ (.slice Av (i * C) zv))) ?hg rfl ?hd ?hr ?_; (case hg => rfl); (case hd => rfl); (case hr => first | (go_simp; done) | (go_simp; rfl)); intro w91 hw; have H_ := Aside0.mk (show Hs w0 w91 ((gm, .cells #[.int .i64 i, .int .i64 C, .slice Av (i * C) zv] 27 (0, 0)) :: (gs, .cells #[.int .i64 i, .int .i64 C, .slice Av (i * C) zv] 27 (0, 0)) :: (g, .cells #[.slice (some ⟨gr, 0, none⟩) i cR, .pointer (some ⟨gt, 0, none⟩)] 111 (0, 0)) :: (gr, .cells rc 37 (0, 0)) :: (ga, .cells dc 5 (0, 0)) :: (L ++ Bk)) from by rw [hw]; exact (((H.out.set 1 rfl 0 (.int .i64 i)).set 1 rfl 1 (.int .i64 C)).set 1 rfl 2 (.slice Av (i * C) zv))); clear hw hc0_ hf0_ hc1_ hf1_ hc2_ hf2_; clear H; have H := H_; clear H_))
      exact bodyPost_ret (results_cell_row rfl _ _ gs 27 #[.int .i64 i, .int .i64 C, .slice Av (i * C) zv] (0, 0) _ rfl (H.out.get 1 rfl) Try.underlying27 rfl (by kernel_rfl)) rfl ⟨_, Bk, rfl, hB.out, (Hs.comm (B := L) H.out.tail.tail.tail.tail.tail)⟩
end Go.Proofs.Ytffhbpepppodeaa.GridM
