/-
  AnswerText: what the call gives, where the library's table of powers of ten lies.
-/
import Derived.Test.YtncghlamcbhpmaaDoorPFnExactAnswerTextx0
import Derived.Test.YtncghlamcbhpmaaDoorHs
import Derived.Test.YtncghlamcbhpmaaDoorDec
import Derived.Lib.ItoaLen
import Derived.Lib.SmallJoins
namespace Go.Proofs.YtncghlamcbhpmaaDoor.PFnExactAnswerText
open Go.RowKit Go.Proofs.YtncghlamcbhpmaaDoorW.PrintWords Go.Proofs.YtncghlamcbhpmaaDoorW.PrintLast Go.Proofs.YtncghlamcbhpmaaDoorW.PrintMore
open Go.Proofs.YtncghlamcbhpmaaDoor.Hs
/-- The library's table of powers of ten lies as its initialiser lays it. -/
def TabW (w : World) : Prop := Lib.TabIs Tryd.prog w "internal/strconv.uint64pow10" .u64 Lib.pow10Tab
theorem TabW.below {w w' : World} (h : TabW w) (hb : Below w.heap.size w w') : TabW w' := Joins.tab_stays (show Tryd.prog.globalNamed "internal/strconv.uint64pow10" = some 2 by kernel_rfl) h hb (Nat.le_refl _)
/-- A whole number's decimal text. -/
def itoaB (n : Int) : ByteArray := ⟨(Lib.itoa n).toArray⟩
theorem grow_below {w : World} (k : Nat) (os : Array Obj) : Below w.heap.size w (Sort.grow (w.drewN k) os) := by
  refine ⟨rfl, rfl, rfl, ?_, fun i hi => ?_⟩
  · show w.heap.size ≤ _
    simp [Sort.grow]
    try omega
  · show (w.heap ++ os)[i]? = w.heap[i]?
    exact Array.getElem?_append_left hi
theorem fmt_calls (n : Int) (w : World) (h0 : -9223372036854775808 ≤ n) (h1 : n ≤ 9223372036854775807) (ht : TabW w) : Calls Tryd.prog 47 #[.int .i64 n, .int .i64 10] w fun e w' => e = .returned (.string (itoaB n)) ∧ Below w.heap.size w w' :=
  (Tryd.strconv_FormatInt_10 n h0 h1 w ht).mono fun e w' ⟨he, k, os, hw⟩ => ⟨he, by rw [hw]; exact grow_below k os⟩
theorem itoa_calls (n : Int) (w : World) (h0 : -9223372036854775808 ≤ n) (h1 : n ≤ 9223372036854775807) (ht : TabW w) : Calls Tryd.prog 48 #[.int .i64 n] w fun e w' => e = .returned (.string (itoaB n)) ∧ Below w.heap.size w w' :=
  (Tryd.strconv_Itoa n h0 h1 w ht).mono fun e w' ⟨he, k, os, hw⟩ => ⟨he, by rw [hw]; exact grow_below k os⟩
theorem itoaB_size (n : Int) (h0 : -9223372036854775808 ≤ n) (h1 : n ≤ 9223372036854775807) : (itoaB n).size ≤ 21 := by
  have := Lib.itoa_length_le n h0 h1
  show (Lib.itoa n).toArray.size ≤ 21
  simpa using this
def i64 (n : Int) : Prop := -9223372036854775808 ≤ n ∧ n ≤ 9223372036854775807
instance (n : Int) : Decidable (i64 n) := by unfold i64; infer_instance
def ansOf (s0 s1 s2 a2 : ByteArray) : ByteArray := s0 ++ ⟨#[32]⟩ ++ s1 ++ ⟨#[32]⟩ ++ s2 ++ ⟨#[10]⟩ ++ a2
def impl_AnswerText.f (a0 a1 : Int) (a2 : ByteArray) : Option ByteArray := if a2.size > 400000 then some ⟨#[]⟩ else if i64 a0 ∧ i64 a1 then some (ansOf (itoaB a0) (itoaB a1) (itoaB (a2.size : Int)) a2) else none

set_option maxHeartbeats 8000000 in
set_option maxRecDepth 100000 in
theorem text_calls (a0 a1 : Int) (a2 s0 s1 s2 : ByteArray) (w : World) (h0 : ∀ W, TabW W → Calls Tryd.prog 47 #[.int .i64 a0, .int .i64 10] W fun e w' => e = .returned (.string s0) ∧ Below W.heap.size W w') (h1 : ∀ W, TabW W → Calls Tryd.prog 47 #[.int .i64 a1, .int .i64 10] W fun e w' => e = .returned (.string s1) ∧ Below W.heap.size W w')
    (h2 : ∀ W, TabW W → Calls Tryd.prog 48 #[.int .i64 (a2.size : Int)] W fun e w' => e = .returned (.string s2) ∧ Below W.heap.size W w') (hs0 : s0.size ≤ 21) (hs1 : s1.size ≤ 21) (hs2 : s2.size ≤ 21) (hs3 : a2.size ≤ 400000) (htab : TabW w) :
    Calls Tryd.prog 27 #[.agg #[.int .i64 a1, .string a2], .int .i64 a0] w fun e w' => e = .returned (.string (ansOf s0 s1 s2 a2)) ∧ Below w.heap.size w w' := by
  have hu := Tryd.underlying56
  have C0 := Aside0.mk h0
  have C1 := Aside0.mk h1
  have C2 := Aside0.mk h2
  have ht := Aside0.mk htab
  clear h0 h1 h2 htab
  have m1 : (9223372036854775807 < s0.size + 1) = False := eq_false (by omega)
  have m2 : (9223372036854775807 < s0.size + 1 + s1.size) = False := eq_false (by omega)
  have m3 : (9223372036854775807 < s0.size + 1 + s1.size + 1) = False := eq_false (by omega)
  have m4 : (9223372036854775807 < s0.size + 1 + s1.size + 1 + s2.size) = False := eq_false (by omega)
  have m5 : (9223372036854775807 < s0.size + 1 + s1.size + 1 + s2.size + 1) = False := eq_false (by omega)
  have m6 : (9223372036854775807 < s0.size + 1 + s1.size + 1 + s2.size + 1 + a2.size) = False := eq_false (by omega)
  go_enter Tryd.func27, Tryd.ntmps27
  have H := Aside0.mk (Hs.nil w)
  go_wp2_with (first
    | ((with_reducible refine gate_dst (N := 2) rfl ?_); (try (refine gate_guard (by rfl) ?_; dsimp only)); refine box_event ?hg (N := 2) ?hd (cs := #[.int .i64 a1, .string a2]) (t := 56) ?hr ?_; (case hd => rfl); (case hg => rfl); (case hr => first | (go_simp; done) | (go_simp; rfl)); intro ga hg w1 hbox hb; have H_ := Aside0.mk (Hs.push H.out (Nat.le_of_eq hg.symm) hbox hb); clear hbox hb hg; clear H; have H := H_; clear H_))
  have hc_0 : w1.cell? ⟨ga, 0, none⟩ = some (.int .i64 a1) := H.out.cellv 0 rfl 0 rfl
  have hc_1 : w1.cell? ⟨ga, 1, none⟩ = some (.string a2) := H.out.cellv 0 rfl 1 rfl
  refine start_ (n := 18) (S := fun w' => w'.cell? ⟨ga, 0, none⟩ = some (.int .i64 a1) ∧ w'.cell? ⟨ga, 1, none⟩ = some (.string a2)) (ds := []) #[false, false, false, false, false, false, false, false, false, false, false, false, false, false, false, false, false, false] (by kernel_rfl) rfl rfl ⟨hc_0, hc_1⟩ (fun hHeld => ?_)
  have H_ := Aside0.mk H.out.drew
  clear H hc_0 hc_1
  have H := H_
  clear H_
  generalize w1.drew = wd at H hHeld ⊢
  refine pure_ (i := 0) (N := some 5) (v := ?_) (a' := ?_) #[true, false, false, false, false, false, false, false, false, false, false, false, false, false, false, false, false, false] rfl rfl (by kernel_rfl) (fun _ _ _ h => h) (Or.inl ⟨by rfl, ?_⟩) ?_ ?_
  rotate_left
  · intro w'
    go_simp
    with_reducible rfl
  rotate_left
  · simp only [Act.put, List.setIfInBounds_toArray, List.set_cons_zero, List.set_cons_succ, i64_w, i32_w]
    rfl
  refine pure_ (i := 3) (N := some 8) (v := ?_) (a' := ?_) #[true, false, false, true, false, false, false, false, false, false, false, false, false, false, false, false, false, false] rfl rfl (by kernel_rfl) (fun _ _ _ h => h) (Or.inl ⟨by rfl, ?_⟩) ?_ ?_
  rotate_left
  · intro w'
    go_simp
    with_reducible rfl
  rotate_left
  · simp only [Act.put, List.setIfInBounds_toArray, List.set_cons_zero, List.set_cons_succ, i64_w, i32_w]
    rfl
  refine pure_ (i := 8) (N := some 13) (v := ?_) (a' := ?_) #[true, false, false, true, false, false, false, false, true, false, false, false, false, false, false, false, false, false] rfl rfl (by kernel_rfl) (fun _ _ _ h => h) (Or.inl ⟨by rfl, ?_⟩) ?_ ?_
  rotate_left
  · intro w'
    go_simp
    with_reducible rfl
  rotate_left
  · simp only [Act.put, List.setIfInBounds_toArray, List.set_cons_zero, List.set_cons_succ, i64_w, i32_w]
    rfl
  refine pure_ (i := 14) (N := some 19) (v := ?_) (a' := ?_) #[true, false, false, true, false, false, false, false, true, false, false, false, false, false, true, false, false, false] rfl rfl (by kernel_rfl) (fun _ _ _ h => h) (Or.inl ⟨by rfl, ?_⟩) ?_ ?_
  rotate_left
  · intro w'
    go_simp
    with_reducible rfl
  rotate_left
  · simp only [Act.put, List.setIfInBounds_toArray, List.set_cons_zero, List.set_cons_succ, i64_w, i32_w]
    rfl
  refine take_ (i := 4) (N := some 9) (v := ?_) (a' := ?_) #[true, false, false, true, true, false, false, false, true, false, false, false, false, false, true, false, false, false] rfl rfl (by kernel_rfl) (fun _ _ _ h => h) (Or.inl ⟨by rfl, ?_⟩) hHeld ?_ ?_
  rotate_left
  · rintro w' ⟨s0, s1⟩
    go_simp
    with_reducible rfl
  rotate_left
  · simp only [Act.put, List.setIfInBounds_toArray, List.set_cons_zero, List.set_cons_succ, i64_w, i32_w]
    rfl
  refine take_ (i := 9) (N := some 14) (v := ?_) (a' := ?_) #[true, false, false, true, true, false, false, false, true, true, false, false, false, false, true, false, false, false] rfl rfl (by kernel_rfl) (fun _ _ _ h => h) (Or.inl ⟨by rfl, ?_⟩) hHeld ?_ ?_
  rotate_left
  · rintro w' ⟨s0, s1⟩
    go_simp
    with_reducible rfl
  rotate_left
  · simp only [Act.put, List.setIfInBounds_toArray, List.set_cons_zero, List.set_cons_succ, i64_w, i32_w]
    rfl
  refine pure_ (i := 10) (N := some 15) (v := ?_) (a' := ?_) #[true, false, false, true, true, false, false, false, true, true, true, false, false, false, true, false, false, false] rfl rfl (by kernel_rfl) (fun _ _ _ h => h) (Or.inl ⟨by rfl, ?_⟩) ?_ ?_
  rotate_left
  · intro w'
    go_simp
    with_reducible rfl
  rotate_left
  · simp only [Act.put, List.setIfInBounds_toArray, List.set_cons_zero, List.set_cons_succ, i64_w, i32_w]
    rfl
  refine take_ (i := 15) (N := some 20) (v := ?_) (a' := ?_) #[true, false, false, true, true, false, false, false, true, true, true, false, false, false, true, true, false, false] rfl rfl (by kernel_rfl) (fun _ _ _ h => h) (Or.inl ⟨by rfl, ?_⟩) hHeld ?_ ?_
  rotate_left
  · rintro w' ⟨s0, s1⟩
    go_simp
    with_reducible rfl
  rotate_left
  · simp only [Act.put, List.setIfInBounds_toArray, List.set_cons_zero, List.set_cons_succ, i64_w, i32_w]
    rfl
  refine one_ (i := 1) (N := some 6) #[true, true, false, true, true, false, false, false, true, true, true, false, false, false, true, true, false, false] rfl rfl (by kernel_rfl) (by decide) (fun K hK => ?_)
  refine goes_ Tryd.func47 (by kernel_rfl) rfl #[.int .i64 a0, .int .i64 10] (by rfl) rfl rfl (by first | (simp only [List.map_toArray, List.map_cons, List.map_nil]; done) | (simp only [List.map_toArray, List.map_cons, List.map_nil]; rfl)) ?_
  with_reducible refine (C0.out _ (ht.out.below H.out.below)).mono ?_
  rintro e w3 ⟨rfl, hb⟩
  refine ⟨_, rfl, ?_⟩
  have H_ := Aside0.mk (show Hs w w3 [(ga, .cells #[.int .i64 a1, .string a2] 56 (0, 0))] from H.out.call hb)
  clear hb H
  have H := H_
  clear H_
  refine hK.out _ _ ⟨(H.out.cellv 0 rfl 0 rfl), (H.out.cellv 0 rfl 1 rfl)⟩ (fun hHeld => ?_)
  clear hK K
  refine norm_ (a' := ?_) ?_ ?_
  rotate_left
  · show Act.put _ (some 6) _ = _
    simp only [Act.put, List.setIfInBounds_toArray, List.set_cons_zero, List.set_cons_succ, i64_w, i32_w]
    rfl
  refine pure_ (i := 2) (N := some 7) (v := ?_) (a' := ?_) #[true, true, true, true, true, false, false, false, true, true, true, false, false, false, true, true, false, false] rfl rfl (by kernel_rfl) (fun _ _ _ h => h) (Or.inl ⟨by rfl, ?_⟩) ?_ ?_
  rotate_left
  · intro w'
    go_simp
    with_reducible rfl
  rotate_left
  · simp only [Act.put, List.setIfInBounds_toArray, List.set_cons_zero, List.set_cons_succ, i64_w, i32_w]
    rfl
  refine one_ (i := 5) (N := some 10) #[true, true, true, true, true, true, false, false, true, true, true, false, false, false, true, true, false, false] rfl rfl (by kernel_rfl) (by decide) (fun K hK => ?_)
  refine goes_ Tryd.func47 (by kernel_rfl) rfl #[.int .i64 a1, .int .i64 10] (by rfl) rfl rfl (by first | (simp only [List.map_toArray, List.map_cons, List.map_nil]; done) | (simp only [List.map_toArray, List.map_cons, List.map_nil]; rfl)) ?_
  with_reducible refine (C1.out _ (ht.out.below H.out.below)).mono ?_
  rintro e w3 ⟨rfl, hb⟩
  refine ⟨_, rfl, ?_⟩
  have H_ := Aside0.mk (show Hs w w3 [(ga, .cells #[.int .i64 a1, .string a2] 56 (0, 0))] from H.out.call hb)
  clear hb H
  have H := H_
  clear H_
  refine hK.out _ _ ⟨(H.out.cellv 0 rfl 0 rfl), (H.out.cellv 0 rfl 1 rfl)⟩ (fun hHeld => ?_)
  clear hK K
  refine norm_ (a' := ?_) ?_ ?_
  rotate_left
  · show Act.put _ (some 10) _ = _
    simp only [Act.put, List.setIfInBounds_toArray, List.set_cons_zero, List.set_cons_succ, i64_w, i32_w]
    rfl
  refine pure_ (i := 6) (N := some 11) (v := ?_) (a' := ?_) #[true, true, true, true, true, true, true, false, true, true, true, false, false, false, true, true, false, false] rfl rfl (by kernel_rfl) (fun _ _ _ h => h) (Or.inl ⟨by rfl, ?_⟩) ?_ ?_
  rotate_left
  · intro w'
    go_simp
    with_reducible rfl
  rotate_left
  · simp only [Act.put, List.setIfInBounds_toArray, List.set_cons_zero, List.set_cons_succ, i64_w, i32_w]
    rfl
  refine pure_ (i := 7) (N := some 12) (v := ?_) (a' := ?_) #[true, true, true, true, true, true, true, true, true, true, true, false, false, false, true, true, false, false] rfl rfl (by kernel_rfl) (fun _ _ _ h => h) (Or.inl ⟨by rfl, ?_⟩) ?_ ?_
  rotate_left
  · intro w'
    go_simp
    with_reducible rfl
  rotate_left
  · simp only [Act.put, List.setIfInBounds_toArray, List.set_cons_zero, List.set_cons_succ, i64_w, i32_w]
    rfl
  refine one_ (i := 11) (N := some 16) #[true, true, true, true, true, true, true, true, true, true, true, true, false, false, true, true, false, false] rfl rfl (by kernel_rfl) (by decide) (fun K hK => ?_)
  refine goes_ Tryd.func48 (by kernel_rfl) rfl #[.int .i64 (a2.size : Int)] (by rfl) rfl rfl (by first | (simp only [List.map_toArray, List.map_cons, List.map_nil]; done) | (simp only [List.map_toArray, List.map_cons, List.map_nil]; rfl)) ?_
  with_reducible refine (C2.out _ (ht.out.below H.out.below)).mono ?_
  rintro e w3 ⟨rfl, hb⟩
  refine ⟨_, rfl, ?_⟩
  have H_ := Aside0.mk (show Hs w w3 [(ga, .cells #[.int .i64 a1, .string a2] 56 (0, 0))] from H.out.call hb)
  clear hb H
  have H := H_
  clear H_
  refine hK.out _ _ ⟨(H.out.cellv 0 rfl 0 rfl), (H.out.cellv 0 rfl 1 rfl)⟩ (fun hHeld => ?_)
  clear hK K
  refine norm_ (a' := ?_) ?_ ?_
  rotate_left
  · show Act.put _ (some 16) _ = _
    simp only [Act.put, List.setIfInBounds_toArray, List.set_cons_zero, List.set_cons_succ, i64_w, i32_w]
    rfl
  refine pure_ (i := 12) (N := some 17) (v := ?_) (a' := ?_) #[true, true, true, true, true, true, true, true, true, true, true, true, true, false, true, true, false, false] rfl rfl (by kernel_rfl) (fun _ _ _ h => h) (Or.inl ⟨by rfl, ?_⟩) ?_ ?_
  rotate_left
  · intro w'
    go_simp
    with_reducible rfl
  rotate_left
  · simp only [Act.put, List.setIfInBounds_toArray, List.set_cons_zero, List.set_cons_succ, i64_w, i32_w]
    rfl
  refine pure_ (i := 13) (N := some 18) (v := ?_) (a' := ?_) #[true, true, true, true, true, true, true, true, true, true, true, true, true, true, true, true, false, false] rfl rfl (by kernel_rfl) (fun _ _ _ h => h) (Or.inl ⟨by rfl, ?_⟩) ?_ ?_
  rotate_left
  · intro w'
    go_simp
    with_reducible rfl
  rotate_left
  · simp only [Act.put, List.setIfInBounds_toArray, List.set_cons_zero, List.set_cons_succ, i64_w, i32_w]
    rfl
  refine pure_ (i := 16) (N := some 21) (v := ?_) (a' := ?_) #[true, true, true, true, true, true, true, true, true, true, true, true, true, true, true, true, true, false] rfl rfl (by kernel_rfl) (fun _ _ _ h => h) (Or.inl ⟨by rfl, ?_⟩) ?_ ?_
  rotate_left
  · intro w'
    go_simp
    with_reducible rfl
  rotate_left
  · simp only [Act.put, List.setIfInBounds_toArray, List.set_cons_zero, List.set_cons_succ, i64_w, i32_w]
    rfl
  refine pure_ (i := 17) (N := some 4) (v := ?_) (a' := ?_) #[true, true, true, true, true, true, true, true, true, true, true, true, true, true, true, true, true, true] rfl rfl (by kernel_rfl) (fun _ _ _ h => h) (Or.inl ⟨by rfl, ?_⟩) ?_ ?_
  rotate_left
  · intro w'
    go_simp
    with_reducible rfl
  rotate_left
  · simp only [Act.put, List.setIfInBounds_toArray, List.set_cons_zero, List.set_cons_succ, i64_w, i32_w]
    rfl
  refine done_ (by kernel_rfl) ?_
  go_wp2
  go_ret
  exact ⟨rfl, H.out.below⟩

set_option maxHeartbeats 8000000 in
set_option maxRecDepth 100000 in
theorem answer_ok (a0 a1 : Int) (a2 : ByteArray) (w : World) (hs : a2.size ≤ 400000) (b0 : i64 a0) (b1 : i64 a1) (ht : TabW w) :
    Calls Tryd.prog 11 #[.int .i64 a0, .int .i64 a1, .string a2] w fun e w' => e = .returned (.string (ansOf (itoaB a0) (itoaB a1) (itoaB (a2.size : Int)) a2)) ∧ Below w.heap.size w w' := by
  have l : decide ((a2.size : Int) > 400000) = false := decide_eq_false (by omega)
  have C := Aside0.mk (text_calls a0 a1 a2 (itoaB a0) (itoaB a1) (itoaB (a2.size : Int)) w (fun W h => fmt_calls a0 W b0.1 b0.2 h) (fun W h => fmt_calls a1 W b1.1 b1.2 h) (fun W h => itoa_calls _ W (by omega) (by omega) h) (itoaB_size _ b0.1 b0.2) (itoaB_size _ b1.1 b1.2) (itoaB_size _ (by omega) (by omega)) hs ht)
  clear ht b0 b1
  go_enter Tryd.func11, Tryd.ntmps11
  go_wp2_with (first | ((with_reducible refine gate_callee (f := 27) rfl ?_); refine goesL_ (some 14) rfl rfl Tryd.func27 (by kernel_rfl) rfl #[.agg #[.int .i64 a1, .string a2], .int .i64 a0] rfl (by (try simp only [List.map_toArray, List.map_cons, List.map_nil]); first | done | rfl) ?_; (with_reducible refine C.out.mono ?_); rintro e w3 ⟨rfl, hb⟩; refine ⟨_, rfl, ?_⟩))
  go_ret
  exact ⟨rfl, hb⟩

set_option maxHeartbeats 8000000 in
set_option maxRecDepth 100000 in
theorem answer_long (a0 a1 : Int) (a2 : ByteArray) (w : World) (hs : a2.size > 400000) :
    Calls Tryd.prog 11 #[.int .i64 a0, .int .i64 a1, .string a2] w fun e w' => e = .returned (.string ⟨#[]⟩) ∧ Below w.heap.size w w' := by
  have l : decide ((a2.size : Int) > 400000) = true := decide_eq_true (by omega)
  go_enter Tryd.func11, Tryd.ntmps11
  go_wp2
  go_ret
  exact ⟨rfl, Below.refl _ _⟩
theorem impl_AnswerText.calls (a0 a1 : Int) (a2 : ByteArray) (r : ByteArray) (w : World) (h : impl_AnswerText.f a0 a1 a2 = some r) (ht : TabW w) :
    Calls Tryd.prog 11 #[.int .i64 a0, .int .i64 a1, .string a2] w fun e w' => e = .returned (.string r) ∧ Below w.heap.size w w' := by
  unfold impl_AnswerText.f at h
  by_cases c : a2.size > 400000
  · rw [if_pos c] at h
    cases h
    exact answer_long a0 a1 a2 w c
  · rw [if_neg c] at h
    by_cases d : i64 a0 ∧ i64 a1
    · rw [if_pos d] at h
      cases h
      exact answer_ok a0 a1 a2 w (by omega) d.1 d.2 ht
    · rw [if_neg d] at h; cases h

end Go.Proofs.YtncghlamcbhpmaaDoor.PFnExactAnswerText
