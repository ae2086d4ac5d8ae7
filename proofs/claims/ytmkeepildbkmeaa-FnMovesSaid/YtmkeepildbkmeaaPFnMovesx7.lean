/-
  ringOf and PlaceKey: what the calls do; for every world.
-/
import Derived.Test.YtmkeepildbkmeaaPFnMovesx0
import Derived.Test.YtmkeepildbkmeaaPFnMovesx5
import Derived.Test.YtmkeepildbkmeaaPutOFnMoves
import Derived.Test.YtmkeepildbkmeaaMapIFnMoves
namespace Go.Proofs.Ytmkeepildbkmeaa.PFnMoves
open Go.RowKit Go.Proofs.YtmkeepildbkmeaaW.PrintWords Go.Proofs.YtmkeepildbkmeaaW.PrintLast Go.Proofs.YtmkeepildbkmeaaW.PrintMore
open Go.Proofs.Ytmkeepildbkmeaa.Hs
/-- All that want the key, each put in as it comes. -/
def ringL (k : Nat) (a1 : ByteArray) : List S32 → Nat → List S2 → Option (List S2)
  | [], _, L => some L
  | x :: r, i, L => (impl_scoreOf.f k x.f0 x.f1 a1 (i : Int)).bind fun s => if L.length < 100000 then ringL k a1 r (i + 1) (if s ≥ 0 then insL ((i : Int), s) L else L) else none
theorem ringL.mono (k : Nat) (a1 : ByteArray) : ∀ l i L, LeO (ringL k a1 l i L) (ringL (k + 1) a1 l i L)
  | [], i, L => LeO.refl _
  | x :: r, i, L => LeO.bind (impl_scoreOf.mono _ _ _ _ _) fun s => LeO.ite (ringL.mono k a1 r (i + 1) _) (LeO.refl _)
theorem higher_all (x y : S2) (w : World) : Calls Try.prog 89 #[.agg #[.int .i64 x.1, .int .i64 x.2], .agg #[.int .i64 y.1, .int .i64 y.2]] w fun e w' => e = .returned (.bool (hiB x y)) ∧ Below w.heap.size w w' :=
  impl_higher.calls x.1 x.2 y.1 y.2 (hiB x y) w (by unfold impl_higher.f hiB; split <;> rfl)
theorem drop_rd {l : List S32} {i : Nat} (h : i < l.length) : l.drop i = rd_T32 l (i : Int) :: l.drop (i + 1) := by
  rw [List.drop_eq_getElem_cons h]
  congr 1
  unfold rd_T32
  rw [Int.toNat_natCast, List.getD_eq_getElem?_getD, List.getElem?_eq_getElem h]; rfl

set_option maxHeartbeats 8000000 in
set_option maxRecDepth 100000 in
theorem ring_calls (k : Nat) (A0 : Option Addr) (c0 : Nat) (l0 : List S32) (a1 : ByteArray) (R : List S2) (w : World) (hr0 : Kd.C k32 w A0 l0.length l0) (hc0 : l0.length ≤ c0) (hlen : l0.length ≤ 200) (h : ringL k a1 l0 0 [] = some R) :
    Calls Try.prog 55 #[.slice A0 l0.length c0, .string a1] w fun e w' => ∃ v B, e = .returned v ∧ RowB 102 2 v R.length (R.flatMap cells2) B ∧ Hs w w' (B ++ []) := by
  have HR0 := Aside0.mk hr0
  have HC0 := Aside0.mk hc0
  have hh := Aside0.mk h
  clear hr0 h
  have hu1 := Try.underlying99
  have hu2 := Try.underlying102
  have hu3 := Try.underlying139
  have hu4 := Try.underlying32
  have H := Aside0.mk (show Hs w w ([] ++ []) from Hs.nil w)
  go_enter Try.func55, Try.ntmps55
  go_wp2_with (first
    | ((with_reducible refine gate_dst (N := 10) rfl ?_); (try (refine gate_guard (by rfl) ?_; dsimp only)); refine box_event ?hg (N := 10) ?hd (cs := #[(.func (.func 89) #[] #[]), .slice none 0 0]) (t := 139) ?hr ?_; (case hd => rfl); (case hg => rfl); (case hr => first | (go_simp; done) | (go_simp; rfl)); intro go hg w1 hbox hb; have H_ := Aside0.mk (Hs.push H.out (Nat.le_of_eq hg.symm) hbox hb); clear hbox hb hg; clear H; have H := H_; clear H_))
  go_loopw [13] (fun v13 wr => ∃ (i : Nat) (L : List S2) (v : Value) (B : List Blk), i ≤ l0.length ∧ v13 = .int .i64 i ∧ Aside0 (ringL k a1 (l0.drop i) i L = some R) ∧ Aside0 (RowB 102 2 v L.length (L.flatMap cells2) B) ∧ Aside0 (Hs w wr ((go, .cells #[(.func (.func 89) #[] #[]), v] 139 (0, 0)) :: (B ++ [])))) (fun i _ => l0.length - (intOf i).toNat)
  case atStart => exact ⟨0, [], _, [], by omega, rfl, hh, Aside0.mk (RowB.nil _ _), H⟩
  case round =>
    clear H hh
    obtain ⟨i, L, v, B, hi0, rfl, hrg, hB, H⟩ := hrel
    obtain ⟨Av, cv, hv⟩ := hB.out.slice
    subst hv
    by_cases hi1 : i < l0.length
    · have hrg1 := hrg.out
      rw [drop_rd hi1] at hrg1
      obtain ⟨s, hs0, hrg2⟩ := Option.bind_eq_some_iff.mp (show (impl_scoreOf.f k (rd_T32 l0 (i : Int)).f0 (rd_T32 l0 (i : Int)).f1 a1 (i : Int)).bind _ = some R from hrg1)
      have hs := Aside0.mk hs0
      by_cases hlt0 : L.length < 100000
      · rw [if_pos hlt0] at hrg2
        have hlt := Aside0.mk hlt0
        have hnext := Aside0.mk hrg2
        obtain ⟨ad, hA, hx0, hx1⟩ := at_T32 HR0.out (i : Int) (by omega) (by omega)
        cases hA
        replace hx0 := (H.out.below.cell (World.block_lt_of_cell? w _ hx0)).trans hx0
        replace hx1 := (H.out.below.cell (World.block_lt_of_cell? w _ hx1)).trans hx1
        rw [Int.toNat_natCast] at hx0 hx1
        have l1 : (i : Int) < (l0.length : Int) := by omega
        have l2 : 0 ≤ (i : Int) := by omega
        have l1' : decide ((i : Int) < (l0.length : Int)) = true := decide_eq_true l1
        clear hrg1 hrg2 hs0 hlt0
        by_cases hpos : s ≥ 0
        · have l3 : decide (s ≥ 0) = true := decide_eq_true hpos
          have l3' : decide (0 ≤ s) = true := decide_eq_true hpos
          have hn2 := Aside0.mk (show ringL k a1 (l0.drop (i + 1)) (i + 1) (insL ((i : Int), s) L) = some R by have := hnext.out; rwa [if_pos hpos] at this)
          go_wp2_with (first
              | ((with_reducible refine gate_dst (N := 7) rfl ?_); (try (refine gate_guard (by rfl) ?_; dsimp only)); refine box_event ?hg (N := 7) ?hd (cs := #[.int .i64 0, .int .i64 0]) (t := 32) ?hr ?_; (case hd => rfl); (case hg => rfl); (case hr => first | (go_simp; done) | (go_simp; rfl)); intro gn hg w1 hbox hb; have H_ := Aside0.mk (Hs.push H.out (Nat.le_of_eq hg.symm) hbox hb); clear hbox hb hg; clear H; have H := H_; clear H_)
              | ((with_reducible refine gate_store (p := 7) rfl ?_); (try (refine gate_guard (by rfl) ?_; dsimp only)); have hc0_ := H.out.cellv (v := .int .i64 0) 0 rfl 0 rfl; have hf0_ := H.out.frozen 0 rfl 0; have hc1_ := H.out.cellv (v := .int .i64 0) 0 rfl 1 rfl; have hf1_ := H.out.frozen 0 rfl 1; refine store_at (fun W => (World.setCell (World.setCell W ⟨gn, 0, none⟩ (.int .i64 (rd_T32 l0 (i : Int)).f0)) ⟨gn, 1, none⟩ (.int .i64 (rd_T32 l0 (i : Int)).f1))) ?hg rfl ?hd ?hr ?_; (case hg => rfl); (case hd => rfl); (case hr => first | (go_simp; done) | (go_simp; rfl)); intro w2 hw; have H_ := Aside0.mk (show Hs w w2 ((gn, .cells #[.int .i64 (rd_T32 l0 (i : Int)).f0, .int .i64 (rd_T32 l0 (i : Int)).f1] 32 (0, 0)) :: ((go, .cells #[(.func (.func 89) #[] #[]), .slice Av L.length cv] 139 (0, 0)) :: (B ++ []))) from by rw [hw]; exact ((H.out.set 0 rfl 0 (.int .i64 (rd_T32 l0 (i : Int)).f0)).set 0 rfl 1 (.int .i64 (rd_T32 l0 (i : Int)).f1))); clear hw hc0_ hf0_ hc1_ hf1_; clear H; have H := H_; clear H_)
              | ((with_reducible refine gate_dst (N := 18) rfl ?_); (try (refine gate_guard (by rfl) ?_; dsimp only)); have hc0_ := H.out.cellv (v := .int .i64 (rd_T32 l0 (i : Int)).f0) 0 rfl 0 rfl; have hc1_ := H.out.cellv (v := .int .i64 (rd_T32 l0 (i : Int)).f1) 0 rfl 1 rfl; refine load_at (.agg #[.int .i64 (rd_T32 l0 (i : Int)).f0, .int .i64 (rd_T32 l0 (i : Int)).f1]) ?hg ?hr ?_; (case hg => rfl); (case hr => first | (go_simp; done) | (go_simp; rfl)); clear hc0_ hc1_)
              | ((with_reducible refine gate_callee (f := 58) rfl ?_); (try (refine gate_guard (by rfl) ?_; dsimp only)); refine goesL_ (some 21) rfl rfl Try.func58 (by kernel_rfl) rfl #[.agg #[.int .i64 (rd_T32 l0 (i : Int)).f0, .int .i64 (rd_T32 l0 (i : Int)).f1], .string a1, .int .i64 (i : Int)] rfl (by (try simp only [List.map_toArray, List.map_cons, List.map_nil]); first | done | rfl) ?_; (with_reducible refine (impl_scoreOf.calls k _ _ a1 (i : Int) s _ hs.out).mono ?_); rintro e w3 ⟨rfl, hb⟩; refine ⟨_, rfl, ?_⟩; have H_ := Aside0.mk (show Hs w w3 ((gn, .cells #[.int .i64 (rd_T32 l0 (i : Int)).f0, .int .i64 (rd_T32 l0 (i : Int)).f1] 32 (0, 0)) :: ((go, .cells #[(.func (.func 89) #[] #[]), .slice Av L.length cv] 139 (0, 0)) :: (B ++ []))) from H.out.call hb); clear hb; clear H; have H := H_; clear H_)
              | ((with_reducible refine gate_callee (f := 90) rfl ?_); (try (refine gate_guard (by rfl) ?_; dsimp only)); refine goesL_ (some 28) rfl rfl Try.func90 (by kernel_rfl) rfl #[.pointer (some ⟨go, 0, none⟩), .agg #[.int .i64 (i : Int), .int .i64 s]] rfl (by (try simp only [List.map_toArray, List.map_cons, List.map_nil]); first | done | rfl) ?_; (with_reducible refine (put_calls go (i : Int) s L (Nat.le_of_lt hlt.out) hB.out H.out.tail higher_all).mono ?_); rintro e wP ⟨rfl, A1, c1, B1, hB1, hH1⟩; refine ⟨_, rfl, ?_⟩; have hB2 := Aside0.mk hB1; have H_ := Aside0.mk hH1; clear hB1 hH1; clear H; have H := H_; clear H_))
          go_roundw
          case rel => exact ⟨i + 1, _, _, B1, by omega, by go_num, hn2, hB2, by rw [insL_len]; exact H⟩
          case measure => simp [intOf]; omega
        · have l3 : decide (s ≥ 0) = false := decide_eq_false hpos
          have l3' : decide (0 ≤ s) = false := decide_eq_false hpos
          have hn2 := Aside0.mk (show ringL k a1 (l0.drop (i + 1)) (i + 1) L = some R by have := hnext.out; rwa [if_neg hpos] at this)
          go_wp2_with (first
              | ((with_reducible refine gate_dst (N := 7) rfl ?_); (try (refine gate_guard (by rfl) ?_; dsimp only)); refine box_event ?hg (N := 7) ?hd (cs := #[.int .i64 0, .int .i64 0]) (t := 32) ?hr ?_; (case hd => rfl); (case hg => rfl); (case hr => first | (go_simp; done) | (go_simp; rfl)); intro gn hg w1 hbox hb; have H_ := Aside0.mk (Hs.push H.out (Nat.le_of_eq hg.symm) hbox hb); clear hbox hb hg; clear H; have H := H_; clear H_)
              | ((with_reducible refine gate_store (p := 7) rfl ?_); (try (refine gate_guard (by rfl) ?_; dsimp only)); have hc0_ := H.out.cellv (v := .int .i64 0) 0 rfl 0 rfl; have hf0_ := H.out.frozen 0 rfl 0; have hc1_ := H.out.cellv (v := .int .i64 0) 0 rfl 1 rfl; have hf1_ := H.out.frozen 0 rfl 1; refine store_at (fun W => (World.setCell (World.setCell W ⟨gn, 0, none⟩ (.int .i64 (rd_T32 l0 (i : Int)).f0)) ⟨gn, 1, none⟩ (.int .i64 (rd_T32 l0 (i : Int)).f1))) ?hg rfl ?hd ?hr ?_; (case hg => rfl); (case hd => rfl); (case hr => first | (go_simp; done) | (go_simp; rfl)); intro w2 hw; have H_ := Aside0.mk (show Hs w w2 ((gn, .cells #[.int .i64 (rd_T32 l0 (i : Int)).f0, .int .i64 (rd_T32 l0 (i : Int)).f1] 32 (0, 0)) :: ((go, .cells #[(.func (.func 89) #[] #[]), .slice Av L.length cv] 139 (0, 0)) :: (B ++ []))) from by rw [hw]; exact ((H.out.set 0 rfl 0 (.int .i64 (rd_T32 l0 (i : Int)).f0)).set 0 rfl 1 (.int .i64 (rd_T32 l0 (i : Int)).f1))); clear hw hc0_ hf0_ hc1_ hf1_; clear H; have H := H_; clear H_)
              | ((with_reducible refine gate_dst (N := 18) rfl ?_); (try (refine gate_guard (by rfl) ?_; dsimp only)); have hc0_ := H.out.cellv (v := .int .i64 (rd_T32 l0 (i : Int)).f0) 0 rfl 0 rfl; have hc1_ := H.out.cellv (v := .int .i64 (rd_T32 l0 (i : Int)).f1) 0 rfl 1 rfl; refine load_at (.agg #[.int .i64 (rd_T32 l0 (i : Int)).f0, .int .i64 (rd_T32 l0 (i : Int)).f1]) ?hg ?hr ?_; (case hg => rfl); (case hr => first | (go_simp; done) | (go_simp; rfl)); clear hc0_ hc1_)
              | ((with_reducible refine gate_callee (f := 58) rfl ?_); (try (refine gate_guard (by rfl) ?_; dsimp only)); refine goesL_ (some 21) rfl rfl Try.func58 (by kernel_rfl) rfl #[.agg #[.int .i64 (rd_T32 l0 (i : Int)).f0, .int .i64 (rd_T32 l0 (i : Int)).f1], .string a1, .int .i64 (i : Int)] rfl (by (try simp only [List.map_toArray, List.map_cons, List.map_nil]); first | done | rfl) ?_; (with_reducible refine (impl_scoreOf.calls k _ _ a1 (i : Int) s _ hs.out).mono ?_); rintro e w3 ⟨rfl, hb⟩; refine ⟨_, rfl, ?_⟩; have H_ := Aside0.mk (show Hs w w3 ((gn, .cells #[.int .i64 (rd_T32 l0 (i : Int)).f0, .int .i64 (rd_T32 l0 (i : Int)).f1] 32 (0, 0)) :: ((go, .cells #[(.func (.func 89) #[] #[]), .slice Av L.length cv] 139 (0, 0)) :: (B ++ []))) from H.out.call hb); clear hb; clear H; have H := H_; clear H_))
          go_roundw
          case rel => exact ⟨i + 1, _, _, B, by omega, by go_num, hn2, hB, Aside0.mk H.out.tail⟩
          case measure => simp [intOf]; omega
      · rw [if_neg hlt0] at hrg2; cases hrg2
    · obtain rfl : i = l0.length := by omega
      have l5 : decide ((l0.length : Int) < (l0.length : Int)) = false := decide_eq_false (by omega)
      have hR : L = R := by have := hrg.out; rw [List.drop_length] at this; exact Option.some.inj this
      have hz := Aside0.mk hR
      clear hR
      have hx1 : wr.cell? ⟨go, 1, none⟩ = some (.slice Av L.length cv) := H.out.cellv 0 rfl 1 rfl
      go_wp2
      go_ret
      exact ⟨_, B, rfl, by rw [← hz.out]; exact hB.out, H.out.tail⟩

def domOf (l0 : List S32) (d : Int) : Int := (rd_T32 l0 d).f0
/-- The first of each domain, n of them at most. -/
def pickL (l0 : List S32) (n : Int) : List S2 → List Int → Option (List Int)
  | [], O => some O
  | x :: r, O => if 0 ≤ x.1 ∧ x.1 < (l0.length : Int) ∧ O.length < 1000000 then (if domOf l0 x.1 ∈ O.map (domOf l0) ∨ (O.length : Int) = n then pickL l0 n r O else pickL l0 n r (O ++ [x.1])) else none
def impl_PlaceKey.f (k : Nat) (l0 : List (S32)) (a1 : ByteArray) (a2 : Int) : Option (Int × List Int) := (impl_NodesFault.f k l0).bind fun t => if t ≠ 0 ∨ a2 < 1 ∨ a2 > 64 ∨ (a1.size : Int) > 1000 then some (1, []) else if l0.length ≤ 200 then (ringL k a1 l0 0 []).bind fun R => (pickL l0 a2 R []).bind fun O => if (O.length : Int) < a2 then some (7, []) else some (0, O) else none
theorem impl_PlaceKey.mono : ∀ a0 a1 a2 k, LeO (impl_PlaceKey.f k a0 a1 a2) (impl_PlaceKey.f (k + 1) a0 a1 a2) := by
  intro a0 a1 a2 k
  unfold impl_PlaceKey.f
  exact LeO.bind (impl_NodesFault.mono _ _) fun t => LeO.ite (LeO.refl _) (LeO.ite (LeO.bind (ringL.mono _ _ _ _ _) fun _ => LeO.refl _) (LeO.refl _))
theorem hs_join {w0 w1 w2 : World} {B L : List Blk} (h : Hs w0 w1 L) (h2 : Hs w1 w2 (B ++ [])) : Hs w0 w2 (B ++ L) := by
  rw [List.append_nil] at h2
  have h1 := h.call h2.below
  refine ⟨h1.below, ?_, fun x hx => ?_⟩
  · rw [List.map_append, List.nodup_append]
    refine ⟨h2.nodup, h.nodup, fun a ha b hb e => ?_⟩
    obtain ⟨x, hx, rfl⟩ := List.mem_map.1 ha
    obtain ⟨y, hy, hye⟩ := List.mem_map.1 hb
    have e1 := (h2.mem x hx).1
    have e2 := blk_lt (h.mem y hy).2
    omega
  · rcases List.mem_append.1 hx with hx | hx
    · exact ⟨Nat.le_trans h.below.size (h2.mem x hx).1, (h2.mem x hx).2⟩
    · exact h1.mem x hx
theorem hs_in3 {w0 w : World} {x y z : Blk} {B L : List Blk} (h : Hs w0 w (B ++ (x :: y :: z :: L))) : Hs w0 w (x :: y :: z :: (B ++ L)) := h.perm (List.perm_middle.trans ((List.perm_middle.trans (List.perm_middle.cons y)).cons x))
theorem hs_in4 {w0 w : World} {x y z u : Blk} {B L : List Blk} (h : Hs w0 w (B ++ (x :: y :: z :: u :: L))) : Hs w0 w (x :: y :: z :: u :: (B ++ L)) := h.perm (List.perm_middle.trans ((List.perm_middle.trans ((List.perm_middle.trans (List.perm_middle.cons z)).cons y)).cons x))
theorem hs_out4 {w0 w : World} {x y z u : Blk} {B L : List Blk} (h : Hs w0 w (x :: y :: z :: u :: (B ++ L))) : Hs w0 w (B ++ (x :: y :: z :: u :: L)) := h.perm (List.perm_middle.trans ((List.perm_middle.trans ((List.perm_middle.trans (List.perm_middle.cons z)).cons y)).cons x)).symm
theorem hs_in3_back {w0 w : World} {x y z : Blk} {B L : List Blk} (h : Hs w0 w (x :: y :: z :: (B ++ L))) : Hs w0 w (B ++ (x :: y :: z :: L)) := h.perm (List.perm_middle.trans ((List.perm_middle.trans (List.perm_middle.cons y)).cons x)).symm
theorem wrap_succ {j n cap : Nat} (h : j < n) (h1 : n ≤ cap) (h2 : cap ≤ maxLen) : wrap64 ((j : Int) + 1) = (j : Int) + 1 := by
  have h3 : (j : Int) + 1 ≤ 9223372036854775807 := by unfold maxLen at h2; omega
  unfold wrap64; omega
theorem meas_lt {j n : Nat} (h : j < n) (hw : wrap64 ((j : Int) + 1) = (j : Int) + 1) : n - (intOf (.int .i64 (wrap64 ((j : Int) + 1)))).toNat < n - (intOf (.int .i64 (j : Int))).toNat := by
  rw [hw]
  show n - ((j : Int) + 1).toNat < n - (j : Int).toNat
  omega
theorem ints_flat (O : List Int) : O.flatMap (fun x => [Value.int .i64 x]) = O.map (Value.int .i64) := by
  induction O with
  | nil => rfl
  | cons a O ih => rw [List.flatMap_cons, ih]; rfl
theorem int_row {w w' : World} {v : Value} {B L : List Blk} (O : List Int) (h : RowB 2 1 v O.length (O.map (Value.int .i64)) B) (H : Hs w w' (B ++ L)) : Kd.R (Kd.int .i64) 2 w' w.heap.size (fun _ => True) v O := by
  refine ⟨fun _ _ => trivial, O.map (Value.int .i64), h.owns H, ?_⟩
  have := flat_reps (R := (Kd.int .i64).M w' w.heap.size (fun k => True ∧ some k ≠ v.ownBlock)) (fun x => [Value.int .i64 x]) 1 (fun _ => rfl) (fun x => rfl) O
  rw [ints_flat] at this
  exact this
theorem zero_int : ∀ w, ∃ z, (zeroValue 2).run Try.prog w = .ok z w := by
  intro w
  have h : (Try.prog.info? 2).map (·.zero) = some (some (.int .i64 0)) := by kernel_rfl
  obtain ⟨i, hi, hz⟩ := Option.map_eq_some_iff.1 h
  exact ⟨.int .i64 0, by simp [zeroValue, typeInfo, hi, hz]⟩

set_option maxHeartbeats 8000000 in
set_option maxRecDepth 100000 in
theorem place_bad (k : Nat) (A0 : Option Addr) (c0 : Nat) (l0 : List S32) (a1 : ByteArray) (a2 t : Int) (w : World) (hr0 : Kd.C k32 w A0 l0.length l0) (hc0 : l0.length ≤ c0) (h : impl_NodesFault.f k l0 = some t) (hbad : t ≠ 0 ∨ a2 < 1 ∨ a2 > 64 ∨ (a1.size : Int) > 1000) :
    Calls Try.prog 12 #[.slice A0 l0.length c0, .string a1, .int .i64 a2] w (fun e w' => ∃ v1_ : Value, e = .returned (.agg #[.int .i64 1, v1_]) ∧ Kd.R (Kd.int .i64) 2 w' w.heap.size (fun _ => True) v1_ [] ∧ Below w.heap.size w w') := by
  have HR0 := Aside0.mk hr0
  have HC0 := Aside0.mk hc0
  have ht := Aside0.mk h
  clear hr0 hc0 h
  have hu1 := Try.underlying28
  have hu2 := Try.underlying99
  have hu3 := Try.underlying102
  have hu4 := Try.underlying32
  have hu5 := Try.underlying26
  have H := Aside0.mk (Hs.nil w)
  by_cases q : t ≠ 0
  · have m1 : (t != 0) = true := by simpa using q
    clear q hbad
    go_enter Try.func12, Try.ntmps12
    go_wp2_with (first
        | ((with_reducible refine gate_dst (N := 6) rfl ?_); (try (refine gate_guard (by rfl) ?_; dsimp only)); refine box_event ?hg (N := 6) ?hd (cs := #[.int .i64 0, .slice none 0 0]) (t := 28) ?hr ?_; (case hd => rfl); (case hg => rfl); (case hr => first | (go_simp; done) | (go_simp; rfl)); intro g6 hg w1 hbox hb; have H_ := Aside0.mk (Hs.push H.out (Nat.le_of_eq hg.symm) hbox hb); clear hbox hb hg; clear H; have H := H_; clear H_)
        | ((with_reducible refine gate_callee (f := 54) rfl ?_); (try (refine gate_guard (by rfl) ?_; dsimp only)); refine goesL_ (some 15) rfl rfl Try.func54 (by kernel_rfl) rfl #[.slice A0 l0.length c0] rfl (by (try simp only [List.map_toArray, List.map_cons, List.map_nil]); first | done | rfl) ?_; (with_reducible refine (impl_NodesFault.calls k A0 c0 l0 _ _ (Kd.C_below HR0.out H.out.below) HC0.out ht.out).mono ?_); rintro e w2 ⟨rfl, hb⟩; refine ⟨_, rfl, ?_⟩; have H_ := Aside0.mk (show Hs w w2 [(g6, .cells #[.int .i64 0, .slice none 0 0] 28 (0, 0))] from H.out.call hb); clear hb; clear H; have H := H_; clear H_)
        | ((with_reducible refine gate_store (p := 6) rfl ?_); (try (refine gate_guard (by rfl) ?_; dsimp only)); have hc0_ := H.out.cellv (v := .int .i64 0) 0 rfl 0 rfl; have hf0_ := H.out.frozen 0 rfl 0; have hc1_ := H.out.cellv (v := .slice none 0 0) 0 rfl 1 rfl; have hf1_ := H.out.frozen 0 rfl 1; refine store_at (fun W => (World.setCell (World.setCell W ⟨g6, 0, none⟩ (.int .i64 1)) ⟨g6, 1, none⟩ (.slice none 0 0))) ?hg rfl ?hd ?hr ?_; (case hg => rfl); (case hd => rfl); (case hr => first | (go_simp; done) | (go_simp; rfl)); intro w3 hw; have H_ := Aside0.mk (show Hs w w3 [(g6, .cells #[.int .i64 1, .slice none 0 0] 28 (0, 0))] from by rw [hw]; exact ((H.out.set 0 rfl 0 (.int .i64 1)).set 0 rfl 1 (.slice none 0 0))); clear hw hc0_ hf0_ hc1_ hf1_; clear H; have H := H_; clear H_))
    exact bodyPost_ret (results_cell_row rfl _ _ g6 28 #[.int .i64 1, .slice none 0 0] (0, 0) _ rfl (H.out.get 0 rfl) Try.underlying28 rfl (by kernel_rfl)) rfl ⟨_, rfl, Kd.R_nil _ _ _ _ _, H.out.below⟩
  obtain rfl : t = 0 := Decidable.not_not.1 q
  have m1 : ((0 : Int) != 0) = false := rfl
  by_cases q2 : a2 < 1
  · have m2 : decide (a2 < 1) = true := decide_eq_true q2
    clear q hbad
    go_enter Try.func12, Try.ntmps12
    go_wp2_with (first
        | ((with_reducible refine gate_dst (N := 6) rfl ?_); (try (refine gate_guard (by rfl) ?_; dsimp only)); refine box_event ?hg (N := 6) ?hd (cs := #[.int .i64 0, .slice none 0 0]) (t := 28) ?hr ?_; (case hd => rfl); (case hg => rfl); (case hr => first | (go_simp; done) | (go_simp; rfl)); intro g6 hg w1 hbox hb; have H_ := Aside0.mk (Hs.push H.out (Nat.le_of_eq hg.symm) hbox hb); clear hbox hb hg; clear H; have H := H_; clear H_)
        | ((with_reducible refine gate_callee (f := 54) rfl ?_); (try (refine gate_guard (by rfl) ?_; dsimp only)); refine goesL_ (some 15) rfl rfl Try.func54 (by kernel_rfl) rfl #[.slice A0 l0.length c0] rfl (by (try simp only [List.map_toArray, List.map_cons, List.map_nil]); first | done | rfl) ?_; (with_reducible refine (impl_NodesFault.calls k A0 c0 l0 _ _ (Kd.C_below HR0.out H.out.below) HC0.out ht.out).mono ?_); rintro e w2 ⟨rfl, hb⟩; refine ⟨_, rfl, ?_⟩; have H_ := Aside0.mk (show Hs w w2 [(g6, .cells #[.int .i64 0, .slice none 0 0] 28 (0, 0))] from H.out.call hb); clear hb; clear H; have H := H_; clear H_)
        | ((with_reducible refine gate_store (p := 6) rfl ?_); (try (refine gate_guard (by rfl) ?_; dsimp only)); have hc0_ := H.out.cellv (v := .int .i64 0) 0 rfl 0 rfl; have hf0_ := H.out.frozen 0 rfl 0; have hc1_ := H.out.cellv (v := .slice none 0 0) 0 rfl 1 rfl; have hf1_ := H.out.frozen 0 rfl 1; refine store_at (fun W => (World.setCell (World.setCell W ⟨g6, 0, none⟩ (.int .i64 1)) ⟨g6, 1, none⟩ (.slice none 0 0))) ?hg rfl ?hd ?hr ?_; (case hg => rfl); (case hd => rfl); (case hr => first | (go_simp; done) | (go_simp; rfl)); intro w3 hw; have H_ := Aside0.mk (show Hs w w3 [(g6, .cells #[.int .i64 1, .slice none 0 0] 28 (0, 0))] from by rw [hw]; exact ((H.out.set 0 rfl 0 (.int .i64 1)).set 0 rfl 1 (.slice none 0 0))); clear hw hc0_ hf0_ hc1_ hf1_; clear H; have H := H_; clear H_))
    exact bodyPost_ret (results_cell_row rfl _ _ g6 28 #[.int .i64 1, .slice none 0 0] (0, 0) _ rfl (H.out.get 0 rfl) Try.underlying28 rfl (by kernel_rfl)) rfl ⟨_, rfl, Kd.R_nil _ _ _ _ _, H.out.below⟩
  have m2 : decide (a2 < 1) = false := decide_eq_false q2
  by_cases q3 : a2 > 64
  · have m3 : decide (a2 > 64) = true := decide_eq_true q3
    have m3' : decide (64 < a2) = true := decide_eq_true q3
    clear q hbad
    go_enter Try.func12, Try.ntmps12
    go_wp2_with (first
        | ((with_reducible refine gate_dst (N := 6) rfl ?_); (try (refine gate_guard (by rfl) ?_; dsimp only)); refine box_event ?hg (N := 6) ?hd (cs := #[.int .i64 0, .slice none 0 0]) (t := 28) ?hr ?_; (case hd => rfl); (case hg => rfl); (case hr => first | (go_simp; done) | (go_simp; rfl)); intro g6 hg w1 hbox hb; have H_ := Aside0.mk (Hs.push H.out (Nat.le_of_eq hg.symm) hbox hb); clear hbox hb hg; clear H; have H := H_; clear H_)
        | ((with_reducible refine gate_callee (f := 54) rfl ?_); (try (refine gate_guard (by rfl) ?_; dsimp only)); refine goesL_ (some 15) rfl rfl Try.func54 (by kernel_rfl) rfl #[.slice A0 l0.length c0] rfl (by (try simp only [List.map_toArray, List.map_cons, List.map_nil]); first | done | rfl) ?_; (with_reducible refine (impl_NodesFault.calls k A0 c0 l0 _ _ (Kd.C_below HR0.out H.out.below) HC0.out ht.out).mono ?_); rintro e w2 ⟨rfl, hb⟩; refine ⟨_, rfl, ?_⟩; have H_ := Aside0.mk (show Hs w w2 [(g6, .cells #[.int .i64 0, .slice none 0 0] 28 (0, 0))] from H.out.call hb); clear hb; clear H; have H := H_; clear H_)
        | ((with_reducible refine gate_store (p := 6) rfl ?_); (try (refine gate_guard (by rfl) ?_; dsimp only)); have hc0_ := H.out.cellv (v := .int .i64 0) 0 rfl 0 rfl; have hf0_ := H.out.frozen 0 rfl 0; have hc1_ := H.out.cellv (v := .slice none 0 0) 0 rfl 1 rfl; have hf1_ := H.out.frozen 0 rfl 1; refine store_at (fun W => (World.setCell (World.setCell W ⟨g6, 0, none⟩ (.int .i64 1)) ⟨g6, 1, none⟩ (.slice none 0 0))) ?hg rfl ?hd ?hr ?_; (case hg => rfl); (case hd => rfl); (case hr => first | (go_simp; done) | (go_simp; rfl)); intro w3 hw; have H_ := Aside0.mk (show Hs w w3 [(g6, .cells #[.int .i64 1, .slice none 0 0] 28 (0, 0))] from by rw [hw]; exact ((H.out.set 0 rfl 0 (.int .i64 1)).set 0 rfl 1 (.slice none 0 0))); clear hw hc0_ hf0_ hc1_ hf1_; clear H; have H := H_; clear H_))
    exact bodyPost_ret (results_cell_row rfl _ _ g6 28 #[.int .i64 1, .slice none 0 0] (0, 0) _ rfl (H.out.get 0 rfl) Try.underlying28 rfl (by kernel_rfl)) rfl ⟨_, rfl, Kd.R_nil _ _ _ _ _, H.out.below⟩
  have m3 : decide (a2 > 64) = false := decide_eq_false q3
  have m3' : decide (64 < a2) = false := decide_eq_false q3
  have q4 : (a1.size : Int) > 1000 := by omega
  have m4 : decide ((a1.size : Int) > 1000) = true := decide_eq_true q4
  have m4' : decide (1000 < (a1.size : Int)) = true := decide_eq_true q4
  have m4a : decide (1000 < a1.size) = true := decide_eq_true (by omega)
  clear q hbad q4
  go_enter Try.func12, Try.ntmps12
  go_wp2_with (first
      | ((with_reducible refine gate_dst (N := 6) rfl ?_); (try (refine gate_guard (by rfl) ?_; dsimp only)); refine box_event ?hg (N := 6) ?hd (cs := #[.int .i64 0, .slice none 0 0]) (t := 28) ?hr ?_; (case hd => rfl); (case hg => rfl); (case hr => first | (go_simp; done) | (go_simp; rfl)); intro g6 hg w1 hbox hb; have H_ := Aside0.mk (Hs.push H.out (Nat.le_of_eq hg.symm) hbox hb); clear hbox hb hg; clear H; have H := H_; clear H_)
      | ((with_reducible refine gate_callee (f := 54) rfl ?_); (try (refine gate_guard (by rfl) ?_; dsimp only)); refine goesL_ (some 15) rfl rfl Try.func54 (by kernel_rfl) rfl #[.slice A0 l0.length c0] rfl (by (try simp only [List.map_toArray, List.map_cons, List.map_nil]); first | done | rfl) ?_; (with_reducible refine (impl_NodesFault.calls k A0 c0 l0 _ _ (Kd.C_below HR0.out H.out.below) HC0.out ht.out).mono ?_); rintro e w2 ⟨rfl, hb⟩; refine ⟨_, rfl, ?_⟩; have H_ := Aside0.mk (show Hs w w2 [(g6, .cells #[.int .i64 0, .slice none 0 0] 28 (0, 0))] from H.out.call hb); clear hb; clear H; have H := H_; clear H_)
      | ((with_reducible refine gate_store (p := 6) rfl ?_); (try (refine gate_guard (by rfl) ?_; dsimp only)); have hc0_ := H.out.cellv (v := .int .i64 0) 0 rfl 0 rfl; have hf0_ := H.out.frozen 0 rfl 0; have hc1_ := H.out.cellv (v := .slice none 0 0) 0 rfl 1 rfl; have hf1_ := H.out.frozen 0 rfl 1; refine store_at (fun W => (World.setCell (World.setCell W ⟨g6, 0, none⟩ (.int .i64 1)) ⟨g6, 1, none⟩ (.slice none 0 0))) ?hg rfl ?hd ?hr ?_; (case hg => rfl); (case hd => rfl); (case hr => first | (go_simp; done) | (go_simp; rfl)); intro w3 hw; have H_ := Aside0.mk (show Hs w w3 [(g6, .cells #[.int .i64 1, .slice none 0 0] 28 (0, 0))] from by rw [hw]; exact ((H.out.set 0 rfl 0 (.int .i64 1)).set 0 rfl 1 (.slice none 0 0))); clear hw hc0_ hf0_ hc1_ hf1_; clear H; have H := H_; clear H_))
  exact bodyPost_ret (results_cell_row rfl _ _ g6 28 #[.int .i64 1, .slice none 0 0] (0, 0) _ rfl (H.out.get 0 rfl) Try.underlying28 rfl (by kernel_rfl)) rfl ⟨_, rfl, Kd.R_nil _ _ _ _ _, H.out.below⟩

set_option maxHeartbeats 8000000 in
set_option maxRecDepth 100000 in
theorem place_good (k : Nat) (A0 : Option Addr) (c0 : Nat) (l0 : List S32) (a1 : ByteArray) (a2 : Int) (R : List S2) (OF : List Int) (w : World) (hr0 : Kd.C k32 w A0 l0.length l0) (hc0 : l0.length ≤ c0) (h : impl_NodesFault.f k l0 = some 0) (hlen0 : l0.length ≤ 200) (h1 : 1 ≤ a2) (h2 : a2 ≤ 64) (h3 : (a1.size : Int) ≤ 1000)
    (hring0 : ringL k a1 l0 0 [] = some R) (hpick0 : pickL l0 a2 R [] = some OF) (r1 : Int) (r2 : List Int) (hres0 : ((OF.length : Int) < a2 → r1 = 7 ∧ r2 = []) ∧ (a2 ≤ (OF.length : Int) → r1 = 0 ∧ r2 = OF)) :
    Calls Try.prog 12 #[.slice A0 l0.length c0, .string a1, .int .i64 a2] w fun e w' => ∃ v1_ : Value, e = .returned (.agg #[.int .i64 r1, v1_]) ∧ Kd.R (Kd.int .i64) 2 w' w.heap.size (fun _ => True) v1_ r2 ∧ Below w.heap.size w w' := by
  have HR0 := Aside0.mk hr0
  have HC0 := Aside0.mk hc0
  have ht := Aside0.mk h
  clear hr0 hc0 h
  have hu1 := Try.underlying28
  have hu2 := Try.underlying99
  have hu3 := Try.underlying102
  have hu4 := Try.underlying32
  have hu5 := Try.underlying26
  have hring := Aside0.mk hring0
  have hpick := Aside0.mk hpick0
  have hres := Aside0.mk hres0
  have hlen := Aside0.mk hlen0
  clear hring0 hpick0 hlen0 hres0
  have H := Aside0.mk (Hs.nil w)
  have m1 : ((0 : Int) != 0) = false := rfl
  have m2 : decide (a2 < 1) = false := decide_eq_false (by omega)
  have m3 : decide (a2 > 64) = false := decide_eq_false (by omega)
  have m3' : decide (64 < a2) = false := decide_eq_false (by omega)
  have m4 : decide ((a1.size : Int) > 1000) = false := decide_eq_false (by omega)
  have m4' : decide (1000 < (a1.size : Int)) = false := decide_eq_false (by omega)
  have m4a : decide (1000 < a1.size) = false := decide_eq_false (by omega)
  go_enter Try.func12, Try.ntmps12
  go_wp2_with (first
      | ((with_reducible refine gate_dst (N := 6) rfl ?_); (try (refine gate_guard (by rfl) ?_; dsimp only)); refine box_event ?hg (N := 6) ?hd (cs := #[.int .i64 0, .slice none 0 0]) (t := 28) ?hr ?_; (case hd => rfl); (case hg => rfl); (case hr => first | (go_simp; done) | (go_simp; rfl)); intro g6 hg w1 hbox hb; have H_ := Aside0.mk (Hs.push H.out (Nat.le_of_eq hg.symm) hbox hb); clear hbox hb hg; clear H; have H := H_; clear H_)
      | ((with_reducible refine gate_callee (f := 54) rfl ?_); (try (refine gate_guard (by rfl) ?_; dsimp only)); refine goesL_ (some 15) rfl rfl Try.func54 (by kernel_rfl) rfl #[.slice A0 l0.length c0] rfl (by (try simp only [List.map_toArray, List.map_cons, List.map_nil]); first | done | rfl) ?_; (with_reducible refine (impl_NodesFault.calls k A0 c0 l0 _ _ (Kd.C_below HR0.out H.out.below) HC0.out ht.out).mono ?_); rintro e w2 ⟨rfl, hb⟩; refine ⟨_, rfl, ?_⟩; have H_ := Aside0.mk (show Hs w w2 [(g6, .cells #[.int .i64 0, .slice none 0 0] 28 (0, 0))] from H.out.call hb); clear hb; clear H; have H := H_; clear H_)
      | ((with_reducible refine gate_dst (N := 7) rfl ?_); (try (refine gate_guard (by rfl) ?_; dsimp only)); refine box_event ?hg (N := 7) ?hd (cs := #[.int .i64 0, .slice none 0 0]) (t := 28) ?hr ?_; (case hd => rfl); (case hg => rfl); (case hr => first | (go_simp; done) | (go_simp; rfl)); intro g7 hg w3 hbox hb; have H_ := Aside0.mk (Hs.push H.out (Nat.le_of_eq hg.symm) hbox hb); clear hbox hb hg; clear H; have H := H_; clear H_)
      | ((with_reducible refine gate_store (p := 7) rfl ?_); (try (refine gate_guard (by rfl) ?_; dsimp only)); have hc0_ := H.out.cellv (v := .int .i64 0) 0 rfl 0 rfl; have hf0_ := H.out.frozen 0 rfl 0; have hc1_ := H.out.cellv (v := .slice none 0 0) 0 rfl 1 rfl; have hf1_ := H.out.frozen 0 rfl 1; refine store_at (fun W => (World.setCell (World.setCell W ⟨g7, 0, none⟩ (.int .i64 0)) ⟨g7, 1, none⟩ (.slice none 0 0))) ?hg rfl ?hd ?hr ?_; (case hg => rfl); (case hd => rfl); (case hr => first | (go_simp; done) | (go_simp; rfl)); intro w4 hw; have H_ := Aside0.mk (show Hs w w4 [(g7, .cells #[.int .i64 0, .slice none 0 0] 28 (0, 0)), (g6, .cells #[.int .i64 0, .slice none 0 0] 28 (0, 0))] from by rw [hw]; exact ((H.out.set 0 rfl 0 (.int .i64 0)).set 0 rfl 1 (.slice none 0 0))); clear hw hc0_ hf0_ hc1_ hf1_; clear H; have H := H_; clear H_)
      | ((with_reducible refine gate_dst (N := 32) rfl ?_); refine makeMap_ev rfl 98 rfl H.out ?_; intro gm wM hH; have H_ := Aside0.mk hH; clear hH; clear H; have H := H_; clear H_)
      | ((with_reducible refine gate_callee (f := 55) rfl ?_); (try (refine gate_guard (by rfl) ?_; dsimp only)); refine goesL_ (some 35) rfl rfl Try.func55 (by kernel_rfl) rfl #[.slice A0 l0.length c0, .string a1] rfl (by (try simp only [List.map_toArray, List.map_cons, List.map_nil]); first | done | rfl) ?_; (with_reducible refine (ring_calls k A0 c0 l0 a1 R _ (Kd.C_below HR0.out H.out.below) HC0.out hlen.out hring.out).mono ?_); rintro e wR ⟨vR, BR, rfl, hR0, hH0⟩; refine ⟨_, rfl, ?_⟩; have hR1 := Aside0.mk hR0; have H_ := Aside0.mk (hs_in3 (hs_join H.out hH0)); clear hR0 hH0; obtain ⟨AR, zR, hvR⟩ := hR1.out.slice; subst hvR; clear H; have H := H_; clear H_))
  go_loopw [37] (fun v37 wr => ∃ (j : Nat) (O : List Int) (v : Value) (BO : List Blk) (es : Array MapEntry) (cm : Nat), j ≤ R.length ∧ v37 = .int .i64 j ∧ Aside0 (pickL l0 a2 (R.drop j) O = some OF) ∧ Aside0 (RowB 2 1 v O.length (O.map (Value.int .i64)) BO) ∧ Aside0 (mapI es (O.map (domOf l0))) ∧ Aside0 (Hs w wr ((gm, .map es cm) :: (g7, .cells #[.int .i64 0, v] 28 (0, 0)) :: (g6, .cells #[.int .i64 0, .slice none 0 0] 28 (0, 0)) :: (BO ++ (BR ++ []))))) (fun j _ => R.length - (intOf j).toNat)
  case atStart => exact ⟨0, [], _, [], _, _, by omega, rfl, hpick, Aside0.mk (RowB.nil _ _), Aside0.mk mapI_nil, Aside0.mk (hs_in3 (B := []) (H.out))⟩
  case round =>
    clear H hpick
    obtain ⟨j, O, v, BO, es, cm, hj0, rfl, hpk, hBO, hes, H⟩ := hrel
    obtain ⟨AO, zO, hv⟩ := hBO.out.slice
    subst hv
    by_cases hj1 : j < R.length
    · obtain ⟨gR, capR, cur, e1, e2, f1, f2, f3, f4⟩ := hR1.out.form (by omega)
      injection e1 with e3 e4 e5
      subst e3 e5 e2
      clear e4
      obtain ⟨⟨d, s⟩, hit⟩ : ∃ x, R[j]? = some x := ⟨_, List.getElem?_eq_getElem hj1⟩
      have hdr : R.drop j = (d, s) :: R.drop (j + 1) := by
        obtain ⟨h1, h2⟩ := List.getElem?_eq_some_iff.1 hit
        rw [List.drop_eq_getElem_cons h1, h2]
      have hpk1 := hpk.out
      rw [hdr] at hpk1
      by_cases hin : 0 ≤ d ∧ d < (l0.length : Int) ∧ O.length < 1000000
      rotate_left
      · unfold pickL at hpk1; rw [if_neg hin] at hpk1; cases hpk1
      have hstep := Aside0.mk (show (if domOf l0 d ∈ O.map (domOf l0) ∨ (O.length : Int) = a2 then pickL l0 a2 (R.drop (j + 1)) O else pickL l0 a2 (R.drop (j + 1)) (O ++ [d])) = some OF by unfold pickL at hpk1; rwa [if_pos hin] at hpk1)
      have hcl : ∀ q, q < 2 → wr.cell? ⟨gR, j * 2 + q, none⟩ = (cells2 (d, s))[q]? := fun q hq => by
        rw [(Hs.left (B := BO) H.out.tail.tail.tail).cell 0 rfl (j * 2 + q), f4 (j * 2 + q) (by omega), flat_get cells2 2 cells2_len R j q (d, s) hit hq]
      have hr1 : wr.cell? ⟨gR, j * 2, none⟩ = some (.int .i64 d) := hcl 0 (by omega)
      have hr2 : wr.cell? ⟨gR, j * 2 + 1, none⟩ = some (.int .i64 s) := hcl 1 (by omega)
      obtain ⟨ad, hA, hx0, _⟩ := at_T32 HR0.out d hin.1 hin.2.1
      cases hA
      have n1 : 0 ≤ d := hin.1
      have n2 : d < (l0.length : Int) := hin.2.1
      have n3 : decide (0 ≤ d) = true := decide_eq_true n1
      have n4 : decide (d < (l0.length : Int)) = true := decide_eq_true n2
      have hj2 := Aside0.mk hj1
      have hl7 := Aside0.mk (wrap_succ hj1 f1 f2)
      have hq := Aside0.mk (show (O.length + 1) * 8 ≤ 140737488355328 by omega)
      have l1 : (j : Int) < (R.length : Int) := by omega
      have l2 : 0 ≤ (j : Int) := by omega
      have l1' : decide ((j : Int) < (R.length : Int)) = true := decide_eq_true l1
      clear hit hdr hpk1 hin hcl f1 f2 f3 f4
      by_cases hmem : domOf l0 d ∈ O.map (domOf l0)
      · have hdec := Aside0.mk (show decide ((rd_T32 l0 d).f0 ∈ O.map (domOf l0)) = true from decide_eq_true hmem)
        have hn2 := Aside0.mk (show pickL l0 a2 (R.drop (j + 1)) O = some OF by have := hstep.out; rwa [if_pos (Or.inl hmem)] at this)
        clear hmem hstep
        go_wp2_with (first
            | ((with_reducible refine gate_dst (N := 10) rfl ?_); (try (refine gate_guard (by rfl) ?_; dsimp only)); refine box_event ?hg (N := 10) ?hd (cs := #[.int .i64 0, .int .i64 0]) (t := 102) ?hr ?_; (case hd => rfl); (case hg => rfl); (case hr => first | (go_simp; done) | (go_simp; rfl)); intro gx hg w1 hbox hb; have H_ := Aside0.mk (Hs.push H.out (Nat.le_of_eq hg.symm) hbox hb); clear hbox hb hg; clear H; have H := H_; clear H_)
            | ((with_reducible refine gate_store (p := 10) rfl ?_); (try (refine gate_guard (by rfl) ?_; dsimp only)); have hc0_ := H.out.cellv (v := .int .i64 0) 0 rfl 0 rfl; have hf0_ := H.out.frozen 0 rfl 0; have hc1_ := H.out.cellv (v := .int .i64 0) 0 rfl 1 rfl; have hf1_ := H.out.frozen 0 rfl 1; refine store_at (fun W => (World.setCell (World.setCell W ⟨gx, 0, none⟩ (.int .i64 d)) ⟨gx, 1, none⟩ (.int .i64 s))) ?hg rfl ?hd ?hr ?_; (case hg => rfl); (case hd => rfl); (case hr => first | (go_simp; done) | (go_simp; rfl)); intro w2 hw; have H_ := Aside0.mk (show Hs w w2 ((gx, .cells #[.int .i64 d, .int .i64 s] 102 (0, 0)) :: (gm, .map es cm) :: (g7, .cells #[.int .i64 0, .slice AO O.length zO] 28 (0, 0)) :: (g6, .cells #[.int .i64 0, .slice none 0 0] 28 (0, 0)) :: (BO ++ ([(gR, .cells cur 102 (0, 0))] ++ []))) from by rw [hw]; exact ((H.out.set 0 rfl 0 (.int .i64 d)).set 0 rfl 1 (.int .i64 s))); clear hw hc0_ hf0_ hc1_ hf1_; clear H; have H := H_; clear H_; have hnd := (H.out.below.cell (World.block_lt_of_cell? w _ hx0)).trans hx0)
            | ((with_reducible refine gate_dst (N := 43) rfl ?_); (try (refine gate_guard (by rfl) ?_; dsimp only)); have hc_ := H.out.cellv (v := .int .i64 d) 0 rfl 0 rfl; refine load_at (.int .i64 d) ?hg ?hr ?_; (case hg => rfl); (case hr => first | (go_simp; done) | (go_simp; rfl)); clear hc_)
            | ((with_reducible refine gate_dst (N := 50) rfl ?_); refine lookup_ev rfl 98 2 2 (.tmp 48) (.tmp 49) rfl Try.underlying98 Try.underlying2 zero_int gm es cm (O.map (domOf l0)) (rd_T32 l0 d).f0 rfl rfl H.out 1 rfl hes.out ?_; intro vl; rw [hdec.out]))
        go_roundw
        case rel => exact ⟨j + 1, O, _, BO, es, cm, hj2.out, congrArg (Value.int .i64) (hl7.out.trans (Int.natCast_succ j).symm), hn2, hBO, hes, Aside0.mk H.out.tail⟩
        case measure => exact meas_lt hj2.out hl7.out
      · have hdec := Aside0.mk (show decide ((rd_T32 l0 d).f0 ∈ O.map (domOf l0)) = false from decide_eq_false hmem)
        by_cases hful : (O.length : Int) = a2
        · have l3 : ((O.length : Int) == a2) = true := by simpa using hful
          have hn2 := Aside0.mk (show pickL l0 a2 (R.drop (j + 1)) O = some OF by have := hstep.out; rwa [if_pos (Or.inr hful)] at this)
          clear hmem hstep hful
          go_wp2_with (first
              | ((with_reducible refine gate_dst (N := 10) rfl ?_); (try (refine gate_guard (by rfl) ?_; dsimp only)); refine box_event ?hg (N := 10) ?hd (cs := #[.int .i64 0, .int .i64 0]) (t := 102) ?hr ?_; (case hd => rfl); (case hg => rfl); (case hr => first | (go_simp; done) | (go_simp; rfl)); intro gx hg w1 hbox hb; have H_ := Aside0.mk (Hs.push H.out (Nat.le_of_eq hg.symm) hbox hb); clear hbox hb hg; clear H; have H := H_; clear H_)
              | ((with_reducible refine gate_store (p := 10) rfl ?_); (try (refine gate_guard (by rfl) ?_; dsimp only)); have hc0_ := H.out.cellv (v := .int .i64 0) 0 rfl 0 rfl; have hf0_ := H.out.frozen 0 rfl 0; have hc1_ := H.out.cellv (v := .int .i64 0) 0 rfl 1 rfl; have hf1_ := H.out.frozen 0 rfl 1; refine store_at (fun W => (World.setCell (World.setCell W ⟨gx, 0, none⟩ (.int .i64 d)) ⟨gx, 1, none⟩ (.int .i64 s))) ?hg rfl ?hd ?hr ?_; (case hg => rfl); (case hd => rfl); (case hr => first | (go_simp; done) | (go_simp; rfl)); intro w2 hw; have H_ := Aside0.mk (show Hs w w2 ((gx, .cells #[.int .i64 d, .int .i64 s] 102 (0, 0)) :: (gm, .map es cm) :: (g7, .cells #[.int .i64 0, .slice AO O.length zO] 28 (0, 0)) :: (g6, .cells #[.int .i64 0, .slice none 0 0] 28 (0, 0)) :: (BO ++ ([(gR, .cells cur 102 (0, 0))] ++ []))) from by rw [hw]; exact ((H.out.set 0 rfl 0 (.int .i64 d)).set 0 rfl 1 (.int .i64 s))); clear hw hc0_ hf0_ hc1_ hf1_; clear H; have H := H_; clear H_; have hnd := (H.out.below.cell (World.block_lt_of_cell? w _ hx0)).trans hx0)
              | ((with_reducible refine gate_dst (N := 43) rfl ?_); (try (refine gate_guard (by rfl) ?_; dsimp only)); have hc_ := H.out.cellv (v := .int .i64 d) 0 rfl 0 rfl; refine load_at (.int .i64 d) ?hg ?hr ?_; (case hg => rfl); (case hr => first | (go_simp; done) | (go_simp; rfl)); clear hc_)
              | ((with_reducible refine gate_dst (N := 50) rfl ?_); refine lookup_ev rfl 98 2 2 (.tmp 48) (.tmp 49) rfl Try.underlying98 Try.underlying2 zero_int gm es cm (O.map (domOf l0)) (rd_T32 l0 d).f0 rfl rfl H.out 1 rfl hes.out ?_; intro vl; rw [hdec.out])
              | ((with_reducible refine gate_dst (N := 56) rfl ?_); (try (refine gate_guard (by rfl) ?_; dsimp only)); have hc_ := H.out.cellv (v := .slice AO O.length zO) 2 rfl 1 rfl; refine load_at (.slice AO O.length zO) ?hg ?hr ?_; (case hg => rfl); (case hr => first | (go_simp; done) | (go_simp; rfl)); clear hc_))
          go_roundw
          case rel => exact ⟨j + 1, O, _, BO, es, cm, hj2.out, congrArg (Value.int .i64) (hl7.out.trans (Int.natCast_succ j).symm), hn2, hBO, hes, Aside0.mk H.out.tail⟩
          case measure => exact meas_lt hj2.out hl7.out
        · have l3 : ((O.length : Int) == a2) = false := by simpa using hful
          have hn2 := Aside0.mk (show pickL l0 a2 (R.drop (j + 1)) (O ++ [d]) = some OF by have := hstep.out; rwa [if_neg (fun h => h.elim hmem hful)] at this)
          have hnm := Aside0.mk (show (rd_T32 l0 d).f0 ∉ O.map (domOf l0) from hmem)
          clear hmem hstep hful
          go_wp2_with (first
              | ((with_reducible refine gate_dst (N := 10) rfl ?_); (try (refine gate_guard (by rfl) ?_; dsimp only)); refine box_event ?hg (N := 10) ?hd (cs := #[.int .i64 0, .int .i64 0]) (t := 102) ?hr ?_; (case hd => rfl); (case hg => rfl); (case hr => first | (go_simp; done) | (go_simp; rfl)); intro gx hg w1 hbox hb; have H_ := Aside0.mk (Hs.push H.out (Nat.le_of_eq hg.symm) hbox hb); clear hbox hb hg; clear H; have H := H_; clear H_)
              | ((with_reducible refine gate_store (p := 10) rfl ?_); (try (refine gate_guard (by rfl) ?_; dsimp only)); have hc0_ := H.out.cellv (v := .int .i64 0) 0 rfl 0 rfl; have hf0_ := H.out.frozen 0 rfl 0; have hc1_ := H.out.cellv (v := .int .i64 0) 0 rfl 1 rfl; have hf1_ := H.out.frozen 0 rfl 1; refine store_at (fun W => (World.setCell (World.setCell W ⟨gx, 0, none⟩ (.int .i64 d)) ⟨gx, 1, none⟩ (.int .i64 s))) ?hg rfl ?hd ?hr ?_; (case hg => rfl); (case hd => rfl); (case hr => first | (go_simp; done) | (go_simp; rfl)); intro w2 hw; have H_ := Aside0.mk (show Hs w w2 ((gx, .cells #[.int .i64 d, .int .i64 s] 102 (0, 0)) :: (gm, .map es cm) :: (g7, .cells #[.int .i64 0, .slice AO O.length zO] 28 (0, 0)) :: (g6, .cells #[.int .i64 0, .slice none 0 0] 28 (0, 0)) :: (BO ++ ([(gR, .cells cur 102 (0, 0))] ++ []))) from by rw [hw]; exact ((H.out.set 0 rfl 0 (.int .i64 d)).set 0 rfl 1 (.int .i64 s))); clear hw hc0_ hf0_ hc1_ hf1_; clear H; have H := H_; clear H_; have hnd := (H.out.below.cell (World.block_lt_of_cell? w _ hx0)).trans hx0)
              | ((with_reducible refine gate_dst (N := 43) rfl ?_); (try (refine gate_guard (by rfl) ?_; dsimp only)); have hc_ := H.out.cellv (v := .int .i64 d) 0 rfl 0 rfl; refine load_at (.int .i64 d) ?hg ?hr ?_; (case hg => rfl); (case hr => first | (go_simp; done) | (go_simp; rfl)); clear hc_)
              | ((with_reducible refine gate_dst (N := 50) rfl ?_); refine lookup_ev rfl 98 2 2 (.tmp 48) (.tmp 49) rfl Try.underlying98 Try.underlying2 zero_int gm es cm (O.map (domOf l0)) (rd_T32 l0 d).f0 rfl rfl H.out 1 rfl hes.out ?_; intro vl; rw [hdec.out])
              | ((with_reducible refine gate_dst (N := 56) rfl ?_); (try (refine gate_guard (by rfl) ?_; dsimp only)); have hc_ := H.out.cellv (v := .slice AO O.length zO) 2 rfl 1 rfl; refine load_at (.slice AO O.length zO) ?hg ?hr ?_; (case hg => rfl); (case hr => first | (go_simp; done) | (go_simp; rfl)); clear hc_)
              | ((with_reducible refine gate_dst (N := 64) rfl ?_); (try (refine gate_guard (by rfl) ?_; dsimp only)); have hc_ := H.out.cellv (v := .int .i64 d) 0 rfl 0 rfl; refine load_at (.int .i64 d) ?hg ?hr ?_; (case hg => rfl); (case hr => first | (go_simp; done) | (go_simp; rfl)); clear hc_)
              | ((with_reducible refine gate_dst (N := 66) rfl ?_); have hc_ := H.out.cellv (v := .slice AO O.length zO) 2 rfl 1 rfl; refine load_at (.slice AO O.length zO) ?hg ?hr ?_; (case hg => rfl); (case hr => first | (go_simp; done) | (go_simp; rfl)); clear hc_)
              | ((with_reducible refine gate_dst (N := 68) rfl ?_); have hc_ := H.out.cellv (v := .int .i64 d) 0 rfl 0 rfl; refine load_at (.int .i64 d) ?hg ?hr ?_; (case hg => rfl); (case hr => first | (go_simp; done) | (go_simp; rfl)); clear hc_)
              | ((with_reducible refine gate_dst (N := 70) rfl ?_); refine append_ev rfl (.tmp 66) (.tmp 69) 26 2 (.int .i64 0) 1 8 rfl Try.underlying26 (by kernel_rfl) rfl (by decide) (by decide) _ O.length (O.map (Value.int .i64)) [.int .i64 d] rfl rfl rfl (fun u hu => by rw [List.mem_singleton.1 hu]; rfl) hBO.out (hs_out4 H.out) hq.out ?_; intro A1 z1 wD B1 hB1 hH1; have hB2 := Aside0.mk hB1; have H_ := Aside0.mk (hs_in4 hH1); clear hB1 hH1; clear H; have H := H_; clear H_)
              | ((with_reducible refine gate_store (p := 71) rfl ?_); have hc_ := H.out.cellv (v := .slice AO O.length zO) 2 rfl 1 rfl; have hf_ := H.out.frozen 2 rfl 1; refine store_at (fun W => World.setCell W ⟨g7, 1, none⟩ (.slice A1 (O.length + 1) z1)) ?hg rfl ?hd ?hr ?_; (case hg => rfl); (case hd => rfl); (case hr => first | (go_simp; done) | (go_simp; rfl)); intro wE hw; have H_ := Aside0.mk (show Hs w wE ((gx, .cells #[.int .i64 d, .int .i64 s] 102 (0, 0)) :: (gm, .map es1 cm1) :: (g7, .cells #[.int .i64 0, .slice A1 (O.length + 1) z1] 28 (0, 0)) :: (g6, .cells #[.int .i64 0, .slice none 0 0] 28 (0, 0)) :: (B1 ++ ([(gR, .cells cur 102 (0, 0))] ++ []))) from by rw [hw]; exact H.out.set 2 rfl 1 (.slice A1 (O.length + 1) z1)); clear hw hc_ hf_; clear H; have H := H_; clear H_)
              | (refine update_ev rfl rfl 98 2 2 (.tmp 61) (.tmp 62) (.tmp 64) rfl Try.underlying98 Try.underlying2 gm es cm (O.map (domOf l0)) (rd_T32 l0 d).f0 rfl rfl H.out 1 rfl hes.out hnm.out ?_; intro es1 cm1 wU hes1 hU; have hes2 := Aside0.mk hes1; have H_ := Aside0.mk hU; clear hes1 hU; clear H; have H := H_; clear H_))
          go_roundw
          case rel => exact ⟨j + 1, O ++ [d], _, B1, es1, cm1, hj2.out, congrArg (Value.int .i64) (hl7.out.trans (Int.natCast_succ j).symm), hn2, Aside0.mk (by have := hB2.out; rw [List.length_append, List.map_append]; exact this), Aside0.mk (by have := hes2.out; rw [List.map_append]; exact this), Aside0.mk H.out.tail⟩
          case measure => exact meas_lt hj2.out hl7.out
    · obtain rfl : j = R.length := by omega
      have l5 : decide ((R.length : Int) < (R.length : Int)) = false := decide_eq_false (by omega)
      have hOF : O = OF := by have := hpk.out; rw [List.drop_length] at this; exact Option.some.inj this
      subst hOF
      by_cases hful : (O.length : Int) < a2
      · have l3 : decide ((O.length : Int) < a2) = true := decide_eq_true hful
        obtain ⟨rfl, rfl⟩ := hres.out.1 hful
        clear hful
        go_wp2_with (first
            | ((with_reducible refine gate_dst (N := 74) rfl ?_); (try (refine gate_guard (by rfl) ?_; dsimp only)); have hc_ := H.out.cellv (v := .slice AO O.length zO) 1 rfl 1 rfl; refine load_at (.slice AO O.length zO) ?hg ?hr ?_; (case hg => rfl); (case hr => first | (go_simp; done) | (go_simp; rfl)); clear hc_)
            | ((with_reducible refine gate_store (p := 6) rfl ?_); (try (refine gate_guard (by rfl) ?_; dsimp only)); have hc0_ := H.out.cellv (v := .int .i64 0) 2 rfl 0 rfl; have hf0_ := H.out.frozen 2 rfl 0; have hc1_ := H.out.cellv (v := .slice none 0 0) 2 rfl 1 rfl; have hf1_ := H.out.frozen 2 rfl 1; refine store_at (fun W => (World.setCell (World.setCell W ⟨g6, 0, none⟩ (.int .i64 7)) ⟨g6, 1, none⟩ (.slice none 0 0))) ?hg rfl ?hd ?hr ?_; (case hg => rfl); (case hd => rfl); (case hr => first | (go_simp; done) | (go_simp; rfl)); intro w1 hw; have H_ := Aside0.mk (show Hs w w1 ((gm, .map es cm) :: (g7, .cells #[.int .i64 0, .slice AO O.length zO] 28 (0, 0)) :: (g6, .cells #[.int .i64 7, .slice none 0 0] 28 (0, 0)) :: (BO ++ (BR ++ []))) from by rw [hw]; exact ((H.out.set 2 rfl 0 (.int .i64 7)).set 2 rfl 1 (.slice none 0 0))); clear hw hc0_ hf0_ hc1_ hf1_; clear H; have H := H_; clear H_))
        exact bodyPost_ret (results_cell_row rfl _ _ g6 28 #[.int .i64 7, .slice none 0 0] (0, 0) _ rfl (H.out.get 2 rfl) Try.underlying28 rfl (by kernel_rfl)) rfl ⟨_, rfl, Kd.R_nil _ _ _ _ _, H.out.below⟩
      · have l3 : decide ((O.length : Int) < a2) = false := decide_eq_false hful
        obtain ⟨rfl, hr2⟩ := hres.out.2 (Int.not_lt.1 hful)
        have hr3 := hr2.symm
        clear hr2
        subst hr3
        clear hful
        go_wp2_with (first
            | ((with_reducible refine gate_dst (N := 74) rfl ?_); (try (refine gate_guard (by rfl) ?_; dsimp only)); have hc_ := H.out.cellv (v := .slice AO O.length zO) 1 rfl 1 rfl; refine load_at (.slice AO O.length zO) ?hg ?hr ?_; (case hg => rfl); (case hr => first | (go_simp; done) | (go_simp; rfl)); clear hc_)
            | ((with_reducible refine gate_dst (N := 79) rfl ?_); (try (refine gate_guard (by rfl) ?_; dsimp only)); have hc0_ := H.out.cellv (v := .int .i64 0) 1 rfl 0 rfl; have hc1_ := H.out.cellv (v := .slice AO O.length zO) 1 rfl 1 rfl; refine load_at (.agg #[.int .i64 0, .slice AO O.length zO]) ?hg ?hr ?_; (case hg => rfl); (case hr => first | (go_simp; done) | (go_simp; rfl)); clear hc0_ hc1_)
            | ((with_reducible refine gate_store (p := 6) rfl ?_); (try (refine gate_guard (by rfl) ?_; dsimp only)); have hc0_ := H.out.cellv (v := .int .i64 0) 2 rfl 0 rfl; have hf0_ := H.out.frozen 2 rfl 0; have hc1_ := H.out.cellv (v := .slice none 0 0) 2 rfl 1 rfl; have hf1_ := H.out.frozen 2 rfl 1; refine store_at (fun W => (World.setCell (World.setCell W ⟨g6, 0, none⟩ (.int .i64 0)) ⟨g6, 1, none⟩ (.slice AO O.length zO))) ?hg rfl ?hd ?hr ?_; (case hg => rfl); (case hd => rfl); (case hr => first | (go_simp; done) | (go_simp; rfl)); intro w1 hw; have H_ := Aside0.mk (show Hs w w1 ((gm, .map es cm) :: (g7, .cells #[.int .i64 0, .slice AO O.length zO] 28 (0, 0)) :: (g6, .cells #[.int .i64 0, .slice AO O.length zO] 28 (0, 0)) :: (BO ++ (BR ++ []))) from by rw [hw]; exact ((H.out.set 2 rfl 0 (.int .i64 0)).set 2 rfl 1 (.slice AO O.length zO))); clear hw hc0_ hf0_ hc1_ hf1_; clear H; have H := H_; clear H_))
        exact bodyPost_ret (results_cell_row rfl _ _ g6 28 #[.int .i64 0, .slice AO O.length zO] (0, 0) _ rfl (H.out.get 2 rfl) Try.underlying28 rfl (by kernel_rfl)) rfl ⟨_, rfl, int_row O hBO.out (hs_in3_back H.out), H.out.below⟩
theorem impl_PlaceKey.calls (k : Nat) (A0 : Option Addr) (c0 : Nat) (l0 : List (S32)) (a1 : ByteArray) (a2 : Int) (r1 : Int) (r2 : List Int) (w : World) (hr0 : Kd.C k32 w A0 l0.length l0) (hc0 : l0.length ≤ c0) (h : impl_PlaceKey.f k l0 a1 a2 = some (r1, r2)) :
    Calls Try.prog 12 #[.slice A0 l0.length c0, .string a1, .int .i64 a2] w fun e w' => ∃ v1_ : Value, e = .returned (.agg #[.int .i64 r1, v1_]) ∧ Kd.R (Kd.int .i64) 2 w' w.heap.size (fun _ => True) v1_ r2 ∧ Below w.heap.size w w' := by
  unfold impl_PlaceKey.f at h
  obtain ⟨t, ht, h⟩ := Option.bind_eq_some_iff.mp h
  by_cases hbad : t ≠ 0 ∨ a2 < 1 ∨ a2 > 64 ∨ (a1.size : Int) > 1000
  · rw [if_pos hbad] at h
    cases h
    exact place_bad k A0 c0 l0 a1 a2 t w hr0 hc0 ht hbad
  · rw [if_neg hbad] at h
    by_cases hl : l0.length ≤ 200
    rotate_left
    · rw [if_neg hl] at h; cases h
    rw [if_pos hl] at h
    obtain ⟨R, hR, h⟩ := Option.bind_eq_some_iff.mp h
    obtain ⟨O, hO, h⟩ := Option.bind_eq_some_iff.mp h
    obtain rfl : t = 0 := Decidable.not_not.1 (fun c => hbad (Or.inl c))
    refine place_good k A0 c0 l0 a1 a2 R O w hr0 hc0 ht hl (by omega) (by omega) (by omega) hR hO r1 r2 ⟨fun hf => ?_, fun hf => ?_⟩
    · rw [if_pos hf] at h; cases h; exact ⟨rfl, rfl⟩
    · rw [if_neg (Int.not_lt.2 hf)] at h; cases h; exact ⟨rfl, rfl⟩

end Go.Proofs.Ytmkeepildbkmeaa.PFnMoves
