/-
  The plain law Numbers: a number from 0 on, a text and its digits come back, wherever they stand; for all drawn bytes.
-/
import Derived.Test.YtncghlamcbhpmaaPFnNumbersq
import Derived.Test.YtncghlamcbhpmaaNum
namespace Go.Proofs.Ytncghlamcbhpmaa.Pure
open Go.RowKit Go.Proofs.Ytncghlamcbhpmaa.PFnNumbers Go.Proofs.Ytncghlamcbhpmaa.Base Go.Proofs.YtncghlamcbhpmaaW.PrintWords Go.Proofs.YtncghlamcbhpmaaW.PrintLast Go.Proofs.YtncghlamcbhpmaaW.PrintMore
theorem n_tot {l : List Int} (hl : Bytes l) (hn : l.length ≤ 1048576) (at_ sz a : Int) (h0 : 0 ≤ at_) (h1 : at_ ≤ 1099511627776) (ha : a ≤ 4611686018427387904) :
    ∃ v, spec_l01Src_n.f l at_ sz a = some (v, at_ + 1, sz) ∧ 0 ≤ v ∧ (1 ≤ a → v < a) ∧ (a < 1 → v = 0) := by
  have e1 : wrap64 (at_ + 1) = at_ + 1 := w64 (by omega) (by omega)
  have e2 : wrap64 ((at_ + 1) - 1) = at_ := by rw [show at_ + 1 - 1 = at_ by omega]; exact w64 (by omega) (by omega)
  unfold spec_l01Src_n.f
  simp only [e1, e2]
  by_cases c1 : a < 1
  · rw [if_pos c1]; exact ⟨0, rfl, by omega, by omega, by omega⟩
  rw [if_neg c1]
  have hmod : ∀ y : Int, 0 ≤ y → 0 ≤ Int.tmod y a ∧ Int.tmod y a < a := fun y hy => by
    rw [Int.tmod_eq_emod_of_nonneg hy]; exact ⟨Int.emod_nonneg _ (by omega), Int.emod_lt_of_pos _ (by omega)⟩
  by_cases c2 : (l.length : Int) = 0
  · rw [if_pos c2, if_neg (by omega)]
    rw [w64 (x := at_ * 7) (by omega) (by omega)]
    have := hmod (at_ * 7) (by omega)
    exact ⟨_, rfl, this.1, fun _ => this.2, by omega⟩
  rw [if_neg c2]
  have hk : (0 : Int) < l.length := by omega
  have m1 : 0 ≤ Int.tmod at_ l.length ∧ Int.tmod at_ l.length < l.length := by
    rw [Int.tmod_eq_emod_of_nonneg h0]; exact ⟨Int.emod_nonneg _ (by omega), Int.emod_lt_of_pos _ hk⟩
  have q1 : 0 ≤ Int.tdiv at_ l.length ∧ Int.tdiv at_ l.length ≤ at_ := by
    rw [Int.tdiv_eq_ediv_of_nonneg h0]; exact ⟨Int.ediv_nonneg h0 (by omega), Int.ediv_le_self _ h0⟩
  rw [if_pos m1.1, if_pos m1.2]
  have b1 := hl.rd (Int.tmod at_ l.length)
  generalize rd l (Int.tmod at_ l.length) = x1 at *
  generalize Int.tdiv at_ l.length = y1 at *
  rw [w64 (x := x1) (by omega) (by omega), w64 (x := y1) (by omega) (by omega), w64 (x := y1 * 37) (by omega) (by omega), w64 (x := x1 + y1 * 37) (by omega) (by omega)]
  by_cases c3 : a > 200
  · rw [if_pos c3]
    have m2 : 0 ≤ Int.tmod (at_ + 1) l.length ∧ Int.tmod (at_ + 1) l.length < l.length := by
      rw [Int.tmod_eq_emod_of_nonneg (by omega)]; exact ⟨Int.emod_nonneg _ (by omega), Int.emod_lt_of_pos _ hk⟩
    rw [e1] at *
    rw [if_pos m2.1, if_pos m2.2, if_neg (by omega)]
    have b2 := hl.rd (Int.tmod (at_ + 1) l.length)
    generalize rd l (Int.tmod (at_ + 1) l.length) = x2 at *
    rw [w64 (x := x2) (by omega) (by omega), w64 (x := x2 * 13) (by omega) (by omega), w64 (x := (x1 + y1 * 37) * 251) (by omega) (by omega), w64 (x := (x1 + y1 * 37) * 251 + x2 * 13) (by omega) (by omega), w64 (x := (x1 + y1 * 37) * 251 + x2 * 13 + at_) (by omega) (by omega)]
    have := hmod ((x1 + y1 * 37) * 251 + x2 * 13 + at_) (by omega)
    exact ⟨_, rfl, this.1, fun _ => this.2, by omega⟩
  · rw [if_neg c3, if_neg (by omega)]
    have := hmod (x1 + y1 * 37) (by omega)
    exact ⟨_, rfl, this.1, fun _ => this.2, by omega⟩
theorem one_tot {l : List Int} (hl : Bytes l) (hn : l.length ≤ 1048576) (at_ sz a : Int) (h0 : 0 ≤ at_) (h1 : at_ ≤ 1099511627776) (ha : a ≤ 4611686018427387904) :
    ∃ b, spec_l01Src_one.f l at_ sz a = some (b, at_ + 1, sz) := by
  obtain ⟨v, hv, _⟩ := n_tot hl hn at_ sz a h0 h1 ha
  exact ⟨_, by unfold spec_l01Src_one.f; rw [hv]; rfl⟩
theorem source_tot {l : List Int} (hn : l.length ≤ 1048576) : ∃ sz, spec_l01Source.f l = some (l, 0, sz) ∧ 0 ≤ sz ∧ sz ≤ 12 := by
  unfold spec_l01Source.f
  rw [w64 (by omega) (by omega)]
  split
  · exact ⟨12, rfl, by omega, by omega⟩
  · exact ⟨_, rfl, by omega, by omega⟩

theorem bt_lit (s : ByteArray) (i : Int) : 0 ≤ bt s i ∧ bt s i ≤ 255 := bt_range s i
theorem bytes_l0 {l : List Int} (hl : Bytes l) (hn : l.length ≤ 1048576) (sz kd : Int) (N : Nat) (hN : N ≤ 1000000) : ∀ (d i : Nat) (x : List Int) (at_ : Int), i + d = N → i ≤ x.length → x.length ≤ 3 * i → Bytes x → 0 ≤ at_ → at_ + 2 * d ≤ 1099511627700 →
    ∃ (y : List Int) (at2 : Int), Ev (fun k => spec_l01Src_bytes.l0 k (N : Int) x kd (i : Int) l at_ sz) (strOfNums y, at2, sz) ∧ y.length = N ∧ Bytes y ∧ at_ ≤ at2 ∧ at2 ≤ at_ + 2 * d := by
  intro d
  induction d with
  | zero =>
    intro i x at_ hi h1 h2 hx h0 ha
    by_cases c : (x.length : Int) > (N : Int)
    · refine ⟨x.take N, at_, Ev.step (f := fun _ => some (strOfNums (x.take N), at_, sz)) (fun k => ?_) (Ev.now _), by rw [List.length_take]; omega, hx.take _, by omega, by omega⟩
      simp only [spec_l01Src_bytes.l0]
      rw [if_neg (by omega), if_pos c, if_pos (by omega), if_pos (by omega), if_pos (by omega)]
      simp
    · refine ⟨x, at_, Ev.step (f := fun _ => some (strOfNums x, at_, sz)) (fun k => ?_) (Ev.now _), by omega, hx, by omega, by omega⟩
      simp only [spec_l01Src_bytes.l0]
      rw [if_neg (by omega), if_neg c]
  | succ d ih =>
    intro i x at_ hi h1 h2 hx h0 ha
    have ei : wrap64 ((i : Int) + 1) = ((i + 1 : Nat) : Int) := by rw [w64 (by omega) (by omega)]; rfl
    by_cases k0 : kd = 0
    · obtain ⟨v, hv, v0, v1, _⟩ := n_tot hl hn at_ sz 256 h0 (by omega) (by omega)
      have v1 := v1 (by omega)
      obtain ⟨y, at2, he, hy, hb, g1, g2⟩ := ih (i + 1) (x ++ [v]) (at_ + 1) (by omega) (by simp; omega) (by simp; omega) (hx.append (Bytes.cons (by omega) Bytes.nil)) (by omega) (by omega)
      refine ⟨y, at2, Ev.step (fun k => ?_) he, hy, hb, by omega, by omega⟩
      simp only [spec_l01Src_bytes.l0]
      rw [if_pos (by omega), if_pos k0, hv]
      simp only [Option.bind_some]
      rw [if_pos (by omega), ei, Int.emod_eq_of_lt v0 v1]
    by_cases k1 : kd = 1
    · obtain ⟨v, hv, v0, v1, _⟩ := n_tot hl hn at_ sz 9 h0 (by omega) (by omega)
      have v1 := v1 (by omega)
      obtain ⟨y, at2, he, hy, hb, g1, g2⟩ := ih (i + 1) (x ++ [bt (⟨#[32, 9, 61, 46, 13, 10, 45, 97, 95]⟩ : ByteArray) v]) (at_ + 1) (by omega) (by simp; omega) (by simp; omega) (hx.append (Bytes.cons (bt_lit _ _) Bytes.nil)) (by omega) (by omega)
      refine ⟨y, at2, Ev.step (fun k => ?_) he, hy, hb, by omega, by omega⟩
      simp only [spec_l01Src_bytes.l0]
      rw [if_pos (by omega), if_neg k0, if_pos k1, hv]
      simp only [Option.bind_some]
      rw [if_pos v0, if_pos v1, if_pos (by omega), ei]
    by_cases k2 : kd = 2
    · obtain ⟨b, hb1⟩ := one_tot hl hn at_ sz 12 h0 (by omega) (by omega)
      obtain ⟨v, hv, v0, v1, _⟩ := n_tot hl hn (at_ + 1) sz 95 (by omega) (by omega) (by omega)
      have v1 := v1 (by omega)
      have ev : (wrap64 (32 + v)) % 256 = 32 + v := by rw [w64 (by omega) (by omega), Int.emod_eq_of_lt (by omega) (by omega)]
      cases b with
      | true =>
        obtain ⟨y, at2, he, hy, hb, g1, g2⟩ := ih (i + 1) (x ++ [13, 10] ++ [32 + v]) (at_ + 1 + 1) (by omega) (by simp; omega) (by simp; omega) ((hx.append (Bytes.cons (by omega) (Bytes.cons (by omega) Bytes.nil))).append (Bytes.cons (by omega) Bytes.nil)) (by omega) (by omega)
        refine ⟨y, at2, Ev.step (fun k => ?_) he, hy, hb, by omega, by omega⟩
        simp only [spec_l01Src_bytes.l0]
        rw [if_pos (by omega), if_neg k0, if_neg k1, if_pos k2, hb1]
        simp only [Option.bind_some, if_true]
        rw [if_pos (by simp; omega), hv]
        simp only [Option.bind_some]
        rw [if_pos (by simp; omega), ei, ev]
      | false =>
        obtain ⟨y, at2, he, hy, hb, g1, g2⟩ := ih (i + 1) (x ++ [32 + v]) (at_ + 1 + 1) (by omega) (by simp; omega) (by simp; omega) (hx.append (Bytes.cons (by omega) Bytes.nil)) (by omega) (by omega)
        refine ⟨y, at2, Ev.step (fun k => ?_) he, hy, hb, by omega, by omega⟩
        simp only [spec_l01Src_bytes.l0]
        rw [if_pos (by omega), if_neg k0, if_neg k1, if_pos k2, hb1]
        simp only [Option.bind_some]
        rw [if_neg (by decide), hv]
        simp only [Option.bind_some]
        rw [if_pos (by omega), ei, ev]
    · obtain ⟨v, hv, v0, v1, _⟩ := n_tot hl hn at_ sz 23 h0 (by omega) (by omega)
      have v1 := v1 (by omega)
      obtain ⟨y, at2, he, hy, hb, g1, g2⟩ := ih (i + 1) (x ++ [bt (⟨#[97, 98, 99, 100, 101, 102, 103, 104, 32, 105, 106, 107, 108, 109, 110, 111, 112, 46, 32, 101, 116, 97, 111]⟩ : ByteArray) v]) (at_ + 1) (by omega) (by simp; omega) (by simp; omega) (hx.append (Bytes.cons (bt_lit _ _) Bytes.nil)) (by omega) (by omega)
      refine ⟨y, at2, Ev.step (fun k => ?_) he, hy, hb, by omega, by omega⟩
      simp only [spec_l01Src_bytes.l0]
      rw [if_pos (by omega), if_neg k0, if_neg k1, if_neg k2, hv]
      simp only [Option.bind_some]
      rw [if_pos v0, if_pos v1, if_pos (by omega), ei]
theorem bytes_tot {l : List Int} (hl : Bytes l) (hn : l.length ≤ 1048576) (at_ sz n : Int) (n0 : 0 ≤ n) (n1 : n ≤ 1000000) (h0 : 0 ≤ at_) (h1 : at_ + 2 * n ≤ 1099511627600) :
    ∃ (y : List Int) (at2 : Int), Ev (fun k => spec_l01Src_bytes.f k l at_ sz n) (strOfNums y, at2, sz) ∧ (y.length : Int) = n ∧ Bytes y ∧ at_ ≤ at2 ∧ at2 ≤ at_ + 2 * n + 1 := by
  obtain ⟨N, rfl⟩ := Int.eq_ofNat_of_zero_le n0
  obtain ⟨kd, hv, _⟩ := n_tot hl hn at_ sz 6 h0 (by omega) (by omega)
  obtain ⟨y, at2, he, hy, hb, g1, g2⟩ := bytes_l0 hl hn sz kd N (by omega) N 0 [] (at_ + 1) (by omega) (by simp) (by simp) Bytes.nil (by omega) (by omega)
  refine ⟨y, at2, ?_, by omega, hb, by omega, by omega⟩
  unfold spec_l01Src_bytes.f
  exact Ev.bind0 hv he

theorem long_tot {l : List Int} (hl : Bytes l) (hn : l.length ≤ 1048576) (at_ sz : Int) (s0 : 0 ≤ sz) (s1 : sz ≤ 12) (h0 : 0 ≤ at_) (h1 : at_ ≤ 1099511620000) :
    ∃ (y : List Int) (at2 : Int), Ev (fun k => spec_l01Src_long.f k l at_ sz) (strOfNums y, at2, sz) ∧ y.length ≤ 300 ∧ Bytes y ∧ at_ ≤ at2 ∧ at2 ≤ at_ + 700 := by
  unfold spec_l01Src_long.f
  rw [w64 (x := 20 * sz) (by omega) (by omega), w64 (x := 20 + 20 * sz) (by omega) (by omega)]
  obtain ⟨v, hv, v0, v1, _⟩ := n_tot hl hn at_ sz (20 + 20 * sz) h0 (by omega) (by omega)
  have v1 := v1 (by omega)
  obtain ⟨b, hb⟩ := one_tot hl hn (at_ + 1) sz 8 (by omega) (by omega) (by omega)
  cases b with
  | true =>
    obtain ⟨u, hu, u0, u1, _⟩ := n_tot hl hn (at_ + 1 + 1) sz 30 (by omega) (by omega) (by omega)
    have u1 := u1 (by omega)
    obtain ⟨y, at2, he, hy, hy2, g1, g2⟩ := bytes_tot hl hn (at_ + 1 + 1 + 1) sz (55 + u) (by omega) (by omega) (by omega) (by omega)
    refine ⟨y, at2, Ev.bind0 hv (Ev.bind0 hb (Ev.ifT rfl (Ev.bind0 hu (Ev.bind (a := (strOfNums y, at2, sz)) ?_ (Ev.now _))))), by omega, hy2, by omega, by omega⟩
    rw [w64 (x := 55 + u) (by omega) (by omega)]
    exact he
  | false =>
    obtain ⟨y, at2, he, hy, hy2, g1, g2⟩ := bytes_tot hl hn (at_ + 1 + 1) sz v (by omega) (by omega) (by omega) (by omega)
    exact ⟨y, at2, Ev.bind0 hv (Ev.bind0 hb (Ev.ifF (by simp) (Ev.bind he (Ev.now _)))), by omega, hy2, by omega, by omega⟩

theorem putText_tot {l : List Int} (hl : Bytes l) (hn : l.length ≤ 1048576) : ∃ y : List Int, Ev (fun k => spec_DrawPutText.f k l) (strOfNums y) ∧ y.length ≤ 300 ∧ Bytes y := by
  obtain ⟨sz, es, s0, s1⟩ := source_tot hn
  obtain ⟨y, at2, he, hy, hb, _, _⟩ := long_tot hl hn 0 sz s0 s1 (by omega) (by omega)
  exact ⟨y, Ev.bind0 es (Ev.bind he (Ev.now _)), hy, hb⟩

theorem pow128 (j : Nat) : (128 : Int) ^ j = 2 ^ (7 * j) := by
  rw [Int.pow_mul]; rfl
theorem pow128_le {i j : Nat} (h : i ≤ j) : (128 : Int) ^ i ≤ 128 ^ j := by
  have : (128 : Nat) ^ i ≤ 128 ^ j := Nat.pow_le_pow_right (by omega) h
  exact_mod_cast this
theorem pow128_pos (j : Nat) : (1 : Int) ≤ 128 ^ j := pow128_le (i := 0) (Nat.zero_le j)
theorem wraps_u64 (n : Int) (h₀ : 0 ≤ n) (h₁ : n < 2 ^ 63) : IntKind.u64.wrap n = n := by
  simp [IntKind.wrap, IntKind.bits, IntKind.signed]
  omega
theorem or_low {a b : Int} {i : Nat} (ha : 0 ≤ a) (h1 : a < 2 ^ i) (hb : 0 ≤ b) (h2 : b % 2 ^ i = 0) (h3 : b < 2 ^ 63) (hi : i ≤ 63) : Go.bits .or .u64 a b = a + b := by
  have h4 : a < 2 ^ 63 := by
    have : (2 : Nat) ^ i ≤ 2 ^ 63 := Nat.pow_le_pow_right (by omega) hi
    have : (2 : Int) ^ i ≤ 2 ^ 63 := by exact_mod_cast this
    omega
  have e := bits_join .u64 63 (by decide) wraps_u64 i b a hb h2 h3 ha h1 h4
  obtain ⟨x, rfl⟩ := Int.eq_ofNat_of_zero_le ha
  obtain ⟨y, rfl⟩ := Int.eq_ofNat_of_zero_le hb
  have hx : x < 2 ^ 63 := by exact_mod_cast h4
  have hy : y < 2 ^ 63 := by exact_mod_cast h3
  rw [(bits_nat .u64 63 (by decide) wraps_u64 y x hy hx).2] at e
  rw [(bits_nat .u64 63 (by decide) wraps_u64 x y hx hy).2, Nat.or_comm, e]
  omega
theorem step_bits {acc b : Int} {j : Nat} (h0 : 0 ≤ acc) (h1 : acc < 128 ^ j) (hb : 0 ≤ b ∧ b ≤ 255) (hj : j ≤ 8) :
    Go.bits .or .u64 acc (shl .u64 (IntKind.u64.wrap (Go.bits .and .u8 b 127)) ((7 * j : Nat) : Int)) = acc + b % 128 * 128 ^ j := by
  have e1 : Go.bits .and .u8 b 127 = b % 128 := bits_mask .u8 8 (by decide) wraps_u8 7 (by decide) b hb.1 (by omega)
  have hp : b % 128 * 128 ^ j < 2 ^ 63 := by
    have h2 : (128 : Int) ^ (j + 1) ≤ 128 ^ 9 := pow128_le (by omega)
    rw [Int.pow_succ] at h2
    have h3 := pow128_pos j
    have h4 : b % 128 * 128 ^ j ≤ 127 * 128 ^ j := Int.mul_le_mul_of_nonneg_right (by omega) (by omega)
    omega
  have hp0 : 0 ≤ b % 128 * 128 ^ j := Int.mul_nonneg (by omega) (by have := pow128_pos j; omega)
  rw [e1, wraps_u64 _ (by omega) (by omega)]
  have e2 : shl .u64 (b % 128) ((7 * j : Nat) : Int) = b % 128 * 128 ^ j := by
    unfold shl
    rw [Int.toNat_natCast, Nat.min_eq_left (by show 7 * j ≤ 64; omega), ← pow128]
    exact wraps_u64 _ hp0 hp
  rw [e2]
  refine or_low (i := 7 * j) h0 (by rw [← pow128]; exact h1) hp0 ?_ hp (by omega)
  rw [← pow128]
  exact Int.mul_emod_left _ _
theorem next_some {s : ByteArray} {p : Nat} (h : p < s.size) (hs : s.size ≤ 1099511627776) : impl_cursor_next.f s (p : Int) = some (bt s (p : Int), true, s, ((p + 1 : Nat) : Int)) := by
  have hl : impl_cursor_left.f s (p : Int) = some ((s.size : Int) - p, s, (p : Int)) := by
    unfold impl_cursor_left.f
    rw [if_neg (by omega), if_neg (by omega), w64 (by omega) (by omega)]
  unfold impl_cursor_next.f
  rw [hl]
  simp only [Option.bind_some]
  rw [if_neg (by omega), if_pos (by omega), if_pos (by omega), w64 (by omega) (by omega)]
  rfl
theorem next_none {s : ByteArray} {at_ : Int} (h : at_ < 0 ∨ (s.size : Int) ≤ at_) (hs : s.size ≤ 1099511627776) : impl_cursor_next.f s at_ = some (0, false, s, at_) := by
  have hl : ∃ v, impl_cursor_left.f s at_ = some (v, s, at_) ∧ v < 1 := by
    unfold impl_cursor_left.f
    by_cases c1 : at_ < 0
    · exact ⟨-1, by rw [if_pos c1], by omega⟩
    · by_cases c2 : at_ > (s.size : Int)
      · exact ⟨-1, by rw [if_neg c1, if_pos c2], by omega⟩
      · exact ⟨_, by rw [if_neg c1, if_neg c2], by rw [w64 (by omega) (by omega)]; omega⟩
  obtain ⟨v, hv, h1⟩ := hl
  unfold impl_cursor_next.f
  rw [hv]
  simp only [Option.bind_some]
  rw [if_pos h1]
theorem drop_cons {s : ByteArray} {p : Nat} (h : p < s.size) : (bytesOf s).drop p = bt s (p : Int) :: (bytesOf s).drop (p + 1) := by
  have hl : p < (bytesOf s).length := by rw [bytesOf_length]; exact h
  rw [List.drop_eq_getElem_cons hl, bt_bytes, List.getD_eq_getElem?_getD, List.getElem?_eq_getElem hl]
  rfl
theorem cnum_l0 {s : ByteArray} (hs : s.size ≤ 1099511627776) : ∀ (d j : Nat) (acc : Int) (p : Nat), d + j = 9 → 0 ≤ acc → acc < 128 ^ j →
    (∀ v n, pn d ((bytesOf s).drop p) = some (v, n) → ∃ g : Bool, (g = true ↔ (((bytesOf s).drop p).take n).getLast? ≠ some 0 ∨ (n = 1 ∧ j = 0)) ∧ Ev (fun k => impl_cursor_num.l0 k acc ((7 * j : Nat) : Int) s (p : Int)) (acc + 128 ^ j * v, g, s, ((p + n : Nat) : Int))) ∧
    (pn d ((bytesOf s).drop p) = none → ∃ x y, Ev (fun k => impl_cursor_num.l0 k acc ((7 * j : Nat) : Int) s (p : Int)) (x, false, s, y)) := by
  intro d
  induction d with
  | zero =>
    intro j acc p hj h0 h1
    refine ⟨fun v n h => by simp [pn] at h, fun _ => ⟨0, (p : Int), Ev.step (f := fun _ => some (0, false, s, (p : Int))) (fun k => ?_) (Ev.now _)⟩⟩
    simp only [impl_cursor_num.l0]
    rw [if_neg (by omega)]
  | succ d ih =>
    intro j acc p hj h0 h1
    by_cases hp : p < s.size
    · have hb := bt_range s (p : Int)
      have hst := step_bits h0 h1 hb (by omega)
      have hpow : (128 : Int) ^ (j + 1) = 128 ^ j * 128 := Int.pow_succ ..
      have p1 := pow128_pos j
      have p9 : (128 : Int) ^ (j + 1) ≤ 128 ^ 9 := pow128_le (by omega)
      have hnew : acc + bt s (p : Int) % 128 * 128 ^ j < 128 ^ (j + 1) := by
        have : bt s (p : Int) % 128 * 128 ^ j ≤ 127 * 128 ^ j := Int.mul_le_mul_of_nonneg_right (by omega) (by omega)
        omega
      have hnew0 : 0 ≤ acc + bt s (p : Int) % 128 * 128 ^ j := by
        have : 0 ≤ bt s (p : Int) % 128 * 128 ^ j := Int.mul_nonneg (by omega) (by omega)
        omega
      rw [drop_cons hp]
      have head : ∀ k, impl_cursor_num.l0 (k + 1) acc ((7 * j : Nat) : Int) s (p : Int) = if bt s (p : Int) < 128 then (if bt s (p : Int) = 0 then some (acc + bt s (p : Int) % 128 * 128 ^ j, (((7 * j : Nat) : Int) == 0), s, ((p + 1 : Nat) : Int)) else some (acc + bt s (p : Int) % 128 * 128 ^ j, true, s, ((p + 1 : Nat) : Int))) else impl_cursor_num.l0 k (acc + bt s (p : Int) % 128 * 128 ^ j) ((7 * (j + 1) : Nat) : Int) s ((p + 1 : Nat) : Int) := fun k => by
        simp only [impl_cursor_num.l0]
        rw [if_pos (by omega), next_some hp hs]
        simp only [Option.bind_some, if_true]
        rw [if_pos (by omega), hst, w64 (x := acc + bt s (p : Int) % 128 * 128 ^ j) (by omega) (by omega), wraps_u64 (((7 * j : Nat) : Int) + 7) (by omega) (by omega)]
        rw [show ((7 * j : Nat) : Int) + 7 = ((7 * (j + 1) : Nat) : Int) by omega]
      by_cases c1 : bt s (p : Int) < 128
      · refine ⟨fun v n h => ?_, fun h => ?_⟩
        · simp only [pn] at h
          rw [if_pos c1] at h
          simp only [Option.some.injEq, Prod.mk.injEq] at h
          obtain ⟨rfl, rfl⟩ := h
          have em : bt s (p : Int) % 128 * 128 ^ j = 128 ^ j * bt s (p : Int) := by
            rw [Int.emod_eq_of_lt hb.1 c1, Int.mul_comm]
          by_cases c2 : bt s (p : Int) = 0
          · refine ⟨((7 * j : Nat) : Int) == 0, ?_, Ev.step (f := fun _ => some (acc + bt s (p : Int) % 128 * 128 ^ j, (((7 * j : Nat) : Int) == 0), s, ((p + 1 : Nat) : Int))) (fun k => by rw [head, if_pos c1, if_pos c2]) (by rw [em]; exact Ev.now _)⟩
            simp [c2]
            omega
          · refine ⟨true, by simp [c2], Ev.step (f := fun _ => some (acc + bt s (p : Int) % 128 * 128 ^ j, true, s, ((p + 1 : Nat) : Int))) (fun k => by rw [head, if_pos c1, if_neg c2]) (by rw [em]; exact Ev.now _)⟩
        · simp only [pn] at h
          rw [if_pos c1] at h
          cases h
      · obtain ⟨i1, i2⟩ := ih (j + 1) (acc + bt s (p : Int) % 128 * 128 ^ j) (p + 1) (by omega) hnew0 hnew
        refine ⟨fun v n h => ?_, fun h => ?_⟩
        · simp only [pn] at h
          rw [if_neg c1, Option.map_eq_some_iff] at h
          obtain ⟨⟨x, m⟩, hx, he⟩ := h
          simp only [Prod.mk.injEq] at he
          obtain ⟨rfl, rfl⟩ := he
          obtain ⟨g, hg, he⟩ := i1 x m hx
          have hm := (pn_some ((Bytes.of s).drop (p + 1)) hx).2.1
          refine ⟨g, ?_, Ev.step (fun k => by rw [head, if_neg c1]) ?_⟩
          · rw [hg, List.take_succ_cons]
            have hne : ((bytesOf s).drop (p + 1)).take m ≠ [] := by
              have hf := (pn_some ((Bytes.of s).drop (p + 1)) hx).2.2.2.1
              intro h0
              rw [h0] at hf
              exact hf
            rw [List.getLast?_cons_of_ne_nil hne]
            constructor
            · rintro (h | ⟨_, h⟩)
              · exact .inl h
              · omega
            · rintro (h | ⟨h, _⟩)
              · exact .inl h
              · omega
          · have e1 : acc + bt s (p : Int) % 128 * 128 ^ j + 128 ^ (j + 1) * x = acc + 128 ^ j * (bt s (p : Int) - 128 + 128 * x) := by
              have : bt s (p : Int) % 128 = bt s (p : Int) - 128 := by omega
              rw [this, hpow, Int.mul_assoc, Int.add_assoc, Int.mul_comm (bt s (p : Int) - 128), ← Int.mul_add]
            rw [e1] at he
            rw [show ((p + (m + 1) : Nat) : Int) = ((p + 1 + m : Nat) : Int) by omega]
            exact he
        · simp only [pn] at h
          rw [if_neg c1, Option.map_eq_none_iff] at h
          obtain ⟨x, y, he⟩ := i2 h
          exact ⟨x, y, Ev.step (fun k => by rw [head, if_neg c1]) he⟩
    · have e : (bytesOf s).drop p = [] := List.drop_of_length_le (by rw [bytesOf_length]; omega)
      rw [e]
      refine ⟨fun v n h => by simp [pn] at h, fun _ => ⟨0, (p : Int), Ev.step (f := fun _ => some (0, false, s, (p : Int))) (fun k => ?_) (Ev.now _)⟩⟩
      simp only [impl_cursor_num.l0]
      rw [if_pos (by omega), next_none (by omega) hs]
      simp
/-- The number at a place, as the document has it. -/
def rnum (s : ByteArray) (at_ : Int) : Bool × Int × Int :=
  if at_ < 0 ∨ (s.size : Int) ≤ at_ then (false, 0, 0) else
    match pn 9 ((bytesOf s).drop at_.toNat) with
    | some (v, n) => if least (((bytesOf s).drop at_.toNat).take n) then (true, v, at_ + n) else (false, 0, 0)
    | none => (false, 0, 0)
theorem rnum_bounds {s : ByteArray} {at_ v nx : Int} (h : rnum s at_ = (true, v, nx)) : 0 ≤ at_ ∧ at_ < nx ∧ nx ≤ at_ + 9 ∧ nx ≤ s.size ∧ 0 ≤ v ∧ v < 9223372036854775808 := by
  unfold rnum at h
  by_cases c : at_ < 0 ∨ (s.size : Int) ≤ at_
  · rw [if_pos c] at h; simp at h
  · rw [if_neg c] at h
    split at h
    · rename_i v' n hp
      split at h
      · simp only [Prod.mk.injEq, true_and] at h
        obtain ⟨rfl, rfl⟩ := h
        obtain ⟨h1, h2, h3, h4, h5⟩ := pn_some ((Bytes.of s).drop at_.toNat) hp
        have h6 := val_nonneg (((bytesOf s).drop at_.toNat).take n)
        have h7 := val_lt (((bytesOf s).drop at_.toNat).take n)
        have h8 : (128 : Int) ^ (((bytesOf s).drop at_.toNat).take n).length ≤ 128 ^ 9 := pow128_le (by rw [List.length_take]; omega)
        rw [List.length_drop, bytesOf_length] at h3
        have : (128 : Int) ^ 9 = 9223372036854775808 := by decide
        refine ⟨by omega, by omega, by omega, by omega, by omega, by omega⟩
      · simp at h
    · simp at h
theorem cnum_eq (s : ByteArray) (hs : s.size ≤ 1099511627776) (at_ : Int) :
    ((rnum s at_).1 = true → Ev (fun k => impl_cursor_num.f k s at_) ((rnum s at_).2.1, true, s, (rnum s at_).2.2)) ∧
    ((rnum s at_).1 = false → ∃ x y, Ev (fun k => impl_cursor_num.f k s at_) (x, false, s, y)) := by
  unfold rnum impl_cursor_num.f
  by_cases c : at_ < 0 ∨ (s.size : Int) ≤ at_
  · rw [if_pos c]
    refine ⟨fun h => by simp at h, fun _ => ⟨0, at_, Ev.step (f := fun _ => some (0, false, s, at_)) (fun k => ?_) (Ev.now _)⟩⟩
    simp only [impl_cursor_num.l0]
    rw [if_pos (by omega), next_none c hs]
    simp
  · rw [if_neg c]
    obtain ⟨p, rfl⟩ := Int.eq_ofNat_of_zero_le (show 0 ≤ at_ by omega)
    obtain ⟨i1, i2⟩ := cnum_l0 hs 9 0 0 p (by omega) (by omega) (by decide)
    simp only [Int.toNat_natCast]
    cases hp : pn 9 ((bytesOf s).drop p) with
    | none =>
      refine ⟨fun h => by simp at h, fun _ => ?_⟩
      exact i2 hp
    | some x =>
      obtain ⟨v, n⟩ := x
      obtain ⟨g, hg, he⟩ := i1 v n hp
      have h3 := pn_some ((Bytes.of s).drop p) hp
      have hgl : g = true ↔ least (((bytesOf s).drop p).take n) := by
        rw [hg]
        unfold least
        rw [List.length_take, Nat.min_eq_left h3.2.2.1]
        constructor
        · rintro (h | ⟨h, _⟩)
          · exact .inr h
          · exact .inl h
        · rintro (h | h)
          · exact .inr ⟨h, rfl⟩
          · exact .inl h
      have e : (0 : Int) + 128 ^ 0 * v = v := by simp
      rw [e] at he
      by_cases cl : least (((bytesOf s).drop p).take n)
      · have : g = true := hgl.2 cl
        subst this
        simp only [if_pos cl]
        refine ⟨fun _ => ?_, fun h => by simp at h⟩
        exact he
      · have : g = false := by
          cases g
          · rfl
          · exact absurd (hgl.1 rfl) cl
        subst this
        simp only [if_neg cl]
        refine ⟨fun h => by simp at h, fun _ => ?_⟩
        exact ⟨_, _, he⟩

/-- The text at a place, as the document has it. -/
def rtext (s : ByteArray) (at_ : Int) : Bool × ByteArray × Int :=
  if (rnum s at_).1 = true then
    (if (rnum s at_).2.1 > 100000 ∨ (rnum s at_).2.1 > (s.size : Int) - (rnum s at_).2.2 then (false, (⟨#[]⟩ : ByteArray), 0)
     else (true, s.extract (rnum s at_).2.2.toNat ((rnum s at_).2.2 + (rnum s at_).2.1).toNat, (rnum s at_).2.2 + (rnum s at_).2.1))
  else (false, (⟨#[]⟩ : ByteArray), 0)
theorem take_eq (s : ByteArray) (hs : s.size ≤ 1099511627776) (at_ n : Int) (h0 : 0 ≤ at_) (h1 : at_ ≤ s.size) (hn : 0 ≤ n) (hn2 : n < 9223372036854775808) :
    impl_cursor_take.f s at_ n = if n > (s.size : Int) - at_ then some ((⟨#[]⟩ : ByteArray), false, s, at_) else some (s.extract at_.toNat (at_ + n).toNat, true, s, at_ + n) := by
  have hl : impl_cursor_left.f s at_ = some ((s.size : Int) - at_, s, at_) := by
    unfold impl_cursor_left.f
    rw [if_neg (by omega), if_neg (by omega), w64 (by omega) (by omega)]
  unfold impl_cursor_take.f
  rw [if_neg (by omega), hl]
  simp only [Option.bind_some]
  by_cases c : n > (s.size : Int) - at_
  · rw [if_pos c, if_pos c]
  · rw [if_neg c, if_pos (by omega), w64 (x := at_ + n) (by omega) (by omega), if_pos (by omega), if_pos (by omega), if_neg c]
theorem ctext_eq (s : ByteArray) (hs : s.size ≤ 1099511627776) (at_ : Int) :
    ((rtext s at_).1 = true → Ev (fun k => impl_cursor_text.f k s at_) ((rtext s at_).2.1, true, s, (rtext s at_).2.2)) ∧
    ((rtext s at_).1 = false → ∃ x y, Ev (fun k => impl_cursor_text.f k s at_) (x, false, s, y)) := by
  obtain ⟨i1, i2⟩ := cnum_eq s hs at_
  unfold rtext impl_cursor_text.f
  cases hb : (rnum s at_).1 with
  | false =>
    simp only [Bool.false_eq_true, if_false]
    refine ⟨fun h => by simp at h, fun _ => ?_⟩
    obtain ⟨x, y, h⟩ := i2 hb
    exact ⟨_, _, Ev.bind h (Ev.ifF (by simp) (Ev.now _))⟩
  | true =>
    have h := i1 hb
    obtain ⟨h1, h2, h3, h4, h5, h6⟩ := rnum_bounds (s := s) (at_ := at_) (v := (rnum s at_).2.1) (nx := (rnum s at_).2.2) (by rw [← hb])
    simp only [if_true]
    generalize (rnum s at_).2.1 = v at *
    generalize (rnum s at_).2.2 = nx at *
    have ht := take_eq s hs nx v (by omega) (by omega) (by omega) (by omega)
    by_cases c1 : v > 100000
    · have hyes : v > 100000 ∨ v > (s.size : Int) - nx := Or.inl c1
      simp only [if_pos hyes]
      refine ⟨fun h => by simp at h, fun _ => ⟨_, _, Ev.bind h (Ev.ifT rfl (Ev.ifT c1 (Ev.now _)))⟩⟩
    · by_cases c2 : v > (s.size : Int) - nx
      · have hyes : v > 100000 ∨ v > (s.size : Int) - nx := Or.inr c2
        simp only [if_pos hyes]
        rw [if_pos c2] at ht
        exact ⟨fun h => by simp at h, fun _ => ⟨_, _, Ev.bind h (Ev.ifT rfl (Ev.ifF c1 (Ev.bind0 ht (Ev.now _))))⟩⟩
      · have hno : ¬ (v > 100000 ∨ v > (s.size : Int) - nx) := by omega
        simp only [if_neg hno]
        rw [if_neg c2] at ht
        exact ⟨fun _ => Ev.bind h (Ev.ifT rfl (Ev.ifF c1 (Ev.bind0 ht (Ev.now _)))), fun h => by simp at h⟩
theorem itext_eq (s : ByteArray) (hs : s.size ≤ 1099511627776) (at_ : Int) : Ev (fun k => impl_GetText.f k s at_) (rtext s at_) := by
  obtain ⟨i1, i2⟩ := ctext_eq s hs at_
  unfold impl_GetText.f
  cases hb : (rtext s at_).1 with
  | true =>
    have e : rtext s at_ = (true, (rtext s at_).2.1, (rtext s at_).2.2) := by rw [← hb]
    rw [e]
    exact Ev.bind (i1 hb) (Ev.ifT rfl (Ev.now _))
  | false =>
    have e : rtext s at_ = (false, (⟨#[]⟩ : ByteArray), 0) := by
      unfold rtext at hb ⊢
      split at hb
      · split at hb
        · rename_i h1 h2
          rw [if_pos h1, if_pos h2]
        · simp at hb
      · rename_i h1
        rw [if_neg h1]
    rw [e]
    obtain ⟨x, y, h⟩ := i2 hb
    exact Ev.bind h (Ev.ifF (by simp) (Ev.now _))

theorem putNum_tot {l : List Int} (hl : Bytes l) (hn : l.length ≤ 1048576) : ∃ v, spec_DrawPutNum.f l = some v ∧ -1 ≤ v ∧ v ≤ 9223372036854775807 := by
  obtain ⟨sz, es, s0, s1⟩ := source_tot hn
  obtain ⟨a, ha, a0, a1, _⟩ := n_tot hl hn 0 sz 200 (by omega) (by omega) (by omega)
  obtain ⟨b, hb, b0, b1, _⟩ := n_tot hl hn (0 + 1) sz 40000 (by omega) (by omega) (by omega)
  obtain ⟨c, hc, c0, c1, _⟩ := n_tot hl hn (0 + 1 + 1) sz 1099511627776 (by omega) (by omega) (by omega)
  obtain ⟨d, hd, d0, d1, _⟩ := n_tot hl hn (0 + 1 + 1 + 1) sz 10 (by omega) (by omega) (by omega)
  have a1 := a1 (by omega)
  have b1 := b1 (by omega)
  have c1 := c1 (by omega)
  have d1 := d1 (by omega)
  refine ⟨rd [a, b, (-1), 127, 128, 16383, 16384, 4611686018427387904, 9223372036854775807, c] d, ?_, ?_⟩
  · unfold spec_DrawPutNum.f
    simp only [es, ha, hb, hc, hd, Option.bind_some]
    rw [if_pos d0, if_pos (by simpa using d1)]
  · obtain ⟨m, rfl⟩ := Int.eq_ofNat_of_zero_le d0
    have hm : m < 10 := by omega
    unfold rd
    simp only [Int.toNat_natCast]
    match m, hm with
    | 0, _ => simp; omega
    | 1, _ => simp; omega
    | 2, _ => simp
    | 3, _ => simp
    | 4, _ => simp
    | 5, _ => simp
    | 6, _ => simp
    | 7, _ => simp
    | 8, _ => simp
    | 9, _ => simp; omega
theorem or_128 {b : Int} (h0 : 0 ≤ b) (h1 : b ≤ 255) : Go.bits .or .u8 b 128 = 128 + b % 128 := by
  obtain ⟨m, rfl⟩ := Int.eq_ofNat_of_zero_le h0
  have hm : m < 256 := by omega
  have : ∀ m : Nat, m < 256 → Go.bits .or .u8 (m : Int) 128 = 128 + (m : Int) % 128 := by decide +kernel
  exact this m hm
theorem iput_l0 : ∀ (d : Nat) (v : Int) (x : List Int), 1 ≤ d → d ≤ 9 → 0 ≤ v → v < 128 ^ d → x.length + d ≤ 100 → Ev (fun k => impl_PutNum.l0 k x v) (strOfNums (x ++ puts d v)) := by
  intro d
  induction d with
  | zero => intro v x h; omega
  | succ d ih =>
    intro v x _ hd h0 h1 hx
    by_cases c : v > 127
    · have hd' : v / 128 < 128 ^ d := by rw [Int.pow_succ] at h1; omega
      have d1 : 1 ≤ d := by
        rcases Nat.eq_zero_or_pos d with h0 | h0
        · subst h0; simp at hd'; omega
        · exact h0
      have := ih (v / 128) (x ++ [128 + v % 128]) d1 (by omega) (by omega) hd' (by simp; omega)
      refine Ev.step (fun k => ?_) (show Ev (fun k => impl_PutNum.l0 k (x ++ [128 + v % 128]) (v / 128)) _ from ?_)
      · simp only [impl_PutNum.l0]
        rw [if_pos (by omega), if_pos (by omega), or_128 (by omega) (by omega), show v % 256 % 128 = v % 128 by omega]
      · simp only [puts]
        rw [if_pos c]
        simpa using this
    · refine Ev.step (f := fun _ => some (strOfNums (x ++ [v]))) (fun k => ?_) ?_
      · simp only [impl_PutNum.l0]
        rw [if_neg (by omega), if_pos (by omega), Int.emod_eq_of_lt (a := v) (b := 256) (by omega) (by omega)]
      · simp only [puts]
        rw [if_neg c]
        exact Ev.now _
theorem iput_eq (v : Int) (h0 : 0 ≤ v) (h1 : v < 9223372036854775808) : Ev (fun k => impl_PutNum.f k v) (strOfNums (puts 9 v)) := by
  have e9 : (128 : Int) ^ 9 = 9223372036854775808 := by decide
  unfold impl_PutNum.f
  rw [wraps_u64 v h0 (by omega)]
  exact Ev.ifF (by omega) (iput_l0 9 v [] (by omega) (by omega) h0 (by omega) (by simp))
theorem puts_read (v : Int) (h0 : 0 ≤ v) (h1 : v < 9223372036854775808) (a b : ByteArray) : rnum (a ++ strOfNums (puts 9 v) ++ b) (a.size : Int) = (true, v, (a.size : Int) + (puts 9 v).length) := by
  have e9 : (128 : Int) ^ 9 = 9223372036854775808 := by decide
  obtain ⟨f, e, l⟩ := puts_form (d := 9) (v := v) h0 (by omega) (by omega)
  have pb := puts_bytes 9 v h0
  have hlen := puts_len 9 v
  have hne : 1 ≤ (puts 9 v).length := by
    cases h : puts 9 v with
    | nil => rw [h] at f; exact absurd f (by simp [form])
    | cons a b => simp
  have hsize : (a ++ strOfNums (puts 9 v) ++ b).size = a.size + (puts 9 v).length + b.size := by
    rw [ByteArray.size_append, ByteArray.size_append, strOfNums_size]
  have hdrop : (bytesOf (a ++ strOfNums (puts 9 v) ++ b)).drop a.size = puts 9 v ++ bytesOf b := by
    rw [bytesOf_append, bytesOf_append, bytesOf_str pb, List.append_assoc, ← bytesOf_length a, List.drop_left]
  unfold rnum
  rw [hsize, if_neg (by omega), Int.toNat_natCast, hdrop, pn_of_form pb f (d := 9) hlen]
  simp only [List.take_left]
  rw [if_pos l, e]
theorem iputText_eq (t : ByteArray) (h : t.size ≤ 100000) : Ev (fun k => impl_PutText.f k t) (strOfNums (puts 9 (t.size : Int)) ++ t) := by
  unfold impl_PutText.f
  have hlen := puts_len 9 (t.size : Int)
  refine Ev.ifF (by omega) (Ev.bind (iput_eq (t.size : Int) (by omega) (by omega)) (Ev.ifT ?_ (Ev.now _)))
  rw [strOfNums_size]
  omega
theorem text_read (t : ByteArray) (h : t.size ≤ 100000) (a b : ByteArray) : rtext (a ++ (strOfNums (puts 9 (t.size : Int)) ++ t) ++ b) (a.size : Int) = (true, t, (a.size : Int) + ((puts 9 (t.size : Int)).length + t.size)) := by
  have hr := puts_read (t.size : Int) (by omega) (by omega) a (t ++ b)
  have pb := puts_bytes 9 (t.size : Int) (by omega)
  have e : a ++ (strOfNums (puts 9 (t.size : Int)) ++ t) ++ b = a ++ strOfNums (puts 9 (t.size : Int)) ++ (t ++ b) := by
    apply bytesOf_inj; simp only [bytesOf_append, List.append_assoc]
  have hsize : (a ++ strOfNums (puts 9 (t.size : Int)) ++ (t ++ b)).size = a.size + (puts 9 (t.size : Int)).length + t.size + b.size := by
    simp only [ByteArray.size_append, strOfNums_size]; omega
  rw [e]
  unfold rtext
  rw [hr]
  simp only [if_true]
  have hno : ¬ ((t.size : Int) > 100000 ∨ (t.size : Int) > ((a ++ strOfNums (puts 9 (t.size : Int)) ++ (t ++ b)).size : Int) - ((a.size : Int) + (puts 9 (t.size : Int)).length)) := by rw [hsize]; omega
  rw [if_neg hno]
  congr 1
  have e1 : ((a.size : Int) + ((puts 9 (t.size : Int)).length : Int)).toNat = a.size + (puts 9 (t.size : Int)).length := by omega
  have e2 : ((a.size : Int) + ((puts 9 (t.size : Int)).length : Int) + (t.size : Int)).toNat = a.size + (puts 9 (t.size : Int)).length + t.size := by omega
  rw [e1, e2]
  congr 1
  · apply bytesOf_inj
    rw [bytesOf_extract]
    simp only [bytesOf_append, bytesOf_str pb]
    rw [show a.size + (puts 9 (t.size : Int)).length = (bytesOf a ++ puts 9 (t.size : Int)).length by rw [List.length_append, bytesOf_length], List.drop_left]
    rw [show (bytesOf a ++ puts 9 (t.size : Int)).length + t.size - (bytesOf a ++ puts 9 (t.size : Int)).length = (bytesOf t).length by rw [bytesOf_length]; omega, List.take_left]
  · omega
/-- Digits: two for each byte. -/
def digs : List Int := [48, 49, 50, 51, 52, 53, 54, 55, 56, 57, 97, 98, 99, 100, 101, 102]
def hexl : List Int → List Int
  | [] => []
  | c :: r => digs.getD (c / 16).toNat 0 :: digs.getD (c % 16).toNat 0 :: hexl r
theorem dig_bt (c : Int) (h0 : 0 ≤ c) (h1 : c < 16) : bt (⟨#[48, 49, 50, 51, 52, 53, 54, 55, 56, 57, 97, 98, 99, 100, 101, 102]⟩ : ByteArray) c = digs.getD c.toNat 0 := by
  obtain ⟨m, rfl⟩ := Int.eq_ofNat_of_zero_le h0
  have : ∀ m : Nat, m < 16 → bt (⟨#[48, 49, 50, 51, 52, 53, 54, 55, 56, 57, 97, 98, 99, 100, 101, 102]⟩ : ByteArray) (m : Int) = digs.getD (m : Int).toNat 0 := by decide +kernel
  exact this m (by omega)
theorem dig_byte (n : Nat) : 0 ≤ digs.getD n 0 ∧ digs.getD n 0 ≤ 255 := by
  rw [List.getD_eq_getElem?_getD]
  cases h : digs[n]? with
  | none => simp
  | some x =>
    have := List.mem_of_getElem? h
    simp only [Option.getD_some]
    revert this
    simp only [digs, List.mem_cons, List.not_mem_nil, or_false]
    intro this
    omega
theorem hexl_bytes (l : List Int) : Bytes (hexl l) := by
  induction l with
  | nil => exact Bytes.nil
  | cons c r ih => exact Bytes.cons (dig_byte _) (Bytes.cons (dig_byte _) ih)
theorem hexl_len (l : List Int) : (hexl l).length = 2 * l.length := by
  induction l with
  | nil => rfl
  | cons c r ih => simp only [hexl, List.length_cons, ih]; omega
theorem and15 {b : Int} (h0 : 0 ≤ b) (h1 : b ≤ 255) : Go.bits .and .u8 b 15 = b % 16 := bits_mask .u8 8 (by decide) wraps_u8 4 (by decide) b h0 (by omega)
theorem hex_l0 (t : ByteArray) (ht : t.size ≤ 100000) : ∀ (d i : Nat) (x : List Int), i + d = t.size → x.length = 2 * i → Ev (fun k => impl_Hex.l0 k t x (t.size : Int) (i : Int)) (strOfNums (x ++ hexl ((bytesOf t).drop i))) := by
  intro d
  induction d with
  | zero =>
    intro i x hi hx
    refine Ev.step (f := fun _ => some (strOfNums x)) (fun k => by simp only [impl_Hex.l0]; rw [if_neg (by omega)]) ?_
    rw [List.drop_of_length_le (by rw [bytesOf_length]; omega)]
    simpa [hexl] using Ev.now (strOfNums x)
  | succ d ih =>
    intro i x hi hx
    have hb := bt_range t (i : Int)
    rw [drop_cons (by omega)]
    refine Ev.step (fun k => ?_) (ih (i + 1) (x ++ [digs.getD (bt t (i : Int) / 16).toNat 0, digs.getD (bt t (i : Int) % 16).toNat 0]) (by omega) (by simp; omega)) |> fun h => by simpa [hexl] using h
    simp only [impl_Hex.l0]
    rw [and15 hb.1 hb.2, if_pos (by omega), if_pos (by omega), if_pos (by omega), if_pos (by omega), if_pos (by omega), if_pos (by omega), if_pos (by omega), dig_bt _ (by omega) (by omega), dig_bt _ (by omega) (by omega)]
    simp only [Option.bind_some]
    rw [if_pos (by simp; omega), w64 (by omega) (by omega)]
    rfl
theorem hex_eq (t : ByteArray) (ht : t.size ≤ 100000) : Ev (fun k => impl_Hex.f k t) (strOfNums (hexl (bytesOf t))) := by
  unfold impl_Hex.f
  rw [w64 (x := 2 * (t.size : Int)) (by omega) (by omega)]
  refine Ev.ifF (by omega) (Ev.ifT (by omega) (Ev.ifT (by omega) ?_))
  have := hex_l0 t ht t.size 0 [] (by omega) (by simp)
  simpa using this
theorem hexDigit_eq (c : Int) (h0 : 0 ≤ c) (h1 : c < 16) : Ev (fun k => impl_hexDigit.f k (digs.getD c.toNat 0) 97) c := by
  obtain ⟨m, rfl⟩ := Int.eq_ofNat_of_zero_le h0
  have : ∀ m : Nat, m < 16 → impl_hexDigit.f 1 (digs.getD (m : Int).toNat 0) 97 = some (m : Int) := by decide +kernel
  exact Ev.of (fun k => impl_hexDigit.mono _ _ k) (this m (by omega))
theorem or_hex {c : Int} (h0 : 0 ≤ c) (h1 : c ≤ 255) : Go.bits .or .i64 (wrap64 (c / 16 * 16)) (c % 16) % 256 = c := by
  obtain ⟨m, rfl⟩ := Int.eq_ofNat_of_zero_le h0
  have : ∀ m : Nat, m < 256 → Go.bits .or .i64 (wrap64 ((m : Int) / 16 * 16)) ((m : Int) % 16) % 256 = (m : Int) := by decide +kernel
  exact this m (by omega)
theorem hexl_get (l : List Int) (i : Nat) (h : i < l.length) : (hexl l).getD (2 * i) 0 = digs.getD ((l.getD i 0) / 16).toNat 0 ∧ (hexl l).getD (2 * i + 1) 0 = digs.getD ((l.getD i 0) % 16).toNat 0 := by
  induction l generalizing i with
  | nil => simp at h
  | cons c r ih =>
    cases i with
    | zero => simp [hexl]
    | succ i =>
      have := ih i (by simpa using h)
      simp only [hexl]
      rw [show 2 * (i + 1) = 2 * i + 1 + 1 by omega]
      simpa using this
theorem unhex_l0 (l : List Int) (hl : Bytes l) (hn : l.length ≤ 50000) : ∀ (d i : Nat) (x : List Int), i + d = l.length → x.length = i → x = l.take i → Ev (fun k => impl_UnHex.l0 k (strOfNums (hexl l)) x ((2 * i : Nat) : Int)) (true, strOfNums l, ((hexl l).length : Int)) := by
  have hsz : (strOfNums (hexl l)).size = 2 * l.length := by rw [strOfNums_size, hexl_len]
  intro d
  induction d with
  | zero =>
    intro i x hi hx he
    refine Ev.step (f := fun _ => some (true, strOfNums x, ((strOfNums (hexl l)).size : Int))) (fun k => by simp only [impl_UnHex.l0]; rw [if_neg (by omega)]) ?_
    rw [he, List.take_of_length_le (by omega), strOfNums_size]
    exact Ev.now _
  | succ d ih =>
    intro i x hi hx he
    have hc : 0 ≤ l.getD i 0 ∧ l.getD i 0 ≤ 255 := hl _ (getD_mem 0 (by omega))
    obtain ⟨g1, g2⟩ := hexl_get l i (by omega)
    have b1 : bt (strOfNums (hexl l)) ((2 * i : Nat) : Int) = digs.getD ((l.getD i 0) / 16).toNat 0 := by rw [bt_bytes, bytesOf_str (hexl_bytes l), g1]
    have b2 : bt (strOfNums (hexl l)) ((2 * i + 1 : Nat) : Int) = digs.getD ((l.getD i 0) % 16).toNat 0 := by rw [bt_bytes, bytesOf_str (hexl_bytes l), g2]
    have h1 := hexDigit_eq ((l.getD i 0) / 16) (by omega) (by omega)
    have h2 := hexDigit_eq ((l.getD i 0) % 16) (by omega) (by omega)
    have hnext := ih (i + 1) (x ++ [l.getD i 0]) (by omega) (by simp; omega) (by
      rw [he, List.take_succ_eq_append_getElem (by omega), List.getD_eq_getElem?_getD, List.getElem?_eq_getElem (by omega)]
      rfl)
    refine Ev.step (f := fun k => (impl_hexDigit.f k (digs.getD ((l.getD i 0) / 16).toNat 0) 97).bind fun t230 => ((impl_hexDigit.f k (digs.getD ((l.getD i 0) % 16).toNat 0) 97).bind fun t231 => (if t230 < 0 then (some (false, (⟨#[]⟩ : ByteArray), 0)) else (if t231 < 0 then (some (false, (⟨#[]⟩ : ByteArray), 0)) else (if x.length < 140737488355328 then (impl_UnHex.l0 k (strOfNums (hexl l)) (x ++ [(Go.bits .or .i64 (wrap64 (t230 * 16)) t231) % 256]) ((2 * (i + 1) : Nat) : Int)) else (none)))))) (fun k => ?_) ?_
    · simp only [impl_UnHex.l0]
      have e1 : wrap64 (((2 * i : Nat) : Int) + 1) = ((2 * i + 1 : Nat) : Int) := by rw [w64 (by omega) (by omega)]; omega
      have e2 : wrap64 (((2 * i : Nat) : Int) + 2) = ((2 * (i + 1) : Nat) : Int) := by rw [w64 (by omega) (by omega)]; omega
      have c1 : (0 : Int) ≤ ((2 * i + 1 : Nat) : Int) := by omega
      have c2 : ((2 * i + 1 : Nat) : Int) < ((strOfNums (hexl l)).size : Int) := by omega
      rw [if_pos (by omega), if_pos (by omega), e1]
      simp only [if_pos c1, if_pos c2, b1, b2, e2]
    · refine Ev.bind h1 (Ev.bind h2 (Ev.ifF (by omega) (Ev.ifF (by omega) (Ev.ifT (by omega) ?_))))
      rw [or_hex hc.1 hc.2]
      exact hnext
theorem unhex_eq (t : ByteArray) (ht : t.size ≤ 50000) : Ev (fun k => impl_UnHex.f k (strOfNums (hexl (bytesOf t)))) (true, t, ((hexl (bytesOf t)).length : Int)) := by
  have hsz : (strOfNums (hexl (bytesOf t))).size = 2 * t.size := by rw [strOfNums_size, hexl_len, bytesOf_length]
  unfold impl_UnHex.f
  refine Ev.ifF (by omega) ?_
  have hm : ((((strOfNums (hexl (bytesOf t))).size : Int) % 2) != 0) = false := by
    have : ((strOfNums (hexl (bytesOf t))).size : Int) % 2 = 0 := by omega
    rw [this]; rfl
  rw [hm]
  refine Ev.step (f := fun k => impl_UnHex.l0 k (strOfNums (hexl (bytesOf t))) [] ((2 * 0 : Nat) : Int)) (fun k => ?_) ?_
  · simp only [impl_UnHex.j0]
    rw [if_neg (by decide), w64 (by omega) (by omega), if_pos (by omega), if_pos (by omega)]
    rfl
  · have := unhex_l0 (bytesOf t) (Bytes.of t) (by rw [bytesOf_length]; omega) t.size 0 [] (by rw [bytesOf_length]; omega) rfl (by simp)
    rw [str_bytesOf] at this
    exact this

theorem rnum_false {s : ByteArray} {at_ : Int} (h : (rnum s at_).1 = false) : rnum s at_ = (false, 0, 0) := by
  unfold rnum at h ⊢
  by_cases c : at_ < 0 ∨ (s.size : Int) ≤ at_
  · rw [if_pos c]
  · rw [if_neg c] at h ⊢
    cases hp : pn 9 ((bytesOf s).drop at_.toNat) with
    | none => rfl
    | some x =>
      simp only [hp] at h ⊢
      by_cases l : least (((bytesOf s).drop at_.toNat).take x.2)
      · rw [if_pos l] at h; simp at h
      · rw [if_neg l]
theorem inum_eq (s : ByteArray) (hs : s.size ≤ 1099511627776) (at_ : Int) : Ev (fun k => impl_GetNum.f k s at_) (rnum s at_) := by
  obtain ⟨i1, i2⟩ := cnum_eq s hs at_
  unfold impl_GetNum.f
  cases hb : (rnum s at_).1 with
  | true =>
    have e : rnum s at_ = (true, (rnum s at_).2.1, (rnum s at_).2.2) := by rw [← hb]
    rw [e]
    exact Ev.bind (i1 hb) (Ev.ifT rfl (Ev.now _))
  | false =>
    have e : rnum s at_ = (false, 0, 0) := rnum_false hb
    rw [e]
    obtain ⟨x, y, h⟩ := i2 hb
    exact Ev.bind h (Ev.ifF (by simp) (Ev.now _))
theorem numbers_j0 {l0 l1 : List Int} (h0 : Bytes l0) (n0 : l0.length ≤ 1048576) (h1 : Bytes l1) (n1 : l1.length ≤ 1048576) : Ev (fun k => laws_FnNumbers.j0 k l0 l1 false) true := by
  obtain ⟨v, ev, v0, v1⟩ := putNum_tot h0 n0
  obtain ⟨hd, ehd, hl, hb⟩ := putText_tot h1 n1
  obtain ⟨tx, etx, tl, tb⟩ := putText_tot h0 n0
  refine Ev.step (fun k => by rw [laws_FnNumbers.j0, if_neg (by decide)]) ?_
  refine Ev.bind0 ev (Ev.bind ehd ?_)
  have hsz : (strOfNums hd).size = hd.length := strOfNums_size hd
  by_cases c : v < 0
  · have ep : Ev (fun k => impl_PutNum.f k v) (⟨#[]⟩ : ByteArray) := by unfold impl_PutNum.f; exact Ev.ifT c (Ev.now _)
    have z0 : (⟨#[]⟩ : ByteArray).size = 0 := rfl
    have z1 : (⟨#[120]⟩ : ByteArray).size = 1 := rfl
    have z2 : (⟨#[]⟩ : ByteArray).toList = [] := by rw [toList_data]
    refine Ev.bind ep (Ev.ifT (by omega) (Ev.ifT (by rw [ByteArray.size_append]; omega) (Ev.bind (inum_eq _ (by rw [ByteArray.size_append, ByteArray.size_append]; omega) _) (Ev.ifT c ?_))))
    rw [z2]
    exact Ev.now _
  · have ep := iput_eq v (by omega) (by omega)
    have hp := puts_len 9 v
    have es : (strOfNums (puts 9 v)).size = (puts 9 v).length := strOfNums_size _
    have hr := puts_read v (by omega) (by omega) (strOfNums hd) (⟨#[120]⟩ : ByteArray)
    have hi := inum_eq (strOfNums hd ++ strOfNums (puts 9 v) ++ (⟨#[120]⟩ : ByteArray)) (by simp only [ByteArray.size_append, hsz, es]; simp [ByteArray.size]; omega) ((strOfNums hd).size : Int)
    rw [hr] at hi
    refine Ev.bind ep (Ev.ifT (by omega) (Ev.ifT (by rw [ByteArray.size_append]; omega) (Ev.bind hi (Ev.ifF c ?_))))
    rw [w64 (x := ((strOfNums hd).size : Int) + ((strOfNums (puts 9 v)).size : Int)) (by omega) (by omega), es]
    refine Ev.ifF (by simp) (Ev.bind etx ?_)
    have ets : (strOfNums tx).size = tx.length := strOfNums_size tx
    have eq := iputText_eq (strOfNums tx) (by omega)
    have hq := puts_len 9 ((strOfNums tx).size : Int)
    have eqs : (strOfNums (puts 9 ((strOfNums tx).size : Int)) ++ strOfNums tx).size = (puts 9 ((strOfNums tx).size : Int)).length + (strOfNums tx).size := by rw [ByteArray.size_append, strOfNums_size]
    refine Ev.bind eq (Ev.ifT (by omega) ?_)
    have ht := text_read (strOfNums tx) (by omega) (strOfNums hd) (⟨#[]⟩ : ByteArray)
    have hz : strOfNums hd ++ (strOfNums (puts 9 ((strOfNums tx).size : Int)) ++ strOfNums tx) ++ (⟨#[]⟩ : ByteArray) = strOfNums hd ++ (strOfNums (puts 9 ((strOfNums tx).size : Int)) ++ strOfNums tx) := by
      apply bytesOf_inj; simp [bytesOf_append, bytesOf_nil]
    rw [hz] at ht
    have hi2 := itext_eq (strOfNums hd ++ (strOfNums (puts 9 ((strOfNums tx).size : Int)) ++ strOfNums tx)) (by rw [ByteArray.size_append, eqs]; omega) ((strOfNums hd).size : Int)
    rw [ht] at hi2
    refine Ev.bind hi2 ?_
    rw [w64 (x := ((strOfNums hd).size : Int) + ((strOfNums (puts 9 ((strOfNums tx).size : Int)) ++ strOfNums tx).size : Int)) (by omega) (by omega), eqs]
    refine Ev.ifF (by simp) (Ev.bind (hex_eq (strOfNums tx) (by omega)) (Ev.bind (unhex_eq (strOfNums tx) (by omega)) (Ev.ifT rfl ?_)))
    simpa using Ev.now true
theorem FnNumbers : laws_FnNumbers.Pure := by
  intro l0 l1 ⟨_, w0⟩ ⟨_, w1⟩
  refine Ev.rounds (g := fun k => laws_FnNumbers.f k l0 l1) ?_
  have b0 : Bytes l0 := fun x hx => wf_u8 (w0 x hx)
  have b1 : Bytes l1 := fun x hx => wf_u8 (w1 x hx)
  unfold laws_FnNumbers.f
  have yes : Ev (fun k => laws_FnNumbers.j0 k l0 l1 true) true := Ev.step (f := fun _ => some true) (fun k => by rw [laws_FnNumbers.j0, if_pos rfl]) (Ev.now _)
  by_cases c0 : (l0.length : Int) > 1048576
  · exact Ev.ifT c0 yes
  · refine Ev.ifF c0 ?_
    by_cases c1 : (l1.length : Int) > 1048576
    · simp only [c1, decide_true]; exact yes
    · simp only [c1, decide_false]
      exact numbers_j0 b0 (by omega) b1 (by omega)
end Go.Proofs.Ytncghlamcbhpmaa.Pure
