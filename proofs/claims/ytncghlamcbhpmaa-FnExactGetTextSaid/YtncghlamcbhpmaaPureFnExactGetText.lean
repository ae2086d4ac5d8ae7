/-
  The plain law GetText: the program's answer is the reference's; for all texts and places.
-/
import Derived.Test.YtncghlamcbhpmaaPFnExactGetTextq
import Derived.Test.YtncghlamcbhpmaaNum
namespace Go.Proofs.Ytncghlamcbhpmaa.Pure
open Go.RowKit Go.Proofs.Ytncghlamcbhpmaa.PFnExactGetText Go.Proofs.Ytncghlamcbhpmaa.Base Go.Proofs.YtncghlamcbhpmaaW.PrintWords Go.Proofs.YtncghlamcbhpmaaW.PrintLast Go.Proofs.YtncghlamcbhpmaaW.PrintMore
theorem pow128 (j : Nat) : (128 : Int) ^ j = 2 ^ (7 * j) := by
  rw [Int.pow_mul]; rfl
theorem pow128_le {i j : Nat} (h : i ≤ j) : (128 : Int) ^ i ≤ 128 ^ j := by
  have : (128 : Nat) ^ i ≤ 128 ^ j := Nat.pow_le_pow_right (by omega) h
  exact_mod_cast this
theorem pow128_pos (j : Nat) : (1 : Int) ≤ 128 ^ j := pow128_le (i := 0) (Nat.zero_le j)
theorem wraps_u64 (n : Int) (h₀ : 0 ≤ n) (h₁ : n < 2 ^ 63) : IntKind.u64.wrap n = n := by
  simp [IntKind.wrap, IntKind.bits, IntKind.signed]
  omega
theorem or_low {a b : Int} {i : Nat} (ha : 0 ≤ a) (h1 : a < 2 ^ i) (hb : 0 ≤ b) (h2 : b % 2 ^ i = 0) (h3 : b < 2 ^ 63) (hi : i ≤ 63) : Go.bits .or .u64 a b = a + b := by
  have h4 : a < 2 ^ 63 := by
    have : (2 : Nat) ^ i ≤ 2 ^ 63 := Nat.pow_le_pow_right (by omega) hi
    have : (2 : Int) ^ i ≤ 2 ^ 63 := by exact_mod_cast this
    omega
  have e := bits_join .u64 63 (by decide) wraps_u64 i b a hb h2 h3 ha h1 h4
  obtain ⟨x, rfl⟩ := Int.eq_ofNat_of_zero_le ha
  obtain ⟨y, rfl⟩ := Int.eq_ofNat_of_zero_le hb
  have hx : x < 2 ^ 63 := by exact_mod_cast h4
  have hy : y < 2 ^ 63 := by exact_mod_cast h3
  rw [(bits_nat .u64 63 (by decide) wraps_u64 y x hy hx).2] at e
  rw [(bits_nat .u64 63 (by decide) wraps_u64 x y hx hy).2, Nat.or_comm, e]
  omega
theorem step_bits {acc b : Int} {j : Nat} (h0 : 0 ≤ acc) (h1 : acc < 128 ^ j) (hb : 0 ≤ b ∧ b ≤ 255) (hj : j ≤ 8) :
    Go.bits .or .u64 acc (shl .u64 (IntKind.u64.wrap (Go.bits .and .u8 b 127)) ((7 * j : Nat) : Int)) = acc + b % 128 * 128 ^ j := by
  have e1 : Go.bits .and .u8 b 127 = b % 128 := bits_mask .u8 8 (by decide) wraps_u8 7 (by decide) b hb.1 (by omega)
  have hp : b % 128 * 128 ^ j < 2 ^ 63 := by
    have h2 : (128 : Int) ^ (j + 1) ≤ 128 ^ 9 := pow128_le (by omega)
    rw [Int.pow_succ] at h2
    have h3 := pow128_pos j
    have h4 : b % 128 * 128 ^ j ≤ 127 * 128 ^ j := Int.mul_le_mul_of_nonneg_right (by omega) (by omega)
    omega
  have hp0 : 0 ≤ b % 128 * 128 ^ j := Int.mul_nonneg (by omega) (by have := pow128_pos j; omega)
  rw [e1, wraps_u64 _ (by omega) (by omega)]
  have e2 : shl .u64 (b % 128) ((7 * j : Nat) : Int) = b % 128 * 128 ^ j := by
    unfold shl
    rw [Int.toNat_natCast, Nat.min_eq_left (by show 7 * j ≤ 64; omega), ← pow128]
    exact wraps_u64 _ hp0 hp
  rw [e2]
  refine or_low (i := 7 * j) h0 (by rw [← pow128]; exact h1) hp0 ?_ hp (by omega)
  rw [← pow128]
  exact Int.mul_emod_left _ _
theorem next_some {s : ByteArray} {p : Nat} (h : p < s.size) (hs : s.size ≤ 1099511627776) : impl_cursor_next.f s (p : Int) = some (bt s (p : Int), true, s, ((p + 1 : Nat) : Int)) := by
  have hl : impl_cursor_left.f s (p : Int) = some ((s.size : Int) - p, s, (p : Int)) := by
    unfold impl_cursor_left.f
    rw [if_neg (by omega), if_neg (by omega), w64 (by omega) (by omega)]
  unfold impl_cursor_next.f
  rw [hl]
  simp only [Option.bind_some]
  rw [if_neg (by omega), if_pos (by omega), if_pos (by omega), w64 (by omega) (by omega)]
  rfl
theorem next_none {s : ByteArray} {at_ : Int} (h : at_ < 0 ∨ (s.size : Int) ≤ at_) (hs : s.size ≤ 1099511627776) : impl_cursor_next.f s at_ = some (0, false, s, at_) := by
  have hl : ∃ v, impl_cursor_left.f s at_ = some (v, s, at_) ∧ v < 1 := by
    unfold impl_cursor_left.f
    by_cases c1 : at_ < 0
    · exact ⟨-1, by rw [if_pos c1], by omega⟩
    · by_cases c2 : at_ > (s.size : Int)
      · exact ⟨-1, by rw [if_neg c1, if_pos c2], by omega⟩
      · exact ⟨_, by rw [if_neg c1, if_neg c2], by rw [w64 (by omega) (by omega)]; omega⟩
  obtain ⟨v, hv, h1⟩ := hl
  unfold impl_cursor_next.f
  rw [hv]
  simp only [Option.bind_some]
  rw [if_pos h1]
theorem drop_cons {s : ByteArray} {p : Nat} (h : p < s.size) : (bytesOf s).drop p = bt s (p : Int) :: (bytesOf s).drop (p + 1) := by
  have hl : p < (bytesOf s).length := by rw [bytesOf_length]; exact h
  rw [List.drop_eq_getElem_cons hl, bt_bytes, List.getD_eq_getElem?_getD, List.getElem?_eq_getElem hl]
  rfl
theorem cnum_l0 {s : ByteArray} (hs : s.size ≤ 1099511627776) : ∀ (d j : Nat) (acc : Int) (p : Nat), d + j = 9 → 0 ≤ acc → acc < 128 ^ j →
    (∀ v n, pn d ((bytesOf s).drop p) = some (v, n) → ∃ g : Bool, (g = true ↔ (((bytesOf s).drop p).take n).getLast? ≠ some 0 ∨ (n = 1 ∧ j = 0)) ∧ Ev (fun k => impl_cursor_num.l0 k acc ((7 * j : Nat) : Int) s (p : Int)) (acc + 128 ^ j * v, g, s, ((p + n : Nat) : Int))) ∧
    (pn d ((bytesOf s).drop p) = none → ∃ x y, Ev (fun k => impl_cursor_num.l0 k acc ((7 * j : Nat) : Int) s (p : Int)) (x, false, s, y)) := by
  intro d
  induction d with
  | zero =>
    intro j acc p hj h0 h1
    refine ⟨fun v n h => by simp [pn] at h, fun _ => ⟨0, (p : Int), Ev.step (f := fun _ => some (0, false, s, (p : Int))) (fun k => ?_) (Ev.now _)⟩⟩
    simp only [impl_cursor_num.l0]
    rw [if_neg (by omega)]
  | succ d ih =>
    intro j acc p hj h0 h1
    by_cases hp : p < s.size
    · have hb := bt_range s (p : Int)
      have hst := step_bits h0 h1 hb (by omega)
      have hpow : (128 : Int) ^ (j + 1) = 128 ^ j * 128 := Int.pow_succ ..
      have p1 := pow128_pos j
      have p9 : (128 : Int) ^ (j + 1) ≤ 128 ^ 9 := pow128_le (by omega)
      have hnew : acc + bt s (p : Int) % 128 * 128 ^ j < 128 ^ (j + 1) := by
        have : bt s (p : Int) % 128 * 128 ^ j ≤ 127 * 128 ^ j := Int.mul_le_mul_of_nonneg_right (by omega) (by omega)
        omega
      have hnew0 : 0 ≤ acc + bt s (p : Int) % 128 * 128 ^ j := by
        have : 0 ≤ bt s (p : Int) % 128 * 128 ^ j := Int.mul_nonneg (by omega) (by omega)
        omega
      rw [drop_cons hp]
      have head : ∀ k, impl_cursor_num.l0 (k + 1) acc ((7 * j : Nat) : Int) s (p : Int) = if bt s (p : Int) < 128 then (if bt s (p : Int) = 0 then some (acc + bt s (p : Int) % 128 * 128 ^ j, (((7 * j : Nat) : Int) == 0), s, ((p + 1 : Nat) : Int)) else some (acc + bt s (p : Int) % 128 * 128 ^ j, true, s, ((p + 1 : Nat) : Int))) else impl_cursor_num.l0 k (acc + bt s (p : Int) % 128 * 128 ^ j) ((7 * (j + 1) : Nat) : Int) s ((p + 1 : Nat) : Int) := fun k => by
        simp only [impl_cursor_num.l0]
        rw [if_pos (by omega), next_some hp hs]
        simp only [Option.bind_some, if_true]
        rw [if_pos (by omega), hst, w64 (x := acc + bt s (p : Int) % 128 * 128 ^ j) (by omega) (by omega), wraps_u64 (((7 * j : Nat) : Int) + 7) (by omega) (by omega)]
        rw [show ((7 * j : Nat) : Int) + 7 = ((7 * (j + 1) : Nat) : Int) by omega]
      by_cases c1 : bt s (p : Int) < 128
      · refine ⟨fun v n h => ?_, fun h => ?_⟩
        · simp only [pn] at h
          rw [if_pos c1] at h
          simp only [Option.some.injEq, Prod.mk.injEq] at h
          obtain ⟨rfl, rfl⟩ := h
          have em : bt s (p : Int) % 128 * 128 ^ j = 128 ^ j * bt s (p : Int) := by
            rw [Int.emod_eq_of_lt hb.1 c1, Int.mul_comm]
          by_cases c2 : bt s (p : Int) = 0
          · refine ⟨((7 * j : Nat) : Int) == 0, ?_, Ev.step (f := fun _ => some (acc + bt s (p : Int) % 128 * 128 ^ j, (((7 * j : Nat) : Int) == 0), s, ((p + 1 : Nat) : Int))) (fun k => by rw [head, if_pos c1, if_pos c2]) (by rw [em]; exact Ev.now _)⟩
            simp [c2]
            omega
          · refine ⟨true, by simp [c2], Ev.step (f := fun _ => some (acc + bt s (p : Int) % 128 * 128 ^ j, true, s, ((p + 1 : Nat) : Int))) (fun k => by rw [head, if_pos c1, if_neg c2]) (by rw [em]; exact Ev.now _)⟩
        · simp only [pn] at h
          rw [if_pos c1] at h
          cases h
      · obtain ⟨i1, i2⟩ := ih (j + 1) (acc + bt s (p : Int) % 128 * 128 ^ j) (p + 1) (by omega) hnew0 hnew
        refine ⟨fun v n h => ?_, fun h => ?_⟩
        · simp only [pn] at h
          rw [if_neg c1, Option.map_eq_some_iff] at h
          obtain ⟨⟨x, m⟩, hx, he⟩ := h
          simp only [Prod.mk.injEq] at he
          obtain ⟨rfl, rfl⟩ := he
          obtain ⟨g, hg, he⟩ := i1 x m hx
          have hm := (pn_some ((Bytes.of s).drop (p + 1)) hx).2.1
          refine ⟨g, ?_, Ev.step (fun k => by rw [head, if_neg c1]) ?_⟩
          · rw [hg, List.take_succ_cons]
            have hne : ((bytesOf s).drop (p + 1)).take m ≠ [] := by
              have hf := (pn_some ((Bytes.of s).drop (p + 1)) hx).2.2.2.1
              intro h0
              rw [h0] at hf
              exact hf
            rw [List.getLast?_cons_of_ne_nil hne]
            constructor
            · rintro (h | ⟨_, h⟩)
              · exact .inl h
              · omega
            · rintro (h | ⟨h, _⟩)
              · exact .inl h
              · omega
          · have e1 : acc + bt s (p : Int) % 128 * 128 ^ j + 128 ^ (j + 1) * x = acc + 128 ^ j * (bt s (p : Int) - 128 + 128 * x) := by
              have : bt s (p : Int) % 128 = bt s (p : Int) - 128 := by omega
              rw [this, hpow, Int.mul_assoc, Int.add_assoc, Int.mul_comm (bt s (p : Int) - 128), ← Int.mul_add]
            rw [e1] at he
            rw [show ((p + (m + 1) : Nat) : Int) = ((p + 1 + m : Nat) : Int) by omega]
            exact he
        · simp only [pn] at h
          rw [if_neg c1, Option.map_eq_none_iff] at h
          obtain ⟨x, y, he⟩ := i2 h
          exact ⟨x, y, Ev.step (fun k => by rw [head, if_neg c1]) he⟩
    · have e : (bytesOf s).drop p = [] := List.drop_of_length_le (by rw [bytesOf_length]; omega)
      rw [e]
      refine ⟨fun v n h => by simp [pn] at h, fun _ => ⟨0, (p : Int), Ev.step (f := fun _ => some (0, false, s, (p : Int))) (fun k => ?_) (Ev.now _)⟩⟩
      simp only [impl_cursor_num.l0]
      rw [if_pos (by omega), next_none (by omega) hs]
      simp
/-- The number at a place, as the document has it. -/
def rnum (s : ByteArray) (at_ : Int) : Bool × Int × Int :=
  if at_ < 0 ∨ (s.size : Int) ≤ at_ then (false, 0, 0) else
    match pn 9 ((bytesOf s).drop at_.toNat) with
    | some (v, n) => if least (((bytesOf s).drop at_.toNat).take n) then (true, v, at_ + n) else (false, 0, 0)
    | none => (false, 0, 0)
theorem rnum_bounds {s : ByteArray} {at_ v nx : Int} (h : rnum s at_ = (true, v, nx)) : 0 ≤ at_ ∧ at_ < nx ∧ nx ≤ at_ + 9 ∧ nx ≤ s.size ∧ 0 ≤ v ∧ v < 9223372036854775808 := by
  unfold rnum at h
  by_cases c : at_ < 0 ∨ (s.size : Int) ≤ at_
  · rw [if_pos c] at h; simp at h
  · rw [if_neg c] at h
    split at h
    · rename_i v' n hp
      split at h
      · simp only [Prod.mk.injEq, true_and] at h
        obtain ⟨rfl, rfl⟩ := h
        obtain ⟨h1, h2, h3, h4, h5⟩ := pn_some ((Bytes.of s).drop at_.toNat) hp
        have h6 := val_nonneg (((bytesOf s).drop at_.toNat).take n)
        have h7 := val_lt (((bytesOf s).drop at_.toNat).take n)
        have h8 : (128 : Int) ^ (((bytesOf s).drop at_.toNat).take n).length ≤ 128 ^ 9 := pow128_le (by rw [List.length_take]; omega)
        rw [List.length_drop, bytesOf_length] at h3
        have : (128 : Int) ^ 9 = 9223372036854775808 := by decide
        refine ⟨by omega, by omega, by omega, by omega, by omega, by omega⟩
      · simp at h
    · simp at h
theorem cnum_eq (s : ByteArray) (hs : s.size ≤ 1099511627776) (at_ : Int) :
    ((rnum s at_).1 = true → Ev (fun k => impl_cursor_num.f k s at_) ((rnum s at_).2.1, true, s, (rnum s at_).2.2)) ∧
    ((rnum s at_).1 = false → ∃ x y, Ev (fun k => impl_cursor_num.f k s at_) (x, false, s, y)) := by
  unfold rnum impl_cursor_num.f
  by_cases c : at_ < 0 ∨ (s.size : Int) ≤ at_
  · rw [if_pos c]
    refine ⟨fun h => by simp at h, fun _ => ⟨0, at_, Ev.step (f := fun _ => some (0, false, s, at_)) (fun k => ?_) (Ev.now _)⟩⟩
    simp only [impl_cursor_num.l0]
    rw [if_pos (by omega), next_none c hs]
    simp
  · rw [if_neg c]
    obtain ⟨p, rfl⟩ := Int.eq_ofNat_of_zero_le (show 0 ≤ at_ by omega)
    obtain ⟨i1, i2⟩ := cnum_l0 hs 9 0 0 p (by omega) (by omega) (by decide)
    simp only [Int.toNat_natCast]
    cases hp : pn 9 ((bytesOf s).drop p) with
    | none =>
      refine ⟨fun h => by simp at h, fun _ => ?_⟩
      exact i2 hp
    | some x =>
      obtain ⟨v, n⟩ := x
      obtain ⟨g, hg, he⟩ := i1 v n hp
      have h3 := pn_some ((Bytes.of s).drop p) hp
      have hgl : g = true ↔ least (((bytesOf s).drop p).take n) := by
        rw [hg]
        unfold least
        rw [List.length_take, Nat.min_eq_left h3.2.2.1]
        constructor
        · rintro (h | ⟨h, _⟩)
          · exact .inr h
          · exact .inl h
        · rintro (h | h)
          · exact .inr ⟨h, rfl⟩
          · exact .inl h
      have e : (0 : Int) + 128 ^ 0 * v = v := by simp
      rw [e] at he
      by_cases cl : least (((bytesOf s).drop p).take n)
      · have : g = true := hgl.2 cl
        subst this
        simp only [if_pos cl]
        refine ⟨fun _ => ?_, fun h => by simp at h⟩
        exact he
      · have : g = false := by
          cases g
          · rfl
          · exact absurd (hgl.1 rfl) cl
        subst this
        simp only [if_neg cl]
        refine ⟨fun h => by simp at h, fun _ => ?_⟩
        exact ⟨_, _, he⟩

theorem sput_l0 : ∀ (d : Nat) (v : Int) (x : List Int), 1 ≤ d → d ≤ 9 → 0 ≤ v → v < 128 ^ d → x.length + d ≤ 100 → Ev (fun k => spec_PutNum.l0 k v x) (strOfNums (x ++ puts d v)) := by
  intro d
  induction d with
  | zero => intro v x h; omega
  | succ d ih =>
    intro v x _ hd h0 h1 hx
    have p9 : (128 : Int) ^ (d + 1) ≤ 128 ^ 9 := pow128_le (by omega)
    have e9 : (128 : Int) ^ 9 = 9223372036854775808 := by decide
    by_cases c : v > 127
    · have hd' : v / 128 < 128 ^ d := by rw [Int.pow_succ] at h1; omega
      have d1 : 1 ≤ d := by
        rcases Nat.eq_zero_or_pos d with h0 | h0
        · subst h0; simp at hd'; omega
        · exact h0
      have := ih (v / 128) (x ++ [128 + v % 128]) d1 (by omega) (by omega) hd' (by simp; omega)
      refine Ev.step (fun k => ?_) (show Ev (fun k => spec_PutNum.l0 k (v / 128) (x ++ [128 + v % 128])) _ from ?_)
      · simp only [spec_PutNum.l0]
        rw [if_pos c, if_pos (by omega), Int.tdiv_eq_ediv_of_nonneg h0, Int.tmod_eq_emod_of_nonneg h0, w64 (x := v / 128) (by omega) (by omega), w64 (x := 128 + v % 128) (by omega) (by omega), Int.emod_eq_of_lt (a := 128 + v % 128) (b := 256) (by omega) (by omega)]
      · simp only [puts]
        rw [if_pos c]
        simpa using this
    · refine Ev.step (f := fun _ => some (strOfNums (x ++ [v]))) (fun k => ?_) ?_
      · simp only [spec_PutNum.l0]
        rw [if_neg c, if_pos (by omega), Int.emod_eq_of_lt (a := v) (b := 256) (by omega) (by omega)]
      · simp only [puts]
        rw [if_neg c]
        exact Ev.now _
theorem sput_eq (v : Int) (h0 : 0 ≤ v) (h1 : v < 9223372036854775808) : Ev (fun k => spec_PutNum.f k v) (strOfNums (puts 9 v)) := by
  unfold spec_PutNum.f
  have e9 : (128 : Int) ^ 9 = 9223372036854775808 := by decide
  exact Ev.ifF (by omega) (sput_l0 9 v [] (by omega) (by omega) h0 (by omega) (by simp))
theorem snum_l1 (at_ n : Int) (x : ByteArray) (hx : x.size ≤ 9) (hn : 1 ≤ n) (hn9 : n ≤ 9) (ha : 0 ≤ at_) (ha2 : at_ ≤ 1099511627776) : ∀ (i : Nat), i ≤ x.size →
    Ev (fun k => spec_GetNum.l1 k at_ n x (val ((bytesOf x).drop i)) ((i : Int) - 1)) (if puts 9 (val (bytesOf x)) = bytesOf x then (true, val (bytesOf x), at_ + n) else (false, 0, 0)) := by
  have e9 : (128 : Int) ^ 9 = 9223372036854775808 := by decide
  have hv : ∀ i, val ((bytesOf x).drop i) < 9223372036854775808 := fun i => by
    have h1 := val_lt ((bytesOf x).drop i)
    have h2 : (128 : Int) ^ ((bytesOf x).drop i).length ≤ 128 ^ 9 := pow128_le (by rw [List.length_drop, bytesOf_length]; omega)
    omega
  intro i
  induction i with
  | zero =>
    intro _
    rw [List.drop_zero]
    have v0 := val_nonneg (bytesOf x)
    have v1 := hv 0
    rw [List.drop_zero] at v1
    refine Ev.step (f := fun k => (spec_PutNum.f k (val (bytesOf x))).bind fun t111 => (if t111.toList = x.toList then (some (true, val (bytesOf x), wrap64 (at_ + n))) else (some (false, 0, 0)))) (fun k => ?_) ?_
    · simp only [spec_GetNum.l1]
      rw [if_neg (by omega)]
    · refine Ev.bind (sput_eq _ v0 v1) ?_
      have pb := puts_bytes 9 _ v0
      by_cases c : puts 9 (val (bytesOf x)) = bytesOf x
      · rw [if_pos c]
        refine Ev.ifT ?_ ?_
        · rw [toList_inj, c, str_bytesOf]
        · rw [w64 (by omega) (by omega)]; exact Ev.now _
      · rw [if_neg c]
        refine Ev.ifF ?_ (Ev.now _)
        rw [toList_inj]
        intro h
        have h2 := congrArg bytesOf h
        rw [bytesOf_str pb] at h2
        exact c h2
  | succ i ih =>
    intro hi
    have hl : i < (bytesOf x).length := by rw [bytesOf_length]; omega
    have hc := bt_range x (i : Int)
    have v0 := val_nonneg ((bytesOf x).drop (i + 1))
    have v1 := hv (i + 1)
    have v2 := hv i
    have e : (bytesOf x).drop i = bt x (i : Int) :: (bytesOf x).drop (i + 1) := drop_cons (by omega)
    have ih' := ih (by omega)
    rw [e] at ih' v2
    simp only [val] at ih' v2
    refine Ev.step (fun k => ?_) ih'
    simp only [spec_GetNum.l1]
    rw [if_pos (by omega), if_pos (by omega), if_pos (by omega), show ((i + 1 : Nat) : Int) - 1 = (i : Int) by omega, w64 (x := val ((bytesOf x).drop (i + 1)) * 128) (by omega) (by omega), w64 (x := bt x (i : Int)) (by omega) (by omega), Int.tmod_eq_emod_of_nonneg hc.1, w64 (x := (i : Int) - 1) (by omega) (by omega), w64 (by omega) (by omega)]
    congr 1
    omega
theorem snum_l0 {s : ByteArray} (hs : s.size ≤ 1099511627776) (p : Nat) (hp : p < s.size) : ∀ (d m : Nat), d + m = 9 → p + m ≤ s.size → (∀ c ∈ ((bytesOf s).drop p).take m, 128 ≤ c) →
    (∀ v n, pn d ((bytesOf s).drop (p + m)) = some (v, n) → Ev (fun k => spec_GetNum.l0 k s (p : Int) ((m : Int) + 1)) (if least (((bytesOf s).drop p).take (m + n)) then (true, val (((bytesOf s).drop p).take (m + n)), (p : Int) + ((m + n : Nat) : Int)) else (false, 0, 0))) ∧
    (pn d ((bytesOf s).drop (p + m)) = none → Ev (fun k => spec_GetNum.l0 k s (p : Int) ((m : Int) + 1)) (false, 0, 0)) := by
  intro d
  induction d with
  | zero =>
    intro m hm hpm hc
    refine ⟨fun v n h => by simp [pn] at h, fun _ => ?_⟩
    refine Ev.step (f := fun k => spec_GetNum.j2 k s (p : Int) ((m : Int) + 1) false) (fun k => by simp only [spec_GetNum.l0]; rw [if_neg (by omega)]) ?_
    exact Ev.step (f := fun _ => some (false, 0, 0)) (fun k => by simp only [spec_GetNum.j2]; rw [if_neg (by decide)]) (Ev.now _)
  | succ d ih =>
    intro m hm hpm hc
    have h1 : ∀ k, spec_GetNum.l0 (k + 1) s (p : Int) ((m : Int) + 1) = spec_GetNum.j2 k s (p : Int) ((m : Int) + 1) (decide ((p : Int) + ((m : Int) + 1) ≤ (s.size : Int))) := fun k => by
      simp only [spec_GetNum.l0]
      rw [if_pos (by omega), w64 (by omega) (by omega)]
    by_cases hlt : p + m < s.size
    · have hdec : decide ((p : Int) + ((m : Int) + 1) ≤ (s.size : Int)) = true := by simp; omega
      rw [hdec] at h1
      have hex : (s.extract p (p + m + 1)).size = m + 1 := by rw [size_extract (by omega) (by omega)]; omega
      have hbx : bytesOf (s.extract p (p + m + 1)) = ((bytesOf s).drop p).take (m + 1) := by rw [bytesOf_extract]; congr 1; omega
      have hbm : bt (s.extract p (p + m + 1)) (m : Int) = bt s ((p + m : Nat) : Int) := by
        rw [bt_bytes, bt_bytes, hbx]
        simp [List.getD_eq_getElem?_getD, List.getElem?_drop]
      have h2 : ∀ k, spec_GetNum.j2 (k + 1) s (p : Int) ((m : Int) + 1) true = if bt s ((p + m : Nat) : Int) > 127 then spec_GetNum.l0 k s (p : Int) ((m : Int) + 1 + 1) else spec_GetNum.l1 k (p : Int) ((m : Int) + 1) (s.extract p (p + m + 1)) 0 (m : Int) := fun k => by
        simp only [spec_GetNum.j2, if_true]
        rw [w64 (x := (p : Int) + ((m : Int) + 1)) (by omega) (by omega), w64 (x := (m : Int) + 1 - 1) (by omega) (by omega), if_pos (by omega), if_pos (by omega), if_pos (by omega), if_pos (by omega)]
        rw [show ((p : Int) + ((m : Int) + 1)).toNat = p + m + 1 by omega, show ((p : Int)).toNat = p by omega, show (m : Int) + 1 - 1 = (m : Int) by omega, hbm, if_pos (by rw [hex]; omega), w64 (x := (m : Int) + 1 + 1) (by omega) (by omega)]
      have hcons := drop_cons (s := s) (p := p + m) hlt
      rw [hcons]
      by_cases c1 : bt s ((p + m : Nat) : Int) < 128
      · have htk : (((bytesOf s).drop p).take (m + 1)).length = m + 1 := by rw [List.length_take, List.length_drop, bytesOf_length]; omega
        have tsplit : ((bytesOf s).drop p).take (m + 1) = ((bytesOf s).drop p).take m ++ [bt s ((p + m : Nat) : Int)] := by
          rw [List.take_succ_eq_append_getElem (by rw [List.length_drop, bytesOf_length]; omega)]
          congr 2
          rw [List.getElem_drop, bt_bytes, List.getD_eq_getElem?_getD, List.getElem?_eq_getElem (by rw [bytesOf_length]; omega)]
          rfl
        have hform : form (((bytesOf s).drop p).take (m + 1)) := by
          rw [tsplit]
          generalize ((bytesOf s).drop p).take m = t at hc
          induction t with
          | nil => simpa [form] using c1
          | cons a b iht =>
            rw [List.cons_append, form_cons (by simp)]
            exact ⟨hc a (by simp), iht (fun c hcc => hc c (by simp [hcc]))⟩
        refine ⟨fun v n h => ?_, fun h => ?_⟩
        · simp only [pn] at h
          rw [if_pos c1] at h
          simp only [Option.some.injEq, Prod.mk.injEq] at h
          obtain ⟨rfl, rfl⟩ := h
          have hl1 := snum_l1 (p : Int) ((m : Int) + 1) (s.extract p (p + m + 1)) (by omega) (by omega) (by omega) (by omega) (by omega) (m + 1) (by omega)
          rw [List.drop_of_length_le (by rw [bytesOf_length]; omega)] at hl1
          rw [hbx] at hl1
          have hiff := puts_val (((Bytes.of s).drop p).take (m + 1)) hform (d := 9) (by omega)
          have e1 : ((m + 1 : Nat) : Int) - 1 = (m : Int) := by omega
          rw [e1] at hl1
          refine Ev.step h1 (Ev.step (fun k => by rw [h2, if_neg (by omega)]) ?_)
          simp only [hiff] at hl1
          exact hl1
        · simp only [pn] at h
          rw [if_pos c1] at h
          cases h
      · obtain ⟨i1, i2⟩ := ih (m + 1) (by omega) (by omega) (by
          intro c hcm
          rw [List.take_succ_eq_append_getElem (by rw [List.length_drop, bytesOf_length]; omega)] at hcm
          rcases List.mem_append.1 hcm with h | h
          · exact hc c h
          · have := List.mem_singleton.1 h
            subst this
            rw [List.getElem_drop]
            have e2 : bt s ((p + m : Nat) : Int) = (bytesOf s)[p + m]'(by rw [bytesOf_length]; omega) := by
              rw [bt_bytes, List.getD_eq_getElem?_getD, List.getElem?_eq_getElem (by rw [bytesOf_length]; omega)]
              rfl
            omega)
        refine ⟨fun v n h => ?_, fun h => ?_⟩
        · simp only [pn] at h
          rw [if_neg c1, Option.map_eq_some_iff] at h
          obtain ⟨⟨x, n'⟩, hx, he⟩ := h
          simp only [Prod.mk.injEq] at he
          obtain ⟨rfl, rfl⟩ := he
          have := i1 x n' hx
          rw [show m + (n' + 1) = m + 1 + n' by omega]
          refine Ev.step h1 (Ev.step (fun k => by rw [h2, if_pos (by omega)]) ?_)
          exact this
        · simp only [pn] at h
          rw [if_neg c1, Option.map_eq_none_iff] at h
          refine Ev.step h1 (Ev.step (fun k => by rw [h2, if_pos (by omega)]) ?_)
          exact i2 h
    · have e : (bytesOf s).drop (p + m) = [] := List.drop_of_length_le (by rw [bytesOf_length]; omega)
      rw [e]
      have hdec : decide ((p : Int) + ((m : Int) + 1) ≤ (s.size : Int)) = false := by simp; omega
      rw [hdec] at h1
      refine ⟨fun v n h => by simp [pn] at h, fun _ => ?_⟩
      exact Ev.step h1 (Ev.step (f := fun _ => some (false, 0, 0)) (fun k => by simp only [spec_GetNum.j2]; rw [if_neg (by decide)]) (Ev.now _))
theorem snum_eq (s : ByteArray) (hs : s.size ≤ 1099511627776) (at_ : Int) : Ev (fun k => spec_GetNum.f k s at_) (rnum s at_) := by
  unfold spec_GetNum.f rnum
  have yes : Ev (fun k => spec_GetNum.j0 k s at_ true) (false, 0, 0) := Ev.step (f := fun _ => some (false, 0, 0)) (fun k => by simp only [spec_GetNum.j0, if_true]) (Ev.now _)
  by_cases c1 : at_ < 0
  · rw [if_pos (.inl c1)]; exact Ev.ifT c1 yes
  · refine Ev.ifF c1 ?_
    by_cases c2 : at_ ≥ (s.size : Int)
    · rw [if_pos (.inr c2)]
      simp only [decide_eq_true c2]
      exact yes
    · rw [if_neg (by omega)]
      simp only [decide_eq_false c2]
      obtain ⟨p, rfl⟩ := Int.eq_ofNat_of_zero_le (show 0 ≤ at_ by omega)
      obtain ⟨i1, i2⟩ := snum_l0 hs p (by omega) 9 0 (by omega) (by omega) (by simp)
      refine Ev.step (f := fun k => spec_GetNum.l0 k s (p : Int) ((0 : Nat) + 1)) (fun k => by simp only [spec_GetNum.j0]; rw [if_neg (by decide)]; rfl) ?_
      simp only [Int.toNat_natCast]
      rw [Nat.add_zero] at i1 i2
      cases hp : pn 9 ((bytesOf s).drop p) with
      | none => exact i2 hp
      | some x =>
        obtain ⟨v, n⟩ := x
        have := i1 v n hp
        rw [Nat.zero_add, ← (pn_some ((Bytes.of s).drop p) hp).2.2.2.2] at this
        exact this

/-- The text at a place, as the document has it. -/
def rtext (s : ByteArray) (at_ : Int) : Bool × ByteArray × Int :=
  if (rnum s at_).1 = true then
    (if (rnum s at_).2.1 > 100000 ∨ (rnum s at_).2.1 > (s.size : Int) - (rnum s at_).2.2 then (false, (⟨#[]⟩ : ByteArray), 0)
     else (true, s.extract (rnum s at_).2.2.toNat ((rnum s at_).2.2 + (rnum s at_).2.1).toNat, (rnum s at_).2.2 + (rnum s at_).2.1))
  else (false, (⟨#[]⟩ : ByteArray), 0)
theorem stext_eq (s : ByteArray) (hs : s.size ≤ 1099511627776) (at_ : Int) : Ev (fun k => spec_GetText.f k s at_) (rtext s at_) := by
  unfold spec_GetText.f rtext
  refine Ev.bind (snum_eq s hs at_) ?_
  cases hb : (rnum s at_).1 with
  | false => simp only [Bool.false_eq_true, if_false]; exact Ev.now _
  | true =>
    simp only [if_true]
    obtain ⟨h1, h2, h3, h4, h5, h6⟩ := rnum_bounds (s := s) (at_ := at_) (v := (rnum s at_).2.1) (nx := (rnum s at_).2.2) (by rw [← hb])
    generalize (rnum s at_).2.1 = v at *
    generalize (rnum s at_).2.2 = nx at *
    rw [w64 (x := (s.size : Int) - nx) (by omega) (by omega)]
    by_cases c1 : v > 100000
    · refine Ev.ifT c1 ?_
      rw [if_pos (Or.inl c1)]; exact Ev.now _
    · refine Ev.ifF c1 ?_
      by_cases c2 : v > (s.size : Int) - nx
      · refine Ev.ifT c2 ?_
        rw [if_pos (Or.inr c2)]; exact Ev.now _
      · refine Ev.ifF c2 ?_
        have hno : ¬ (v > 100000 ∨ v > (s.size : Int) - nx) := by omega
        rw [if_neg hno, w64 (x := nx + v) (by omega) (by omega)]
        exact Ev.ifT (by omega) (Ev.ifT (by omega) (Ev.ifT (by omega) (Ev.now _)))
theorem take_eq (s : ByteArray) (hs : s.size ≤ 1099511627776) (at_ n : Int) (h0 : 0 ≤ at_) (h1 : at_ ≤ s.size) (hn : 0 ≤ n) (hn2 : n < 9223372036854775808) :
    impl_cursor_take.f s at_ n = if n > (s.size : Int) - at_ then some ((⟨#[]⟩ : ByteArray), false, s, at_) else some (s.extract at_.toNat (at_ + n).toNat, true, s, at_ + n) := by
  have hl : impl_cursor_left.f s at_ = some ((s.size : Int) - at_, s, at_) := by
    unfold impl_cursor_left.f
    rw [if_neg (by omega), if_neg (by omega), w64 (by omega) (by omega)]
  unfold impl_cursor_take.f
  rw [if_neg (by omega), hl]
  simp only [Option.bind_some]
  by_cases c : n > (s.size : Int) - at_
  · rw [if_pos c, if_pos c]
  · rw [if_neg c, if_pos (by omega), w64 (x := at_ + n) (by omega) (by omega), if_pos (by omega), if_pos (by omega), if_neg c]
theorem ctext_eq (s : ByteArray) (hs : s.size ≤ 1099511627776) (at_ : Int) :
    ((rtext s at_).1 = true → Ev (fun k => impl_cursor_text.f k s at_) ((rtext s at_).2.1, true, s, (rtext s at_).2.2)) ∧
    ((rtext s at_).1 = false → ∃ x y, Ev (fun k => impl_cursor_text.f k s at_) (x, false, s, y)) := by
  obtain ⟨i1, i2⟩ := cnum_eq s hs at_
  unfold rtext impl_cursor_text.f
  cases hb : (rnum s at_).1 with
  | false =>
    simp only [Bool.false_eq_true, if_false]
    refine ⟨fun h => by simp at h, fun _ => ?_⟩
    obtain ⟨x, y, h⟩ := i2 hb
    exact ⟨_, _, Ev.bind h (Ev.ifF (by simp) (Ev.now _))⟩
  | true =>
    have h := i1 hb
    obtain ⟨h1, h2, h3, h4, h5, h6⟩ := rnum_bounds (s := s) (at_ := at_) (v := (rnum s at_).2.1) (nx := (rnum s at_).2.2) (by rw [← hb])
    simp only [if_true]
    generalize (rnum s at_).2.1 = v at *
    generalize (rnum s at_).2.2 = nx at *
    have ht := take_eq s hs nx v (by omega) (by omega) (by omega) (by omega)
    by_cases c1 : v > 100000
    · have hyes : v > 100000 ∨ v > (s.size : Int) - nx := Or.inl c1
      simp only [if_pos hyes]
      refine ⟨fun h => by simp at h, fun _ => ⟨_, _, Ev.bind h (Ev.ifT rfl (Ev.ifT c1 (Ev.now _)))⟩⟩
    · by_cases c2 : v > (s.size : Int) - nx
      · have hyes : v > 100000 ∨ v > (s.size : Int) - nx := Or.inr c2
        simp only [if_pos hyes]
        rw [if_pos c2] at ht
        exact ⟨fun h => by simp at h, fun _ => ⟨_, _, Ev.bind h (Ev.ifT rfl (Ev.ifF c1 (Ev.bind0 ht (Ev.now _))))⟩⟩
      · have hno : ¬ (v > 100000 ∨ v > (s.size : Int) - nx) := by omega
        simp only [if_neg hno]
        rw [if_neg c2] at ht
        exact ⟨fun _ => Ev.bind h (Ev.ifT rfl (Ev.ifF c1 (Ev.bind0 ht (Ev.now _)))), fun h => by simp at h⟩
theorem itext_eq (s : ByteArray) (hs : s.size ≤ 1099511627776) (at_ : Int) : Ev (fun k => impl_GetText.f k s at_) (rtext s at_) := by
  obtain ⟨i1, i2⟩ := ctext_eq s hs at_
  unfold impl_GetText.f
  cases hb : (rtext s at_).1 with
  | true =>
    have e : rtext s at_ = (true, (rtext s at_).2.1, (rtext s at_).2.2) := by rw [← hb]
    rw [e]
    exact Ev.bind (i1 hb) (Ev.ifT rfl (Ev.now _))
  | false =>
    have e : rtext s at_ = (false, (⟨#[]⟩ : ByteArray), 0) := by
      unfold rtext at hb ⊢
      split at hb
      · split at hb
        · rename_i h1 h2
          rw [if_pos h1, if_pos h2]
        · simp at hb
      · rename_i h1
        rw [if_neg h1]
    rw [e]
    obtain ⟨x, y, h⟩ := i2 hb
    exact Ev.bind h (Ev.ifF (by simp) (Ev.now _))

theorem FnExactGetText : laws_FnExactGetText.Pure := by
  intro s at_ _ _
  refine Ev.rounds (g := fun k => laws_FnExactGetText.f k s at_) ?_
  unfold laws_FnExactGetText.f
  by_cases c : (s.size : Int) > 1048576
  · exact Ev.ifT c (Ev.now _)
  · refine Ev.ifF c (Ev.bind (stext_eq s (by omega) at_) (Ev.bind (itext_eq s (by omega) at_) ?_))
    refine Ev.bind0 (a := true) ?_ (Ev.ifT rfl (Ev.now _))
    simp [laws_eqTextRead.f]
end Go.Proofs.Ytncghlamcbhpmaa.Pure
