/-
  What covers and opens: the sums, the stream, the wrapped key; for texts of the sizes in each theorem.
-/
import Derived.Test.YtncghlamcbhpmaaPFnSealedq
import Derived.Test.YtncghlamcbhpmaaNum
import Derived.Laws.BitsAllLaws
namespace Go.Proofs.Ytncghlamcbhpmaa.Pure
open Go.RowKit Go.Proofs.Ytncghlamcbhpmaa.PFnSealed Go.Proofs.Ytncghlamcbhpmaa.Base Go.Proofs.YtncghlamcbhpmaaW.PrintWords Go.Proofs.YtncghlamcbhpmaaW.PrintLast Go.Proofs.YtncghlamcbhpmaaW.PrintMore
theorem pow128 (j : Nat) : (128 : Int) ^ j = 2 ^ (7 * j) := by
  rw [Int.pow_mul]; rfl
theorem pow128_le {i j : Nat} (h : i ≤ j) : (128 : Int) ^ i ≤ 128 ^ j := by
  have : (128 : Nat) ^ i ≤ 128 ^ j := Nat.pow_le_pow_right (by omega) h
  exact_mod_cast this
theorem pow128_pos (j : Nat) : (1 : Int) ≤ 128 ^ j := pow128_le (i := 0) (Nat.zero_le j)
theorem wraps_u64 (n : Int) (h₀ : 0 ≤ n) (h₁ : n < 2 ^ 63) : IntKind.u64.wrap n = n := by
  simp [IntKind.wrap, IntKind.bits, IntKind.signed]
  omega
theorem or_low {a b : Int} {i : Nat} (ha : 0 ≤ a) (h1 : a < 2 ^ i) (hb : 0 ≤ b) (h2 : b % 2 ^ i = 0) (h3 : b < 2 ^ 63) (hi : i ≤ 63) : Go.bits .or .u64 a b = a + b := by
  have h4 : a < 2 ^ 63 := by
    have : (2 : Nat) ^ i ≤ 2 ^ 63 := Nat.pow_le_pow_right (by omega) hi
    have : (2 : Int) ^ i ≤ 2 ^ 63 := by exact_mod_cast this
    omega
  have e := bits_join .u64 63 (by decide) wraps_u64 i b a hb h2 h3 ha h1 h4
  obtain ⟨x, rfl⟩ := Int.eq_ofNat_of_zero_le ha
  obtain ⟨y, rfl⟩ := Int.eq_ofNat_of_zero_le hb
  have hx : x < 2 ^ 63 := by exact_mod_cast h4
  have hy : y < 2 ^ 63 := by exact_mod_cast h3
  rw [(bits_nat .u64 63 (by decide) wraps_u64 y x hy hx).2] at e
  rw [(bits_nat .u64 63 (by decide) wraps_u64 x y hx hy).2, Nat.or_comm, e]
  omega
theorem step_bits {acc b : Int} {j : Nat} (h0 : 0 ≤ acc) (h1 : acc < 128 ^ j) (hb : 0 ≤ b ∧ b ≤ 255) (hj : j ≤ 8) :
    Go.bits .or .u64 acc (shl .u64 (IntKind.u64.wrap (Go.bits .and .u8 b 127)) ((7 * j : Nat) : Int)) = acc + b % 128 * 128 ^ j := by
  have e1 : Go.bits .and .u8 b 127 = b % 128 := bits_mask .u8 8 (by decide) wraps_u8 7 (by decide) b hb.1 (by omega)
  have hp : b % 128 * 128 ^ j < 2 ^ 63 := by
    have h2 : (128 : Int) ^ (j + 1) ≤ 128 ^ 9 := pow128_le (by omega)
    rw [Int.pow_succ] at h2
    have h3 := pow128_pos j
    have h4 : b % 128 * 128 ^ j ≤ 127 * 128 ^ j := Int.mul_le_mul_of_nonneg_right (by omega) (by omega)
    omega
  have hp0 : 0 ≤ b % 128 * 128 ^ j := Int.mul_nonneg (by omega) (by have := pow128_pos j; omega)
  rw [e1, wraps_u64 _ (by omega) (by omega)]
  have e2 : shl .u64 (b % 128) ((7 * j : Nat) : Int) = b % 128 * 128 ^ j := by
    unfold shl
    rw [Int.toNat_natCast, Nat.min_eq_left (by show 7 * j ≤ 64; omega), ← pow128]
    exact wraps_u64 _ hp0 hp
  rw [e2]
  refine or_low (i := 7 * j) h0 (by rw [← pow128]; exact h1) hp0 ?_ hp (by omega)
  rw [← pow128]
  exact Int.mul_emod_left _ _
theorem next_some {s : ByteArray} {p : Nat} (h : p < s.size) (hs : s.size ≤ 1099511627776) : impl_cursor_next.f s (p : Int) = some (bt s (p : Int), true, s, ((p + 1 : Nat) : Int)) := by
  have hl : impl_cursor_left.f s (p : Int) = some ((s.size : Int) - p, s, (p : Int)) := by
    unfold impl_cursor_left.f
    rw [if_neg (by omega), if_neg (by omega), w64 (by omega) (by omega)]
  unfold impl_cursor_next.f
  rw [hl]
  simp only [Option.bind_some]
  rw [if_neg (by omega), if_pos (by omega), if_pos (by omega), w64 (by omega) (by omega)]
  rfl
theorem next_none {s : ByteArray} {at_ : Int} (h : at_ < 0 ∨ (s.size : Int) ≤ at_) (hs : s.size ≤ 1099511627776) : impl_cursor_next.f s at_ = some (0, false, s, at_) := by
  have hl : ∃ v, impl_cursor_left.f s at_ = some (v, s, at_) ∧ v < 1 := by
    unfold impl_cursor_left.f
    by_cases c1 : at_ < 0
    · exact ⟨-1, by rw [if_pos c1], by omega⟩
    · by_cases c2 : at_ > (s.size : Int)
      · exact ⟨-1, by rw [if_neg c1, if_pos c2], by omega⟩
      · exact ⟨_, by rw [if_neg c1, if_neg c2], by rw [w64 (by omega) (by omega)]; omega⟩
  obtain ⟨v, hv, h1⟩ := hl
  unfold impl_cursor_next.f
  rw [hv]
  simp only [Option.bind_some]
  rw [if_pos h1]
theorem drop_cons {s : ByteArray} {p : Nat} (h : p < s.size) : (bytesOf s).drop p = bt s (p : Int) :: (bytesOf s).drop (p + 1) := by
  have hl : p < (bytesOf s).length := by rw [bytesOf_length]; exact h
  rw [List.drop_eq_getElem_cons hl, bt_bytes, List.getD_eq_getElem?_getD, List.getElem?_eq_getElem hl]
  rfl
theorem cnum_l0 {s : ByteArray} (hs : s.size ≤ 1099511627776) : ∀ (d j : Nat) (acc : Int) (p : Nat), d + j = 9 → 0 ≤ acc → acc < 128 ^ j →
    (∀ v n, pn d ((bytesOf s).drop p) = some (v, n) → ∃ g : Bool, (g = true ↔ (((bytesOf s).drop p).take n).getLast? ≠ some 0 ∨ (n = 1 ∧ j = 0)) ∧ Ev (fun k => impl_cursor_num.l0 k acc ((7 * j : Nat) : Int) s (p : Int)) (acc + 128 ^ j * v, g, s, ((p + n : Nat) : Int))) ∧
    (pn d ((bytesOf s).drop p) = none → ∃ x y, Ev (fun k => impl_cursor_num.l0 k acc ((7 * j : Nat) : Int) s (p : Int)) (x, false, s, y)) := by
  intro d
  induction d with
  | zero =>
    intro j acc p hj h0 h1
    refine ⟨fun v n h => by simp [pn] at h, fun _ => ⟨0, (p : Int), Ev.step (f := fun _ => some (0, false, s, (p : Int))) (fun k => ?_) (Ev.now _)⟩⟩
    simp only [impl_cursor_num.l0]
    rw [if_neg (by omega)]
  | succ d ih =>
    intro j acc p hj h0 h1
    by_cases hp : p < s.size
    · have hb := bt_range s (p : Int)
      have hst := step_bits h0 h1 hb (by omega)
      have hpow : (128 : Int) ^ (j + 1) = 128 ^ j * 128 := Int.pow_succ ..
      have p1 := pow128_pos j
      have p9 : (128 : Int) ^ (j + 1) ≤ 128 ^ 9 := pow128_le (by omega)
      have hnew : acc + bt s (p : Int) % 128 * 128 ^ j < 128 ^ (j + 1) := by
        have : bt s (p : Int) % 128 * 128 ^ j ≤ 127 * 128 ^ j := Int.mul_le_mul_of_nonneg_right (by omega) (by omega)
        omega
      have hnew0 : 0 ≤ acc + bt s (p : Int) % 128 * 128 ^ j := by
        have : 0 ≤ bt s (p : Int) % 128 * 128 ^ j := Int.mul_nonneg (by omega) (by omega)
        omega
      rw [drop_cons hp]
      have head : ∀ k, impl_cursor_num.l0 (k + 1) acc ((7 * j : Nat) : Int) s (p : Int) = if bt s (p : Int) < 128 then (if bt s (p : Int) = 0 then some (acc + bt s (p : Int) % 128 * 128 ^ j, (((7 * j : Nat) : Int) == 0), s, ((p + 1 : Nat) : Int)) else some (acc + bt s (p : Int) % 128 * 128 ^ j, true, s, ((p + 1 : Nat) : Int))) else impl_cursor_num.l0 k (acc + bt s (p : Int) % 128 * 128 ^ j) ((7 * (j + 1) : Nat) : Int) s ((p + 1 : Nat) : Int) := fun k => by
        simp only [impl_cursor_num.l0]
        rw [if_pos (by omega), next_some hp hs]
        simp only [Option.bind_some, if_true]
        rw [if_pos (by omega), hst, w64 (x := acc + bt s (p : Int) % 128 * 128 ^ j) (by omega) (by omega), wraps_u64 (((7 * j : Nat) : Int) + 7) (by omega) (by omega)]
        rw [show ((7 * j : Nat) : Int) + 7 = ((7 * (j + 1) : Nat) : Int) by omega]
      by_cases c1 : bt s (p : Int) < 128
      · refine ⟨fun v n h => ?_, fun h => ?_⟩
        · simp only [pn] at h
          rw [if_pos c1] at h
          simp only [Option.some.injEq, Prod.mk.injEq] at h
          obtain ⟨rfl, rfl⟩ := h
          have em : bt s (p : Int) % 128 * 128 ^ j = 128 ^ j * bt s (p : Int) := by
            rw [Int.emod_eq_of_lt hb.1 c1, Int.mul_comm]
          by_cases c2 : bt s (p : Int) = 0
          · refine ⟨((7 * j : Nat) : Int) == 0, ?_, Ev.step (f := fun _ => some (acc + bt s (p : Int) % 128 * 128 ^ j, (((7 * j : Nat) : Int) == 0), s, ((p + 1 : Nat) : Int))) (fun k => by rw [head, if_pos c1, if_pos c2]) (by rw [em]; exact Ev.now _)⟩
            simp [c2]
            omega
          · refine ⟨true, by simp [c2], Ev.step (f := fun _ => some (acc + bt s (p : Int) % 128 * 128 ^ j, true, s, ((p + 1 : Nat) : Int))) (fun k => by rw [head, if_pos c1, if_neg c2]) (by rw [em]; exact Ev.now _)⟩
        · simp only [pn] at h
          rw [if_pos c1] at h
          cases h
      · obtain ⟨i1, i2⟩ := ih (j + 1) (acc + bt s (p : Int) % 128 * 128 ^ j) (p + 1) (by omega) hnew0 hnew
        refine ⟨fun v n h => ?_, fun h => ?_⟩
        · simp only [pn] at h
          rw [if_neg c1, Option.map_eq_some_iff] at h
          obtain ⟨⟨x, m⟩, hx, he⟩ := h
          simp only [Prod.mk.injEq] at he
          obtain ⟨rfl, rfl⟩ := he
          obtain ⟨g, hg, he⟩ := i1 x m hx
          have hm := (pn_some ((Bytes.of s).drop (p + 1)) hx).2.1
          refine ⟨g, ?_, Ev.step (fun k => by rw [head, if_neg c1]) ?_⟩
          · rw [hg, List.take_succ_cons]
            have hne : ((bytesOf s).drop (p + 1)).take m ≠ [] := by
              have hf := (pn_some ((Bytes.of s).drop (p + 1)) hx).2.2.2.1
              intro h0
              rw [h0] at hf
              exact hf
            rw [List.getLast?_cons_of_ne_nil hne]
            constructor
            · rintro (h | ⟨_, h⟩)
              · exact .inl h
              · omega
            · rintro (h | ⟨h, _⟩)
              · exact .inl h
              · omega
          · have e1 : acc + bt s (p : Int) % 128 * 128 ^ j + 128 ^ (j + 1) * x = acc + 128 ^ j * (bt s (p : Int) - 128 + 128 * x) := by
              have : bt s (p : Int) % 128 = bt s (p : Int) - 128 := by omega
              rw [this, hpow, Int.mul_assoc, Int.add_assoc, Int.mul_comm (bt s (p : Int) - 128), ← Int.mul_add]
            rw [e1] at he
            rw [show ((p + (m + 1) : Nat) : Int) = ((p + 1 + m : Nat) : Int) by omega]
            exact he
        · simp only [pn] at h
          rw [if_neg c1, Option.map_eq_none_iff] at h
          obtain ⟨x, y, he⟩ := i2 h
          exact ⟨x, y, Ev.step (fun k => by rw [head, if_neg c1]) he⟩
    · have e : (bytesOf s).drop p = [] := List.drop_of_length_le (by rw [bytesOf_length]; omega)
      rw [e]
      refine ⟨fun v n h => by simp [pn] at h, fun _ => ⟨0, (p : Int), Ev.step (f := fun _ => some (0, false, s, (p : Int))) (fun k => ?_) (Ev.now _)⟩⟩
      simp only [impl_cursor_num.l0]
      rw [if_pos (by omega), next_none (by omega) hs]
      simp
/-- The number at a place, as the document has it. -/
def rnum (s : ByteArray) (at_ : Int) : Bool × Int × Int :=
  if at_ < 0 ∨ (s.size : Int) ≤ at_ then (false, 0, 0) else
    match pn 9 ((bytesOf s).drop at_.toNat) with
    | some (v, n) => if least (((bytesOf s).drop at_.toNat).take n) then (true, v, at_ + n) else (false, 0, 0)
    | none => (false, 0, 0)
theorem rnum_bounds {s : ByteArray} {at_ v nx : Int} (h : rnum s at_ = (true, v, nx)) : 0 ≤ at_ ∧ at_ < nx ∧ nx ≤ at_ + 9 ∧ nx ≤ s.size ∧ 0 ≤ v ∧ v < 9223372036854775808 := by
  unfold rnum at h
  by_cases c : at_ < 0 ∨ (s.size : Int) ≤ at_
  · rw [if_pos c] at h; simp at h
  · rw [if_neg c] at h
    split at h
    · rename_i v' n hp
      split at h
      · simp only [Prod.mk.injEq, true_and] at h
        obtain ⟨rfl, rfl⟩ := h
        obtain ⟨h1, h2, h3, h4, h5⟩ := pn_some ((Bytes.of s).drop at_.toNat) hp
        have h6 := val_nonneg (((bytesOf s).drop at_.toNat).take n)
        have h7 := val_lt (((bytesOf s).drop at_.toNat).take n)
        have h8 : (128 : Int) ^ (((bytesOf s).drop at_.toNat).take n).length ≤ 128 ^ 9 := pow128_le (by rw [List.length_take]; omega)
        rw [List.length_drop, bytesOf_length] at h3
        have : (128 : Int) ^ 9 = 9223372036854775808 := by decide
        refine ⟨by omega, by omega, by omega, by omega, by omega, by omega⟩
      · simp at h
    · simp at h
theorem cnum_eq (s : ByteArray) (hs : s.size ≤ 1099511627776) (at_ : Int) :
    ((rnum s at_).1 = true → Ev (fun k => impl_cursor_num.f k s at_) ((rnum s at_).2.1, true, s, (rnum s at_).2.2)) ∧
    ((rnum s at_).1 = false → ∃ x y, Ev (fun k => impl_cursor_num.f k s at_) (x, false, s, y)) := by
  unfold rnum impl_cursor_num.f
  by_cases c : at_ < 0 ∨ (s.size : Int) ≤ at_
  · rw [if_pos c]
    refine ⟨fun h => by simp at h, fun _ => ⟨0, at_, Ev.step (f := fun _ => some (0, false, s, at_)) (fun k => ?_) (Ev.now _)⟩⟩
    simp only [impl_cursor_num.l0]
    rw [if_pos (by omega), next_none c hs]
    simp
  · rw [if_neg c]
    obtain ⟨p, rfl⟩ := Int.eq_ofNat_of_zero_le (show 0 ≤ at_ by omega)
    obtain ⟨i1, i2⟩ := cnum_l0 hs 9 0 0 p (by omega) (by omega) (by decide)
    simp only [Int.toNat_natCast]
    cases hp : pn 9 ((bytesOf s).drop p) with
    | none =>
      refine ⟨fun h => by simp at h, fun _ => ?_⟩
      exact i2 hp
    | some x =>
      obtain ⟨v, n⟩ := x
      obtain ⟨g, hg, he⟩ := i1 v n hp
      have h3 := pn_some ((Bytes.of s).drop p) hp
      have hgl : g = true ↔ least (((bytesOf s).drop p).take n) := by
        rw [hg]
        unfold least
        rw [List.length_take, Nat.min_eq_left h3.2.2.1]
        constructor
        · rintro (h | ⟨h, _⟩)
          · exact .inr h
          · exact .inl h
        · rintro (h | h)
          · exact .inr ⟨h, rfl⟩
          · exact .inl h
      have e : (0 : Int) + 128 ^ 0 * v = v := by simp
      rw [e] at he
      by_cases cl : least (((bytesOf s).drop p).take n)
      · have : g = true := hgl.2 cl
        subst this
        simp only [if_pos cl]
        refine ⟨fun _ => ?_, fun h => by simp at h⟩
        exact he
      · have : g = false := by
          cases g
          · rfl
          · exact absurd (hgl.1 rfl) cl
        subst this
        simp only [if_neg cl]
        refine ⟨fun h => by simp at h, fun _ => ?_⟩
        exact ⟨_, _, he⟩

theorem sput_l0 : ∀ (d : Nat) (v : Int) (x : List Int), 1 ≤ d → d ≤ 9 → 0 ≤ v → v < 128 ^ d → x.length + d ≤ 100 → Ev (fun k => spec_PutNum.l0 k v x) (strOfNums (x ++ puts d v)) := by
  intro d
  induction d with
  | zero => intro v x h; omega
  | succ d ih =>
    intro v x _ hd h0 h1 hx
    have p9 : (128 : Int) ^ (d + 1) ≤ 128 ^ 9 := pow128_le (by omega)
    have e9 : (128 : Int) ^ 9 = 9223372036854775808 := by decide
    by_cases c : v > 127
    · have hd' : v / 128 < 128 ^ d := by rw [Int.pow_succ] at h1; omega
      have d1 : 1 ≤ d := by
        rcases Nat.eq_zero_or_pos d with h0 | h0
        · subst h0; simp at hd'; omega
        · exact h0
      have := ih (v / 128) (x ++ [128 + v % 128]) d1 (by omega) (by omega) hd' (by simp; omega)
      refine Ev.step (fun k => ?_) (show Ev (fun k => spec_PutNum.l0 k (v / 128) (x ++ [128 + v % 128])) _ from ?_)
      · simp only [spec_PutNum.l0]
        rw [if_pos c, if_pos (by omega), Int.tdiv_eq_ediv_of_nonneg h0, Int.tmod_eq_emod_of_nonneg h0, w64 (x := v / 128) (by omega) (by omega), w64 (x := 128 + v % 128) (by omega) (by omega), Int.emod_eq_of_lt (a := 128 + v % 128) (b := 256) (by omega) (by omega)]
      · simp only [puts]
        rw [if_pos c]
        simpa using this
    · refine Ev.step (f := fun _ => some (strOfNums (x ++ [v]))) (fun k => ?_) ?_
      · simp only [spec_PutNum.l0]
        rw [if_neg c, if_pos (by omega), Int.emod_eq_of_lt (a := v) (b := 256) (by omega) (by omega)]
      · simp only [puts]
        rw [if_neg c]
        exact Ev.now _
theorem sput_eq (v : Int) (h0 : 0 ≤ v) (h1 : v < 9223372036854775808) : Ev (fun k => spec_PutNum.f k v) (strOfNums (puts 9 v)) := by
  unfold spec_PutNum.f
  have e9 : (128 : Int) ^ 9 = 9223372036854775808 := by decide
  exact Ev.ifF (by omega) (sput_l0 9 v [] (by omega) (by omega) h0 (by omega) (by simp))

/-- The text at a place, as the document has it. -/
def rtext (s : ByteArray) (at_ : Int) : Bool × ByteArray × Int :=
  if (rnum s at_).1 = true then
    (if (rnum s at_).2.1 > 100000 ∨ (rnum s at_).2.1 > (s.size : Int) - (rnum s at_).2.2 then (false, (⟨#[]⟩ : ByteArray), 0)
     else (true, s.extract (rnum s at_).2.2.toNat ((rnum s at_).2.2 + (rnum s at_).2.1).toNat, (rnum s at_).2.2 + (rnum s at_).2.1))
  else (false, (⟨#[]⟩ : ByteArray), 0)
theorem take_eq (s : ByteArray) (hs : s.size ≤ 1099511627776) (at_ n : Int) (h0 : 0 ≤ at_) (h1 : at_ ≤ s.size) (hn : 0 ≤ n) (hn2 : n < 9223372036854775808) :
    impl_cursor_take.f s at_ n = if n > (s.size : Int) - at_ then some ((⟨#[]⟩ : ByteArray), false, s, at_) else some (s.extract at_.toNat (at_ + n).toNat, true, s, at_ + n) := by
  have hl : impl_cursor_left.f s at_ = some ((s.size : Int) - at_, s, at_) := by
    unfold impl_cursor_left.f
    rw [if_neg (by omega), if_neg (by omega), w64 (by omega) (by omega)]
  unfold impl_cursor_take.f
  rw [if_neg (by omega), hl]
  simp only [Option.bind_some]
  by_cases c : n > (s.size : Int) - at_
  · rw [if_pos c, if_pos c]
  · rw [if_neg c, if_pos (by omega), w64 (x := at_ + n) (by omega) (by omega), if_pos (by omega), if_pos (by omega), if_neg c]
theorem ctext_eq (s : ByteArray) (hs : s.size ≤ 1099511627776) (at_ : Int) :
    ((rtext s at_).1 = true → Ev (fun k => impl_cursor_text.f k s at_) ((rtext s at_).2.1, true, s, (rtext s at_).2.2)) ∧
    ((rtext s at_).1 = false → ∃ x y, Ev (fun k => impl_cursor_text.f k s at_) (x, false, s, y)) := by
  obtain ⟨i1, i2⟩ := cnum_eq s hs at_
  unfold rtext impl_cursor_text.f
  cases hb : (rnum s at_).1 with
  | false =>
    simp only [Bool.false_eq_true, if_false]
    refine ⟨fun h => by simp at h, fun _ => ?_⟩
    obtain ⟨x, y, h⟩ := i2 hb
    exact ⟨_, _, Ev.bind h (Ev.ifF (by simp) (Ev.now _))⟩
  | true =>
    have h := i1 hb
    obtain ⟨h1, h2, h3, h4, h5, h6⟩ := rnum_bounds (s := s) (at_ := at_) (v := (rnum s at_).2.1) (nx := (rnum s at_).2.2) (by rw [← hb])
    simp only [if_true]
    generalize (rnum s at_).2.1 = v at *
    generalize (rnum s at_).2.2 = nx at *
    have ht := take_eq s hs nx v (by omega) (by omega) (by omega) (by omega)
    by_cases c1 : v > 100000
    · have hyes : v > 100000 ∨ v > (s.size : Int) - nx := Or.inl c1
      simp only [if_pos hyes]
      refine ⟨fun h => by simp at h, fun _ => ⟨_, _, Ev.bind h (Ev.ifT rfl (Ev.ifT c1 (Ev.now _)))⟩⟩
    · by_cases c2 : v > (s.size : Int) - nx
      · have hyes : v > 100000 ∨ v > (s.size : Int) - nx := Or.inr c2
        simp only [if_pos hyes]
        rw [if_pos c2] at ht
        exact ⟨fun h => by simp at h, fun _ => ⟨_, _, Ev.bind h (Ev.ifT rfl (Ev.ifF c1 (Ev.bind0 ht (Ev.now _))))⟩⟩
      · have hno : ¬ (v > 100000 ∨ v > (s.size : Int) - nx) := by omega
        simp only [if_neg hno]
        rw [if_neg c2] at ht
        exact ⟨fun _ => Ev.bind h (Ev.ifT rfl (Ev.ifF c1 (Ev.bind0 ht (Ev.now _)))), fun h => by simp at h⟩

theorem or_128 {b : Int} (h0 : 0 ≤ b) (h1 : b ≤ 255) : Go.bits .or .u8 b 128 = 128 + b % 128 := by
  obtain ⟨m, rfl⟩ := Int.eq_ofNat_of_zero_le h0
  have hm : m < 256 := by omega
  have : ∀ m : Nat, m < 256 → Go.bits .or .u8 (m : Int) 128 = 128 + (m : Int) % 128 := by decide +kernel
  exact this m hm
theorem iput_l0 : ∀ (d : Nat) (v : Int) (x : List Int), 1 ≤ d → d ≤ 9 → 0 ≤ v → v < 128 ^ d → x.length + d ≤ 100 → Ev (fun k => impl_PutNum.l0 k x v) (strOfNums (x ++ puts d v)) := by
  intro d
  induction d with
  | zero => intro v x h; omega
  | succ d ih =>
    intro v x _ hd h0 h1 hx
    by_cases c : v > 127
    · have hd' : v / 128 < 128 ^ d := by rw [Int.pow_succ] at h1; omega
      have d1 : 1 ≤ d := by
        rcases Nat.eq_zero_or_pos d with h0 | h0
        · subst h0; simp at hd'; omega
        · exact h0
      have := ih (v / 128) (x ++ [128 + v % 128]) d1 (by omega) (by omega) hd' (by simp; omega)
      refine Ev.step (fun k => ?_) (show Ev (fun k => impl_PutNum.l0 k (x ++ [128 + v % 128]) (v / 128)) _ from ?_)
      · simp only [impl_PutNum.l0]
        rw [if_pos (by omega), if_pos (by omega), or_128 (by omega) (by omega), show v % 256 % 128 = v % 128 by omega]
      · simp only [puts]
        rw [if_pos c]
        simpa using this
    · refine Ev.step (f := fun _ => some (strOfNums (x ++ [v]))) (fun k => ?_) ?_
      · simp only [impl_PutNum.l0]
        rw [if_neg (by omega), if_pos (by omega), Int.emod_eq_of_lt (a := v) (b := 256) (by omega) (by omega)]
      · simp only [puts]
        rw [if_neg c]
        exact Ev.now _
theorem iput_eq (v : Int) (h0 : 0 ≤ v) (h1 : v < 9223372036854775808) : Ev (fun k => impl_PutNum.f k v) (strOfNums (puts 9 v)) := by
  have e9 : (128 : Int) ^ 9 = 9223372036854775808 := by decide
  unfold impl_PutNum.f
  rw [wraps_u64 v h0 (by omega)]
  exact Ev.ifF (by omega) (iput_l0 9 v [] (by omega) (by omega) h0 (by omega) (by simp))

theorem xor_byte {a b : Int} (a0 : 0 ≤ a) (a1 : a ≤ 255) (b0 : 0 ≤ b) (b1 : b ≤ 255) : (0 ≤ Go.bits .xor .u8 a b ∧ Go.bits .xor .u8 a b ≤ 255) ∧ Go.bits .xor .u8 (Go.bits .xor .u8 a b) b = a := by
  have h1 := u8_xor a b a0 (by omega) b0 (by omega)
  have h2 : a.toNat ^^^ b.toNat < 2 ^ 8 := Nat.xor_lt_two_pow (by omega) (by omega)
  have hr : 0 ≤ Go.bits .xor .u8 a b ∧ Go.bits .xor .u8 a b ≤ 255 := by rw [h1]; omega
  refine ⟨hr, ?_⟩
  rw [u8_xor _ b hr.1 (by omega) b0 (by omega), h1, Int.toNat_natCast, Nat.xor_assoc, Nat.xor_self, Nat.xor_zero]
  omega
/-- One step of the sum, and the sum of a text. -/
def sstep (x b : Int) : Int := Int.tmod (wrap64 (wrap64 (wrap64 (x * 65539) + wrap64 b) + 1)) 2147483647
def rsum (s : ByteArray) (tag : Int) : Int := (bytesOf s).foldl sstep (wrap64 (Int.tmod tag 2147483647 + 1))
theorem sstep_range {x b : Int} (x0 : 0 ≤ x) (x1 : x < 2147483647) (b0 : 0 ≤ b) (b1 : b ≤ 255) : sstep x b = (x * 65539 + b + 1) % 2147483647 := by
  unfold sstep
  rw [w64 (x := x * 65539) (by omega) (by omega), w64 (x := b) (by omega) (by omega), w64 (x := x * 65539 + b) (by omega) (by omega), w64 (by omega) (by omega), Int.tmod_eq_emod_of_nonneg (by omega)]
theorem foldl_range : ∀ (l : List Int), Bytes l → ∀ x, 0 ≤ x → x < 2147483647 → 0 ≤ l.foldl sstep x ∧ l.foldl sstep x < 2147483647 := by
  intro l
  induction l with
  | nil => intro _ x h0 h1; exact ⟨h0, h1⟩
  | cons b r ih =>
    intro hb x h0 h1
    have e := sstep_range h0 h1 hb.head.1 hb.head.2
    simp only [List.foldl_cons]
    exact ih hb.tail _ (by rw [e]; omega) (by rw [e]; omega)
theorem tag_start (tag : Int) (h0 : 0 ≤ tag) (h1 : tag ≤ 100) : wrap64 (Int.tmod tag 2147483647 + 1) = tag + 1 := by
  rw [Int.tmod_eq_emod_of_nonneg h0, w64 (by omega) (by omega)]; omega
theorem rsum_range (s : ByteArray) (tag : Int) (h0 : 0 ≤ tag) (h1 : tag ≤ 100) : 0 ≤ rsum s tag ∧ rsum s tag < 2147483647 := by
  unfold rsum
  rw [tag_start tag h0 h1]
  exact foldl_range _ (Bytes.of s) _ (by omega) (by omega)
theorem ssum_l0 (s : ByteArray) (hs : s.size ≤ 400000) : ∀ (d i : Nat) (x : Int), i + d = s.size → Ev (fun k => spec_SumOf.l0 k s x (i : Int)) (((bytesOf s).drop i).foldl sstep x) := by
  intro d
  induction d with
  | zero =>
    intro i x hi
    refine Ev.step (f := fun _ => some x) (fun k => ?_) ?_
    · simp only [spec_SumOf.l0]
      rw [if_neg (by omega)]
    · rw [List.drop_of_length_le (by rw [bytesOf_length]; omega)]
      exact Ev.now _
  | succ d ih =>
    intro i x hi
    refine Ev.step (fun k => ?_) (show Ev (fun k => spec_SumOf.l0 k s (sstep x (bt s (i : Int))) ((i + 1 : Nat) : Int)) _ from ?_)
    · simp only [spec_SumOf.l0]
      rw [if_pos (by omega), if_pos (by omega), w64 (x := (i : Int) + 1) (by omega) (by omega)]
      rfl
    · rw [drop_cons (by omega), List.foldl_cons]
      exact ih (i + 1) _ (by omega)
theorem ssum_eq (s : ByteArray) (hs : s.size ≤ 400000) (tag : Int) (h0 : 0 ≤ tag) : Ev (fun k => spec_SumOf.f k s tag) (rsum s tag) := by
  unfold spec_SumOf.f rsum
  refine Ev.ifF (by omega) ?_
  rw [show decide ((s.size : Int) > 400000) = false from decide_eq_false (by omega)]
  refine Ev.step (fun k => ?_) (ssum_l0 s hs s.size 0 _ (by omega))
  simp only [spec_SumOf.j0]
  rw [if_neg (by simp)]
  rfl
theorem isum_l0 (s : ByteArray) (hs : s.size ≤ 400000) : ∀ (d i : Nat) (x : Int), i + d = s.size → Ev (fun k => impl_SumOf.l0 k s x (s.size : Int) (i : Int)) (((bytesOf s).drop i).foldl sstep x) := by
  intro d
  induction d with
  | zero =>
    intro i x hi
    refine Ev.step (f := fun _ => some x) (fun k => ?_) ?_
    · simp only [impl_SumOf.l0]
      rw [if_neg (by omega)]
    · rw [List.drop_of_length_le (by rw [bytesOf_length]; omega)]
      exact Ev.now _
  | succ d ih =>
    intro i x hi
    refine Ev.step (fun k => ?_) (show Ev (fun k => impl_SumOf.l0 k s (sstep x (bt s (i : Int))) (s.size : Int) ((i + 1 : Nat) : Int)) _ from ?_)
    · simp only [impl_SumOf.l0]
      rw [if_pos (by omega), if_pos (by omega), if_pos (by omega), w64 (x := (i : Int) + 1) (by omega) (by omega)]
      rfl
    · rw [drop_cons (by omega), List.foldl_cons]
      exact ih (i + 1) _ (by omega)
theorem isum_eq (s : ByteArray) (hs : s.size ≤ 400000) (tag : Int) (h0 : 0 ≤ tag) : Ev (fun k => impl_SumOf.f k s tag) (rsum s tag) := by
  unfold impl_SumOf.f rsum
  refine Ev.ifF (by omega) ?_
  rw [show decide ((s.size : Int) > 400000) = false from decide_eq_false (by omega)]
  refine Ev.step (fun k => ?_) (isum_l0 s hs s.size 0 _ (by omega))
  simp only [impl_SumOf.j0]
  rw [if_neg (by simp)]
  rfl
/-- The stream's bytes, and a text under it. -/
def strmL (n : Nat) (x : Int) : List Int := (List.range n).map fun j => strmByte (strmAt j x)
def coverA (xs : List Int) (x : Int) (n : Nat) : List Int := (List.range n).map fun j => Go.bits .xor .u8 (xs.getD j 0) (strmByte (strmAt j x))
def coverL (xs : List Int) (x : Int) : List Int := coverA xs x xs.length
theorem strmByte_range (x : Int) : 0 ≤ strmByte x ∧ strmByte x ≤ 255 := by unfold strmByte; omega
theorem strmL_bytes (n : Nat) (x : Int) : Bytes (strmL n x) := fun c h => by
  obtain ⟨j, _, rfl⟩ := List.mem_map.mp h
  exact strmByte_range _
theorem getD_byte {xs : List Int} (h : Bytes xs) (j : Nat) : 0 ≤ xs.getD j 0 ∧ xs.getD j 0 ≤ 255 := by
  by_cases c : j < xs.length
  · exact h _ (getD_mem 0 c)
  · rw [List.getD_eq_getElem?_getD, List.getElem?_eq_none (by omega)]; simp
theorem coverA_bytes {xs : List Int} (h : Bytes xs) (x : Int) (n : Nat) : Bytes (coverA xs x n) := fun c hc => by
  obtain ⟨j, _, rfl⟩ := List.mem_map.mp hc
  have h1 := getD_byte h j
  have h2 := strmByte_range (strmAt j x)
  exact (xor_byte h1.1 h1.2 h2.1 h2.2).1
theorem coverA_len (xs : List Int) (x : Int) (n : Nat) : (coverA xs x n).length = n := by simp [coverA]
theorem coverL_len (xs : List Int) (x : Int) : (coverL xs x).length = xs.length := coverA_len _ _ _
theorem coverA_get (xs : List Int) (x : Int) (n j : Nat) (h : j < n) : (coverA xs x n).getD j 0 = Go.bits .xor .u8 (xs.getD j 0) (strmByte (strmAt j x)) := by
  simp [coverA, List.getD_eq_getElem?_getD, h]
theorem strmL_get (x : Int) (n j : Nat) (h : j < n) : (strmL n x).getD j 0 = strmByte (strmAt j x) := by
  simp [strmL, List.getD_eq_getElem?_getD, h]
theorem coverA_succ (xs : List Int) (x : Int) (n : Nat) : coverA xs x (n + 1) = coverA xs x n ++ [Go.bits .xor .u8 (xs.getD n 0) (strmByte (strmAt n x))] := by
  simp [coverA, List.range_succ]
theorem strmL_succ (x : Int) (n : Nat) : strmL (n + 1) x = strmL n x ++ [strmByte (strmAt n x)] := by
  simp [strmL, List.range_succ]
theorem list_getD_ext {a b : List Int} (hl : a.length = b.length) (h : ∀ j, j < a.length → a.getD j 0 = b.getD j 0) : a = b := by
  apply List.ext_getElem hl
  intro j h1 h2
  have := h j h1
  rw [List.getD_eq_getElem?_getD, List.getD_eq_getElem?_getD, List.getElem?_eq_getElem h1, List.getElem?_eq_getElem h2] at this
  simpa using this
theorem coverL_twice {xs : List Int} (h : Bytes xs) (x : Int) : coverL (coverL xs x) x = xs := by
  refine list_getD_ext (by rw [coverL_len, coverL_len]) (fun j hj => ?_)
  rw [coverL_len, coverL_len] at hj
  have h1 := getD_byte h j
  have h2 := strmByte_range (strmAt j x)
  unfold coverL
  rw [coverA_get _ _ _ _ (by rw [coverA_len]; exact hj), coverA_get _ _ _ _ hj]
  exact (xor_byte h1.1 h1.2 h2.1 h2.2).2
theorem coverN_eq (xs : List Int) (x : Int) : ∀ n, n ≤ xs.length → coverN xs x n = coverA xs x n ++ xs.drop n := by
  intro n
  induction n with
  | zero => intro _; simp [coverN, coverA]
  | succ n ih =>
    intro hn
    simp only [coverN]
    rw [ih (by omega), List.set_append_right _ _ (by rw [coverA_len]; omega), coverA_len, coverA_succ, List.drop_eq_getElem_cons (by omega : n < xs.length), Nat.sub_self, List.set_cons_zero, List.append_assoc, List.getD_eq_getElem?_getD, List.getElem?_eq_getElem (by omega : n < xs.length)]
    rfl
theorem coverN_all (xs : List Int) (x : Int) : coverN xs x xs.length = coverL xs x := by
  rw [coverN_eq xs x _ (Nat.le_refl _)]; simp [coverL]
theorem strmNext_range {x : Int} (h0 : 0 ≤ x) (h1 : x < 2147483647) : 0 ≤ strmNext x ∧ strmNext x < 2147483647 := by
  unfold strmNext
  rw [w64 (by omega) (by omega), Int.tmod_eq_emod_of_nonneg (by omega)]
  omega
theorem strmAt_range {x : Int} (h0 : 0 ≤ x) (h1 : x < 2147483647) (n : Nat) : 0 ≤ strmAt n x ∧ strmAt n x < 2147483647 := by
  induction n with
  | zero => exact ⟨h0, h1⟩
  | succ n ih => exact strmNext_range ih.1 ih.2
/-- A text under the stream of a key. -/
def COV (t key : ByteArray) (nonce : Int) : ByteArray := strOfNums (coverL (bytesOf t) (rsum (key ++ strOfNums (puts 9 nonce)) 7))
theorem COV_bytes (t key : ByteArray) (nonce : Int) : bytesOf (COV t key nonce) = coverL (bytesOf t) (rsum (key ++ strOfNums (puts 9 nonce)) 7) :=
  bytesOf_str (coverA_bytes (Bytes.of t) _ _)
theorem COV_size (t key : ByteArray) (nonce : Int) : (COV t key nonce).size = t.size := by
  rw [← bytesOf_length, COV_bytes, coverL_len, bytesOf_length]
theorem COV_twice (t key : ByteArray) (nonce : Int) : COV (COV t key nonce) key nonce = t := by
  apply bytesOf_inj
  rw [COV_bytes, COV_bytes, coverL_twice (Bytes.of t)]
theorem puts_size {v : Int} (h0 : 0 ≤ v) : (strOfNums (puts 9 v)).size ≤ 9 := by
  rw [← bytesOf_length, bytesOf_str (puts_bytes 9 v h0)]; exact puts_len 9 v
theorem icov_eq (t key : ByteArray) (nonce : Int) (ht : t.size ≤ 1099511627776) (hk : key.size ≤ 300000) (n0 : 0 ≤ nonce) (n1 : nonce < 9223372036854775808) : Ev (fun k => impl_covered.f k t key nonce) (COV t key nonce) := by
  unfold impl_covered.f
  refine Ev.ifT (by omega) (Ev.bind (iput_eq nonce n0 n1) ?_)
  have hp := puts_size n0
  refine Ev.ifT (by omega) (Ev.bind (isum_eq _ (by rw [ByteArray.size_append]; omega) 7 (by omega)) ?_)
  unfold COV
  rw [← coverN_all, bytesOf_length]
  exact Ev.now _
theorem sbyte_eq {x : Int} (h0 : 0 ≤ x) (h1 : x < 2147483647) : (Int.tmod (wrap64 (Int.tdiv (strmNext x) 256)) 256) % 256 = strmByte x := by
  have h := strmNext_range h0 h1
  unfold strmByte
  generalize strmNext x = y at *
  rw [Int.tdiv_eq_ediv_of_nonneg h.1, w64 (by omega) (by omega), Int.tmod_eq_emod_of_nonneg (by omega)]
  omega
theorem sstream_l0 (n : Nat) (hn : n ≤ 200000) (x : Int) (h0 : 0 ≤ x) (h1 : x < 2147483647) : ∀ (d i : Nat), i + d = n → Ev (fun k => spec_StreamOf.l0 k (n : Int) (strmAt i x) (strmL i x) (i : Int)) (strOfNums (strmL n x)) := by
  intro d
  induction d with
  | zero =>
    intro i hi
    obtain rfl : i = n := by omega
    refine Ev.step (f := fun _ => some (strOfNums (strmL i x))) (fun k => ?_) (Ev.now _)
    simp only [spec_StreamOf.l0]
    rw [if_neg (by omega)]
  | succ d ih =>
    intro i hi
    refine Ev.step (fun k => ?_) (ih (i + 1) (by omega))
    simp only [spec_StreamOf.l0]
    rw [if_pos (by omega), if_pos (by simp [strmL]; omega), w64 (x := (i : Int) + 1) (by omega) (by omega), strmL_succ, ← sbyte_eq (strmAt_range h0 h1 i).1 (strmAt_range h0 h1 i).2]
    rfl
theorem skey_true {key : ByteArray} (h1 : 1 ≤ key.size) (h2 : key.size ≤ 200) : spec_l11Key.f key = some true := by
  unfold spec_l11Key.f
  rw [if_pos (by omega), decide_eq_true (by omega)]
theorem skey_eq (key : ByteArray) : spec_l11Key.f key = some (decide (1 ≤ key.size ∧ key.size ≤ 200)) := by
  unfold spec_l11Key.f
  by_cases c : 1 ≤ key.size
  · rw [if_pos (by omega)]
    congr 1
    exact decide_eq_decide.mpr (by omega)
  · rw [if_neg (by omega), decide_eq_false (by omega)]
theorem ikey_eq (key : ByteArray) : impl_isKey.f key = some (decide (1 ≤ key.size ∧ key.size ≤ 200)) := by
  unfold impl_isKey.f
  by_cases c : 1 ≤ key.size
  · rw [if_pos (by omega)]
    congr 1
    exact decide_eq_decide.mpr (by omega)
  · rw [if_neg (by omega), decide_eq_false (by omega)]
theorem sstream_eq (key : ByteArray) (nonce : Int) (n : Nat) (hn : n ≤ 200000) (k1 : 1 ≤ key.size) (k2 : key.size ≤ 200) (n0 : 0 ≤ nonce) (n1 : nonce < 9223372036854775808) : Ev (fun k => spec_StreamOf.f k key nonce (n : Int)) (strOfNums (strmL n (rsum (key ++ strOfNums (puts 9 nonce)) 7))) := by
  unfold spec_StreamOf.f
  refine Ev.bind0 (skey_true k1 k2) (Ev.ifT rfl (Ev.ifF (by omega) (Ev.ifF (by omega) ?_)))
  rw [show decide ((n : Int) > 200000) = false from decide_eq_false (by omega)]
  refine Ev.step (fun k => by simp only [spec_StreamOf.j0]; rw [if_neg (by simp)]) (Ev.bind (sput_eq nonce n0 n1) ?_)
  have hp := puts_size n0
  refine Ev.ifT (by omega) (Ev.bind (ssum_eq _ (by rw [ByteArray.size_append]; omega) 7 (by omega)) ?_)
  have hr := rsum_range (key ++ strOfNums (puts 9 nonce)) 7 (by omega) (by omega)
  exact sstream_l0 n hn _ hr.1 hr.2 n 0 (by omega)
theorem sxor_l0 (t : ByteArray) (ht : t.size ≤ 200000) (x : Int) : ∀ (d i : Nat), i + d = t.size → Ev (fun k => spec_l11Xor.l0 k t (strOfNums (strmL t.size x)) (coverA (bytesOf t) x i) (i : Int)) (strOfNums (coverL (bytesOf t) x)) := by
  have hb : bytesOf (strOfNums (strmL t.size x)) = strmL t.size x := bytesOf_str (strmL_bytes _ _)
  have hz : (strOfNums (strmL t.size x)).size = t.size := by rw [← bytesOf_length, hb]; simp [strmL]
  intro d
  induction d with
  | zero =>
    intro i hi
    obtain rfl : i = t.size := by omega
    refine Ev.step (f := fun _ => some (strOfNums (coverL (bytesOf t) x))) (fun k => ?_) (Ev.now _)
    simp only [spec_l11Xor.l0]
    rw [if_neg (by omega), coverL, bytesOf_length]
  | succ d ih =>
    intro i hi
    refine Ev.step (fun k => ?_) (ih (i + 1) (by omega))
    simp only [spec_l11Xor.l0]
    rw [if_pos (by omega), if_pos (by omega), if_pos (by omega), if_pos (by rw [coverA_len]; omega), w64 (x := (i : Int) + 1) (by omega) (by omega), coverA_succ, bt_bytes, bt_bytes, hb, strmL_get _ _ _ (by omega)]
    rfl
theorem sxor_eq (t key : ByteArray) (nonce : Int) (ht : t.size ≤ 200000) (k1 : 1 ≤ key.size) (k2 : key.size ≤ 200) (n0 : 0 ≤ nonce) (n1 : nonce < 9223372036854775808) : Ev (fun k => spec_l11Xor.f k t key nonce) (COV t key nonce) := by
  unfold spec_l11Xor.f
  exact Ev.bind (sstream_eq key nonce t.size ht k1 k2 n0 n1) (sxor_l0 t ht _ t.size 0 (by omega))
/-- Four bytes of a number. -/
def F4 (x : Int) : ByteArray := strOfNums [x / 16777216 % 256, x / 65536 % 256, x / 256 % 256, x % 256]
theorem F4_bytes (x : Int) : bytesOf (F4 x) = [x / 16777216 % 256, x / 65536 % 256, x / 256 % 256, x % 256] := by
  refine bytesOf_str (fun c h => ?_)
  simp only [List.mem_cons, List.not_mem_nil, or_false] at h
  rcases h with rfl | rfl | rfl | rfl <;> omega
theorem F4_size (x : Int) : (F4 x).size = 4 := by rw [← bytesOf_length, F4_bytes]; rfl
theorem ifour_eq (x : Int) : impl_sumBytes.f x = some (F4 x) := rfl
theorem sfour_eq {x : Int} (h0 : 0 ≤ x) (h1 : x < 2147483647) : spec_l07Four.f x = some (F4 x) := by
  unfold spec_l07Four.f F4
  rw [Int.tdiv_eq_ediv_of_nonneg h0, Int.tdiv_eq_ediv_of_nonneg h0, Int.tdiv_eq_ediv_of_nonneg h0, w64 (x := x / 16777216) (by omega) (by omega), w64 (x := x / 65536) (by omega) (by omega), w64 (x := x / 256) (by omega) (by omega), Int.tmod_eq_emod_of_nonneg (by omega), Int.tmod_eq_emod_of_nonneg (by omega), Int.tmod_eq_emod_of_nonneg (by omega)]
  congr 2
  simp only [List.cons.injEq, and_true]
  refine ⟨trivial, ?_, ?_, ?_⟩ <;> omega
/-- A key as a text, and what wraps it. -/
def PT (t : ByteArray) : ByteArray := strOfNums (puts 9 (t.size : Int)) ++ t
theorem PT_size (t : ByteArray) : (PT t).size ≤ 9 + t.size := by
  have := puts_size (v := (t.size : Int)) (by omega)
  unfold PT
  rw [ByteArray.size_append]; omega
theorem sputText_eq (t : ByteArray) (h : t.size ≤ 100000) : Ev (fun k => spec_PutText.f k t) (PT t) := by
  unfold spec_PutText.f
  have := puts_size (v := (t.size : Int)) (by omega)
  exact Ev.ifF (by omega) (Ev.bind (sput_eq (t.size : Int) (by omega) (by omega)) (Ev.ifT (by omega) (Ev.now _)))
def WRAP (m t : ByteArray) (nonce : Int) : ByteArray := COV (PT t ++ F4 (rsum (PT t) 8)) m nonce
theorem swrap_eq (m t : ByteArray) (nonce : Int) (ht : t.size ≤ 100000) (k1 : 1 ≤ m.size) (k2 : m.size ≤ 200) (n0 : 0 ≤ nonce) (n1 : nonce < 9223372036854775808) : Ev (fun k => spec_l11Wrap.f k m t nonce) (WRAP m t nonce) := by
  unfold spec_l11Wrap.f
  have hz := PT_size t
  have hr := rsum_range (PT t) 8 (by omega) (by omega)
  have h4 := F4_size (rsum (PT t) 8)
  exact Ev.bind (sputText_eq t ht) (Ev.bind (ssum_eq _ (by omega) 8 (by omega)) (Ev.bind0 (sfour_eq hr.1 hr.2) (Ev.ifT (by omega) (Ev.bind (sxor_eq _ m nonce (by rw [ByteArray.size_append]; omega) k1 k2 n0 n1) (Ev.now _)))))
theorem rnum_puts {s : ByteArray} {v nx : Int} (h : rnum s 0 = (true, v, nx)) : (bytesOf s).take nx.toNat = puts 9 v := by
  unfold rnum at h
  by_cases c : (0 : Int) < 0 ∨ (s.size : Int) ≤ 0
  · rw [if_pos c] at h; simp at h
  · rw [if_neg c] at h
    split at h
    · rename_i v' n hp
      split at h
      · rename_i hl
        simp only [Prod.mk.injEq, true_and] at h
        obtain ⟨rfl, rfl⟩ := h
        obtain ⟨h1, h2, h3, h4, h5⟩ := pn_some ((Bytes.of s).drop _) hp
        simp only [Int.toNat_zero, List.drop_zero, Int.zero_add, Int.toNat_natCast] at *
        rw [h5, (puts_val ((Bytes.of s).take n) h4 (by rw [List.length_take]; omega)).mpr hl]
      · simp at h
    · simp at h
theorem rtext_cut {s t : ByteArray} {nx : Int} (h : rtext s 0 = (true, t, nx)) : 0 ≤ nx ∧ nx ≤ s.size ∧ s.extract 0 nx.toNat = PT t ∧ t.size ≤ 100000 := by
  unfold rtext at h
  split at h
  · rename_i hg
    split at h
    · simp at h
    · rename_i hc
      obtain ⟨h1, h2, h3, h4, h5, h6⟩ := rnum_bounds (s := s) (at_ := 0) (v := (rnum s 0).2.1) (nx := (rnum s 0).2.2) (by rw [← hg])
      have hp := rnum_puts (s := s) (v := (rnum s 0).2.1) (nx := (rnum s 0).2.2) (by rw [← hg])
      generalize (rnum s 0).2.1 = v at *
      generalize (rnum s 0).2.2 = n at *
      simp only [Prod.mk.injEq, true_and] at h
      obtain ⟨rfl, rfl⟩ := h
      have hz : (s.extract n.toNat (n + v).toNat).size = v.toNat := by rw [size_extract (by omega) (by omega)]; omega
      refine ⟨by omega, by omega, ?_, by omega⟩
      apply bytesOf_inj
      unfold PT
      rw [hz, bytesOf_append, Int.toNat_of_nonneg h5, bytesOf_str (puts_bytes 9 v h5), ← hp, bytesOf_extract, bytesOf_extract, List.drop_zero, Nat.sub_zero, ← List.take_add]
      congr 1
      omega
  · simp at h
theorem app_split {s a b : ByteArray} {n : Nat} (h : s.extract 0 n = a) : (a ++ b = s) ↔ s.extract n s.size = b := by
  have hs : bytesOf s = (bytesOf s).take n ++ (bytesOf s).drop n := (List.take_append_drop n _).symm
  have ha : bytesOf a = (bytesOf s).take n := by rw [← h, bytesOf_extract]; simp
  have hb : bytesOf (s.extract n s.size) = (bytesOf s).drop n := by
    rw [bytesOf_extract, List.take_of_length_le]
    rw [List.length_drop, bytesOf_length]; omega
  constructor
  · intro e
    apply bytesOf_inj
    have e2 := congrArg bytesOf e
    rw [bytesOf_append, ha] at e2
    rw [hb]
    exact (List.append_cancel_left (hs.symm.trans e2.symm) : _)
  · intro e
    apply bytesOf_inj
    rw [bytesOf_append, ha, ← e, hb]
    exact hs.symm

theorem puts_read (v : Int) (h0 : 0 ≤ v) (h1 : v < 9223372036854775808) (a b : ByteArray) : rnum (a ++ strOfNums (puts 9 v) ++ b) (a.size : Int) = (true, v, (a.size : Int) + (puts 9 v).length) := by
  have e9 : (128 : Int) ^ 9 = 9223372036854775808 := by decide
  obtain ⟨f, e, l⟩ := puts_form (d := 9) (v := v) h0 (by omega) (by omega)
  have pb := puts_bytes 9 v h0
  have hlen := puts_len 9 v
  have hne : 1 ≤ (puts 9 v).length := by
    cases h : puts 9 v with
    | nil => rw [h] at f; exact absurd f (by simp [form])
    | cons a b => simp
  have hsize : (a ++ strOfNums (puts 9 v) ++ b).size = a.size + (puts 9 v).length + b.size := by
    rw [ByteArray.size_append, ByteArray.size_append, strOfNums_size]
  have hdrop : (bytesOf (a ++ strOfNums (puts 9 v) ++ b)).drop a.size = puts 9 v ++ bytesOf b := by
    rw [bytesOf_append, bytesOf_append, bytesOf_str pb, List.append_assoc, ← bytesOf_length a, List.drop_left]
  unfold rnum
  rw [hsize, if_neg (by omega), Int.toNat_natCast, hdrop, pn_of_form pb f (d := 9) hlen]
  simp only [List.take_left]
  rw [if_pos l, e]
theorem iputText_eq (t : ByteArray) (h : t.size ≤ 100000) : Ev (fun k => impl_PutText.f k t) (strOfNums (puts 9 (t.size : Int)) ++ t) := by
  unfold impl_PutText.f
  have hlen := puts_len 9 (t.size : Int)
  refine Ev.ifF (by omega) (Ev.bind (iput_eq (t.size : Int) (by omega) (by omega)) (Ev.ifT ?_ (Ev.now _)))
  rw [strOfNums_size]
  omega
theorem text_read (t : ByteArray) (h : t.size ≤ 100000) (a b : ByteArray) : rtext (a ++ (strOfNums (puts 9 (t.size : Int)) ++ t) ++ b) (a.size : Int) = (true, t, (a.size : Int) + ((puts 9 (t.size : Int)).length + t.size)) := by
  have hr := puts_read (t.size : Int) (by omega) (by omega) a (t ++ b)
  have pb := puts_bytes 9 (t.size : Int) (by omega)
  have e : a ++ (strOfNums (puts 9 (t.size : Int)) ++ t) ++ b = a ++ strOfNums (puts 9 (t.size : Int)) ++ (t ++ b) := by
    apply bytesOf_inj; simp only [bytesOf_append, List.append_assoc]
  have hsize : (a ++ strOfNums (puts 9 (t.size : Int)) ++ (t ++ b)).size = a.size + (puts 9 (t.size : Int)).length + t.size + b.size := by
    simp only [ByteArray.size_append, strOfNums_size]; omega
  rw [e]
  unfold rtext
  rw [hr]
  simp only [if_true]
  have hno : ¬ ((t.size : Int) > 100000 ∨ (t.size : Int) > ((a ++ strOfNums (puts 9 (t.size : Int)) ++ (t ++ b)).size : Int) - ((a.size : Int) + (puts 9 (t.size : Int)).length)) := by rw [hsize]; omega
  rw [if_neg hno]
  congr 1
  have e1 : ((a.size : Int) + ((puts 9 (t.size : Int)).length : Int)).toNat = a.size + (puts 9 (t.size : Int)).length := by omega
  have e2 : ((a.size : Int) + ((puts 9 (t.size : Int)).length : Int) + (t.size : Int)).toNat = a.size + (puts 9 (t.size : Int)).length + t.size := by omega
  rw [e1, e2]
  congr 1
  · apply bytesOf_inj
    rw [bytesOf_extract]
    simp only [bytesOf_append, bytesOf_str pb]
    rw [show a.size + (puts 9 (t.size : Int)).length = (bytesOf a ++ puts 9 (t.size : Int)).length by rw [List.length_append, bytesOf_length], List.drop_left]
    rw [show (bytesOf a ++ puts 9 (t.size : Int)).length + t.size - (bytesOf a ++ puts 9 (t.size : Int)).length = (bytesOf t).length by rw [bytesOf_length]; omega, List.take_left]
  · omega
end Go.Proofs.Ytncghlamcbhpmaa.Pure
