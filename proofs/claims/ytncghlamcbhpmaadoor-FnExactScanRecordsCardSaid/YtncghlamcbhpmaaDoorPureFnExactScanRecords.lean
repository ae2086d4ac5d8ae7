/-
  The plain law ScanRecords: the program's records are the reference's; for all texts.
-/
import Derived.Test.YtncghlamcbhpmaaDoorPFnExactScanRecordsq
import Derived.Test.YtncghlamcbhpmaaDoorPFnExactScanRecordsx5
import Derived.Test.YtncghlamcbhpmaaDoorNumFnExactScanRecords
namespace Go.Proofs.YtncghlamcbhpmaaDoor.Pure
open Go.RowKit Go.Proofs.YtncghlamcbhpmaaDoor.PFnExactScanRecords Go.Proofs.YtncghlamcbhpmaaDoor.Base Go.Proofs.YtncghlamcbhpmaaDoorW.PrintWords Go.Proofs.YtncghlamcbhpmaaDoorW.PrintLast Go.Proofs.YtncghlamcbhpmaaDoorW.PrintMore
theorem pow128 (j : Nat) : (128 : Int) ^ j = 2 ^ (7 * j) := by
  rw [Int.pow_mul]; rfl
theorem pow128_le {i j : Nat} (h : i ≤ j) : (128 : Int) ^ i ≤ 128 ^ j := by
  have : (128 : Nat) ^ i ≤ 128 ^ j := Nat.pow_le_pow_right (by omega) h
  exact_mod_cast this
theorem pow128_pos (j : Nat) : (1 : Int) ≤ 128 ^ j := pow128_le (i := 0) (Nat.zero_le j)
theorem wraps_u64 (n : Int) (h₀ : 0 ≤ n) (h₁ : n < 2 ^ 63) : IntKind.u64.wrap n = n := by
  simp [IntKind.wrap, IntKind.bits, IntKind.signed]
  omega
theorem or_low {a b : Int} {i : Nat} (ha : 0 ≤ a) (h1 : a < 2 ^ i) (hb : 0 ≤ b) (h2 : b % 2 ^ i = 0) (h3 : b < 2 ^ 63) (hi : i ≤ 63) : Go.bits .or .u64 a b = a + b := by
  have h4 : a < 2 ^ 63 := by
    have : (2 : Nat) ^ i ≤ 2 ^ 63 := Nat.pow_le_pow_right (by omega) hi
    have : (2 : Int) ^ i ≤ 2 ^ 63 := by exact_mod_cast this
    omega
  have e := bits_join .u64 63 (by decide) wraps_u64 i b a hb h2 h3 ha h1 h4
  obtain ⟨x, rfl⟩ := Int.eq_ofNat_of_zero_le ha
  obtain ⟨y, rfl⟩ := Int.eq_ofNat_of_zero_le hb
  have hx : x < 2 ^ 63 := by exact_mod_cast h4
  have hy : y < 2 ^ 63 := by exact_mod_cast h3
  rw [(bits_nat .u64 63 (by decide) wraps_u64 y x hy hx).2] at e
  rw [(bits_nat .u64 63 (by decide) wraps_u64 x y hx hy).2, Nat.or_comm, e]
  omega
theorem step_bits {acc b : Int} {j : Nat} (h0 : 0 ≤ acc) (h1 : acc < 128 ^ j) (hb : 0 ≤ b ∧ b ≤ 255) (hj : j ≤ 8) :
    Go.bits .or .u64 acc (shl .u64 (IntKind.u64.wrap (Go.bits .and .u8 b 127)) ((7 * j : Nat) : Int)) = acc + b % 128 * 128 ^ j := by
  have e1 : Go.bits .and .u8 b 127 = b % 128 := bits_mask .u8 8 (by decide) wraps_u8 7 (by decide) b hb.1 (by omega)
  have hp : b % 128 * 128 ^ j < 2 ^ 63 := by
    have h2 : (128 : Int) ^ (j + 1) ≤ 128 ^ 9 := pow128_le (by omega)
    rw [Int.pow_succ] at h2
    have h3 := pow128_pos j
    have h4 : b % 128 * 128 ^ j ≤ 127 * 128 ^ j := Int.mul_le_mul_of_nonneg_right (by omega) (by omega)
    omega
  have hp0 : 0 ≤ b % 128 * 128 ^ j := Int.mul_nonneg (by omega) (by have := pow128_pos j; omega)
  rw [e1, wraps_u64 _ (by omega) (by omega)]
  have e2 : shl .u64 (b % 128) ((7 * j : Nat) : Int) = b % 128 * 128 ^ j := by
    unfold shl
    rw [Int.toNat_natCast, Nat.min_eq_left (by show 7 * j ≤ 64; omega), ← pow128]
    exact wraps_u64 _ hp0 hp
  rw [e2]
  refine or_low (i := 7 * j) h0 (by rw [← pow128]; exact h1) hp0 ?_ hp (by omega)
  rw [← pow128]
  exact Int.mul_emod_left _ _
theorem next_some {s : ByteArray} {p : Nat} (h : p < s.size) (hs : s.size ≤ 1099511627776) : impl_cursor_next.f s (p : Int) = some (bt s (p : Int), true, s, ((p + 1 : Nat) : Int)) := by
  have hl : impl_cursor_left.f s (p : Int) = some ((s.size : Int) - p, s, (p : Int)) := by
    unfold impl_cursor_left.f
    rw [if_neg (by omega), if_neg (by omega), w64 (by omega) (by omega)]
  unfold impl_cursor_next.f
  rw [hl]
  simp only [Option.bind_some]
  rw [if_neg (by omega), if_pos (by omega), if_pos (by omega), w64 (by omega) (by omega)]
  rfl
theorem next_none {s : ByteArray} {at_ : Int} (h : at_ < 0 ∨ (s.size : Int) ≤ at_) (hs : s.size ≤ 1099511627776) : impl_cursor_next.f s at_ = some (0, false, s, at_) := by
  have hl : ∃ v, impl_cursor_left.f s at_ = some (v, s, at_) ∧ v < 1 := by
    unfold impl_cursor_left.f
    by_cases c1 : at_ < 0
    · exact ⟨-1, by rw [if_pos c1], by omega⟩
    · by_cases c2 : at_ > (s.size : Int)
      · exact ⟨-1, by rw [if_neg c1, if_pos c2], by omega⟩
      · exact ⟨_, by rw [if_neg c1, if_neg c2], by rw [w64 (by omega) (by omega)]; omega⟩
  obtain ⟨v, hv, h1⟩ := hl
  unfold impl_cursor_next.f
  rw [hv]
  simp only [Option.bind_some]
  rw [if_pos h1]
theorem drop_cons {s : ByteArray} {p : Nat} (h : p < s.size) : (bytesOf s).drop p = bt s (p : Int) :: (bytesOf s).drop (p + 1) := by
  have hl : p < (bytesOf s).length := by rw [bytesOf_length]; exact h
  rw [List.drop_eq_getElem_cons hl, bt_bytes, List.getD_eq_getElem?_getD, List.getElem?_eq_getElem hl]
  rfl
theorem cnum_l0 {s : ByteArray} (hs : s.size ≤ 1099511627776) : ∀ (d j : Nat) (acc : Int) (p : Nat), d + j = 9 → 0 ≤ acc → acc < 128 ^ j →
    (∀ v n, pn d ((bytesOf s).drop p) = some (v, n) → ∃ g : Bool, (g = true ↔ (((bytesOf s).drop p).take n).getLast? ≠ some 0 ∨ (n = 1 ∧ j = 0)) ∧ Ev (fun k => impl_cursor_num.l0 k acc ((7 * j : Nat) : Int) s (p : Int)) (acc + 128 ^ j * v, g, s, ((p + n : Nat) : Int))) ∧
    (pn d ((bytesOf s).drop p) = none → ∃ x y, Ev (fun k => impl_cursor_num.l0 k acc ((7 * j : Nat) : Int) s (p : Int)) (x, false, s, y)) := by
  intro d
  induction d with
  | zero =>
    intro j acc p hj h0 h1
    refine ⟨fun v n h => by simp [pn] at h, fun _ => ⟨0, (p : Int), Ev.step (f := fun _ => some (0, false, s, (p : Int))) (fun k => ?_) (Ev.now _)⟩⟩
    simp only [impl_cursor_num.l0]
    rw [if_neg (by omega)]
  | succ d ih =>
    intro j acc p hj h0 h1
    by_cases hp : p < s.size
    · have hb := bt_range s (p : Int)
      have hst := step_bits h0 h1 hb (by omega)
      have hpow : (128 : Int) ^ (j + 1) = 128 ^ j * 128 := Int.pow_succ ..
      have p1 := pow128_pos j
      have p9 : (128 : Int) ^ (j + 1) ≤ 128 ^ 9 := pow128_le (by omega)
      have hnew : acc + bt s (p : Int) % 128 * 128 ^ j < 128 ^ (j + 1) := by
        have : bt s (p : Int) % 128 * 128 ^ j ≤ 127 * 128 ^ j := Int.mul_le_mul_of_nonneg_right (by omega) (by omega)
        omega
      have hnew0 : 0 ≤ acc + bt s (p : Int) % 128 * 128 ^ j := by
        have : 0 ≤ bt s (p : Int) % 128 * 128 ^ j := Int.mul_nonneg (by omega) (by omega)
        omega
      rw [drop_cons hp]
      have head : ∀ k, impl_cursor_num.l0 (k + 1) acc ((7 * j : Nat) : Int) s (p : Int) = if bt s (p : Int) < 128 then (if bt s (p : Int) = 0 then some (acc + bt s (p : Int) % 128 * 128 ^ j, (((7 * j : Nat) : Int) == 0), s, ((p + 1 : Nat) : Int)) else some (acc + bt s (p : Int) % 128 * 128 ^ j, true, s, ((p + 1 : Nat) : Int))) else impl_cursor_num.l0 k (acc + bt s (p : Int) % 128 * 128 ^ j) ((7 * (j + 1) : Nat) : Int) s ((p + 1 : Nat) : Int) := fun k => by
        simp only [impl_cursor_num.l0]
        rw [if_pos (by omega), next_some hp hs]
        simp only [Option.bind_some, if_true]
        rw [if_pos (by omega), hst, w64 (x := acc + bt s (p : Int) % 128 * 128 ^ j) (by omega) (by omega), wraps_u64 (((7 * j : Nat) : Int) + 7) (by omega) (by omega)]
        rw [show ((7 * j : Nat) : Int) + 7 = ((7 * (j + 1) : Nat) : Int) by omega]
      by_cases c1 : bt s (p : Int) < 128
      · refine ⟨fun v n h => ?_, fun h => ?_⟩
        · simp only [pn] at h
          rw [if_pos c1] at h
          simp only [Option.some.injEq, Prod.mk.injEq] at h
          obtain ⟨rfl, rfl⟩ := h
          have em : bt s (p : Int) % 128 * 128 ^ j = 128 ^ j * bt s (p : Int) := by
            rw [Int.emod_eq_of_lt hb.1 c1, Int.mul_comm]
          by_cases c2 : bt s (p : Int) = 0
          · refine ⟨((7 * j : Nat) : Int) == 0, ?_, Ev.step (f := fun _ => some (acc + bt s (p : Int) % 128 * 128 ^ j, (((7 * j : Nat) : Int) == 0), s, ((p + 1 : Nat) : Int))) (fun k => by rw [head, if_pos c1, if_pos c2]) (by rw [em]; exact Ev.now _)⟩
            simp [c2]
            omega
          · refine ⟨true, by simp [c2], Ev.step (f := fun _ => some (acc + bt s (p : Int) % 128 * 128 ^ j, true, s, ((p + 1 : Nat) : Int))) (fun k => by rw [head, if_pos c1, if_neg c2]) (by rw [em]; exact Ev.now _)⟩
        · simp only [pn] at h
          rw [if_pos c1] at h
          cases h
      · obtain ⟨i1, i2⟩ := ih (j + 1) (acc + bt s (p : Int) % 128 * 128 ^ j) (p + 1) (by omega) hnew0 hnew
        refine ⟨fun v n h => ?_, fun h => ?_⟩
        · simp only [pn] at h
          rw [if_neg c1, Option.map_eq_some_iff] at h
          obtain ⟨⟨x, m⟩, hx, he⟩ := h
          simp only [Prod.mk.injEq] at he
          obtain ⟨rfl, rfl⟩ := he
          obtain ⟨g, hg, he⟩ := i1 x m hx
          have hm := (pn_some ((Bytes.of s).drop (p + 1)) hx).2.1
          refine ⟨g, ?_, Ev.step (fun k => by rw [head, if_neg c1]) ?_⟩
          · rw [hg, List.take_succ_cons]
            have hne : ((bytesOf s).drop (p + 1)).take m ≠ [] := by
              have hf := (pn_some ((Bytes.of s).drop (p + 1)) hx).2.2.2.1
              intro h0
              rw [h0] at hf
              exact hf
            rw [List.getLast?_cons_of_ne_nil hne]
            constructor
            · rintro (h | ⟨_, h⟩)
              · exact .inl h
              · omega
            · rintro (h | ⟨h, _⟩)
              · exact .inl h
              · omega
          · have e1 : acc + bt s (p : Int) % 128 * 128 ^ j + 128 ^ (j + 1) * x = acc + 128 ^ j * (bt s (p : Int) - 128 + 128 * x) := by
              have : bt s (p : Int) % 128 = bt s (p : Int) - 128 := by omega
              rw [this, hpow, Int.mul_assoc, Int.add_assoc, Int.mul_comm (bt s (p : Int) - 128), ← Int.mul_add]
            rw [e1] at he
            rw [show ((p + (m + 1) : Nat) : Int) = ((p + 1 + m : Nat) : Int) by omega]
            exact he
        · simp only [pn] at h
          rw [if_neg c1, Option.map_eq_none_iff] at h
          obtain ⟨x, y, he⟩ := i2 h
          exact ⟨x, y, Ev.step (fun k => by rw [head, if_neg c1]) he⟩
    · have e : (bytesOf s).drop p = [] := List.drop_of_length_le (by rw [bytesOf_length]; omega)
      rw [e]
      refine ⟨fun v n h => by simp [pn] at h, fun _ => ⟨0, (p : Int), Ev.step (f := fun _ => some (0, false, s, (p : Int))) (fun k => ?_) (Ev.now _)⟩⟩
      simp only [impl_cursor_num.l0]
      rw [if_pos (by omega), next_none (by omega) hs]
      simp
/-- The number at a place, as the document has it. -/
def rnum (s : ByteArray) (at_ : Int) : Bool × Int × Int :=
  if at_ < 0 ∨ (s.size : Int) ≤ at_ then (false, 0, 0) else
    match pn 9 ((bytesOf s).drop at_.toNat) with
    | some (v, n) => if least (((bytesOf s).drop at_.toNat).take n) then (true, v, at_ + n) else (false, 0, 0)
    | none => (false, 0, 0)
theorem rnum_bounds {s : ByteArray} {at_ v nx : Int} (h : rnum s at_ = (true, v, nx)) : 0 ≤ at_ ∧ at_ < nx ∧ nx ≤ at_ + 9 ∧ nx ≤ s.size ∧ 0 ≤ v ∧ v < 9223372036854775808 := by
  unfold rnum at h
  by_cases c : at_ < 0 ∨ (s.size : Int) ≤ at_
  · rw [if_pos c] at h; simp at h
  · rw [if_neg c] at h
    split at h
    · rename_i v' n hp
      split at h
      · simp only [Prod.mk.injEq, true_and] at h
        obtain ⟨rfl, rfl⟩ := h
        obtain ⟨h1, h2, h3, h4, h5⟩ := pn_some ((Bytes.of s).drop at_.toNat) hp
        have h6 := val_nonneg (((bytesOf s).drop at_.toNat).take n)
        have h7 := val_lt (((bytesOf s).drop at_.toNat).take n)
        have h8 : (128 : Int) ^ (((bytesOf s).drop at_.toNat).take n).length ≤ 128 ^ 9 := pow128_le (by rw [List.length_take]; omega)
        rw [List.length_drop, bytesOf_length] at h3
        have : (128 : Int) ^ 9 = 9223372036854775808 := by decide
        refine ⟨by omega, by omega, by omega, by omega, by omega, by omega⟩
      · simp at h
    · simp at h
theorem cnum_eq (s : ByteArray) (hs : s.size ≤ 1099511627776) (at_ : Int) :
    ((rnum s at_).1 = true → Ev (fun k => impl_cursor_num.f k s at_) ((rnum s at_).2.1, true, s, (rnum s at_).2.2)) ∧
    ((rnum s at_).1 = false → ∃ x y, Ev (fun k => impl_cursor_num.f k s at_) (x, false, s, y)) := by
  unfold rnum impl_cursor_num.f
  by_cases c : at_ < 0 ∨ (s.size : Int) ≤ at_
  · rw [if_pos c]
    refine ⟨fun h => by simp at h, fun _ => ⟨0, at_, Ev.step (f := fun _ => some (0, false, s, at_)) (fun k => ?_) (Ev.now _)⟩⟩
    simp only [impl_cursor_num.l0]
    rw [if_pos (by omega), next_none c hs]
    simp
  · rw [if_neg c]
    obtain ⟨p, rfl⟩ := Int.eq_ofNat_of_zero_le (show 0 ≤ at_ by omega)
    obtain ⟨i1, i2⟩ := cnum_l0 hs 9 0 0 p (by omega) (by omega) (by decide)
    simp only [Int.toNat_natCast]
    cases hp : pn 9 ((bytesOf s).drop p) with
    | none =>
      refine ⟨fun h => by simp at h, fun _ => ?_⟩
      exact i2 hp
    | some x =>
      obtain ⟨v, n⟩ := x
      obtain ⟨g, hg, he⟩ := i1 v n hp
      have h3 := pn_some ((Bytes.of s).drop p) hp
      have hgl : g = true ↔ least (((bytesOf s).drop p).take n) := by
        rw [hg]
        unfold least
        rw [List.length_take, Nat.min_eq_left h3.2.2.1]
        constructor
        · rintro (h | ⟨h, _⟩)
          · exact .inr h
          · exact .inl h
        · rintro (h | h)
          · exact .inr ⟨h, rfl⟩
          · exact .inl h
      have e : (0 : Int) + 128 ^ 0 * v = v := by simp
      rw [e] at he
      by_cases cl : least (((bytesOf s).drop p).take n)
      · have : g = true := hgl.2 cl
        subst this
        simp only [if_pos cl]
        refine ⟨fun _ => ?_, fun h => by simp at h⟩
        exact he
      · have : g = false := by
          cases g
          · rfl
          · exact absurd (hgl.1 rfl) cl
        subst this
        simp only [if_neg cl]
        refine ⟨fun h => by simp at h, fun _ => ?_⟩
        exact ⟨_, _, he⟩

theorem sput_l0 : ∀ (d : Nat) (v : Int) (x : List Int), 1 ≤ d → d ≤ 9 → 0 ≤ v → v < 128 ^ d → x.length + d ≤ 100 → Ev (fun k => spec_PutNum.l0 k v x) (strOfNums (x ++ puts d v)) := by
  intro d
  induction d with
  | zero => intro v x h; omega
  | succ d ih =>
    intro v x _ hd h0 h1 hx
    have p9 : (128 : Int) ^ (d + 1) ≤ 128 ^ 9 := pow128_le (by omega)
    have e9 : (128 : Int) ^ 9 = 9223372036854775808 := by decide
    by_cases c : v > 127
    · have hd' : v / 128 < 128 ^ d := by rw [Int.pow_succ] at h1; omega
      have d1 : 1 ≤ d := by
        rcases Nat.eq_zero_or_pos d with h0 | h0
        · subst h0; simp at hd'; omega
        · exact h0
      have := ih (v / 128) (x ++ [128 + v % 128]) d1 (by omega) (by omega) hd' (by simp; omega)
      refine Ev.step (fun k => ?_) (show Ev (fun k => spec_PutNum.l0 k (v / 128) (x ++ [128 + v % 128])) _ from ?_)
      · simp only [spec_PutNum.l0]
        rw [if_pos c, if_pos (by omega), Int.tdiv_eq_ediv_of_nonneg h0, Int.tmod_eq_emod_of_nonneg h0, w64 (x := v / 128) (by omega) (by omega), w64 (x := 128 + v % 128) (by omega) (by omega), Int.emod_eq_of_lt (a := 128 + v % 128) (b := 256) (by omega) (by omega)]
      · simp only [puts]
        rw [if_pos c]
        simpa using this
    · refine Ev.step (f := fun _ => some (strOfNums (x ++ [v]))) (fun k => ?_) ?_
      · simp only [spec_PutNum.l0]
        rw [if_neg c, if_pos (by omega), Int.emod_eq_of_lt (a := v) (b := 256) (by omega) (by omega)]
      · simp only [puts]
        rw [if_neg c]
        exact Ev.now _
theorem sput_eq (v : Int) (h0 : 0 ≤ v) (h1 : v < 9223372036854775808) : Ev (fun k => spec_PutNum.f k v) (strOfNums (puts 9 v)) := by
  unfold spec_PutNum.f
  have e9 : (128 : Int) ^ 9 = 9223372036854775808 := by decide
  exact Ev.ifF (by omega) (sput_l0 9 v [] (by omega) (by omega) h0 (by omega) (by simp))
theorem snum_l1 (at_ n : Int) (x : ByteArray) (hx : x.size ≤ 9) (hn : 1 ≤ n) (hn9 : n ≤ 9) (ha : 0 ≤ at_) (ha2 : at_ ≤ 1099511627776) : ∀ (i : Nat), i ≤ x.size →
    Ev (fun k => spec_GetNum.l1 k at_ n x (val ((bytesOf x).drop i)) ((i : Int) - 1)) (if puts 9 (val (bytesOf x)) = bytesOf x then (true, val (bytesOf x), at_ + n) else (false, 0, 0)) := by
  have e9 : (128 : Int) ^ 9 = 9223372036854775808 := by decide
  have hv : ∀ i, val ((bytesOf x).drop i) < 9223372036854775808 := fun i => by
    have h1 := val_lt ((bytesOf x).drop i)
    have h2 : (128 : Int) ^ ((bytesOf x).drop i).length ≤ 128 ^ 9 := pow128_le (by rw [List.length_drop, bytesOf_length]; omega)
    omega
  intro i
  induction i with
  | zero =>
    intro _
    rw [List.drop_zero]
    have v0 := val_nonneg (bytesOf x)
    have v1 := hv 0
    rw [List.drop_zero] at v1
    refine Ev.step (f := fun k => (spec_PutNum.f k (val (bytesOf x))).bind fun t111 => (if t111.toList = x.toList then (some (true, val (bytesOf x), wrap64 (at_ + n))) else (some (false, 0, 0)))) (fun k => ?_) ?_
    · simp only [spec_GetNum.l1]
      rw [if_neg (by omega)]
    · refine Ev.bind (sput_eq _ v0 v1) ?_
      have pb := puts_bytes 9 _ v0
      by_cases c : puts 9 (val (bytesOf x)) = bytesOf x
      · rw [if_pos c]
        refine Ev.ifT ?_ ?_
        · rw [toList_inj, c, str_bytesOf]
        · rw [w64 (by omega) (by omega)]; exact Ev.now _
      · rw [if_neg c]
        refine Ev.ifF ?_ (Ev.now _)
        rw [toList_inj]
        intro h
        have h2 := congrArg bytesOf h
        rw [bytesOf_str pb] at h2
        exact c h2
  | succ i ih =>
    intro hi
    have hl : i < (bytesOf x).length := by rw [bytesOf_length]; omega
    have hc := bt_range x (i : Int)
    have v0 := val_nonneg ((bytesOf x).drop (i + 1))
    have v1 := hv (i + 1)
    have v2 := hv i
    have e : (bytesOf x).drop i = bt x (i : Int) :: (bytesOf x).drop (i + 1) := drop_cons (by omega)
    have ih' := ih (by omega)
    rw [e] at ih' v2
    simp only [val] at ih' v2
    refine Ev.step (fun k => ?_) ih'
    simp only [spec_GetNum.l1]
    rw [if_pos (by omega), if_pos (by omega), if_pos (by omega), show ((i + 1 : Nat) : Int) - 1 = (i : Int) by omega, w64 (x := val ((bytesOf x).drop (i + 1)) * 128) (by omega) (by omega), w64 (x := bt x (i : Int)) (by omega) (by omega), Int.tmod_eq_emod_of_nonneg hc.1, w64 (x := (i : Int) - 1) (by omega) (by omega), w64 (by omega) (by omega)]
    congr 1
    omega
theorem snum_l0 {s : ByteArray} (hs : s.size ≤ 1099511627776) (p : Nat) (hp : p < s.size) : ∀ (d m : Nat), d + m = 9 → p + m ≤ s.size → (∀ c ∈ ((bytesOf s).drop p).take m, 128 ≤ c) →
    (∀ v n, pn d ((bytesOf s).drop (p + m)) = some (v, n) → Ev (fun k => spec_GetNum.l0 k s (p : Int) ((m : Int) + 1)) (if least (((bytesOf s).drop p).take (m + n)) then (true, val (((bytesOf s).drop p).take (m + n)), (p : Int) + ((m + n : Nat) : Int)) else (false, 0, 0))) ∧
    (pn d ((bytesOf s).drop (p + m)) = none → Ev (fun k => spec_GetNum.l0 k s (p : Int) ((m : Int) + 1)) (false, 0, 0)) := by
  intro d
  induction d with
  | zero =>
    intro m hm hpm hc
    refine ⟨fun v n h => by simp [pn] at h, fun _ => ?_⟩
    refine Ev.step (f := fun k => spec_GetNum.j2 k s (p : Int) ((m : Int) + 1) false) (fun k => by simp only [spec_GetNum.l0]; rw [if_neg (by omega)]) ?_
    exact Ev.step (f := fun _ => some (false, 0, 0)) (fun k => by simp only [spec_GetNum.j2]; rw [if_neg (by decide)]) (Ev.now _)
  | succ d ih =>
    intro m hm hpm hc
    have h1 : ∀ k, spec_GetNum.l0 (k + 1) s (p : Int) ((m : Int) + 1) = spec_GetNum.j2 k s (p : Int) ((m : Int) + 1) (decide ((p : Int) + ((m : Int) + 1) ≤ (s.size : Int))) := fun k => by
      simp only [spec_GetNum.l0]
      rw [if_pos (by omega), w64 (by omega) (by omega)]
    by_cases hlt : p + m < s.size
    · have hdec : decide ((p : Int) + ((m : Int) + 1) ≤ (s.size : Int)) = true := by simp; omega
      rw [hdec] at h1
      have hex : (s.extract p (p + m + 1)).size = m + 1 := by rw [size_extract (by omega) (by omega)]; omega
      have hbx : bytesOf (s.extract p (p + m + 1)) = ((bytesOf s).drop p).take (m + 1) := by rw [bytesOf_extract]; congr 1; omega
      have hbm : bt (s.extract p (p + m + 1)) (m : Int) = bt s ((p + m : Nat) : Int) := by
        rw [bt_bytes, bt_bytes, hbx]
        simp [List.getD_eq_getElem?_getD, List.getElem?_drop]
      have h2 : ∀ k, spec_GetNum.j2 (k + 1) s (p : Int) ((m : Int) + 1) true = if bt s ((p + m : Nat) : Int) > 127 then spec_GetNum.l0 k s (p : Int) ((m : Int) + 1 + 1) else spec_GetNum.l1 k (p : Int) ((m : Int) + 1) (s.extract p (p + m + 1)) 0 (m : Int) := fun k => by
        simp only [spec_GetNum.j2, if_true]
        rw [w64 (x := (p : Int) + ((m : Int) + 1)) (by omega) (by omega), w64 (x := (m : Int) + 1 - 1) (by omega) (by omega), if_pos (by omega), if_pos (by omega), if_pos (by omega), if_pos (by omega)]
        rw [show ((p : Int) + ((m : Int) + 1)).toNat = p + m + 1 by omega, show ((p : Int)).toNat = p by omega, show (m : Int) + 1 - 1 = (m : Int) by omega, hbm, if_pos (by rw [hex]; omega), w64 (x := (m : Int) + 1 + 1) (by omega) (by omega)]
      have hcons := drop_cons (s := s) (p := p + m) hlt
      rw [hcons]
      by_cases c1 : bt s ((p + m : Nat) : Int) < 128
      · have htk : (((bytesOf s).drop p).take (m + 1)).length = m + 1 := by rw [List.length_take, List.length_drop, bytesOf_length]; omega
        have tsplit : ((bytesOf s).drop p).take (m + 1) = ((bytesOf s).drop p).take m ++ [bt s ((p + m : Nat) : Int)] := by
          rw [List.take_succ_eq_append_getElem (by rw [List.length_drop, bytesOf_length]; omega)]
          congr 2
          rw [List.getElem_drop, bt_bytes, List.getD_eq_getElem?_getD, List.getElem?_eq_getElem (by rw [bytesOf_length]; omega)]
          rfl
        have hform : form (((bytesOf s).drop p).take (m + 1)) := by
          rw [tsplit]
          generalize ((bytesOf s).drop p).take m = t at hc
          induction t with
          | nil => simpa [form] using c1
          | cons a b iht =>
            rw [List.cons_append, form_cons (by simp)]
            exact ⟨hc a (by simp), iht (fun c hcc => hc c (by simp [hcc]))⟩
        refine ⟨fun v n h => ?_, fun h => ?_⟩
        · simp only [pn] at h
          rw [if_pos c1] at h
          simp only [Option.some.injEq, Prod.mk.injEq] at h
          obtain ⟨rfl, rfl⟩ := h
          have hl1 := snum_l1 (p : Int) ((m : Int) + 1) (s.extract p (p + m + 1)) (by omega) (by omega) (by omega) (by omega) (by omega) (m + 1) (by omega)
          rw [List.drop_of_length_le (by rw [bytesOf_length]; omega)] at hl1
          rw [hbx] at hl1
          have hiff := puts_val (((Bytes.of s).drop p).take (m + 1)) hform (d := 9) (by omega)
          have e1 : ((m + 1 : Nat) : Int) - 1 = (m : Int) := by omega
          rw [e1] at hl1
          refine Ev.step h1 (Ev.step (fun k => by rw [h2, if_neg (by omega)]) ?_)
          simp only [hiff] at hl1
          exact hl1
        · simp only [pn] at h
          rw [if_pos c1] at h
          cases h
      · obtain ⟨i1, i2⟩ := ih (m + 1) (by omega) (by omega) (by
          intro c hcm
          rw [List.take_succ_eq_append_getElem (by rw [List.length_drop, bytesOf_length]; omega)] at hcm
          rcases List.mem_append.1 hcm with h | h
          · exact hc c h
          · have := List.mem_singleton.1 h
            subst this
            rw [List.getElem_drop]
            have e2 : bt s ((p + m : Nat) : Int) = (bytesOf s)[p + m]'(by rw [bytesOf_length]; omega) := by
              rw [bt_bytes, List.getD_eq_getElem?_getD, List.getElem?_eq_getElem (by rw [bytesOf_length]; omega)]
              rfl
            omega)
        refine ⟨fun v n h => ?_, fun h => ?_⟩
        · simp only [pn] at h
          rw [if_neg c1, Option.map_eq_some_iff] at h
          obtain ⟨⟨x, n'⟩, hx, he⟩ := h
          simp only [Prod.mk.injEq] at he
          obtain ⟨rfl, rfl⟩ := he
          have := i1 x n' hx
          rw [show m + (n' + 1) = m + 1 + n' by omega]
          refine Ev.step h1 (Ev.step (fun k => by rw [h2, if_pos (by omega)]) ?_)
          exact this
        · simp only [pn] at h
          rw [if_neg c1, Option.map_eq_none_iff] at h
          refine Ev.step h1 (Ev.step (fun k => by rw [h2, if_pos (by omega)]) ?_)
          exact i2 h
    · have e : (bytesOf s).drop (p + m) = [] := List.drop_of_length_le (by rw [bytesOf_length]; omega)
      rw [e]
      have hdec : decide ((p : Int) + ((m : Int) + 1) ≤ (s.size : Int)) = false := by simp; omega
      rw [hdec] at h1
      refine ⟨fun v n h => by simp [pn] at h, fun _ => ?_⟩
      exact Ev.step h1 (Ev.step (f := fun _ => some (false, 0, 0)) (fun k => by simp only [spec_GetNum.j2]; rw [if_neg (by decide)]) (Ev.now _))
theorem snum_eq (s : ByteArray) (hs : s.size ≤ 1099511627776) (at_ : Int) : Ev (fun k => spec_GetNum.f k s at_) (rnum s at_) := by
  unfold spec_GetNum.f rnum
  have yes : Ev (fun k => spec_GetNum.j0 k s at_ true) (false, 0, 0) := Ev.step (f := fun _ => some (false, 0, 0)) (fun k => by simp only [spec_GetNum.j0, if_true]) (Ev.now _)
  by_cases c1 : at_ < 0
  · rw [if_pos (.inl c1)]; exact Ev.ifT c1 yes
  · refine Ev.ifF c1 ?_
    by_cases c2 : at_ ≥ (s.size : Int)
    · rw [if_pos (.inr c2)]
      simp only [decide_eq_true c2]
      exact yes
    · rw [if_neg (by omega)]
      simp only [decide_eq_false c2]
      obtain ⟨p, rfl⟩ := Int.eq_ofNat_of_zero_le (show 0 ≤ at_ by omega)
      obtain ⟨i1, i2⟩ := snum_l0 hs p (by omega) 9 0 (by omega) (by omega) (by simp)
      refine Ev.step (f := fun k => spec_GetNum.l0 k s (p : Int) ((0 : Nat) + 1)) (fun k => by simp only [spec_GetNum.j0]; rw [if_neg (by decide)]; rfl) ?_
      simp only [Int.toNat_natCast]
      rw [Nat.add_zero] at i1 i2
      cases hp : pn 9 ((bytesOf s).drop p) with
      | none => exact i2 hp
      | some x =>
        obtain ⟨v, n⟩ := x
        have := i1 v n hp
        rw [Nat.zero_add, ← (pn_some ((Bytes.of s).drop p) hp).2.2.2.2] at this
        exact this

/-- The text at a place, as the document has it. -/
def rtext (s : ByteArray) (at_ : Int) : Bool × ByteArray × Int :=
  if (rnum s at_).1 = true then
    (if (rnum s at_).2.1 > 100000 ∨ (rnum s at_).2.1 > (s.size : Int) - (rnum s at_).2.2 then (false, (⟨#[]⟩ : ByteArray), 0)
     else (true, s.extract (rnum s at_).2.2.toNat ((rnum s at_).2.2 + (rnum s at_).2.1).toNat, (rnum s at_).2.2 + (rnum s at_).2.1))
  else (false, (⟨#[]⟩ : ByteArray), 0)
theorem stext_eq (s : ByteArray) (hs : s.size ≤ 1099511627776) (at_ : Int) : Ev (fun k => spec_GetText.f k s at_) (rtext s at_) := by
  unfold spec_GetText.f rtext
  refine Ev.bind (snum_eq s hs at_) ?_
  cases hb : (rnum s at_).1 with
  | false => simp only [Bool.false_eq_true, if_false]; exact Ev.now _
  | true =>
    simp only [if_true]
    obtain ⟨h1, h2, h3, h4, h5, h6⟩ := rnum_bounds (s := s) (at_ := at_) (v := (rnum s at_).2.1) (nx := (rnum s at_).2.2) (by rw [← hb])
    generalize (rnum s at_).2.1 = v at *
    generalize (rnum s at_).2.2 = nx at *
    rw [w64 (x := (s.size : Int) - nx) (by omega) (by omega)]
    by_cases c1 : v > 100000
    · refine Ev.ifT c1 ?_
      rw [if_pos (Or.inl c1)]; exact Ev.now _
    · refine Ev.ifF c1 ?_
      by_cases c2 : v > (s.size : Int) - nx
      · refine Ev.ifT c2 ?_
        rw [if_pos (Or.inr c2)]; exact Ev.now _
      · refine Ev.ifF c2 ?_
        have hno : ¬ (v > 100000 ∨ v > (s.size : Int) - nx) := by omega
        rw [if_neg hno, w64 (x := nx + v) (by omega) (by omega)]
        exact Ev.ifT (by omega) (Ev.ifT (by omega) (Ev.ifT (by omega) (Ev.now _)))
theorem take_eq (s : ByteArray) (hs : s.size ≤ 1099511627776) (at_ n : Int) (h0 : 0 ≤ at_) (h1 : at_ ≤ s.size) (hn : 0 ≤ n) (hn2 : n < 9223372036854775808) :
    impl_cursor_take.f s at_ n = if n > (s.size : Int) - at_ then some ((⟨#[]⟩ : ByteArray), false, s, at_) else some (s.extract at_.toNat (at_ + n).toNat, true, s, at_ + n) := by
  have hl : impl_cursor_left.f s at_ = some ((s.size : Int) - at_, s, at_) := by
    unfold impl_cursor_left.f
    rw [if_neg (by omega), if_neg (by omega), w64 (by omega) (by omega)]
  unfold impl_cursor_take.f
  rw [if_neg (by omega), hl]
  simp only [Option.bind_some]
  by_cases c : n > (s.size : Int) - at_
  · rw [if_pos c, if_pos c]
  · rw [if_neg c, if_pos (by omega), w64 (x := at_ + n) (by omega) (by omega), if_pos (by omega), if_pos (by omega), if_neg c]
theorem ctext_eq (s : ByteArray) (hs : s.size ≤ 1099511627776) (at_ : Int) :
    ((rtext s at_).1 = true → Ev (fun k => impl_cursor_text.f k s at_) ((rtext s at_).2.1, true, s, (rtext s at_).2.2)) ∧
    ((rtext s at_).1 = false → ∃ x y, Ev (fun k => impl_cursor_text.f k s at_) (x, false, s, y)) := by
  obtain ⟨i1, i2⟩ := cnum_eq s hs at_
  unfold rtext impl_cursor_text.f
  cases hb : (rnum s at_).1 with
  | false =>
    simp only [Bool.false_eq_true, if_false]
    refine ⟨fun h => by simp at h, fun _ => ?_⟩
    obtain ⟨x, y, h⟩ := i2 hb
    exact ⟨_, _, Ev.bind h (Ev.ifF (by simp) (Ev.now _))⟩
  | true =>
    have h := i1 hb
    obtain ⟨h1, h2, h3, h4, h5, h6⟩ := rnum_bounds (s := s) (at_ := at_) (v := (rnum s at_).2.1) (nx := (rnum s at_).2.2) (by rw [← hb])
    simp only [if_true]
    generalize (rnum s at_).2.1 = v at *
    generalize (rnum s at_).2.2 = nx at *
    have ht := take_eq s hs nx v (by omega) (by omega) (by omega) (by omega)
    by_cases c1 : v > 100000
    · have hyes : v > 100000 ∨ v > (s.size : Int) - nx := Or.inl c1
      simp only [if_pos hyes]
      refine ⟨fun h => by simp at h, fun _ => ⟨_, _, Ev.bind h (Ev.ifT rfl (Ev.ifT c1 (Ev.now _)))⟩⟩
    · by_cases c2 : v > (s.size : Int) - nx
      · have hyes : v > 100000 ∨ v > (s.size : Int) - nx := Or.inr c2
        simp only [if_pos hyes]
        rw [if_pos c2] at ht
        exact ⟨fun h => by simp at h, fun _ => ⟨_, _, Ev.bind h (Ev.ifT rfl (Ev.ifF c1 (Ev.bind0 ht (Ev.now _))))⟩⟩
      · have hno : ¬ (v > 100000 ∨ v > (s.size : Int) - nx) := by omega
        simp only [if_neg hno]
        rw [if_neg c2] at ht
        exact ⟨fun _ => Ev.bind h (Ev.ifT rfl (Ev.ifF c1 (Ev.bind0 ht (Ev.now _)))), fun h => by simp at h⟩

/-- One step of the sum, and the sum of a text. -/
def sstep (x b : Int) : Int := Int.tmod (wrap64 (wrap64 (wrap64 (x * 65539) + wrap64 b) + 1)) 2147483647
def rsum (s : ByteArray) (tag : Int) : Int := (bytesOf s).foldl sstep (wrap64 (Int.tmod tag 2147483647 + 1))
theorem sstep_range {x b : Int} (x0 : 0 ≤ x) (x1 : x < 2147483647) (b0 : 0 ≤ b) (b1 : b ≤ 255) : sstep x b = (x * 65539 + b + 1) % 2147483647 := by
  unfold sstep
  rw [w64 (x := x * 65539) (by omega) (by omega), w64 (x := b) (by omega) (by omega), w64 (x := x * 65539 + b) (by omega) (by omega), w64 (by omega) (by omega), Int.tmod_eq_emod_of_nonneg (by omega)]
theorem foldl_range : ∀ (l : List Int), Bytes l → ∀ x, 0 ≤ x → x < 2147483647 → 0 ≤ l.foldl sstep x ∧ l.foldl sstep x < 2147483647 := by
  intro l
  induction l with
  | nil => intro _ x h0 h1; exact ⟨h0, h1⟩
  | cons b r ih =>
    intro hb x h0 h1
    have e := sstep_range h0 h1 hb.head.1 hb.head.2
    simp only [List.foldl_cons]
    exact ih hb.tail _ (by rw [e]; omega) (by rw [e]; omega)
theorem tag_start (tag : Int) (h0 : 0 ≤ tag) (h1 : tag ≤ 100) : wrap64 (Int.tmod tag 2147483647 + 1) = tag + 1 := by
  rw [Int.tmod_eq_emod_of_nonneg h0, w64 (by omega) (by omega)]; omega
theorem rsum_range (s : ByteArray) (tag : Int) (h0 : 0 ≤ tag) (h1 : tag ≤ 100) : 0 ≤ rsum s tag ∧ rsum s tag < 2147483647 := by
  unfold rsum
  rw [tag_start tag h0 h1]
  exact foldl_range _ (Bytes.of s) _ (by omega) (by omega)
theorem ssum_l0 (s : ByteArray) (hs : s.size ≤ 400000) : ∀ (d i : Nat) (x : Int), i + d = s.size → Ev (fun k => spec_SumOf.l0 k s x (i : Int)) (((bytesOf s).drop i).foldl sstep x) := by
  intro d
  induction d with
  | zero =>
    intro i x hi
    refine Ev.step (f := fun _ => some x) (fun k => ?_) ?_
    · simp only [spec_SumOf.l0]
      rw [if_neg (by omega)]
    · rw [List.drop_of_length_le (by rw [bytesOf_length]; omega)]
      exact Ev.now _
  | succ d ih =>
    intro i x hi
    refine Ev.step (fun k => ?_) (show Ev (fun k => spec_SumOf.l0 k s (sstep x (bt s (i : Int))) ((i + 1 : Nat) : Int)) _ from ?_)
    · simp only [spec_SumOf.l0]
      rw [if_pos (by omega), if_pos (by omega), w64 (x := (i : Int) + 1) (by omega) (by omega)]
      rfl
    · rw [drop_cons (by omega), List.foldl_cons]
      exact ih (i + 1) _ (by omega)
theorem ssum_eq (s : ByteArray) (hs : s.size ≤ 400000) (tag : Int) (h0 : 0 ≤ tag) : Ev (fun k => spec_SumOf.f k s tag) (rsum s tag) := by
  unfold spec_SumOf.f rsum
  refine Ev.ifF (by omega) ?_
  rw [show decide ((s.size : Int) > 400000) = false from decide_eq_false (by omega)]
  refine Ev.step (fun k => ?_) (ssum_l0 s hs s.size 0 _ (by omega))
  simp only [spec_SumOf.j0]
  rw [if_neg (by simp)]
  rfl
theorem isum_l0 (s : ByteArray) (hs : s.size ≤ 400000) : ∀ (d i : Nat) (x : Int), i + d = s.size → Ev (fun k => impl_SumOf.l0 k s x (s.size : Int) (i : Int)) (((bytesOf s).drop i).foldl sstep x) := by
  intro d
  induction d with
  | zero =>
    intro i x hi
    refine Ev.step (f := fun _ => some x) (fun k => ?_) ?_
    · simp only [impl_SumOf.l0]
      rw [if_neg (by omega)]
    · rw [List.drop_of_length_le (by rw [bytesOf_length]; omega)]
      exact Ev.now _
  | succ d ih =>
    intro i x hi
    refine Ev.step (fun k => ?_) (show Ev (fun k => impl_SumOf.l0 k s (sstep x (bt s (i : Int))) (s.size : Int) ((i + 1 : Nat) : Int)) _ from ?_)
    · simp only [impl_SumOf.l0]
      rw [if_pos (by omega), if_pos (by omega), if_pos (by omega), w64 (x := (i : Int) + 1) (by omega) (by omega)]
      rfl
    · rw [drop_cons (by omega), List.foldl_cons]
      exact ih (i + 1) _ (by omega)
theorem isum_eq (s : ByteArray) (hs : s.size ≤ 400000) (tag : Int) (h0 : 0 ≤ tag) : Ev (fun k => impl_SumOf.f k s tag) (rsum s tag) := by
  unfold impl_SumOf.f rsum
  refine Ev.ifF (by omega) ?_
  rw [show decide ((s.size : Int) > 400000) = false from decide_eq_false (by omega)]
  refine Ev.step (fun k => ?_) (isum_l0 s hs s.size 0 _ (by omega))
  simp only [impl_SumOf.j0]
  rw [if_neg (by simp)]
  rfl
theorem puts_size {v : Int} (h0 : 0 ≤ v) : (strOfNums (puts 9 v)).size ≤ 9 := by
  rw [← bytesOf_length, bytesOf_str (puts_bytes 9 v h0)]; exact puts_len 9 v
/-- Four bytes of a number. -/
def F4 (x : Int) : ByteArray := strOfNums [x / 16777216 % 256, x / 65536 % 256, x / 256 % 256, x % 256]
theorem F4_bytes (x : Int) : bytesOf (F4 x) = [x / 16777216 % 256, x / 65536 % 256, x / 256 % 256, x % 256] := by
  refine bytesOf_str (fun c h => ?_)
  simp only [List.mem_cons, List.not_mem_nil, or_false] at h
  rcases h with rfl | rfl | rfl | rfl <;> omega
theorem F4_size (x : Int) : (F4 x).size = 4 := by rw [← bytesOf_length, F4_bytes]; rfl
theorem ifour_eq (x : Int) : impl_sumBytes.f x = some (F4 x) := rfl
theorem sfour_eq {x : Int} (h0 : 0 ≤ x) (h1 : x < 2147483647) : spec_l07Four.f x = some (F4 x) := by
  unfold spec_l07Four.f F4
  rw [Int.tdiv_eq_ediv_of_nonneg h0, Int.tdiv_eq_ediv_of_nonneg h0, Int.tdiv_eq_ediv_of_nonneg h0, w64 (x := x / 16777216) (by omega) (by omega), w64 (x := x / 65536) (by omega) (by omega), w64 (x := x / 256) (by omega) (by omega), Int.tmod_eq_emod_of_nonneg (by omega), Int.tmod_eq_emod_of_nonneg (by omega), Int.tmod_eq_emod_of_nonneg (by omega)]
  congr 2
  simp only [List.cons.injEq, and_true]
  refine ⟨trivial, ?_, ?_, ?_⟩ <;> omega
/-- A key as a text, and what wraps it. -/
def PT (t : ByteArray) : ByteArray := strOfNums (puts 9 (t.size : Int)) ++ t
theorem PT_size (t : ByteArray) : (PT t).size ≤ 9 + t.size := by
  have := puts_size (v := (t.size : Int)) (by omega)
  unfold PT
  rw [ByteArray.size_append]; omega
theorem sputText_eq (t : ByteArray) (h : t.size ≤ 100000) : Ev (fun k => spec_PutText.f k t) (PT t) := by
  unfold spec_PutText.f
  have := puts_size (v := (t.size : Int)) (by omega)
  exact Ev.ifF (by omega) (Ev.bind (sput_eq (t.size : Int) (by omega) (by omega)) (Ev.ifT (by omega) (Ev.now _)))

theorem rnum_puts_at {s : ByteArray} {p : Nat} {v nx : Int} (h : rnum s (p : Int) = (true, v, nx)) : bytesOf (s.extract p nx.toNat) = puts 9 v := by
  unfold rnum at h
  by_cases c : (p : Int) < 0 ∨ (s.size : Int) ≤ (p : Int)
  · rw [if_pos c] at h; simp at h
  · rw [if_neg c] at h
    split at h
    · rename_i v' n hp
      split at h
      · rename_i hl
        simp only [Prod.mk.injEq, true_and] at h
        obtain ⟨rfl, rfl⟩ := h
        obtain ⟨h1, h2, h3, h4, h5⟩ := pn_some ((Bytes.of s).drop _) hp
        simp only [Int.toNat_natCast] at *
        rw [bytesOf_extract, show (((p : Int) + (n : Int)).toNat - p) = n by omega]
        rw [h5, (puts_val (((Bytes.of s).drop p).take n) h4 (by rw [List.length_take]; omega)).mpr hl]
      · simp at h
    · simp at h
theorem rtext_at {s t : ByteArray} {p : Nat} {nx : Int} (h : rtext s (p : Int) = (true, t, nx)) : (p : Int) ≤ nx ∧ nx ≤ s.size ∧ s.extract p nx.toNat = PT t ∧ t.size ≤ 100000 := by
  unfold rtext at h
  split at h
  · rename_i hg
    split at h
    · simp at h
    · rename_i hc
      obtain ⟨h1, h2, h3, h4, h5, h6⟩ := rnum_bounds (s := s) (at_ := (p : Int)) (v := (rnum s p).2.1) (nx := (rnum s p).2.2) (by rw [← hg])
      have hp := rnum_puts_at (s := s) (p := p) (v := (rnum s p).2.1) (nx := (rnum s p).2.2) (by rw [← hg])
      generalize (rnum s p).2.1 = v at *
      generalize (rnum s p).2.2 = n at *
      simp only [Prod.mk.injEq, true_and] at h
      obtain ⟨rfl, rfl⟩ := h
      have hz : (s.extract n.toNat (n + v).toNat).size = v.toNat := by rw [size_extract (by omega) (by omega)]; omega
      refine ⟨by omega, by omega, ?_, by omega⟩
      apply bytesOf_inj
      unfold PT
      rw [hz, bytesOf_append, Int.toNat_of_nonneg h5, bytesOf_str (puts_bytes 9 v h5), ← hp, bytesOf_extract, bytesOf_extract, bytesOf_extract]
      have e1 : (n + v).toNat - p = (n.toNat - p) + ((n + v).toNat - n.toNat) := by omega
      rw [e1, List.take_add, List.drop_drop]
      congr 3
      omega
  · simp at h
theorem ext_split {s : ByteArray} {a b c : Nat} (h1 : a ≤ b) (h2 : b ≤ c) : s.extract a c = s.extract a b ++ s.extract b c := by
  apply bytesOf_inj
  rw [bytesOf_append, bytesOf_extract, bytesOf_extract, bytesOf_extract]
  have e1 : c - a = (b - a) + (c - b) := by omega
  rw [e1, List.take_add, List.drop_drop]
  congr 3
  omega
theorem ext_one {s : ByteArray} {a : Nat} (h : a < s.size) : s.extract a (a + 1) = strOfNums [bt s (a : Int)] := by
  apply bytesOf_inj
  have hb := bt_range s (a : Int)
  rw [bytesOf_extract, bytesOf_str (fun x hx => by simp only [List.mem_singleton] at hx; subst hx; exact hb), drop_cons h]
  simp [show a + 1 - a = 1 by omega]
theorem app_inj {a b c d : ByteArray} (h : a ++ b = c ++ d) (hl : a.size = c.size) : a = c ∧ b = d := by
  have e := congrArg bytesOf h
  rw [bytesOf_append, bytesOf_append] at e
  obtain ⟨e1, e2⟩ := List.append_inj e (by rw [bytesOf_length, bytesOf_length]; exact hl)
  exact ⟨bytesOf_inj e1, bytesOf_inj e2⟩
/-- A record's text but for its sum. -/
def RT (key : ByteArray) (g : Int) (d : ByteArray) : ByteArray := strOfNums [231] ++ PT key ++ strOfNums [g] ++ PT d
theorem RT_size (key : ByteArray) (g : Int) (d : ByteArray) : (RT key g d).size ≤ 20 + key.size + d.size := by
  have h1 := PT_size key
  have h2 := PT_size d
  have h3 : (strOfNums [231]).size = 1 := rfl
  have h4 : (strOfNums [g]).size = 1 := rfl
  unfold RT
  rw [ByteArray.size_append, ByteArray.size_append, ByteArray.size_append]; omega
theorem RT_at {s key d : ByteArray} {p : Nat} {n1 n2 : Int} (hp : p < s.size) (hm : bt s (p : Int) = 231) (h1 : rtext s ((p : Int) + 1) = (true, key, n1)) (hn : n1 < s.size) (h2 : rtext s (n1 + 1) = (true, d, n2)) :
    s.extract p n2.toNat = RT key (bt s n1) d ∧ (p : Int) < n1 ∧ n1 < n2 ∧ n2 ≤ s.size ∧ key.size ≤ 100000 ∧ d.size ≤ 100000 := by
  obtain ⟨a1, a2, a3, a4⟩ := rtext_at (p := p + 1) (by rw [Int.natCast_add]; exact h1)
  obtain ⟨m, rfl⟩ := Int.eq_ofNat_of_zero_le (show 0 ≤ n1 by omega)
  obtain ⟨b1, b2, b3, b4⟩ := rtext_at (p := m + 1) (by rw [Int.natCast_add]; exact h2)
  obtain ⟨q, rfl⟩ := Int.eq_ofNat_of_zero_le (show 0 ≤ n2 by omega)
  simp only [Int.toNat_natCast] at *
  refine ⟨?_, by omega, by omega, b2, a4, b4⟩
  rw [ext_split (s := s) (a := p) (b := p + 1) (c := q) (by omega) (by omega), ext_split (s := s) (a := p + 1) (b := m) (c := q) (by omega) (by omega), ext_split (s := s) (a := m) (b := m + 1) (c := q) (by omega) (by omega), ext_one hp, ext_one (by omega), a3, b3, hm]
  unfold RT
  simp only [ByteArray.append_assoc]
/-- The record at a place, as both have it. -/
def GR (s : ByteArray) (at_ : Int) : ByteArray × Bool × ByteArray × Int × Int :=
  if 0 ≤ at_ ∧ at_ < s.size ∧ bt s at_ = 231 then
    if (rtext s (at_ + 1)).1 = true ∧ 1 ≤ (rtext s (at_ + 1)).2.1.size ∧ (rtext s (at_ + 1)).2.1.size ≤ 200 then
      if (rtext s (at_ + 1)).2.2 < s.size ∧ bt s (rtext s (at_ + 1)).2.2 ≤ 1 then
        if (rtext s ((rtext s (at_ + 1)).2.2 + 1)).1 = true ∧ (bt s (rtext s (at_ + 1)).2.2 = 1 → (rtext s ((rtext s (at_ + 1)).2.2 + 1)).2.1 = (⟨#[]⟩ : ByteArray)) then
          if (rtext s ((rtext s (at_ + 1)).2.2 + 1)).2.2 + 4 ≤ s.size ∧ s.extract (rtext s ((rtext s (at_ + 1)).2.2 + 1)).2.2.toNat ((rtext s ((rtext s (at_ + 1)).2.2 + 1)).2.2.toNat + 4) = F4 (rsum (s.extract at_.toNat (rtext s ((rtext s (at_ + 1)).2.2 + 1)).2.2.toNat) 5) then
            ((rtext s (at_ + 1)).2.1, decide (bt s (rtext s (at_ + 1)).2.2 = 1), (rtext s ((rtext s (at_ + 1)).2.2 + 1)).2.1, at_, (rtext s ((rtext s (at_ + 1)).2.2 + 1)).2.2 + 4)
          else ((⟨#[]⟩ : ByteArray), false, (⟨#[]⟩ : ByteArray), 0, 0)
        else ((⟨#[]⟩ : ByteArray), false, (⟨#[]⟩ : ByteArray), 0, 0)
      else ((⟨#[]⟩ : ByteArray), false, (⟨#[]⟩ : ByteArray), 0, 0)
    else ((⟨#[]⟩ : ByteArray), false, (⟨#[]⟩ : ByteArray), 0, 0)
  else ((⟨#[]⟩ : ByteArray), false, (⟨#[]⟩ : ByteArray), 0, 0)
abbrev GZ : ByteArray × Bool × ByteArray × Int × Int := ((⟨#[]⟩ : ByteArray), false, (⟨#[]⟩ : ByteArray), 0, 0)
/-- recordAt's answer: the record, and which error. -/
def RA (s : ByteArray) (at_ : Int) : ByteArray × Bool × ByteArray × Int × Int × Nat :=
  if 0 ≤ at_ ∧ at_ < s.size ∧ bt s at_ = 231 then
    ((GR s at_).1, (GR s at_).2.1, (GR s at_).2.2.1, (GR s at_).2.2.2.1, (GR s at_).2.2.2.2, if (GR s at_).2.2.2.2 = 0 then 2 else 0)
  else ((⟨#[]⟩ : ByteArray), false, (⟨#[]⟩ : ByteArray), 0, 0, 1)
theorem irec_eq (s : ByteArray) (hs : s.size ≤ 1099511627776) (at_ : Int) : Ev (fun k => impl_recordAt.f k s at_) (RA s at_) := by
  unfold impl_recordAt.f RA
  by_cases c1 : 0 ≤ at_ ∧ at_ < s.size
  rotate_left
  · rw [if_neg (fun h => c1 ⟨h.1, h.2.1⟩)]
    exact Ev.bind0 (next_none (s := s) (at_ := at_) (by omega) hs) (Ev.ifF (by simp) (Ev.now _))
  obtain ⟨p, rfl⟩ := Int.eq_ofNat_of_zero_le c1.1
  have hp : p < s.size := by omega
  refine Ev.bind0 (next_some hp hs) ?_
  by_cases c2 : bt s (p : Int) = 231
  rotate_left
  · rw [if_neg (fun h => c2 h.2.2)]
    exact Ev.ifF (fun h => c2 h.2) (Ev.now _)
  rw [if_pos ⟨c1.1, c1.2, c2⟩]
  refine Ev.ifT ⟨rfl, c2⟩ ?_
  have hbad : ∀ {x : ByteArray × Bool × ByteArray × Int × Int}, x = GZ → Ev (fun _ : Nat => recBad 2) (x.1, x.2.1, x.2.2.1, x.2.2.2.1, x.2.2.2.2, if x.2.2.2.2 = 0 then 2 else 0) := fun e => by subst e; exact Ev.now _
  dsimp only
  obtain ⟨t1, t2⟩ := ctext_eq s hs ((p + 1 : Nat) : Int)
  have g0 : GR s (p : Int) = GR s (p : Int) := rfl
  conv at g0 => rhs; unfold GR; rw [if_pos (show 0 ≤ (p : Int) ∧ (p : Int) < s.size ∧ bt s (p : Int) = 231 from ⟨c1.1, c1.2, c2⟩)]
  rw [show ((p : Int) + 1) = ((p + 1 : Nat) : Int) by omega] at g0
  cases hb1 : (rtext s ((p + 1 : Nat) : Int)).1 with
  | false =>
    obtain ⟨x, y, h⟩ := t2 hb1
    rw [if_neg (fun h => by rw [hb1] at h; exact absurd h.1 (by simp))] at g0
    exact Ev.bind h (Ev.ifF (by simp) (hbad g0))
  | true =>
    have h1 := t1 hb1
    have hr1 : rtext s ((p : Int) + 1) = (true, (rtext s ((p + 1 : Nat) : Int)).2.1, (rtext s ((p + 1 : Nat) : Int)).2.2) := by rw [← hb1]; rfl
    rw [hb1] at g0
    generalize (rtext s ((p + 1 : Nat) : Int)).2.1 = key at *
    generalize (rtext s ((p + 1 : Nat) : Int)).2.2 = n1 at *
    refine Ev.bind h1 ?_
    dsimp only
    by_cases c3 : 1 ≤ key.size ∧ key.size ≤ 200
    rotate_left
    · rw [if_neg (fun h => c3 h.2)] at g0
      exact Ev.ifF (fun h => c3 h.2) (hbad g0)
    rw [if_pos ⟨rfl, c3⟩] at g0
    refine Ev.ifT ⟨rfl, c3⟩ ?_
    obtain ⟨a1, a2, a3, a4⟩ := rtext_at (p := p + 1) (by rw [Int.natCast_add]; exact hr1)
    obtain ⟨m, rfl⟩ := Int.eq_ofNat_of_zero_le (show 0 ≤ n1 by omega)
    by_cases c4 : (m : Int) < s.size
    rotate_left
    · rw [if_neg (fun h => c4 h.1)] at g0
      exact Ev.bind0 (next_none (s := s) (at_ := (m : Int)) (by omega) hs) (Ev.ifF (by simp) (hbad g0))
    refine Ev.bind0 (next_some (p := m) (by omega) hs) ?_
    dsimp only
    by_cases c5 : bt s (m : Int) ≤ 1
    rotate_left
    · rw [if_neg (fun h => c5 h.2)] at g0
      exact Ev.ifF (fun h => c5 h.2) (hbad g0)
    rw [if_pos ⟨c4, c5⟩] at g0
    refine Ev.ifT ⟨rfl, c5⟩ ?_
    obtain ⟨u1, u2⟩ := ctext_eq s hs ((m + 1 : Nat) : Int)
    rw [show ((m : Int) + 1) = ((m + 1 : Nat) : Int) by omega] at g0
    cases hb2 : (rtext s ((m + 1 : Nat) : Int)).1 with
    | false =>
      obtain ⟨x, y, h⟩ := u2 hb2
      rw [if_neg (fun h => by rw [hb2] at h; exact absurd h.1 (by simp))] at g0
      exact Ev.bind h (Ev.ifF (by simp) (hbad g0))
    | true =>
      have h2 := u1 hb2
      have hr2 : rtext s ((m : Int) + 1) = (true, (rtext s ((m + 1 : Nat) : Int)).2.1, (rtext s ((m + 1 : Nat) : Int)).2.2) := by rw [← hb2]; rfl
      rw [hb2] at g0
      generalize (rtext s ((m + 1 : Nat) : Int)).2.1 = d at *
      generalize (rtext s ((m + 1 : Nat) : Int)).2.2 = n2 at *
      refine Ev.bind h2 ?_
      dsimp only
      by_cases c6 : bt s (m : Int) = 1 → d = (⟨#[]⟩ : ByteArray)
      rotate_left
      · rw [if_neg (fun h => c6 h.2)] at g0
        exact Ev.ifF (fun h => c6 (fun e => toList_inj.1 (h.2 e))) (hbad g0)
      rw [if_pos ⟨rfl, c6⟩] at g0
      refine Ev.ifT ⟨rfl, fun e => by rw [c6 e]⟩ ?_
      obtain ⟨r1, r2, r3, r4, r5, r6⟩ := RT_at hp c2 hr1 c4 hr2
      have ht := take_eq s hs n2 4 (by omega) (by omega) (by omega) (by omega)
      have hrs := RT_size key (bt s (m : Int)) d
      have hsum := isum_eq (s.extract p n2.toNat) (by rw [r1]; omega) 5 (by omega)
      by_cases c7 : n2 + 4 ≤ s.size
      rotate_left
      · rw [if_neg (fun h => c7 h.1)] at g0
        rw [if_pos (by omega)] at ht
        exact Ev.bind0 ht (Ev.ifF (by simp) (hbad g0))
      rw [if_neg (by omega)] at ht
      refine Ev.bind0 ht (Ev.ifT rfl (Ev.ifT ⟨by omega, by omega, by omega⟩ (Ev.bind hsum (Ev.bind0 (ifour_eq _) ?_))))
      dsimp only
      rw [show (n2 + 4).toNat = n2.toNat + 4 by omega]
      simp only [Int.toNat_natCast] at *
      by_cases c8 : s.extract n2.toNat (n2.toNat + 4) = F4 (rsum (s.extract p n2.toNat) 5)
      rotate_left
      · rw [if_neg (fun h => c8 h.2)] at g0
        exact Ev.ifF (fun h => c8 (toList_inj.1 h)) (hbad g0)
      rw [if_pos ⟨c7, c8⟩] at g0
      rw [g0]
      show Ev _ (key, decide (bt s (m : Int) = 1), d, (p : Int), n2 + 4, if n2 + 4 = 0 then 2 else 0)
      rw [show (if n2 + 4 = 0 then 2 else 0) = (0 : Nat) from if_neg (by omega)]
      refine Ev.ifT ?_ (Ev.now _)
      rw [c8]
theorem RA_GR (s : ByteArray) (at_ : Int) : (if (RA s at_).2.2.2.2.2 = 0 then ((RA s at_).1, (RA s at_).2.1, (RA s at_).2.2.1, (RA s at_).2.2.2.1, (RA s at_).2.2.2.2.1) else GZ) = GR s at_ := by
  unfold RA
  by_cases c : 0 ≤ at_ ∧ at_ < s.size ∧ bt s at_ = 231
  · rw [if_pos c]
    dsimp only
    by_cases e : (GR s at_).2.2.2.2 = 0
    · rw [if_pos e, if_neg (by omega)]
      unfold GR at e ⊢
      rw [if_pos c] at e ⊢
      split at e
      · split at e
        · split at e
          · split at e
            · exfalso
              dsimp only at e
              rename_i h1 h2 h3 h4
              have hr1 : rtext s (at_ + 1) = (true, (rtext s (at_ + 1)).2.1, (rtext s (at_ + 1)).2.2) := by rw [← h1.1]
              have hr2 : rtext s ((rtext s (at_ + 1)).2.2 + 1) = (true, (rtext s ((rtext s (at_ + 1)).2.2 + 1)).2.1, (rtext s ((rtext s (at_ + 1)).2.2 + 1)).2.2) := by rw [← h3.1]
              obtain ⟨p, rfl⟩ := Int.eq_ofNat_of_zero_le c.1
              have := RT_at (by omega) c.2.2 hr1 h2.1 hr2
              omega
            · rw [if_pos (by assumption), if_pos (by assumption), if_pos (by assumption), if_neg (by assumption)]
          · rw [if_pos (by assumption), if_pos (by assumption), if_neg (by assumption)]
        · rw [if_pos (by assumption), if_neg (by assumption)]
      · rw [if_neg (by assumption)]
    · rw [if_neg e, if_pos rfl]
  · rw [if_neg c]
    unfold GR
    rw [if_neg c]
    rfl

theorem toList_nil (b : ByteArray) : b.toList = ([] : List UInt8) ↔ b = (⟨#[]⟩ : ByteArray) := ⟨fun h => toList_inj.1 (h.trans (by rw [toList_data])), fun h => by subst h; rw [toList_data]⟩
theorem str231 : strOfNums [231] = (⟨#[231]⟩ : ByteArray) := rfl
theorem str1 : strOfNums [1] = (⟨#[1]⟩ : ByteArray) := rfl
theorem str0 : strOfNums [0] = (⟨#[0]⟩ : ByteArray) := rfl
/-- A whole record. -/
def RW (key : ByteArray) (g : Int) (d : ByteArray) : ByteArray := RT key g d ++ F4 (rsum (RT key g d) 5)
theorem RW_size (key : ByteArray) (g : Int) (d : ByteArray) : (RW key g d).size = (RT key g d).size + 4 := by
  unfold RW
  rw [ByteArray.size_append, F4_size]
def PRok (key : ByteArray) (g : Bool) (d : ByteArray) : Prop := 1 ≤ key.size ∧ key.size ≤ 200 ∧ (g = true → d = (⟨#[]⟩ : ByteArray)) ∧ d.size ≤ 100000
instance (key : ByteArray) (g : Bool) (d : ByteArray) : Decidable (PRok key g d) := by unfold PRok; infer_instance
def PR (key : ByteArray) (g : Bool) (d : ByteArray) : ByteArray := if PRok key g d then RW key (if g = true then 1 else 0) d else (⟨#[]⟩ : ByteArray)
theorem sputrec_j1 (key d : ByteArray) (g : Int) (h1 : key.size ≤ 200) (h2 : d.size ≤ 100000) : Ev (fun k => spec_PutRecord.j1 k key d (strOfNums [g])) (RW key g d) := by
  have z1 := PT_size key
  have z2 := PT_size d
  have z3 : (⟨#[231]⟩ : ByteArray).size = 1 := rfl
  have z4 : (strOfNums [g]).size = 1 := rfl
  have hr := rsum_range (RT key g d) 5 (by omega) (by omega)
  have h4 := F4_size (rsum (RT key g d) 5)
  have hz := RT_size key g d
  have e : RT key g d = (((⟨#[231]⟩ : ByteArray) ++ PT key) ++ strOfNums [g]) ++ PT d := by unfold RT; rw [str231]
  refine Ev.step (f := fun k => (spec_PutText.f k key).bind fun t114 => (if 1 + t114.size ≤ 9223372036854775807 then (if ((⟨#[231]⟩ : ByteArray) ++ t114).size + (strOfNums [g]).size ≤ 9223372036854775807 then ((spec_PutText.f k d).bind fun t115 => (if (((⟨#[231]⟩ : ByteArray) ++ t114) ++ (strOfNums [g])).size + t115.size ≤ 9223372036854775807 then ((spec_SumOf.f k ((((⟨#[231]⟩ : ByteArray) ++ t114) ++ (strOfNums [g])) ++ t115) 5).bind fun t116 => ((spec_l07Four.f t116).bind fun t117 => (if ((((⟨#[231]⟩ : ByteArray) ++ t114) ++ (strOfNums [g])) ++ t115).size + t117.size ≤ 9223372036854775807 then (some (((((⟨#[231]⟩ : ByteArray) ++ t114) ++ (strOfNums [g])) ++ t115) ++ t117)) else (none)))) else (none))) else (none)) else (none))) (fun k => by simp only [spec_PutRecord.j1]) ?_
  refine Ev.bind (sputText_eq key (by omega)) (Ev.ifT (by omega) (Ev.ifT (by rw [ByteArray.size_append]; omega) (Ev.bind (sputText_eq d h2) (Ev.ifT (by rw [ByteArray.size_append, ByteArray.size_append]; omega) ?_))))
  rw [← e]
  exact Ev.bind (ssum_eq _ (by omega) 5 (by omega)) (Ev.bind0 (sfour_eq hr.1 hr.2) (Ev.ifT (by omega) (Ev.now _)))
theorem sputrec_eq (key : ByteArray) (g : Bool) (d : ByteArray) : Ev (fun k => spec_PutRecord.f k key g d) (PR key g d) := by
  have yes : ∀ g, Ev (fun k => spec_PutRecord.j0 k key g d true) (⟨#[]⟩ : ByteArray) := fun g => Ev.step (f := fun _ => some (⟨#[]⟩ : ByteArray)) (fun k => by simp only [spec_PutRecord.j0, if_true]) (Ev.now _)
  have hemp := toList_nil d
  unfold spec_PutRecord.f PR
  by_cases c1 : (key.size : Int) < 1
  · rw [if_neg (fun h => by have := h.1; omega)]
    exact Ev.ifT c1 (yes g)
  refine Ev.ifF c1 ?_
  by_cases c2 : (key.size : Int) > 200
  · rw [if_neg (fun h => by have := h.2.1; omega)]
    exact Ev.ifT c2 (yes g)
  refine Ev.ifF c2 ?_
  have tail : (g = true → d = (⟨#[]⟩ : ByteArray)) → Ev (fun k => spec_PutRecord.j0 k key g d (decide ((d.size : Int) > 100000))) (if PRok key g d then RW key (if g = true then 1 else 0) d else (⟨#[]⟩ : ByteArray)) := by
    intro hg
    by_cases c4 : (d.size : Int) > 100000
    · rw [decide_eq_true c4, if_neg (fun h => by have := h.2.2.2; omega)]
      exact yes g
    · rw [decide_eq_false c4, if_pos ⟨by omega, by omega, hg, by omega⟩]
      cases g with
      | true =>
        refine Ev.step (f := fun k => spec_PutRecord.j1 k key d (⟨#[1]⟩ : ByteArray)) (fun k => by simp [spec_PutRecord.j0]) ?_
        rw [← str1]; exact sputrec_j1 key d 1 (by omega) (by omega)
      | false =>
        refine Ev.step (f := fun k => spec_PutRecord.j1 k key d (⟨#[0]⟩ : ByteArray)) (fun k => by simp [spec_PutRecord.j0]) ?_
        rw [← str0]; exact sputrec_j1 key d 0 (by omega) (by omega)
  cases g with
  | true =>
    refine Ev.ifT rfl ?_
    by_cases c3 : d.toList = ([] : List UInt8)
    · exact Ev.ifT c3 (tail (fun _ => hemp.1 c3))
    · rw [if_neg (fun h => c3 (hemp.2 (h.2.2.1 rfl)))]
      exact Ev.ifF c3 (yes true)
  | false => exact Ev.ifF (by simp) (tail (fun h => by cases h))

theorem srec_eq (s : ByteArray) (hs : s.size ≤ 1099511627776) (at_ : Int) : Ev (fun k => spec_GetRecord.f k s at_) (GR s at_) := by
  have yes0 : Ev (fun k => spec_GetRecord.j0 k s at_ true) GZ := Ev.step (f := fun _ => some GZ) (fun k => by simp only [spec_GetRecord.j0, if_true]) (Ev.now _)
  unfold spec_GetRecord.f
  by_cases c0 : at_ < 0
  · unfold GR; rw [if_neg (fun h => by have := h.1; omega)]
    exact Ev.ifT c0 yes0
  refine Ev.ifF c0 ?_
  by_cases c1 : at_ ≥ (s.size : Int)
  · unfold GR; rw [if_neg (fun h => by have := h.2.1; omega)]
    exact Ev.ifT c1 yes0
  refine Ev.ifF c1 (Ev.ifT (by omega) (Ev.ifT (by omega) ?_))
  by_cases c2 : bt s at_ = 231
  rotate_left
  · unfold GR; rw [if_neg (fun h => c2 h.2.2), show (bt s at_ != 231) = true by simpa using c2]
    exact yes0
  rw [show (bt s at_ != 231) = false by simpa using c2]
  have g0 : GR s at_ = GR s at_ := rfl
  conv at g0 => rhs; unfold GR; rw [if_pos (show 0 ≤ at_ ∧ at_ < s.size ∧ bt s at_ = 231 from ⟨by omega, by omega, c2⟩)]
  refine Ev.step (f := fun k => (spec_GetText.f k s (wrap64 (at_ + 1))).bind fun bt126 => (if bt126.1 = true then (spec_GetRecord.j1 k s at_ (decide (bt126.2.2 ≥ (s.size : Int))) bt126.1 bt126.2.1 bt126.2.2) else (spec_GetRecord.j1 k s at_ true bt126.1 bt126.2.1 bt126.2.2))) (fun k => by simp [spec_GetRecord.j0]) ?_
  rw [w64 (x := at_ + 1) (by omega) (by omega)]
  refine Ev.bind (stext_eq s hs (at_ + 1)) ?_
  have yes1 : ∀ a b c, Ev (fun k => spec_GetRecord.j1 k s at_ true a b c) GZ := fun a b c => Ev.step (f := fun _ => some GZ) (fun k => by simp only [spec_GetRecord.j1, if_true]) (Ev.now _)
  cases hb1 : (rtext s (at_ + 1)).1 with
  | false =>
    rw [if_neg (fun h => by rw [hb1] at h; exact absurd h.1 (by simp))] at g0
    rw [g0]
    exact Ev.ifF (by simp) (yes1 _ _ _)
  | true =>
    have hr1 : rtext s (at_ + 1) = (true, (rtext s (at_ + 1)).2.1, (rtext s (at_ + 1)).2.2) := by rw [← hb1]
    rw [hb1] at g0
    generalize (rtext s (at_ + 1)).2.1 = key at *
    generalize (rtext s (at_ + 1)).2.2 = n1 at *
    refine Ev.ifT rfl ?_
    obtain ⟨p, rfl⟩ := Int.eq_ofNat_of_zero_le (show 0 ≤ at_ by omega)
    obtain ⟨a1, a2, a3, a4⟩ := rtext_at (p := p + 1) (by rw [Int.natCast_add]; exact hr1)
    by_cases c3 : n1 ≥ (s.size : Int)
    · rw [decide_eq_true c3]
      have : GR s (p : Int) = GZ := by
        rw [g0]
        split
        · rw [if_neg (fun h => by have := h.1; omega)]
        · rfl
      rw [this]
      exact yes1 _ _ _
    rw [decide_eq_false c3]
    refine Ev.step (f := fun k => (spec_GetText.f k s (wrap64 (n1 + 1))).bind fun bt130 => (if bt130.1 = true then (spec_GetRecord.j2 k s (p : Int) (decide ((wrap64 (bt130.2.2 + 4)) > (s.size : Int))) true key n1 bt130.1 bt130.2.1 bt130.2.2) else (spec_GetRecord.j2 k s (p : Int) true true key n1 bt130.1 bt130.2.1 bt130.2.2))) (fun k => by simp [spec_GetRecord.j1]) ?_
    rw [w64 (x := n1 + 1) (by omega) (by omega)]
    refine Ev.bind (stext_eq s hs (n1 + 1)) ?_
    have yes2 : ∀ a b c, Ev (fun k => spec_GetRecord.j2 k s (p : Int) true true key n1 a b c) GZ := fun a b c => Ev.step (f := fun _ => some GZ) (fun k => by simp only [spec_GetRecord.j2, if_true]) (Ev.now _)
    cases hb2 : (rtext s (n1 + 1)).1 with
    | false =>
      have : GR s (p : Int) = GZ := by
        rw [g0]
        split
        · split
          · rw [if_neg (fun h => by rw [hb2] at h; exact absurd h.1 (by simp))]
          · rfl
        · rfl
      rw [this]
      exact Ev.ifF (by simp) (yes2 _ _ _)
    | true =>
      have hr2 : rtext s (n1 + 1) = (true, (rtext s (n1 + 1)).2.1, (rtext s (n1 + 1)).2.2) := by rw [← hb2]
      rw [hb2] at g0
      generalize (rtext s (n1 + 1)).2.1 = d at *
      generalize (rtext s (n1 + 1)).2.2 = n2 at *
      refine Ev.ifT rfl ?_
      obtain ⟨r1, r2, r3, r4, r5, r6⟩ := RT_at (by omega) c2 hr1 (by omega) hr2
      rw [w64 (x := n2 + 4) (by omega) (by omega)]
      by_cases c4 : n2 + 4 > (s.size : Int)
      · rw [decide_eq_true c4]
        have : GR s (p : Int) = GZ := by
          rw [g0]
          split
          · split
            · split
              · rw [if_neg (fun h => by have := h.1; omega)]
              · rfl
            · rfl
          · rfl
        rw [this]
        exact yes2 _ _ _
      rw [decide_eq_false c4]
      have hb : ∀ b : ByteArray, (b.toList = (s.extract (p : Int).toNat (n2 + 4).toNat).toList) ↔ b = s.extract p (n2.toNat + 4) := fun b => by
        rw [toList_inj, Int.toNat_natCast, show (n2 + 4).toNat = n2.toNat + 4 by omega]
      have hemp := toList_nil
      refine Ev.step (f := fun k => if 0 ≤ n1 then (if n1 < (s.size : Int) then ((spec_PutRecord.f k key ((bt s n1) == 1) d).bind fun t135 => (if t135.toList = ([] : List UInt8) then some GZ else (if 0 ≤ (p : Int) then (if (p : Int) ≤ n2 + 4 then (if n2 + 4 ≤ (s.size : Int) then (if t135.toList = (s.extract (p : Int).toNat (n2 + 4).toNat).toList then (some (key, ((bt s n1) == 1), d, (p : Int), n2 + 4)) else some GZ) else (none)) else (none)) else (none)))) else (none)) else (none)) (fun k => by simp only [spec_GetRecord.j2, Bool.false_eq_true, if_false]; rw [w64 (x := n2 + 4) (by omega) (by omega)]) ?_
      refine Ev.ifT (by omega) (Ev.ifT (by omega) (Ev.bind (sputrec_eq key ((bt s n1) == 1) d) ?_))
      have hx : s.extract p (n2.toNat + 4) = RT key (bt s n1) d ++ s.extract n2.toNat (n2.toNat + 4) := by rw [ext_split (b := n2.toNat) (by omega) (by omega), r1]
      have hbr := bt_range s n1
      by_cases c5 : PRok key ((bt s n1) == 1) d
      rotate_left
      · have hp : PR key ((bt s n1) == 1) d = (⟨#[]⟩ : ByteArray) := by unfold PR; rw [if_neg c5]
        have : GR s (p : Int) = GZ := by
          rw [g0]
          split
          · split
            · split
              · rename_i h1 h2 h3
                exact absurd ⟨h1.2.1, h1.2.2, fun e => h3.2 (by simpa using e), r6⟩ c5
              · rfl
            · rfl
          · rfl
        rw [this]
        exact Ev.ifT ((hemp _).2 hp) (Ev.now _)
      have hp : PR key ((bt s n1) == 1) d = RW key (if ((bt s n1) == 1) = true then 1 else 0) d := by unfold PR; rw [if_pos c5]
      have hne : ¬ (PR key ((bt s n1) == 1) d).toList = ([] : List UInt8) := fun e => by
        have e1 := (hemp _).1 e
        rw [hp] at e1
        have e2 := congrArg ByteArray.size e1
        rw [RW_size] at e2
        have : (⟨#[]⟩ : ByteArray).size = 0 := rfl
        omega
      refine Ev.ifF hne (Ev.ifT (by omega) (Ev.ifT (by omega) (Ev.ifT (by omega) ?_)))
      rw [if_pos ⟨rfl, c5.1, c5.2.1⟩] at g0
      by_cases c6 : bt s n1 ≤ 1
      rotate_left
      · rw [if_neg (fun h => c6 h.2)] at g0
        rw [g0]
        refine Ev.ifF (fun h => ?_) (Ev.now _)
        have h := (hb _).1 h
        rw [hp, hx, show ((bt s n1) == 1) = false by simp; omega] at h
        unfold RW at h
        have h1 := (app_inj h (by unfold RT; simp only [ByteArray.size_append]; rfl)).1
        unfold RT at h1
        have h2 := (app_inj h1 (by simp only [ByteArray.size_append]; rfl)).1
        have h3 := (app_inj h2 rfl).2
        have h4 := congrArg bytesOf h3
        rw [bytesOf_str (fun x hx => by simp at hx; omega), bytesOf_str (fun x hx => by simp at hx; omega)] at h4
        simp at h4
        omega
      have hg : (if ((bt s n1) == 1) = true then (1 : Int) else 0) = bt s n1 := by
        by_cases e : bt s n1 = 1
        · rw [e]; rfl
        · rw [if_neg (by simpa using e)]; omega
      rw [if_pos ⟨by omega, c6⟩] at g0
      rw [if_pos ⟨rfl, fun e => c5.2.2.1 (by simpa using e)⟩] at g0
      rw [Int.toNat_natCast, r1] at g0
      by_cases c7 : s.extract n2.toNat (n2.toNat + 4) = F4 (rsum (RT key (bt s n1) d) 5)
      · rw [if_pos ⟨by omega, c7⟩] at g0
        rw [g0]
        refine Ev.ifT ((hb _).2 ?_) (Ev.congr (fun _ => ?_) (Ev.now _))
        · rw [hp, hg, hx, c7]; rfl
        · rw [show ((bt s n1) == 1) = decide (bt s n1 = 1) by rw [Bool.eq_iff_iff]; simp]
      · rw [if_neg (fun h => c7 h.2)] at g0
        rw [g0]
        refine Ev.ifF (fun h => ?_) (Ev.now _)
        have h := (hb _).1 h
        rw [hp, hg, hx] at h
        exact c7 ((app_inj h rfl).2).symm

theorem toS_eq (r : R5) : toS r = ⟨r.1, r.2.1, r.2.2.1, r.2.2.2.1, r.2.2.2.2⟩ := rfl
theorem GR_next {s : ByteArray} {p : Nat} (h : (GR s (p : Int)).2.2.2.2 ≠ 0) : (p : Int) < (GR s (p : Int)).2.2.2.2 ∧ (GR s (p : Int)).2.2.2.2 ≤ (s.size : Int) := by
  unfold GR at h ⊢
  by_cases c1 : 0 ≤ (p : Int) ∧ (p : Int) < s.size ∧ bt s (p : Int) = 231
  rotate_left
  · rw [if_neg c1] at h; exact absurd rfl h
  rw [if_pos c1] at h ⊢
  obtain ⟨⟨b1, key, n1⟩, hk⟩ : ∃ x, x = rtext s ((p : Int) + 1) := ⟨_, rfl⟩
  rw [← hk] at h ⊢
  dsimp only at h ⊢
  by_cases c2 : b1 = true ∧ 1 ≤ key.size ∧ key.size ≤ 200
  rotate_left
  · rw [if_neg c2] at h; exact absurd rfl h
  rw [if_pos c2] at h ⊢
  by_cases c3 : n1 < s.size ∧ bt s n1 ≤ 1
  rotate_left
  · rw [if_neg c3] at h; exact absurd rfl h
  rw [if_pos c3] at h ⊢
  obtain ⟨⟨b2, d, n2⟩, hd⟩ : ∃ x, x = rtext s (n1 + 1) := ⟨_, rfl⟩
  rw [← hd] at h ⊢
  dsimp only at h ⊢
  by_cases c4 : b2 = true ∧ (bt s n1 = 1 → d = (⟨#[]⟩ : ByteArray))
  rotate_left
  · rw [if_neg c4] at h; exact absurd rfl h
  rw [if_pos c4] at h ⊢
  split at h
  rotate_left
  · exact absurd rfl h
  rename_i c5
  rw [if_pos c5]
  obtain ⟨rfl, _⟩ := c2
  obtain ⟨rfl, _⟩ := c4
  obtain ⟨a1, a2, _, _⟩ := rtext_at (p := p + 1) (by rw [Int.natCast_add]; exact hk.symm)
  obtain ⟨m, rfl⟩ := Int.eq_ofNat_of_zero_le (show 0 ≤ n1 by omega)
  obtain ⟨b1, b2, _, _⟩ := rtext_at (p := m + 1) (by rw [Int.natCast_add]; exact hd.symm)
  have := c5.1
  constructor
  · show (p : Int) < n2 + 4
    omega
  · show n2 + 4 ≤ (s.size : Int)
    omega
theorem RA_yes {s : ByteArray} {p : Int} (h : (GR s p).2.2.2.2 ≠ 0) : RA s p = ((GR s p).1, (GR s p).2.1, (GR s p).2.2.1, (GR s p).2.2.2.1, (GR s p).2.2.2.2, 0) := by
  unfold RA
  by_cases c : 0 ≤ p ∧ p < s.size ∧ bt s p = 231
  · rw [if_pos c, if_neg h]
  · exfalso; apply h; unfold GR; rw [if_neg c]
theorem RA_no {s : ByteArray} {p : Int} (h : (GR s p).2.2.2.2 = 0) : (RA s p).2.2.2.2.2 ≠ 0 := by
  unfold RA
  by_cases c : 0 ≤ p ∧ p < s.size ∧ bt s p = 231
  · rw [if_pos c]; show (if _ then 2 else 0) ≠ 0; rw [if_pos h]; decide
  · rw [if_neg c]; decide
theorem scan_both (s : ByteArray) (hs : s.size ≤ 300000) : ∀ (d p : Nat) (L : List R5) (B : List Int), s.size ≤ p + d → p ≤ s.size → L.length ≤ p → B.length ≤ p →
    ∃ R Bn, Ev (fun k => scanL k s L B (p : Int)) (R, Bn) ∧ Ev (fun k => spec_l07Scan.l0 k s (L.map toS) (p : Int)) (R.map toS) ∧ R.length ≤ s.size := by
  intro d
  induction d with
  | zero =>
    intro p L B h1 h2 h3 h4
    refine ⟨L, B, Ev.step (f := fun _ => some (L, B)) (fun k => by rw [scanL, if_neg (by omega)]) (Ev.now _), Ev.step (f := fun _ => some (L.map toS)) (fun k => by rw [spec_l07Scan.l0, if_neg (by omega)]) (Ev.now _), by omega⟩
  | succ d ih =>
    intro p L B h1 h2 h3 h4
    by_cases c : p < s.size
    rotate_left
    · refine ⟨L, B, Ev.step (f := fun _ => some (L, B)) (fun k => by rw [scanL, if_neg (by omega)]) (Ev.now _), Ev.step (f := fun _ => some (L.map toS)) (fun k => by rw [spec_l07Scan.l0, if_neg (by omega)]) (Ev.now _), by omega⟩
    have hi := irec_eq s (by omega) (p : Int)
    have hg := srec_eq s (by omega) (p : Int)
    by_cases e : (GR s (p : Int)).2.2.2.2 = 0
    · have hn := RA_no e
      obtain ⟨R, Bn, g1, g2, g3⟩ := ih (p + 1) L (if (RA s (p : Int)).2.2.2.2.2 = 1 then B else B ++ [(p : Int)]) (by omega) (by omega) (by omega) (by
        by_cases q : (RA s (p : Int)).2.2.2.2.2 = 1
        · rw [if_pos q]; omega
        · rw [if_neg q, List.length_append, List.length_singleton]; omega)
      have ep : ((p + 1 : Nat) : Int) = (p : Int) + 1 := by omega
      rw [ep] at g1 g2
      refine ⟨R, Bn, ?_, ?_, g3⟩
      · refine Ev.step (fun k => by rw [scanL, if_pos (by omega)]) ?_
        exact Ev.bind hi (Ev.ifF hn (Ev.ifT (show B.length < 1000000 by omega) g1))
      · refine Ev.step (fun k => by rw [spec_l07Scan.l0, if_pos (by omega)]) ?_
        refine Ev.bind hg (Ev.ifT e ?_)
        rw [w64 (by omega) (by omega)]; exact g2
    · obtain ⟨n1, n2⟩ := GR_next e
      have hr := RA_yes e
      rw [hr] at hi
      obtain ⟨q, hq⟩ := Int.eq_ofNat_of_zero_le (show 0 ≤ (GR s (p : Int)).2.2.2.2 by omega)
      have hq' : (GR s (p : Int)).2.2.2.2 = (q : Int) := hq
      obtain ⟨R, Bn, g1, g2, g3⟩ := ih q (L ++ [GR s (p : Int)]) B (by omega) (by omega) (by rw [List.length_append, List.length_singleton]; omega) (by omega)
      rw [← hq'] at g1 g2
      refine ⟨R, Bn, ?_, ?_, g3⟩
      · refine Ev.step (fun k => by rw [scanL, if_pos (by omega)]) ?_
        refine Ev.bind hi (Ev.ifT rfl (Ev.ifT ?_ g1))
        exact ⟨n1, n2, by omega⟩
      · refine Ev.step (fun k => by rw [spec_l07Scan.l0, if_pos (by omega)]) ?_
        refine Ev.bind hg (Ev.ifF e (Ev.ifT (by rw [List.length_map]; omega) ?_))
        rw [List.map_append, List.map_cons, List.map_nil] at g2
        exact g2
theorem both_f (s : ByteArray) : ∃ R : List S23, Ev (fun k => spec_ScanRecords.f k s) R ∧ Ev (fun k => impl_ScanRecords.f k s) R ∧ R.length ≤ 300000 := by
  by_cases c : s.size > 300000
  · refine ⟨[], ?_, ?_, Nat.zero_le _⟩
    · unfold spec_ScanRecords.f; exact Ev.ifT (by omega) (Ev.now _)
    · unfold impl_ScanRecords.f; exact Ev.ifT c (Ev.now _)
  · obtain ⟨R, Bn, g1, g2, g3⟩ := scan_both s (by omega) s.size 0 [] [] (by omega) (by omega) (by simp) (by simp)
    refine ⟨R.map toS, ?_, ?_, by rw [List.length_map]; omega⟩
    · unfold spec_ScanRecords.f spec_l07Scan.f
      exact Ev.ifF (by omega) (Ev.bind g2 (Ev.now _))
    · unfold impl_ScanRecords.f
      exact Ev.ifF c (Ev.bind g1 (Ev.now _))
-- the marks
theorem mtl_ev : ∀ (n : Nat) (x : ByteArray), n + x.size ≤ 9223372036854775000 → ∃ t, Ev (fun k => laws_markText.l0 k (n : Int) x) t := by
  intro n
  induction n using Nat.strongRecOn with
  | ind n ih =>
    intro x hx
    by_cases c : n = 0
    · subst c
      exact ⟨_, Ev.step (fun k => by rw [laws_markText.l0, if_neg (by omega), if_pos (by omega)]) (Ev.now _)⟩
    · have e1 : wrap64 (Int.tdiv (n : Int) 10) = ((n / 10 : Nat) : Int) := by rw [Int.tdiv_eq_ediv_of_nonneg (by omega), w64 (by omega) (by omega)]; omega
      have e2 : (strOfNums [(wrap64 (48 + (Int.tmod (n : Int) 10))) % 256]).size = 1 := rfl
      obtain ⟨t, ht⟩ := ih (n / 10) (by omega) (strOfNums [(wrap64 (48 + (Int.tmod (n : Int) 10))) % 256] ++ x) (by rw [ByteArray.size_append, e2]; omega)
      refine ⟨t, ?_⟩
      refine Ev.step (fun k => by rw [laws_markText.l0, if_pos (by omega)]) ?_
      refine Ev.bind0 rfl (Ev.ifT (by rw [e2]; omega) ?_)
      rw [e1]; exact ht
theorem mt_ex (n : Nat) (h : n ≤ 4611686018427387904) : ∃ t, Ev (fun k => laws_markText.f k (n : Int)) t := by
  unfold laws_markText.f
  by_cases c : (n : Int) ≤ 0
  · exact ⟨_, Ev.ifT c (Ev.now _)⟩
  · obtain ⟨t, ht⟩ := mtl_ev n ⟨#[]⟩ (by have : (⟨#[]⟩ : ByteArray).size = 0 := rfl; omega)
    exact ⟨t, Ev.ifF c ht⟩
open Classical in
noncomputable def mt (n : Nat) : ByteArray := if h : n ≤ 4611686018427387904 then (mt_ex n h).choose else ⟨#[]⟩
theorem mt_ev (n : Nat) (h : n ≤ 4611686018427387904) : Ev (fun k => laws_markText.f k (n : Int)) (mt n) := by
  unfold mt; rw [dif_pos h]; exact (mt_ex n h).choose_spec
/-- A marked record. -/
noncomputable def mkd (n : Nat) : S23 := ⟨mt n, (Int.tmod ((n + 1 : Nat) : Int) 3 == 0), mt (n + 2), ((n + 3 : Nat) : Int), ((n + 4 : Nat) : Int)⟩
theorem rd_nat' (x : List S23) (i : Nat) : rd_T23 x (i : Int) = x.getD i z23 := by unfold rd_T23; rw [Int.toNat_natCast]
theorem rd_set {x : List S23} {i : Nat} (h : i < x.length) (v : S23) : rd_T23 (x.set i v) (i : Int) = v := by
  rw [rd_nat', List.getD_eq_getElem?_getD, List.getElem?_set_self h]; rfl
theorem wr (n : Nat) (h : n ≤ 4611686018427387904) : wrap64 ((n : Int) + 1) = ((n + 1 : Nat) : Int) := by rw [w64 (by omega) (by omega)]; omega
theorem markR_loop (m : Nat) : ∀ (d i : Nat) (y : List S23), y.length = i + d → m + 5 * y.length ≤ 4611686018427380000 → ∃ y', Ev (fun k => laws_markRecordS.l0 k y ((m + 5 * i : Nat) : Int) (i : Int)) (((m + 5 * y.length : Nat) : Int), y') ∧ y'.length = y.length ∧ ∀ j, j < y.length → y'.getD j z23 = if j < i then y.getD j z23 else mkd (m + 5 * j)
  | 0, i, y, hl, hm => ⟨y, by
      refine Ev.step (f := fun _ => some (((m + 5 * i : Nat) : Int), y)) (fun k => by rw [laws_markRecordS.l0, if_neg (by omega)]) ?_
      rw [(by omega : m + 5 * y.length = m + 5 * i)]; exact Ev.now _, rfl, fun j hj => by rw [if_pos (by omega)]⟩
  | d + 1, i, y, hl, hm => by
    obtain ⟨y', ev, h1, h2⟩ := markR_loop m d (i + 1) (y.set i (mkd (m + 5 * i))) (by rw [List.length_set]; omega) (by rw [List.length_set]; omega)
    rw [List.length_set] at h1 ev h2
    refine ⟨y', ?_, h1, fun j hj => ?_⟩
    · have hi : i < y.length := by omega
      have b0 : m + 5 * i ≤ 4611686018427387904 := by omega
      have b2 : m + 5 * i + 2 ≤ 4611686018427387904 := by omega
      have b3 : (i : Int) < (y.length : Int) := by omega
      have c1 : m + 5 * i + 1 ≤ 4611686018427387904 := by omega
      have c3 : m + 5 * i + 3 ≤ 4611686018427387904 := by omega
      have c4 : m + 5 * i + 4 ≤ 4611686018427387904 := by omega
      have c5 : i ≤ 4611686018427387904 := by omega
      have b4 : 0 ≤ (i : Int) := by omega
      have e7 : m + 5 * i + 4 + 1 = m + 5 * (i + 1) := by omega
      have e1 := wr (m + 5 * i) b0
      have e2 := wr (m + 5 * i + 1) c1
      have e3 := wr (m + 5 * i + 2) b2
      have e4 := wr (m + 5 * i + 3) c3
      have e5 := wr (m + 5 * i + 4) c4
      have e6 : wrap64 ((i : Int) + 1) = ((i + 1 : Nat) : Int) := wr i c5
      refine Ev.step (fun k => by rw [laws_markRecordS.l0, if_pos b3]) ?_
      simp only [e1, e2, e3, e4, e5, e6, e7, Int.toNat_natCast]
      refine Ev.bind (mt_ev _ b0) (Ev.ifT b4 (Ev.bind0 rfl (Ev.bind0 rfl (Ev.bind (mt_ev _ b2) (Ev.bind0 rfl (Ev.bind0 rfl ?_))))))
      simp only [List.set_set, rd_set hi]
      exact ev
    · rw [h2 j hj]
      by_cases c : j < i
      · rw [if_pos (by omega), if_pos c, List.getD_eq_getElem?_getD, List.getD_eq_getElem?_getD, List.getElem?_set_ne (by omega)]
      · rw [if_neg c]
        by_cases e : j = i
        · subst e; rw [if_pos (by omega), List.getD_eq_getElem?_getD, List.getElem?_set_self (by omega)]; rfl
        · rw [if_neg (by omega)]
def MarkedR (m : Nat) (y : List S23) : Prop := ∀ j, j < y.length → y.getD j z23 = mkd (m + 5 * j)
theorem markR_f (l : List S23) (m : Nat) (hm : m + 5 * l.length ≤ 4611686018427380000) : ∃ y, Ev (fun k => laws_markRecordS.f k l (m : Int)) (((m + 5 * l.length : Nat) : Int), y) ∧ y.length = l.length ∧ MarkedR m y := by
  obtain ⟨y', ev, h1, h2⟩ := markR_loop m l.length 0 l (by omega) hm
  refine ⟨y', ev, h1, fun j hj => ?_⟩
  rw [h2 j (by omega), if_neg (by omega)]
theorem heldR_loop (m : Nat) (y : List S23) (hy : MarkedR m y) (hm : m + 5 * y.length ≤ 4611686018427380000) : ∀ (d i : Nat), y.length = i + d → Ev (fun k => laws_heldRecordS.l0 k y ((m + 5 * i : Nat) : Int) (i : Int)) ((m + 5 * y.length : Nat) : Int)
  | 0, i, hl => by
    refine Ev.step (f := fun _ => some ((m + 5 * i : Nat) : Int)) (fun k => by rw [laws_heldRecordS.l0, if_neg (by omega)]) ?_
    rw [(by omega : m + 5 * y.length = m + 5 * i)]; exact Ev.now _
  | d + 1, i, hl => by
    have hi : i < y.length := by omega
    have b0 : m + 5 * i ≤ 4611686018427387904 := by omega
    have b2 : m + 5 * i + 2 ≤ 4611686018427387904 := by omega
    have b3 : (i : Int) < (y.length : Int) := by omega
    have c1 : m + 5 * i + 1 ≤ 4611686018427387904 := by omega
    have c3 : m + 5 * i + 3 ≤ 4611686018427387904 := by omega
    have c4 : m + 5 * i + 4 ≤ 4611686018427387904 := by omega
    have c5 : i ≤ 4611686018427387904 := by omega
    have b4 : 0 ≤ (i : Int) := by omega
    have e7 : m + 5 * i + 4 + 1 = m + 5 * (i + 1) := by omega
    have b5 : y.length = i + 1 + d := by omega
    have e1 := wr (m + 5 * i) b0
    have e2 := wr (m + 5 * i + 1) c1
    have e3 := wr (m + 5 * i + 2) b2
    have e4 := wr (m + 5 * i + 3) c3
    have e5 := wr (m + 5 * i + 4) c4
    have e6 : wrap64 ((i : Int) + 1) = ((i + 1 : Nat) : Int) := wr i c5
    have hr : rd_T23 y (i : Int) = mkd (m + 5 * i) := by rw [rd_nat']; exact hy i hi
    refine Ev.step (fun k => by rw [laws_heldRecordS.l0, if_pos b3]) ?_
    simp only [e1, e2, e3, e4, e5, e6, e7, hr]
    refine Ev.ifT b4 (Ev.bind (mt_ev _ b0) (Ev.ifT rfl (Ev.ifF ?_ (Ev.bind (mt_ev _ b2) (Ev.ifT rfl (Ev.ifT rfl (Ev.ifT rfl ?_)))))))
    · unfold mkd; simp
    · exact heldR_loop m y hy hm d (i + 1) b5
theorem heldR_f (y : List S23) (m : Nat) (hy : MarkedR m y) (hm : m + 5 * y.length ≤ 4611686018427380000) : Ev (fun k => laws_heldRecordS.f k y (m : Int)) ((m + 5 * y.length : Nat) : Int) := heldR_loop m y hy hm y.length 0 (by omega)
theorem eqrec_same (x : S23) : laws_eqRecord.f x.f0 x.f1 x.f2 x.f3 x.f4 x.f0 x.f1 x.f2 x.f3 x.f4 = some true := by
  unfold laws_eqRecord.f
  simp
theorem eqRecs_f (l : List S23) (hl : l.length ≤ 1048576) : Ev (fun k => laws_eqRecordS.f k l l) true := by
  unfold laws_eqRecordS.f
  refine Ev.ifT rfl ?_
  exact eq_loop laws_eqRecordS.l0 (fun _ => True) (fun x i h1 _ hi ev => by
    refine Ev.step (fun k => by rw [laws_eqRecordS.l0, if_pos (by omega), if_pos (by omega), if_pos (by omega)]) (Ev.bind0 (eqrec_same _) (Ev.ifT rfl ?_))
    rw [w64 (by omega) (by omega)]
    exact ev) (fun x i hi => Ev.step (fun k => by rw [laws_eqRecordS.l0, if_neg (by omega)]) (Ev.now _)) l (by omega) (fun _ _ => trivial)
theorem FnExactScanRecords : laws_FnExactScanRecords.Pure := by
  intro s hs
  refine Ev.rounds (g := fun k => laws_FnExactScanRecords.f k s) ?_
  unfold laws_FnExactScanRecords.f
  by_cases c : (s.size : Int) > 1048576
  · exact Ev.ifT c (Ev.now _)
  · obtain ⟨R, h1, h2, h3⟩ := both_f s
    obtain ⟨y, m1, m2, m3⟩ := markR_f R 1 (by omega)
    have hh := heldR_f y 1 m3 (by omega)
    have heq := eqRecs_f R (by omega)
    refine Ev.ifF c (Ev.bind h1 (Ev.bind h2 (Ev.bind heq (Ev.ifT rfl (Ev.bind m1 (Ev.bind hh (Ev.ifF (by omega) (Ev.ifT (by rw [m2]) (Ev.bind h2 (Ev.bind heq (Ev.ifT rfl (Ev.bind hh (Ev.ifF (by omega) (Ev.ifT (by rw [m2]) (Ev.now _)))))))))))))))
end Go.Proofs.YtncghlamcbhpmaaDoor.Pure
