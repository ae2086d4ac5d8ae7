/-
  The plain law Records: a record that can be written comes back, wherever it stands; with one byte turned it does not; for all drawn bytes.
-/
import Derived.Test.YtncghlamcbhpmaaDoorPureRecBaseFnRecords
import Derived.Laws.BitsAllLaws
namespace Go.Proofs.YtncghlamcbhpmaaDoor.Pure
open Go.RowKit Go.Proofs.YtncghlamcbhpmaaDoor.PFnRecords Go.Proofs.YtncghlamcbhpmaaDoor.Base Go.Proofs.YtncghlamcbhpmaaDoorW.PrintWords Go.Proofs.YtncghlamcbhpmaaDoorW.PrintLast Go.Proofs.YtncghlamcbhpmaaDoorW.PrintMore
theorem n_tot {l : List Int} (hl : Bytes l) (hn : l.length ≤ 1048576) (at_ sz a : Int) (h0 : 0 ≤ at_) (h1 : at_ ≤ 1099511627776) (ha : a ≤ 4611686018427387904) :
    ∃ v, spec_l01Src_n.f l at_ sz a = some (v, at_ + 1, sz) ∧ 0 ≤ v ∧ (1 ≤ a → v < a) ∧ (a < 1 → v = 0) := by
  have e1 : wrap64 (at_ + 1) = at_ + 1 := w64 (by omega) (by omega)
  have e2 : wrap64 ((at_ + 1) - 1) = at_ := by rw [show at_ + 1 - 1 = at_ by omega]; exact w64 (by omega) (by omega)
  unfold spec_l01Src_n.f
  simp only [e1, e2]
  by_cases c1 : a < 1
  · rw [if_pos c1]; exact ⟨0, rfl, by omega, by omega, by omega⟩
  rw [if_neg c1]
  have hmod : ∀ y : Int, 0 ≤ y → 0 ≤ Int.tmod y a ∧ Int.tmod y a < a := fun y hy => by
    rw [Int.tmod_eq_emod_of_nonneg hy]; exact ⟨Int.emod_nonneg _ (by omega), Int.emod_lt_of_pos _ (by omega)⟩
  by_cases c2 : (l.length : Int) = 0
  · rw [if_pos c2, if_neg (by omega)]
    rw [w64 (x := at_ * 7) (by omega) (by omega)]
    have := hmod (at_ * 7) (by omega)
    exact ⟨_, rfl, this.1, fun _ => this.2, by omega⟩
  rw [if_neg c2]
  have hk : (0 : Int) < l.length := by omega
  have m1 : 0 ≤ Int.tmod at_ l.length ∧ Int.tmod at_ l.length < l.length := by
    rw [Int.tmod_eq_emod_of_nonneg h0]; exact ⟨Int.emod_nonneg _ (by omega), Int.emod_lt_of_pos _ hk⟩
  have q1 : 0 ≤ Int.tdiv at_ l.length ∧ Int.tdiv at_ l.length ≤ at_ := by
    rw [Int.tdiv_eq_ediv_of_nonneg h0]; exact ⟨Int.ediv_nonneg h0 (by omega), Int.ediv_le_self _ h0⟩
  rw [if_pos m1.1, if_pos m1.2]
  have b1 := hl.rd (Int.tmod at_ l.length)
  generalize rd l (Int.tmod at_ l.length) = x1 at *
  generalize Int.tdiv at_ l.length = y1 at *
  rw [w64 (x := x1) (by omega) (by omega), w64 (x := y1) (by omega) (by omega), w64 (x := y1 * 37) (by omega) (by omega), w64 (x := x1 + y1 * 37) (by omega) (by omega)]
  by_cases c3 : a > 200
  · rw [if_pos c3]
    have m2 : 0 ≤ Int.tmod (at_ + 1) l.length ∧ Int.tmod (at_ + 1) l.length < l.length := by
      rw [Int.tmod_eq_emod_of_nonneg (by omega)]; exact ⟨Int.emod_nonneg _ (by omega), Int.emod_lt_of_pos _ hk⟩
    rw [e1] at *
    rw [if_pos m2.1, if_pos m2.2, if_neg (by omega)]
    have b2 := hl.rd (Int.tmod (at_ + 1) l.length)
    generalize rd l (Int.tmod (at_ + 1) l.length) = x2 at *
    rw [w64 (x := x2) (by omega) (by omega), w64 (x := x2 * 13) (by omega) (by omega), w64 (x := (x1 + y1 * 37) * 251) (by omega) (by omega), w64 (x := (x1 + y1 * 37) * 251 + x2 * 13) (by omega) (by omega), w64 (x := (x1 + y1 * 37) * 251 + x2 * 13 + at_) (by omega) (by omega)]
    have := hmod ((x1 + y1 * 37) * 251 + x2 * 13 + at_) (by omega)
    exact ⟨_, rfl, this.1, fun _ => this.2, by omega⟩
  · rw [if_neg c3, if_neg (by omega)]
    have := hmod (x1 + y1 * 37) (by omega)
    exact ⟨_, rfl, this.1, fun _ => this.2, by omega⟩
theorem one_tot {l : List Int} (hl : Bytes l) (hn : l.length ≤ 1048576) (at_ sz a : Int) (h0 : 0 ≤ at_) (h1 : at_ ≤ 1099511627776) (ha : a ≤ 4611686018427387904) :
    ∃ b, spec_l01Src_one.f l at_ sz a = some (b, at_ + 1, sz) := by
  obtain ⟨v, hv, _⟩ := n_tot hl hn at_ sz a h0 h1 ha
  exact ⟨_, by unfold spec_l01Src_one.f; rw [hv]; rfl⟩
theorem source_tot {l : List Int} (hn : l.length ≤ 1048576) : ∃ sz, spec_l01Source.f l = some (l, 0, sz) ∧ 0 ≤ sz ∧ sz ≤ 12 := by
  unfold spec_l01Source.f
  rw [w64 (by omega) (by omega)]
  split
  · exact ⟨12, rfl, by omega, by omega⟩
  · exact ⟨_, rfl, by omega, by omega⟩

theorem letters_ok : ∀ m : Nat, m < 26 → 97 ≤ bt (⟨#[97, 98, 99, 100, 101, 102, 103, 104, 105, 106, 107, 108, 109, 110, 111, 112, 113, 114, 115, 116, 117, 118, 119, 120, 121, 122]⟩ : ByteArray) (m : Int) ∧ bt (⟨#[97, 98, 99, 100, 101, 102, 103, 104, 105, 106, 107, 108, 109, 110, 111, 112, 113, 114, 115, 116, 117, 118, 119, 120, 121, 122]⟩ : ByteArray) (m : Int) ≤ 122 := by decide
theorem word_l0 {l : List Int} (hl : Bytes l) (hn : l.length ≤ 1048576) (sz : Int) (d : Nat) : ∀ (x : List Int) (k at_ : Int), k = d → d ≤ 100 → 0 ≤ at_ → at_ ≤ 1099511627776 - d → x.length + d ≤ 200 → (∀ c ∈ x, 97 ≤ c ∧ c ≤ 122) →
    ∃ y : List Int, Ev (fun n => spec_l01Src_word.l0 n x k l at_ sz) (strOfNums y, at_ + d, sz) ∧ y.length = x.length + d ∧ (∀ c ∈ y, 97 ≤ c ∧ c ≤ 122) := by
  induction d with
  | zero =>
    intro x k at_ hk _ _ _ _ hx
    refine ⟨x, Ev.step (f := fun _ => some (strOfNums x, at_, sz)) (fun n => ?_) ?_, rfl, hx⟩
    · simp only [spec_l01Src_word.l0]; rw [if_neg (by omega)]
    · simpa using Ev.now (strOfNums x, at_, sz)
  | succ d ih =>
    intro x k at_ hk hd h0 h1 hx hc
    obtain ⟨v, hv, v0, v1, _⟩ := n_tot hl hn at_ sz 26 h0 (by omega) (by omega)
    have hb : 97 ≤ bt (⟨#[97, 98, 99, 100, 101, 102, 103, 104, 105, 106, 107, 108, 109, 110, 111, 112, 113, 114, 115, 116, 117, 118, 119, 120, 121, 122]⟩ : ByteArray) v ∧ bt (⟨#[97, 98, 99, 100, 101, 102, 103, 104, 105, 106, 107, 108, 109, 110, 111, 112, 113, 114, 115, 116, 117, 118, 119, 120, 121, 122]⟩ : ByteArray) v ≤ 122 := by
      have v1 := v1 (by omega)
      obtain ⟨m, rfl⟩ := Int.eq_ofNat_of_zero_le v0
      exact letters_ok m (by omega)
    obtain ⟨y, hy, ylen, yc⟩ := ih (x ++ [bt (⟨#[97, 98, 99, 100, 101, 102, 103, 104, 105, 106, 107, 108, 109, 110, 111, 112, 113, 114, 115, 116, 117, 118, 119, 120, 121, 122]⟩ : ByteArray) v]) (k - 1) (at_ + 1) (by omega) (by omega) (by omega) (by omega) (by simp; omega) (by
      intro c hcm
      rcases List.mem_append.mp hcm with h | h
      · exact hc c h
      · obtain rfl := List.mem_singleton.mp h; exact hb)
    refine ⟨y, ?_, by rw [ylen]; simp; omega, yc⟩
    refine Ev.step (f := fun n => spec_l01Src_word.l0 n (x ++ [bt (⟨#[97, 98, 99, 100, 101, 102, 103, 104, 105, 106, 107, 108, 109, 110, 111, 112, 113, 114, 115, 116, 117, 118, 119, 120, 121, 122]⟩ : ByteArray) v]) (k - 1) l (at_ + 1) sz) (fun n => ?_) ?_
    · simp only [spec_l01Src_word.l0]
      rw [if_pos (by omega), hv]
      simp only [Option.bind_some]
      rw [if_pos v0, if_pos (v1 (by omega)), if_pos (by omega), w64 (by omega) (by omega)]
    · rw [show at_ + ((d + 1 : Nat) : Int) = at_ + 1 + (d : Int) by omega]; exact hy
theorem word_tot {l : List Int} (hl : Bytes l) (hn : l.length ≤ 1048576) (at_ sz : Int) (h0 : 0 ≤ at_) (h1 : at_ ≤ 1099511627000) :
    ∃ (y : List Int) (at2 : Int), Ev (fun n => spec_l01Src_word.f n l at_ sz) (strOfNums y, at2, sz) ∧ 1 ≤ y.length ∧ y.length ≤ 6 ∧ (∀ c ∈ y, 97 ≤ c ∧ c ≤ 122) ∧ at_ ≤ at2 ∧ at2 ≤ at_ + 7 := by
  obtain ⟨v, hv, v0, v1, _⟩ := n_tot hl hn at_ sz 6 h0 (by omega) (by omega)
  have v1 := v1 (by omega)
  obtain ⟨m, rfl⟩ := Int.eq_ofNat_of_zero_le v0
  obtain ⟨y, hy, ylen, yc⟩ := word_l0 hl hn sz (m + 1) [] (1 + m) (at_ + 1) (by omega) (by omega) (by omega) (by omega) (by simp; omega) (by simp)
  refine ⟨y, at_ + 1 + ((m + 1 : Nat) : Int), ?_, by rw [ylen]; simp, by rw [ylen]; simp; omega, yc, by omega, by omega⟩
  refine Ev.congr (fun k => ?_) hy
  unfold spec_l01Src_word.f
  rw [hv]; simp only [Option.bind_some]
  rw [w64 (by omega) (by omega)]

theorem bt_lit (s : ByteArray) (i : Int) : 0 ≤ bt s i ∧ bt s i ≤ 255 := bt_range s i
theorem bytes_l0 {l : List Int} (hl : Bytes l) (hn : l.length ≤ 1048576) (sz kd : Int) (N : Nat) (hN : N ≤ 1000000) : ∀ (d i : Nat) (x : List Int) (at_ : Int), i + d = N → i ≤ x.length → x.length ≤ 3 * i → Bytes x → 0 ≤ at_ → at_ + 2 * d ≤ 1099511627700 →
    ∃ (y : List Int) (at2 : Int), Ev (fun k => spec_l01Src_bytes.l0 k (N : Int) x kd (i : Int) l at_ sz) (strOfNums y, at2, sz) ∧ y.length = N ∧ Bytes y ∧ at_ ≤ at2 ∧ at2 ≤ at_ + 2 * d := by
  intro d
  induction d with
  | zero =>
    intro i x at_ hi h1 h2 hx h0 ha
    by_cases c : (x.length : Int) > (N : Int)
    · refine ⟨x.take N, at_, Ev.step (f := fun _ => some (strOfNums (x.take N), at_, sz)) (fun k => ?_) (Ev.now _), by rw [List.length_take]; omega, hx.take _, by omega, by omega⟩
      simp only [spec_l01Src_bytes.l0]
      rw [if_neg (by omega), if_pos c, if_pos (by omega), if_pos (by omega), if_pos (by omega)]
      simp
    · refine ⟨x, at_, Ev.step (f := fun _ => some (strOfNums x, at_, sz)) (fun k => ?_) (Ev.now _), by omega, hx, by omega, by omega⟩
      simp only [spec_l01Src_bytes.l0]
      rw [if_neg (by omega), if_neg c]
  | succ d ih =>
    intro i x at_ hi h1 h2 hx h0 ha
    have ei : wrap64 ((i : Int) + 1) = ((i + 1 : Nat) : Int) := by rw [w64 (by omega) (by omega)]; rfl
    by_cases k0 : kd = 0
    · obtain ⟨v, hv, v0, v1, _⟩ := n_tot hl hn at_ sz 256 h0 (by omega) (by omega)
      have v1 := v1 (by omega)
      obtain ⟨y, at2, he, hy, hb, g1, g2⟩ := ih (i + 1) (x ++ [v]) (at_ + 1) (by omega) (by simp; omega) (by simp; omega) (hx.append (Bytes.cons (by omega) Bytes.nil)) (by omega) (by omega)
      refine ⟨y, at2, Ev.step (fun k => ?_) he, hy, hb, by omega, by omega⟩
      simp only [spec_l01Src_bytes.l0]
      rw [if_pos (by omega), if_pos k0, hv]
      simp only [Option.bind_some]
      rw [if_pos (by omega), ei, Int.emod_eq_of_lt v0 v1]
    by_cases k1 : kd = 1
    · obtain ⟨v, hv, v0, v1, _⟩ := n_tot hl hn at_ sz 9 h0 (by omega) (by omega)
      have v1 := v1 (by omega)
      obtain ⟨y, at2, he, hy, hb, g1, g2⟩ := ih (i + 1) (x ++ [bt (⟨#[32, 9, 61, 46, 13, 10, 45, 97, 95]⟩ : ByteArray) v]) (at_ + 1) (by omega) (by simp; omega) (by simp; omega) (hx.append (Bytes.cons (bt_lit _ _) Bytes.nil)) (by omega) (by omega)
      refine ⟨y, at2, Ev.step (fun k => ?_) he, hy, hb, by omega, by omega⟩
      simp only [spec_l01Src_bytes.l0]
      rw [if_pos (by omega), if_neg k0, if_pos k1, hv]
      simp only [Option.bind_some]
      rw [if_pos v0, if_pos v1, if_pos (by omega), ei]
    by_cases k2 : kd = 2
    · obtain ⟨b, hb1⟩ := one_tot hl hn at_ sz 12 h0 (by omega) (by omega)
      obtain ⟨v, hv, v0, v1, _⟩ := n_tot hl hn (at_ + 1) sz 95 (by omega) (by omega) (by omega)
      have v1 := v1 (by omega)
      have ev : (wrap64 (32 + v)) % 256 = 32 + v := by rw [w64 (by omega) (by omega), Int.emod_eq_of_lt (by omega) (by omega)]
      cases b with
      | true =>
        obtain ⟨y, at2, he, hy, hb, g1, g2⟩ := ih (i + 1) (x ++ [13, 10] ++ [32 + v]) (at_ + 1 + 1) (by omega) (by simp; omega) (by simp; omega) ((hx.append (Bytes.cons (by omega) (Bytes.cons (by omega) Bytes.nil))).append (Bytes.cons (by omega) Bytes.nil)) (by omega) (by omega)
        refine ⟨y, at2, Ev.step (fun k => ?_) he, hy, hb, by omega, by omega⟩
        simp only [spec_l01Src_bytes.l0]
        rw [if_pos (by omega), if_neg k0, if_neg k1, if_pos k2, hb1]
        simp only [Option.bind_some, if_true]
        rw [if_pos (by simp; omega), hv]
        simp only [Option.bind_some]
        rw [if_pos (by simp; omega), ei, ev]
      | false =>
        obtain ⟨y, at2, he, hy, hb, g1, g2⟩ := ih (i + 1) (x ++ [32 + v]) (at_ + 1 + 1) (by omega) (by simp; omega) (by simp; omega) (hx.append (Bytes.cons (by omega) Bytes.nil)) (by omega) (by omega)
        refine ⟨y, at2, Ev.step (fun k => ?_) he, hy, hb, by omega, by omega⟩
        simp only [spec_l01Src_bytes.l0]
        rw [if_pos (by omega), if_neg k0, if_neg k1, if_pos k2, hb1]
        simp only [Option.bind_some]
        rw [if_neg (by decide), hv]
        simp only [Option.bind_some]
        rw [if_pos (by omega), ei, ev]
    · obtain ⟨v, hv, v0, v1, _⟩ := n_tot hl hn at_ sz 23 h0 (by omega) (by omega)
      have v1 := v1 (by omega)
      obtain ⟨y, at2, he, hy, hb, g1, g2⟩ := ih (i + 1) (x ++ [bt (⟨#[97, 98, 99, 100, 101, 102, 103, 104, 32, 105, 106, 107, 108, 109, 110, 111, 112, 46, 32, 101, 116, 97, 111]⟩ : ByteArray) v]) (at_ + 1) (by omega) (by simp; omega) (by simp; omega) (hx.append (Bytes.cons (bt_lit _ _) Bytes.nil)) (by omega) (by omega)
      refine ⟨y, at2, Ev.step (fun k => ?_) he, hy, hb, by omega, by omega⟩
      simp only [spec_l01Src_bytes.l0]
      rw [if_pos (by omega), if_neg k0, if_neg k1, if_neg k2, hv]
      simp only [Option.bind_some]
      rw [if_pos v0, if_pos v1, if_pos (by omega), ei]
theorem bytes_tot {l : List Int} (hl : Bytes l) (hn : l.length ≤ 1048576) (at_ sz n : Int) (n0 : 0 ≤ n) (n1 : n ≤ 1000000) (h0 : 0 ≤ at_) (h1 : at_ + 2 * n ≤ 1099511627600) :
    ∃ (y : List Int) (at2 : Int), Ev (fun k => spec_l01Src_bytes.f k l at_ sz n) (strOfNums y, at2, sz) ∧ (y.length : Int) = n ∧ Bytes y ∧ at_ ≤ at2 ∧ at2 ≤ at_ + 2 * n + 1 := by
  obtain ⟨N, rfl⟩ := Int.eq_ofNat_of_zero_le n0
  obtain ⟨kd, hv, _⟩ := n_tot hl hn at_ sz 6 h0 (by omega) (by omega)
  obtain ⟨y, at2, he, hy, hb, g1, g2⟩ := bytes_l0 hl hn sz kd N (by omega) N 0 [] (at_ + 1) (by omega) (by simp) (by simp) Bytes.nil (by omega) (by omega)
  refine ⟨y, at2, ?_, by omega, hb, by omega, by omega⟩
  unfold spec_l01Src_bytes.f
  exact Ev.bind0 hv he

theorem long_tot {l : List Int} (hl : Bytes l) (hn : l.length ≤ 1048576) (at_ sz : Int) (s0 : 0 ≤ sz) (s1 : sz ≤ 12) (h0 : 0 ≤ at_) (h1 : at_ ≤ 1099511620000) :
    ∃ (y : List Int) (at2 : Int), Ev (fun k => spec_l01Src_long.f k l at_ sz) (strOfNums y, at2, sz) ∧ y.length ≤ 300 ∧ Bytes y ∧ at_ ≤ at2 ∧ at2 ≤ at_ + 700 := by
  unfold spec_l01Src_long.f
  rw [w64 (x := 20 * sz) (by omega) (by omega), w64 (x := 20 + 20 * sz) (by omega) (by omega)]
  obtain ⟨v, hv, v0, v1, _⟩ := n_tot hl hn at_ sz (20 + 20 * sz) h0 (by omega) (by omega)
  have v1 := v1 (by omega)
  obtain ⟨b, hb⟩ := one_tot hl hn (at_ + 1) sz 8 (by omega) (by omega) (by omega)
  cases b with
  | true =>
    obtain ⟨u, hu, u0, u1, _⟩ := n_tot hl hn (at_ + 1 + 1) sz 30 (by omega) (by omega) (by omega)
    have u1 := u1 (by omega)
    obtain ⟨y, at2, he, hy, hy2, g1, g2⟩ := bytes_tot hl hn (at_ + 1 + 1 + 1) sz (55 + u) (by omega) (by omega) (by omega) (by omega)
    refine ⟨y, at2, Ev.bind0 hv (Ev.bind0 hb (Ev.ifT rfl (Ev.bind0 hu (Ev.bind (a := (strOfNums y, at2, sz)) ?_ (Ev.now _))))), by omega, hy2, by omega, by omega⟩
    rw [w64 (x := 55 + u) (by omega) (by omega)]
    exact he
  | false =>
    obtain ⟨y, at2, he, hy, hy2, g1, g2⟩ := bytes_tot hl hn (at_ + 1 + 1) sz v (by omega) (by omega) (by omega) (by omega)
    exact ⟨y, at2, Ev.bind0 hv (Ev.bind0 hb (Ev.ifF (by simp) (Ev.bind he (Ev.now _)))), by omega, hy2, by omega, by omega⟩

theorem putText_tot {l : List Int} (hl : Bytes l) (hn : l.length ≤ 1048576) : ∃ y : List Int, Ev (fun k => spec_DrawPutText.f k l) (strOfNums y) ∧ y.length ≤ 300 ∧ Bytes y := by
  obtain ⟨sz, es, s0, s1⟩ := source_tot hn
  obtain ⟨y, at2, he, hy, hb, _, _⟩ := long_tot hl hn 0 sz s0 s1 (by omega) (by omega)
  exact ⟨y, Ev.bind0 es (Ev.bind he (Ev.now _)), hy, hb⟩

theorem xor_byte {a b : Int} (a0 : 0 ≤ a) (a1 : a ≤ 255) (b0 : 0 ≤ b) (b1 : b ≤ 255) : (0 ≤ Go.bits .xor .u8 a b ∧ Go.bits .xor .u8 a b ≤ 255) ∧ Go.bits .xor .u8 (Go.bits .xor .u8 a b) b = a := by
  have h1 := u8_xor a b a0 (by omega) b0 (by omega)
  have h2 : a.toNat ^^^ b.toNat < 2 ^ 8 := Nat.xor_lt_two_pow (by omega) (by omega)
  have hr : 0 ≤ Go.bits .xor .u8 a b ∧ Go.bits .xor .u8 a b ≤ 255 := by rw [h1]; omega
  refine ⟨hr, ?_⟩
  rw [u8_xor _ b hr.1 (by omega) b0 (by omega), h1, Int.toNat_natCast, Nat.xor_assoc, Nat.xor_self, Nat.xor_zero]
  omega
theorem getD_byte {xs : List Int} (h : Bytes xs) (j : Nat) : 0 ≤ xs.getD j 0 ∧ xs.getD j 0 ≤ 255 := by
  by_cases c : j < xs.length
  · exact h _ (getD_mem 0 c)
  · rw [List.getD_eq_getElem?_getD, List.getElem?_eq_none (by omega)]; simp
theorem sstep_inj {x y b : Int} (x0 : 0 ≤ x) (x1 : x < 2147483647) (y0 : 0 ≤ y) (y1 : y < 2147483647) (b0 : 0 ≤ b) (b1 : b ≤ 255) (h : sstep x b = sstep y b) : x = y := by
  rw [sstep_range x0 x1 b0 b1, sstep_range y0 y1 b0 b1] at h
  omega
theorem sstep_ne {x b c : Int} (x0 : 0 ≤ x) (x1 : x < 2147483647) (b0 : 0 ≤ b) (b1 : b ≤ 255) (c0 : 0 ≤ c) (c1 : c ≤ 255) (h : sstep x b = sstep x c) : b = c := by
  rw [sstep_range x0 x1 b0 b1, sstep_range x0 x1 c0 c1] at h
  omega
theorem sstep_in {x b : Int} (x0 : 0 ≤ x) (x1 : x < 2147483647) (b0 : 0 ≤ b) (b1 : b ≤ 255) : 0 ≤ sstep x b ∧ sstep x b < 2147483647 := by
  rw [sstep_range x0 x1 b0 b1]; omega
theorem foldl_inj : ∀ (l : List Int), Bytes l → ∀ x y : Int, 0 ≤ x → x < 2147483647 → 0 ≤ y → y < 2147483647 → l.foldl sstep x = l.foldl sstep y → x = y := by
  intro l
  induction l with
  | nil => intro _ x y _ _ _ _ h; exact h
  | cons b r ih =>
    intro hb x y x0 x1 y0 y1 h
    have h1 := sstep_in x0 x1 hb.head.1 hb.head.2
    have h2 := sstep_in y0 y1 hb.head.1 hb.head.2
    exact sstep_inj x0 x1 y0 y1 hb.head.1 hb.head.2 (ih hb.tail _ _ h1.1 h1.2 h2.1 h2.2 h)
theorem foldl_turn : ∀ (l : List Int), Bytes l → ∀ (i : Nat) (c x : Int), i < l.length → 0 ≤ c → c ≤ 255 → c ≠ l.getD i 0 → 0 ≤ x → x < 2147483647 → (l.set i c).foldl sstep x ≠ l.foldl sstep x := by
  intro l
  induction l with
  | nil => intro _ i c x h; simp at h
  | cons b r ih =>
    intro hb i c x hi c0 c1 hne x0 x1
    cases i with
    | zero =>
      intro e
      simp only [List.set_cons_zero, List.foldl_cons] at e
      have h1 := sstep_in x0 x1 hb.head.1 hb.head.2
      have h2 := sstep_in x0 x1 c0 c1
      exact hne (sstep_ne x0 x1 c0 c1 hb.head.1 hb.head.2 (foldl_inj r hb.tail _ _ h2.1 h2.2 h1.1 h1.2 e))
    | succ i =>
      have h1 := sstep_in x0 x1 hb.head.1 hb.head.2
      simp only [List.set_cons_succ, List.foldl_cons]
      exact ih hb.tail i c _ (by simpa using hi) c0 c1 (by simpa using hne) h1.1 h1.2
theorem F4_inj {x y : Int} (x0 : 0 ≤ x) (x1 : x < 2147483647) (y0 : 0 ≤ y) (y1 : y < 2147483647) (h : F4 x = F4 y) : x = y := by
  have e := congrArg bytesOf h
  rw [F4_bytes, F4_bytes] at e
  simp only [List.cons.injEq, and_true] at e
  omega
theorem getD_set (l : List Int) (i j : Nat) (v : Int) : (l.set i v).getD j 0 = if i = j ∧ j < l.length then v else l.getD j 0 := by
  rw [List.getD_eq_getElem?_getD, List.getD_eq_getElem?_getD, List.getElem?_set]
  by_cases c : i = j
  · subst c
    by_cases d : i < l.length
    · simp [d]
    · simp [d]
  · simp [c]
theorem bytes_set {l : List Int} (h : Bytes l) (i : Nat) {v : Int} (v0 : 0 ≤ v) (v1 : v ≤ 255) : Bytes (l.set i v) := fun c hc => by
  rcases List.mem_or_eq_of_mem_set hc with h1 | h1
  · exact h c h1
  · rw [h1]; exact ⟨v0, v1⟩
theorem xor_turn {b v : Int} (b0 : 0 ≤ b) (b1 : b ≤ 255) (v0 : 1 ≤ v) (v1 : v ≤ 255) : Go.bits .xor .u8 b v ≠ b := by
  intro h
  rw [u8_xor b v b0 (by omega) (by omega) (by omega)] at h
  have h1 : b.toNat ^^^ v.toNat = b.toNat := by omega
  have h2 : b.toNat ^^^ (b.toNat ^^^ v.toNat) = v.toNat := by rw [← Nat.xor_assoc, Nat.xor_self, Nat.zero_xor]
  rw [h1, Nat.xor_self] at h2
  omega
theorem isize_PT (t : ByteArray) : (PT t).size = (puts 9 (t.size : Int)).length + t.size := by
  unfold PT; rw [ByteArray.size_append, strOfNums_size]
theorem ext_left (a b : ByteArray) : (a ++ b).extract 0 a.size = a := by
  apply bytesOf_inj
  rw [bytesOf_extract, bytesOf_append, List.drop_zero, Nat.sub_zero, ← bytesOf_length a, List.take_left]
theorem at_tot {l : List Int} (hl : Bytes l) (i : Int) (h0 : 0 ≤ i) (h1 : i ≤ 100) : ∃ v, laws_lwAt.f l i = some v ∧ 0 ≤ v ∧ v ≤ 255 := by
  unfold laws_lwAt.f
  by_cases c : i < (l.length : Int)
  · have h := hl.rd i
    exact ⟨rd l i, by rw [if_pos c, if_pos h0, w64 (by omega) (by omega)], h⟩
  · refine ⟨_, if_neg c, ?_⟩
    rw [w64 (x := i * 61) (by omega) (by omega), w64 (by omega) (by omega), Int.tmod_eq_emod_of_nonneg (by omega)]
    omega
theorem turn_eq (D : ByteArray) (at_ by_ : Int) (h1 : 1 ≤ D.size) (h2 : D.size ≤ 1000000) (a0 : 0 ≤ at_) (b0 : 0 ≤ by_) (_b1 : by_ ≤ 255) :
    ∃ (i : Nat) (v : Int), i < D.size ∧ 1 ≤ v ∧ v ≤ 255 ∧ laws_lwTurn.f D at_ by_ = some (strOfNums ((bytesOf D).set i (Go.bits .xor .u8 ((bytesOf D).getD i 0) v))) := by
  have hm : Int.tmod at_ (D.size : Int) = at_ % (D.size : Int) := Int.tmod_eq_emod_of_nonneg a0
  have hm0 : 0 ≤ at_ % (D.size : Int) := Int.emod_nonneg _ (by omega)
  have hm1 : at_ % (D.size : Int) < D.size := Int.emod_lt_of_pos _ (by omega)
  have hv : wrap64 (1 + Int.tmod by_ 255) % 256 = 1 + by_ % 255 := by
    rw [Int.tmod_eq_emod_of_nonneg b0, w64 (by omega) (by omega)]; omega
  refine ⟨(at_ % (D.size : Int)).toNat, 1 + by_ % 255, by omega, by omega, by omega, ?_⟩
  unfold laws_lwTurn.f
  rw [if_neg (by omega), if_pos (by omega), hm, if_pos hm0, if_pos hm1, hv]

theorem ext_mid (x y z : ByteArray) : (x ++ y ++ z).extract x.size (x.size + y.size) = y := by
  apply bytesOf_inj
  rw [bytesOf_extract, bytesOf_append, bytesOf_append, ← bytesOf_length x, List.append_assoc, List.drop_left, bytesOf_length, show x.size + y.size - x.size = (bytesOf y).length by rw [bytesOf_length]; omega, List.take_left]
theorem bt_mid (x z : ByteArray) {c : Int} (h : 0 ≤ c ∧ c ≤ 255) : bt (x ++ strOfNums [c] ++ z) (x.size : Int) = c := by
  rw [bt_bytes, bytesOf_append, bytesOf_append, bytesOf_str (fun y hy => by simp only [List.mem_singleton] at hy; subst hy; exact h)]
  rw [List.getD_eq_getElem?_getD, List.append_assoc, List.getElem?_append_right (by rw [bytesOf_length]; omega), bytesOf_length]
  simp
theorem bg_range (g : Bool) : 0 ≤ (if g = true then (1 : Int) else 0) ∧ (if g = true then (1 : Int) else 0) ≤ 255 := by cases g <;> decide
theorem RW_parts (a key d b : ByteArray) (g : Int) (x y z w : ByteArray)
    (h : bytesOf x ++ bytesOf y ++ (bytesOf z ++ bytesOf w) = bytesOf a ++ (bytesOf (strOfNums [231]) ++ bytesOf (PT key) ++ bytesOf (strOfNums [g]) ++ bytesOf (PT d) ++ bytesOf (F4 (rsum (RT key g d) 5))) ++ bytesOf b) : x ++ y ++ (z ++ w) = a ++ RW key g d ++ b := by
  apply bytesOf_inj
  unfold RW RT
  simp only [bytesOf_append] at *
  exact h
theorem GR_read (a key d b : ByteArray) (g : Bool) (h : PRok key g d) :
    GR (a ++ RW key (if g = true then 1 else 0) d ++ b) (a.size : Int) = (key, g, d, (a.size : Int), (a.size : Int) + ((RW key (if g = true then 1 else 0) d).size : Int)) := by
  obtain ⟨k1, k2, hg, hd⟩ := h
  have hgr := bg_range g
  have hgv : (if g = true then (1 : Int) else 0) ≤ 1 := by cases g <;> decide
  have hg1 : decide ((if g = true then (1 : Int) else 0) = 1) = g := by cases g <;> decide
  have hge : (if g = true then (1 : Int) else 0) = 1 → d = (⟨#[]⟩ : ByteArray) := fun e => hg (by cases g with | true => rfl | false => simp at e)
  generalize (if g = true then (1 : Int) else 0) = v at *
  have s1 : (strOfNums [231]).size = 1 := rfl
  have s2 : (strOfNums [v]).size = 1 := rfl
  have s4 := F4_size (rsum (RT key v d) 5)
  have zk := isize_PT key
  have zd := isize_PT d
  have zRT : (RT key v d).size = 1 + (PT key).size + 1 + (PT d).size := by unfold RT; simp only [ByteArray.size_append]; rw [s1, s2]
  have zRW := RW_size key v d
  have e1 : a ++ strOfNums [231] ++ ((PT key ++ strOfNums [v] ++ PT d ++ F4 (rsum (RT key v d) 5)) ++ b) = a ++ RW key v d ++ b := RW_parts _ _ _ _ _ _ _ _ _ (by simp only [bytesOf_append, List.append_assoc])
  have e2 : (a ++ strOfNums [231]) ++ PT key ++ ((strOfNums [v] ++ PT d ++ F4 (rsum (RT key v d) 5)) ++ b) = a ++ RW key v d ++ b := RW_parts _ _ _ _ _ _ _ _ _ (by simp only [bytesOf_append, List.append_assoc])
  have e3 : (a ++ strOfNums [231] ++ PT key) ++ strOfNums [v] ++ ((PT d ++ F4 (rsum (RT key v d) 5)) ++ b) = a ++ RW key v d ++ b := RW_parts _ _ _ _ _ _ _ _ _ (by simp only [bytesOf_append, List.append_assoc])
  have e4 : (a ++ strOfNums [231] ++ PT key ++ strOfNums [v]) ++ PT d ++ (F4 (rsum (RT key v d) 5) ++ b) = a ++ RW key v d ++ b := RW_parts _ _ _ _ _ _ _ _ _ (by simp only [bytesOf_append, List.append_assoc])
  have e5 : a ++ RT key v d ++ (F4 (rsum (RT key v d) 5) ++ b) = a ++ RW key v d ++ b := RW_parts _ _ _ _ _ _ _ _ _ (by unfold RT; simp only [bytesOf_append, List.append_assoc])
  have e6 : (a ++ RT key v d) ++ F4 (rsum (RT key v d) 5) ++ (b ++ (⟨#[]⟩ : ByteArray)) = a ++ RW key v d ++ b := RW_parts _ _ _ _ _ _ _ _ _ (by unfold RT; simp only [bytesOf_append, bytesOf_nil, List.append_nil, List.append_assoc])
  have zs : (a ++ RW key v d ++ b).size = a.size + (RT key v d).size + 4 + b.size := by rw [ByteArray.size_append, ByteArray.size_append, zRW]; omega
  have c1 : bt (a ++ RW key v d ++ b) (a.size : Int) = 231 := by rw [← e1]; exact bt_mid _ _ (by decide)
  have c2 : rtext (a ++ RW key v d ++ b) ((a.size : Int) + 1) = (true, key, (a.size : Int) + 1 + ((PT key).size : Int)) := by
    have h2 := text_read key (by omega) (a ++ strOfNums [231]) ((strOfNums [v] ++ PT d ++ F4 (rsum (RT key v d) 5)) ++ b)
    rw [show strOfNums (puts 9 (key.size : Int)) ++ key = PT key from rfl, e2, ByteArray.size_append, s1] at h2
    rw [show ((a.size : Int) + 1) = ((a.size + 1 : Nat) : Int) by omega, h2, zk]
    congr 2
  have c3 : bt (a ++ RW key v d ++ b) ((a.size : Int) + 1 + ((PT key).size : Int)) = v := by
    have h3 := bt_mid (a ++ strOfNums [231] ++ PT key) ((PT d ++ F4 (rsum (RT key v d) 5)) ++ b) hgr
    rw [e3, ByteArray.size_append, ByteArray.size_append, s1] at h3
    rw [show ((a.size : Int) + 1 + ((PT key).size : Int)) = ((a.size + 1 + (PT key).size : Nat) : Int) by omega]; exact h3
  have c4 : rtext (a ++ RW key v d ++ b) ((a.size : Int) + 1 + ((PT key).size : Int) + 1) = (true, d, (a.size : Int) + ((RT key v d).size : Int)) := by
    have h2 := text_read d (by omega) (a ++ strOfNums [231] ++ PT key ++ strOfNums [v]) (F4 (rsum (RT key v d) 5) ++ b)
    rw [show strOfNums (puts 9 (d.size : Int)) ++ d = PT d from rfl, e4, ByteArray.size_append, ByteArray.size_append, ByteArray.size_append, s1, s2] at h2
    rw [show ((a.size : Int) + 1 + ((PT key).size : Int) + 1) = ((a.size + 1 + (PT key).size + 1 : Nat) : Int) by omega, h2]
    congr 2
    omega
  have c5 : (a ++ RW key v d ++ b).extract a.size (a.size + (RT key v d).size) = RT key v d := by rw [← e5]; exact ext_mid _ _ _
  have c6 : (a ++ RW key v d ++ b).extract (a.size + (RT key v d).size) (a.size + (RT key v d).size + 4) = F4 (rsum (RT key v d) 5) := by
    have h6 := ext_mid (a ++ RT key v d) (F4 (rsum (RT key v d) 5)) (b ++ (⟨#[]⟩ : ByteArray))
    rw [e6, ByteArray.size_append, s4] at h6
    exact h6
  generalize a ++ RW key v d ++ b = s at *
  unfold GR
  rw [if_pos ⟨by omega, by omega, c1⟩, c2]
  dsimp only
  rw [if_pos ⟨rfl, k1, k2⟩, c3, if_pos ⟨by omega, hgv⟩, c4]
  dsimp only
  rw [if_pos ⟨rfl, hge⟩, show ((a.size : Int) + ((RT key v d).size : Int)).toNat = a.size + (RT key v d).size by omega, Int.toNat_natCast, c5, if_pos ⟨by omega, c6⟩, hg1, zRW]
  congr 4
theorem GR_next {s : ByteArray} {at_ : Int} (h : (GR s at_).2.2.2.2 ≠ 0) : 0 ≤ at_ ∧ at_ + 4 ≤ (GR s at_).2.2.2.2 ∧ (GR s at_).2.2.2.2 ≤ s.size ∧ s.extract ((GR s at_).2.2.2.2 - 4).toNat (((GR s at_).2.2.2.2 - 4).toNat + 4) = F4 (rsum (s.extract at_.toNat ((GR s at_).2.2.2.2 - 4).toNat) 5) := by
  unfold GR at h ⊢
  split at h
  · rename_i c
    rw [if_pos c]
    split at h
    · rename_i h1
      rw [if_pos h1]
      split at h
      · rename_i h2
        rw [if_pos h2]
        split at h
        · rename_i h3
          rw [if_pos h3]
          split at h
          · rename_i h4
            rw [if_pos h4]
            dsimp only
            have hr1 : rtext s (at_ + 1) = (true, (rtext s (at_ + 1)).2.1, (rtext s (at_ + 1)).2.2) := by rw [← h1.1]
            have hr2 : rtext s ((rtext s (at_ + 1)).2.2 + 1) = (true, (rtext s ((rtext s (at_ + 1)).2.2 + 1)).2.1, (rtext s ((rtext s (at_ + 1)).2.2 + 1)).2.2) := by rw [← h3.1]
            obtain ⟨p, rfl⟩ := Int.eq_ofNat_of_zero_le c.1
            have := RT_at (by omega) c.2.2 hr1 h2.1 hr2
            rw [show ((rtext s ((rtext s ((p : Int) + 1)).2.2 + 1)).2.2 + 4 - 4) = (rtext s ((rtext s ((p : Int) + 1)).2.2 + 1)).2.2 by omega]
            exact ⟨c.1, by omega, h4.1, h4.2⟩
          · exact absurd rfl h
        · exact absurd rfl h
      · exact absurd rfl h
    · exact absurd rfl h
  · exact absurd rfl h
theorem GR_turn (a key d : ByteArray) (g : Int) (i : Nat) (c : Int) (hi : i < (RW key g d).size) (hc : 0 ≤ c ∧ c ≤ 255) (hne : c ≠ (bytesOf (RW key g d)).getD i 0) :
    (GR (a ++ strOfNums ((bytesOf (RW key g d)).set i c)) (a.size : Int)).2.2.2.2 ≠ (a.size : Int) + ((RW key g d).size : Int) := by
  intro e
  have zRW := RW_size key g d
  have hb := bytes_set (Bytes.of (RW key g d)) i hc.1 hc.2
  have hz : (strOfNums ((bytesOf (RW key g d)).set i c)).size = (RW key g d).size := by rw [strOfNums_size, List.length_set, bytesOf_length]
  obtain ⟨n1, n2, n3, n4⟩ := GR_next (s := a ++ strOfNums ((bytesOf (RW key g d)).set i c)) (at_ := (a.size : Int)) (by rw [e]; omega)
  rw [e] at n4
  have e2 : ((a.size : Int) + ((RW key g d).size : Int) - 4).toNat = a.size + (RT key g d).size := by omega
  rw [e2, Int.toNat_natCast] at n4
  have hset : bytesOf (a ++ strOfNums ((bytesOf (RW key g d)).set i c)) = bytesOf a ++ (bytesOf (RW key g d)).set i c := by rw [bytesOf_append, bytesOf_str hb]
  have hRW : bytesOf (RW key g d) = bytesOf (RT key g d) ++ bytesOf (F4 (rsum (RT key g d) 5)) := by unfold RW; rw [bytesOf_append]
  have hl : (bytesOf (RT key g d)).length = (RT key g d).size := bytesOf_length _
  have hl4 : (bytesOf (F4 (rsum (RT key g d) 5))).length = 4 := by rw [bytesOf_length, F4_size]
  have r0 := rsum_range (RT key g d) 5 (by omega) (by omega)
  have hL : bytesOf ((a ++ strOfNums ((bytesOf (RW key g d)).set i c)).extract a.size (a.size + (RT key g d).size)) = ((bytesOf (RW key g d)).set i c).take (RT key g d).size := by
    rw [bytesOf_extract, hset, ← bytesOf_length a, List.drop_left, bytesOf_length]
    congr 1
    omega
  have hR : bytesOf ((a ++ strOfNums ((bytesOf (RW key g d)).set i c)).extract (a.size + (RT key g d).size) (a.size + (RT key g d).size + 4)) = ((bytesOf (RW key g d)).set i c).drop (RT key g d).size := by
    rw [bytesOf_extract, hset, ← List.drop_drop, ← bytesOf_length a, List.drop_left, List.take_of_length_le]
    rw [List.length_drop, List.length_set, bytesOf_length, bytesOf_length]
    omega
  have r1 := rsum_range ((a ++ strOfNums ((bytesOf (RW key g d)).set i c)).extract a.size (a.size + (RT key g d).size)) 5 (by omega) (by omega)
  have e4 := congrArg bytesOf n4
  rw [hR] at e4
  generalize a ++ strOfNums ((bytesOf (RW key g d)).set i c) = S at *
  generalize S.extract a.size (a.size + (RT key g d).size) = X at *
  by_cases hlt : i < (RT key g d).size
  · have hs : (bytesOf (RW key g d)).set i c = (bytesOf (RT key g d)).set i c ++ bytesOf (F4 (rsum (RT key g d) 5)) := by rw [hRW, List.set_append_left _ _ (by rw [hl]; exact hlt)]
    rw [hs, List.drop_left' (by rw [List.length_set, hl])] at e4
    rw [hs, List.take_left' (by rw [List.length_set, hl])] at hL
    have e6 := F4_inj r0.1 r0.2 r1.1 r1.2 (bytesOf_inj e4)
    unfold rsum at e6
    rw [hL] at e6
    have hg2 : c ≠ (bytesOf (RT key g d)).getD i 0 := by
      intro h
      apply hne
      rw [h, hRW, List.getD_eq_getElem?_getD, List.getD_eq_getElem?_getD, List.getElem?_append_left (by rw [hl]; exact hlt)]
    exact foldl_turn (bytesOf (RT key g d)) (Bytes.of _) i c _ (by rw [hl]; exact hlt) hc.1 hc.2 hg2 (by rw [tag_start 5 (by omega) (by omega)]; omega) (by rw [tag_start 5 (by omega) (by omega)]; omega) e6.symm
  · have hs : (bytesOf (RW key g d)).set i c = bytesOf (RT key g d) ++ (bytesOf (F4 (rsum (RT key g d) 5))).set (i - (RT key g d).size) c := by rw [hRW, List.set_append_right _ _ (by rw [hl]; omega), hl]
    rw [hs, List.drop_left' hl] at e4
    rw [hs, List.take_left' hl] at hL
    have e5 : X = RT key g d := bytesOf_inj hL
    rw [e5] at e4
    apply hne
    have e7 : ((bytesOf (F4 (rsum (RT key g d) 5))).set (i - (RT key g d).size) c).getD (i - (RT key g d).size) 0 = (bytesOf (F4 (rsum (RT key g d) 5))).getD (i - (RT key g d).size) 0 := by rw [e4]
    rw [getD_set, if_pos ⟨rfl, by omega⟩] at e7
    rw [hRW, List.getD_eq_getElem?_getD, List.getElem?_append_right (by rw [hl]; omega), hl, ← List.getD_eq_getElem?_getD]
    exact e7
theorem iputrec_j1 (key d : ByteArray) (g : Int) (h1 : key.size ≤ 200) (h2 : d.size ≤ 100000) : Ev (fun k => impl_PutRecord.j1 k key d g) (RW key g d) := by
  have z1 := PT_size key
  have z2 := PT_size d
  have z3 : (strOfNums [231]).size = 1 := rfl
  have z4 : (strOfNums [g]).size = 1 := rfl
  have hr := rsum_range (RT key g d) 5 (by omega) (by omega)
  have h4 := F4_size (rsum (RT key g d) 5)
  have hz := RT_size key g d
  have e : RT key g d = ((strOfNums [231] ++ PT key) ++ strOfNums [g]) ++ PT d := rfl
  refine Ev.step (f := fun k => ((some (([231] : List Int) : List Int)).bind fun y270 => ((impl_PutText.f k key).bind fun t273 => (if (strOfNums y270).size + t273.size ≤ 9223372036854775807 then ((some (([g] : List Int) : List Int)).bind fun y274 => (if ((strOfNums y270) ++ t273).size + (strOfNums y274).size ≤ 9223372036854775807 then ((impl_PutText.f k d).bind fun t277 => (if (((strOfNums y270) ++ t273) ++ (strOfNums y274)).size + t277.size ≤ 9223372036854775807 then ((impl_SumOf.f k ((((strOfNums y270) ++ t273) ++ (strOfNums y274)) ++ t277) 5).bind fun t278 => ((impl_sumBytes.f t278).bind fun t279 => (if ((((strOfNums y270) ++ t273) ++ (strOfNums y274)) ++ t277).size + t279.size ≤ 9223372036854775807 then (some (((((strOfNums y270) ++ t273) ++ (strOfNums y274)) ++ t277) ++ t279)) else (none)))) else (none))) else (none))) else (none))))) (fun k => by simp only [impl_PutRecord.j1]) ?_
  refine Ev.bind0 rfl (Ev.bind (iputText_eq key (by omega)) (Ev.ifT (by show (strOfNums [231]).size + (PT key).size ≤ _; omega) (Ev.bind0 rfl (Ev.ifT (by rw [ByteArray.size_append]; show (strOfNums [231]).size + (PT key).size + (strOfNums [g]).size ≤ _; omega) (Ev.bind (iputText_eq d h2) (Ev.ifT (by rw [ByteArray.size_append, ByteArray.size_append]; show (strOfNums [231]).size + (PT key).size + (strOfNums [g]).size + (PT d).size ≤ _; omega) ?_))))))
  show Ev (fun k => (impl_SumOf.f k (RT key g d) 5).bind fun t278 => ((impl_sumBytes.f t278).bind fun t279 => (if (RT key g d).size + t279.size ≤ 9223372036854775807 then (some (RT key g d ++ t279)) else (none)))) _
  exact Ev.bind (isum_eq _ (by omega) 5 (by omega)) (Ev.bind0 (ifour_eq _) (Ev.ifT (by omega) (Ev.now _)))
theorem iputrec_eq (key : ByteArray) (g : Bool) (d : ByteArray) : Ev (fun k => impl_PutRecord.f k key g d) (PR key g d) := by
  have yes : ∀ g, Ev (fun k => impl_PutRecord.j0 k key g d true) (⟨#[]⟩ : ByteArray) := fun g => Ev.step (f := fun _ => some (⟨#[]⟩ : ByteArray)) (fun k => by simp only [impl_PutRecord.j0, if_true]) (Ev.now _)
  have hemp := toList_nil d
  unfold impl_PutRecord.f PR
  by_cases c1 : (key.size : Int) < 1
  · rw [if_neg (fun h => by have := h.1; omega)]
    exact Ev.ifT c1 (yes g)
  refine Ev.ifF c1 ?_
  by_cases c2 : (key.size : Int) > 200
  · rw [if_neg (fun h => by have := h.2.1; omega)]
    exact Ev.ifT c2 (yes g)
  refine Ev.ifF c2 ?_
  have tail : (g = true → d = (⟨#[]⟩ : ByteArray)) → Ev (fun k => impl_PutRecord.j0 k key g d (decide ((d.size : Int) > 100000))) (if PRok key g d then RW key (if g = true then 1 else 0) d else (⟨#[]⟩ : ByteArray)) := by
    intro hg
    by_cases c4 : (d.size : Int) > 100000
    · rw [decide_eq_true c4, if_neg (fun h => by have := h.2.2.2; omega)]
      exact yes g
    · rw [decide_eq_false c4, if_pos ⟨by omega, by omega, hg, by omega⟩]
      cases g with
      | true =>
        refine Ev.step (f := fun k => impl_PutRecord.j1 k key d 1) (fun k => by simp [impl_PutRecord.j0]) ?_
        exact iputrec_j1 key d 1 (by omega) (by omega)
      | false =>
        refine Ev.step (f := fun k => impl_PutRecord.j1 k key d 0) (fun k => by simp [impl_PutRecord.j0]) ?_
        exact iputrec_j1 key d 0 (by omega) (by omega)
  cases g with
  | true =>
    refine Ev.ifT rfl ?_
    by_cases c3 : d.toList = ([] : List UInt8)
    · exact Ev.ifT c3 (tail (fun _ => hemp.1 c3))
    · rw [if_neg (fun h => c3 (hemp.2 (h.2.2.1 rfl)))]
      exact Ev.ifF c3 (yes true)
  | false => exact Ev.ifF (by simp) (tail (fun h => by cases h))
theorem dec_one (v : Int) (h0 : 0 ≤ v) (h1 : v < 10) : Ev (fun k => spec_l01Dec.f k v) (strOfNums [48 + v]) := by
  refine Ev.step (f := fun _ => some (strOfNums [48 + v])) (fun k => ?_) (Ev.now _)
  simp only [spec_l01Dec.f]
  rw [if_neg (by omega), if_pos h1, w64 (by omega) (by omega), Int.emod_eq_of_lt (by omega) (by omega)]
theorem dec_two (v : Int) (h0 : 0 ≤ v) (h1 : v < 100) : ∃ y : List Int, Ev (fun k => spec_l01Dec.f k v) (strOfNums y) ∧ y.length ≤ 2 := by
  by_cases c : v < 10
  · exact ⟨_, dec_one v h0 c, by simp⟩
  · have e1 : wrap64 (Int.tdiv v 10) = v / 10 := by rw [Int.tdiv_eq_ediv_of_nonneg h0]; exact w64 (by omega) (by omega)
    have e2 : (wrap64 (48 + (Int.tmod v 10))) % 256 = 48 + v % 10 := by rw [Int.tmod_eq_emod_of_nonneg h0, w64 (by omega) (by omega)]; omega
    refine ⟨[48 + v / 10] ++ [48 + v % 10], ?_, by simp⟩
    refine Ev.step (f := fun k => (spec_l01Dec.f k (wrap64 (Int.tdiv v 10))).bind fun t142 => ((some (([(wrap64 (48 + (Int.tmod v 10))) % 256] : List Int) : List Int)).bind fun y143 => (if t142.size + (strOfNums y143).size ≤ 9223372036854775807 then (some (t142 ++ (strOfNums y143))) else (none)))) (fun k => ?_) ?_
    · simp only [spec_l01Dec.f]
      rw [if_neg (by omega), if_neg c]
    · rw [e1, e2]
      refine Ev.bind (dec_one (v / 10) (by omega) (by omega)) (Ev.bind0 rfl (Ev.ifT (by rw [strOfNums_size, strOfNums_size]; simp) ?_))
      have : strOfNums [48 + v / 10] ++ strOfNums [48 + v % 10] = strOfNums ([48 + v / 10] ++ [48 + v % 10]) := by
        apply bytesOf_inj
        rw [bytesOf_append, bytesOf_str (fun x hx => by simp at hx; omega), bytesOf_str (fun x hx => by simp at hx; omega), bytesOf_str (fun x hx => by simp at hx; omega)]
      rw [this]; exact Ev.now _
theorem pick_size (v : Int) (h0 : 0 ≤ v) (h1 : v < 4) : (rdOf ByteArray.empty ([(⟨#[]⟩ : ByteArray), (⟨#[47]⟩ : ByteArray), (⟨#[46]⟩ : ByteArray), (⟨#[47, 97]⟩ : ByteArray)] : List ByteArray) v).size ≤ 2 := by
  obtain rfl | rfl | rfl | rfl : v = 0 ∨ v = 1 ∨ v = 2 ∨ v = 3 := by omega
  all_goals decide
theorem key_tot {l : List Int} (hl : Bytes l) (hn : l.length ≤ 1048576) (at_ sz : Int) (h0 : 0 ≤ at_) (h1 : at_ ≤ 1099511620000) :
    ∃ (y : ByteArray) (at2 : Int), Ev (fun k => spec_l01Src_key.f k l at_ sz) (y, at2, sz) ∧ y.size ≤ 20 ∧ at_ ≤ at2 ∧ at2 ≤ at_ + 20 := by
  obtain ⟨w, a1, ew, _, w2, _, g1, g2⟩ := word_tot hl hn at_ sz h0 (by omega)
  obtain ⟨v, hv, v0, v1, _⟩ := n_tot hl hn a1 sz 4 (by omega) (by omega) (by omega)
  have v1 := v1 (by omega)
  obtain ⟨u, hu, u0, u1, _⟩ := n_tot hl hn (a1 + 1) sz 50 (by omega) (by omega) (by omega)
  have u1 := u1 (by omega)
  obtain ⟨y, ey, yl⟩ := dec_two u u0 (by omega)
  have hp := pick_size v v0 v1
  have hw : (strOfNums w).size = w.length := strOfNums_size w
  have hy : (strOfNums y).size = y.length := strOfNums_size y
  unfold spec_l01Src_key.f
  generalize hL : ([(⟨#[]⟩ : ByteArray), (⟨#[47]⟩ : ByteArray), (⟨#[46]⟩ : ByteArray), (⟨#[47, 97]⟩ : ByteArray)] : List ByteArray) = L at *
  have hlen : (L.length : Int) = 4 := by rw [← hL]; rfl
  generalize hq : rdOf ByteArray.empty L v = q at *
  refine ⟨(strOfNums w ++ q) ++ strOfNums y, a1 + 1 + 1, Ev.bind ew (Ev.bind0 rfl (Ev.bind0 hv (Ev.ifT v0 (Ev.ifT (by rw [hlen]; exact v1) ?_)))), by simp only [ByteArray.size_append]; omega, by omega, by omega⟩
  simp only [hq]
  exact Ev.ifT (by omega) (Ev.bind0 hu (Ev.bind ey (Ev.ifT (by rw [ByteArray.size_append]; omega) (Ev.now _))))
theorem drawRec_j0 {l : List Int} (hl : Bytes l) (hn : l.length ≤ 1048576) (key : ByteArray) (at_ sz : Int) (h0 : 0 ≤ at_) (h1 : at_ ≤ 1000) :
    ∃ g d, Ev (fun k => spec_DrawPutRecord.j0 k key l at_ sz) (key, g, d) ∧ d.size ≤ 100 := by
  obtain ⟨b, hb⟩ := one_tot hl hn at_ sz 3 h0 (by omega) (by omega)
  obtain ⟨v, hv, v0, v1, _⟩ := n_tot hl hn (at_ + 1) sz 30 (by omega) (by omega) (by omega)
  have v1 := v1 (by omega)
  obtain ⟨y, at2, he, hy, hy2, g1, g2⟩ := bytes_tot hl hn (at_ + 1 + 1) sz v (by omega) (by omega) (by omega) (by omega)
  have hys : (strOfNums y).size = y.length := strOfNums_size y
  have z0 : (⟨#[]⟩ : ByteArray).size = 0 := rfl
  cases b with
  | false =>
    refine ⟨false, strOfNums y, Ev.step (fun k => by rw [spec_DrawPutRecord.j0]) (Ev.bind0 hb (Ev.bind0 hv (Ev.bind he ?_))), by omega⟩
    exact Ev.ifF (by simp) (Ev.now _)
  | true =>
    obtain ⟨c, hc⟩ := one_tot hl hn at2 sz 4 (by omega) (by omega) (by omega)
    cases c with
    | true => exact ⟨true, strOfNums y, Ev.step (fun k => by rw [spec_DrawPutRecord.j0]) (Ev.bind0 hb (Ev.bind0 hv (Ev.bind he (Ev.ifT rfl (Ev.bind0 hc (Ev.ifT rfl (Ev.now _))))))), by omega⟩
    | false =>
      refine ⟨true, (⟨#[]⟩ : ByteArray), Ev.step (fun k => by rw [spec_DrawPutRecord.j0]) (Ev.bind0 hb (Ev.bind0 hv (Ev.bind he (Ev.ifT rfl (Ev.bind0 hc ?_))))), by omega⟩
      exact Ev.ifF (by simp) (Ev.now _)
theorem drawRec_tot {l : List Int} (hl : Bytes l) (hn : l.length ≤ 1048576) : ∃ key g d, Ev (fun k => spec_DrawPutRecord.f k l) (key, g, d) ∧ d.size ≤ 100 := by
  obtain ⟨sz, es, s0, s1⟩ := source_tot hn
  obtain ⟨y, a1, ey, yl, g1, g2⟩ := key_tot hl hn 0 sz (by omega) (by omega)
  obtain ⟨b, hb⟩ := one_tot hl hn a1 sz 6 (by omega) (by omega) (by omega)
  unfold spec_DrawPutRecord.f
  cases b with
  | false =>
    obtain ⟨g, d, he, hd⟩ := drawRec_j0 hl hn y (a1 + 1) sz (by omega) (by omega)
    exact ⟨y, g, d, Ev.bind0 es (Ev.bind ey (Ev.bind0 hb (Ev.ifF (by simp) he))), hd⟩
  | true =>
    obtain ⟨v, hv, v0, v1, _⟩ := n_tot hl hn (a1 + 1) sz 3 (by omega) (by omega) (by omega)
    have v1 := v1 (by omega)
    obtain ⟨u, hu, u0, u1, _⟩ := n_tot hl hn (a1 + 1 + 1) sz 3 (by omega) (by omega) (by omega)
    have u1 := u1 (by omega)
    have ew : wrap64 (199 + v) = 199 + v := w64 (by omega) (by omega)
    obtain ⟨g, d, he, hd⟩ := drawRec_j0 hl hn (rdOf ByteArray.empty [(⟨#[]⟩ : ByteArray), (⟨#[231]⟩ : ByteArray), strOfNums (List.replicate (wrap64 (199 + v) : Int).toNat 0)] u) (a1 + 1 + 1 + 1) sz (by omega) (by omega)
    exact ⟨_, g, d, Ev.bind0 es (Ev.bind ey (Ev.bind0 hb (Ev.ifT rfl (Ev.bind0 hv (Ev.ifT (by rw [ew]; omega) (Ev.ifT (by rw [ew]; omega) (Ev.bind0 rfl (Ev.bind0 hu (Ev.ifT u0 (Ev.ifT (by show u < 3; omega) he)))))))))), hd⟩
theorem records_j0 {l0 l1 : List Int} (h0 : Bytes l0) (n0 : l0.length ≤ 1048576) (h1 : Bytes l1) (n1 : l1.length ≤ 1048576) : Ev (fun k => laws_FnRecords.j0 k l0 l1 false) true := by
  obtain ⟨key, g, d, er, dz⟩ := drawRec_tot h0 n0
  obtain ⟨hd, ehd, hdl, hdb⟩ := putText_tot h1 n1
  have hsz : (strOfNums hd).size = hd.length := strOfNums_size hd
  refine Ev.step (fun k => by rw [laws_FnRecords.j0, if_neg (by decide)]) ?_
  refine Ev.bind er (Ev.bind (iputrec_eq key g d) (Ev.bind (sputrec_eq key g d) (Ev.ifT rfl ?_)))
  by_cases c : PRok key g d
  rotate_left
  · have e : PR key g d = (⟨#[]⟩ : ByteArray) := by unfold PR; rw [if_neg c]
    dsimp only
    exact Ev.ifT ((toList_nil _).2 e) (Ev.now _)
  have e : PR key g d = RW key (if g = true then 1 else 0) d := by unfold PR; rw [if_pos c]
  dsimp only
  rw [e]
  have hg := bg_range g
  have hread := GR_read (strOfNums hd) key d (⟨#[120]⟩ : ByteArray) g c
  have hturn := fun i c' => GR_turn (strOfNums hd) key d (if g = true then 1 else 0) i c'
  generalize (if g = true then (1 : Int) else 0) = v at *
  have zRT := RT_size key v d
  have zRW := RW_size key v d
  have z1 : (⟨#[120]⟩ : ByteArray).size = 1 := rfl
  have z0 : (⟨#[]⟩ : ByteArray).size = 0 := rfl
  obtain ⟨k1, k2, k3, k4⟩ := c
  refine Ev.ifF (fun h => by have h' := congrArg ByteArray.size ((toList_nil _).1 h); omega) (Ev.bind ehd (Ev.ifT (by omega) (Ev.ifT (by rw [ByteArray.size_append]; omega) ?_)))
  have hi := igetrec_eq (strOfNums hd ++ RW key v d ++ (⟨#[120]⟩ : ByteArray)) (by simp only [ByteArray.size_append]; omega) ((strOfNums hd).size : Int)
  rw [hread] at hi
  refine Ev.bind hi (Ev.ifF (by simp [w64 (x := ((strOfNums hd).size : Int) + ((RW key v d).size : Int)) (by omega) (by omega)]) ?_)
  obtain ⟨v0, ev0, p0, q0⟩ := at_tot h1 0 (by omega) (by omega)
  obtain ⟨v1, ev1, p1, q1⟩ := at_tot h1 1 (by omega) (by omega)
  obtain ⟨v2, ev2, p2, q2⟩ := at_tot h1 2 (by omega) (by omega)
  refine Ev.bind0 ev0 (Ev.bind0 ev1 (Ev.bind0 ev2 ?_))
  rw [w64 (x := v0 * 256) (by omega) (by omega), w64 (x := v0 * 256 + v1) (by omega) (by omega)]
  obtain ⟨i, x, hi1, x1, x2, ht⟩ := turn_eq (RW key v d) (v0 * 256 + v1) v2 (by omega) (by omega) (by omega) p2 q2
  have hbt := getD_byte (Bytes.of (RW key v d)) i
  have hx := (xor_byte hbt.1 hbt.2 (show (0 : Int) ≤ x by omega) x2).1
  have hn := hturn i (Go.bits .xor .u8 ((bytesOf (RW key v d)).getD i 0) x) hi1 hx (xor_turn hbt.1 hbt.2 x1 x2)
  have hz2 : (strOfNums ((bytesOf (RW key v d)).set i (Go.bits .xor .u8 ((bytesOf (RW key v d)).getD i 0) x))).size = (RW key v d).size := by rw [strOfNums_size, List.length_set, bytesOf_length]
  refine Ev.bind0 ht (Ev.ifT (by omega) (Ev.bind (igetrec_eq _ (by rw [ByteArray.size_append]; omega) _) ?_))
  refine Ev.congr (fun _ => ?_) (Ev.now _)
  dsimp only
  rw [bne_iff_ne.2 hn]
theorem FnRecords : laws_FnRecords.Pure := by
  intro l0 l1 h0 h1
  have hb0 : Bytes l0 := fun y hy => wf_u8 (h0.2 y hy)
  have hb1 : Bytes l1 := fun y hy => wf_u8 (h1.2 y hy)
  have yes : Ev (fun k => laws_FnRecords.j0 k l0 l1 true) true := Ev.step (f := fun _ => some true) (fun k => by simp only [laws_FnRecords.j0, if_true]) (Ev.now _)
  refine Ev.rounds (g := fun k => laws_FnRecords.f k l0 l1) ?_
  unfold laws_FnRecords.f
  by_cases c : (l0.length : Int) > 1048576
  · exact Ev.ifT c yes
  · refine Ev.ifF c ?_
    by_cases c' : (l1.length : Int) > 1048576
    · rw [decide_eq_true c']; exact yes
    · rw [decide_eq_false c']; exact records_j0 hb0 (by omega) hb1 (by omega)
end Go.Proofs.YtncghlamcbhpmaaDoor.Pure
