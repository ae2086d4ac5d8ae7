/-
  The plain law Sealed: what is sealed opens, turned it does not, rewrapped it opens under the new key; for all drawn bytes.
-/
import Derived.Test.YtncghlamcbhpmaaPureSealS
import Derived.Laws.BitsAllLaws
namespace Go.Proofs.Ytncghlamcbhpmaa.Pure
open Go.RowKit Go.Proofs.Ytncghlamcbhpmaa.PFnSealed Go.Proofs.Ytncghlamcbhpmaa.Base Go.Proofs.YtncghlamcbhpmaaW.PrintWords Go.Proofs.YtncghlamcbhpmaaW.PrintLast Go.Proofs.YtncghlamcbhpmaaW.PrintMore
theorem n_tot {l : List Int} (hl : Bytes l) (hn : l.length ≤ 1048576) (at_ sz a : Int) (h0 : 0 ≤ at_) (h1 : at_ ≤ 1099511627776) (ha : a ≤ 4611686018427387904) :
    ∃ v, spec_l01Src_n.f l at_ sz a = some (v, at_ + 1, sz) ∧ 0 ≤ v ∧ (1 ≤ a → v < a) ∧ (a < 1 → v = 0) := by
  have e1 : wrap64 (at_ + 1) = at_ + 1 := w64 (by omega) (by omega)
  have e2 : wrap64 ((at_ + 1) - 1) = at_ := by rw [show at_ + 1 - 1 = at_ by omega]; exact w64 (by omega) (by omega)
  unfold spec_l01Src_n.f
  simp only [e1, e2]
  by_cases c1 : a < 1
  · rw [if_pos c1]; exact ⟨0, rfl, by omega, by omega, by omega⟩
  rw [if_neg c1]
  have hmod : ∀ y : Int, 0 ≤ y → 0 ≤ Int.tmod y a ∧ Int.tmod y a < a := fun y hy => by
    rw [Int.tmod_eq_emod_of_nonneg hy]; exact ⟨Int.emod_nonneg _ (by omega), Int.emod_lt_of_pos _ (by omega)⟩
  by_cases c2 : (l.length : Int) = 0
  · rw [if_pos c2, if_neg (by omega)]
    rw [w64 (x := at_ * 7) (by omega) (by omega)]
    have := hmod (at_ * 7) (by omega)
    exact ⟨_, rfl, this.1, fun _ => this.2, by omega⟩
  rw [if_neg c2]
  have hk : (0 : Int) < l.length := by omega
  have m1 : 0 ≤ Int.tmod at_ l.length ∧ Int.tmod at_ l.length < l.length := by
    rw [Int.tmod_eq_emod_of_nonneg h0]; exact ⟨Int.emod_nonneg _ (by omega), Int.emod_lt_of_pos _ hk⟩
  have q1 : 0 ≤ Int.tdiv at_ l.length ∧ Int.tdiv at_ l.length ≤ at_ := by
    rw [Int.tdiv_eq_ediv_of_nonneg h0]; exact ⟨Int.ediv_nonneg h0 (by omega), Int.ediv_le_self _ h0⟩
  rw [if_pos m1.1, if_pos m1.2]
  have b1 := hl.rd (Int.tmod at_ l.length)
  generalize rd l (Int.tmod at_ l.length) = x1 at *
  generalize Int.tdiv at_ l.length = y1 at *
  rw [w64 (x := x1) (by omega) (by omega), w64 (x := y1) (by omega) (by omega), w64 (x := y1 * 37) (by omega) (by omega), w64 (x := x1 + y1 * 37) (by omega) (by omega)]
  by_cases c3 : a > 200
  · rw [if_pos c3]
    have m2 : 0 ≤ Int.tmod (at_ + 1) l.length ∧ Int.tmod (at_ + 1) l.length < l.length := by
      rw [Int.tmod_eq_emod_of_nonneg (by omega)]; exact ⟨Int.emod_nonneg _ (by omega), Int.emod_lt_of_pos _ hk⟩
    rw [e1] at *
    rw [if_pos m2.1, if_pos m2.2, if_neg (by omega)]
    have b2 := hl.rd (Int.tmod (at_ + 1) l.length)
    generalize rd l (Int.tmod (at_ + 1) l.length) = x2 at *
    rw [w64 (x := x2) (by omega) (by omega), w64 (x := x2 * 13) (by omega) (by omega), w64 (x := (x1 + y1 * 37) * 251) (by omega) (by omega), w64 (x := (x1 + y1 * 37) * 251 + x2 * 13) (by omega) (by omega), w64 (x := (x1 + y1 * 37) * 251 + x2 * 13 + at_) (by omega) (by omega)]
    have := hmod ((x1 + y1 * 37) * 251 + x2 * 13 + at_) (by omega)
    exact ⟨_, rfl, this.1, fun _ => this.2, by omega⟩
  · rw [if_neg c3, if_neg (by omega)]
    have := hmod (x1 + y1 * 37) (by omega)
    exact ⟨_, rfl, this.1, fun _ => this.2, by omega⟩
theorem one_tot {l : List Int} (hl : Bytes l) (hn : l.length ≤ 1048576) (at_ sz a : Int) (h0 : 0 ≤ at_) (h1 : at_ ≤ 1099511627776) (ha : a ≤ 4611686018427387904) :
    ∃ b, spec_l01Src_one.f l at_ sz a = some (b, at_ + 1, sz) := by
  obtain ⟨v, hv, _⟩ := n_tot hl hn at_ sz a h0 h1 ha
  exact ⟨_, by unfold spec_l01Src_one.f; rw [hv]; rfl⟩
theorem source_tot {l : List Int} (hn : l.length ≤ 1048576) : ∃ sz, spec_l01Source.f l = some (l, 0, sz) ∧ 0 ≤ sz ∧ sz ≤ 12 := by
  unfold spec_l01Source.f
  rw [w64 (by omega) (by omega)]
  split
  · exact ⟨12, rfl, by omega, by omega⟩
  · exact ⟨_, rfl, by omega, by omega⟩

theorem letters_ok : ∀ m : Nat, m < 26 → 97 ≤ bt (⟨#[97, 98, 99, 100, 101, 102, 103, 104, 105, 106, 107, 108, 109, 110, 111, 112, 113, 114, 115, 116, 117, 118, 119, 120, 121, 122]⟩ : ByteArray) (m : Int) ∧ bt (⟨#[97, 98, 99, 100, 101, 102, 103, 104, 105, 106, 107, 108, 109, 110, 111, 112, 113, 114, 115, 116, 117, 118, 119, 120, 121, 122]⟩ : ByteArray) (m : Int) ≤ 122 := by decide
theorem word_l0 {l : List Int} (hl : Bytes l) (hn : l.length ≤ 1048576) (sz : Int) (d : Nat) : ∀ (x : List Int) (k at_ : Int), k = d → d ≤ 100 → 0 ≤ at_ → at_ ≤ 1099511627776 - d → x.length + d ≤ 200 → (∀ c ∈ x, 97 ≤ c ∧ c ≤ 122) →
    ∃ y : List Int, Ev (fun n => spec_l01Src_word.l0 n x k l at_ sz) (strOfNums y, at_ + d, sz) ∧ y.length = x.length + d ∧ (∀ c ∈ y, 97 ≤ c ∧ c ≤ 122) := by
  induction d with
  | zero =>
    intro x k at_ hk _ _ _ _ hx
    refine ⟨x, Ev.step (f := fun _ => some (strOfNums x, at_, sz)) (fun n => ?_) ?_, rfl, hx⟩
    · simp only [spec_l01Src_word.l0]; rw [if_neg (by omega)]
    · simpa using Ev.now (strOfNums x, at_, sz)
  | succ d ih =>
    intro x k at_ hk hd h0 h1 hx hc
    obtain ⟨v, hv, v0, v1, _⟩ := n_tot hl hn at_ sz 26 h0 (by omega) (by omega)
    have hb : 97 ≤ bt (⟨#[97, 98, 99, 100, 101, 102, 103, 104, 105, 106, 107, 108, 109, 110, 111, 112, 113, 114, 115, 116, 117, 118, 119, 120, 121, 122]⟩ : ByteArray) v ∧ bt (⟨#[97, 98, 99, 100, 101, 102, 103, 104, 105, 106, 107, 108, 109, 110, 111, 112, 113, 114, 115, 116, 117, 118, 119, 120, 121, 122]⟩ : ByteArray) v ≤ 122 := by
      have v1 := v1 (by omega)
      obtain ⟨m, rfl⟩ := Int.eq_ofNat_of_zero_le v0
      exact letters_ok m (by omega)
    obtain ⟨y, hy, ylen, yc⟩ := ih (x ++ [bt (⟨#[97, 98, 99, 100, 101, 102, 103, 104, 105, 106, 107, 108, 109, 110, 111, 112, 113, 114, 115, 116, 117, 118, 119, 120, 121, 122]⟩ : ByteArray) v]) (k - 1) (at_ + 1) (by omega) (by omega) (by omega) (by omega) (by simp; omega) (by
      intro c hcm
      rcases List.mem_append.mp hcm with h | h
      · exact hc c h
      · obtain rfl := List.mem_singleton.mp h; exact hb)
    refine ⟨y, ?_, by rw [ylen]; simp; omega, yc⟩
    refine Ev.step (f := fun n => spec_l01Src_word.l0 n (x ++ [bt (⟨#[97, 98, 99, 100, 101, 102, 103, 104, 105, 106, 107, 108, 109, 110, 111, 112, 113, 114, 115, 116, 117, 118, 119, 120, 121, 122]⟩ : ByteArray) v]) (k - 1) l (at_ + 1) sz) (fun n => ?_) ?_
    · simp only [spec_l01Src_word.l0]
      rw [if_pos (by omega), hv]
      simp only [Option.bind_some]
      rw [if_pos v0, if_pos (v1 (by omega)), if_pos (by omega), w64 (by omega) (by omega)]
    · rw [show at_ + ((d + 1 : Nat) : Int) = at_ + 1 + (d : Int) by omega]; exact hy
theorem word_tot {l : List Int} (hl : Bytes l) (hn : l.length ≤ 1048576) (at_ sz : Int) (h0 : 0 ≤ at_) (h1 : at_ ≤ 1099511627000) :
    ∃ (y : List Int) (at2 : Int), Ev (fun n => spec_l01Src_word.f n l at_ sz) (strOfNums y, at2, sz) ∧ 1 ≤ y.length ∧ y.length ≤ 6 ∧ (∀ c ∈ y, 97 ≤ c ∧ c ≤ 122) ∧ at_ ≤ at2 ∧ at2 ≤ at_ + 7 := by
  obtain ⟨v, hv, v0, v1, _⟩ := n_tot hl hn at_ sz 6 h0 (by omega) (by omega)
  have v1 := v1 (by omega)
  obtain ⟨m, rfl⟩ := Int.eq_ofNat_of_zero_le v0
  obtain ⟨y, hy, ylen, yc⟩ := word_l0 hl hn sz (m + 1) [] (1 + m) (at_ + 1) (by omega) (by omega) (by omega) (by omega) (by simp; omega) (by simp)
  refine ⟨y, at_ + 1 + ((m + 1 : Nat) : Int), ?_, by rw [ylen]; simp, by rw [ylen]; simp; omega, yc, by omega, by omega⟩
  refine Ev.congr (fun k => ?_) hy
  unfold spec_l01Src_word.f
  rw [hv]; simp only [Option.bind_some]
  rw [w64 (by omega) (by omega)]

theorem bt_lit (s : ByteArray) (i : Int) : 0 ≤ bt s i ∧ bt s i ≤ 255 := bt_range s i
theorem bytes_l0 {l : List Int} (hl : Bytes l) (hn : l.length ≤ 1048576) (sz kd : Int) (N : Nat) (hN : N ≤ 1000000) : ∀ (d i : Nat) (x : List Int) (at_ : Int), i + d = N → i ≤ x.length → x.length ≤ 3 * i → Bytes x → 0 ≤ at_ → at_ + 2 * d ≤ 1099511627700 →
    ∃ (y : List Int) (at2 : Int), Ev (fun k => spec_l01Src_bytes.l0 k (N : Int) x kd (i : Int) l at_ sz) (strOfNums y, at2, sz) ∧ y.length = N ∧ Bytes y ∧ at_ ≤ at2 ∧ at2 ≤ at_ + 2 * d := by
  intro d
  induction d with
  | zero =>
    intro i x at_ hi h1 h2 hx h0 ha
    by_cases c : (x.length : Int) > (N : Int)
    · refine ⟨x.take N, at_, Ev.step (f := fun _ => some (strOfNums (x.take N), at_, sz)) (fun k => ?_) (Ev.now _), by rw [List.length_take]; omega, hx.take _, by omega, by omega⟩
      simp only [spec_l01Src_bytes.l0]
      rw [if_neg (by omega), if_pos c, if_pos (by omega), if_pos (by omega), if_pos (by omega)]
      simp
    · refine ⟨x, at_, Ev.step (f := fun _ => some (strOfNums x, at_, sz)) (fun k => ?_) (Ev.now _), by omega, hx, by omega, by omega⟩
      simp only [spec_l01Src_bytes.l0]
      rw [if_neg (by omega), if_neg c]
  | succ d ih =>
    intro i x at_ hi h1 h2 hx h0 ha
    have ei : wrap64 ((i : Int) + 1) = ((i + 1 : Nat) : Int) := by rw [w64 (by omega) (by omega)]; rfl
    by_cases k0 : kd = 0
    · obtain ⟨v, hv, v0, v1, _⟩ := n_tot hl hn at_ sz 256 h0 (by omega) (by omega)
      have v1 := v1 (by omega)
      obtain ⟨y, at2, he, hy, hb, g1, g2⟩ := ih (i + 1) (x ++ [v]) (at_ + 1) (by omega) (by simp; omega) (by simp; omega) (hx.append (Bytes.cons (by omega) Bytes.nil)) (by omega) (by omega)
      refine ⟨y, at2, Ev.step (fun k => ?_) he, hy, hb, by omega, by omega⟩
      simp only [spec_l01Src_bytes.l0]
      rw [if_pos (by omega), if_pos k0, hv]
      simp only [Option.bind_some]
      rw [if_pos (by omega), ei, Int.emod_eq_of_lt v0 v1]
    by_cases k1 : kd = 1
    · obtain ⟨v, hv, v0, v1, _⟩ := n_tot hl hn at_ sz 9 h0 (by omega) (by omega)
      have v1 := v1 (by omega)
      obtain ⟨y, at2, he, hy, hb, g1, g2⟩ := ih (i + 1) (x ++ [bt (⟨#[32, 9, 61, 46, 13, 10, 45, 97, 95]⟩ : ByteArray) v]) (at_ + 1) (by omega) (by simp; omega) (by simp; omega) (hx.append (Bytes.cons (bt_lit _ _) Bytes.nil)) (by omega) (by omega)
      refine ⟨y, at2, Ev.step (fun k => ?_) he, hy, hb, by omega, by omega⟩
      simp only [spec_l01Src_bytes.l0]
      rw [if_pos (by omega), if_neg k0, if_pos k1, hv]
      simp only [Option.bind_some]
      rw [if_pos v0, if_pos v1, if_pos (by omega), ei]
    by_cases k2 : kd = 2
    · obtain ⟨b, hb1⟩ := one_tot hl hn at_ sz 12 h0 (by omega) (by omega)
      obtain ⟨v, hv, v0, v1, _⟩ := n_tot hl hn (at_ + 1) sz 95 (by omega) (by omega) (by omega)
      have v1 := v1 (by omega)
      have ev : (wrap64 (32 + v)) % 256 = 32 + v := by rw [w64 (by omega) (by omega), Int.emod_eq_of_lt (by omega) (by omega)]
      cases b with
      | true =>
        obtain ⟨y, at2, he, hy, hb, g1, g2⟩ := ih (i + 1) (x ++ [13, 10] ++ [32 + v]) (at_ + 1 + 1) (by omega) (by simp; omega) (by simp; omega) ((hx.append (Bytes.cons (by omega) (Bytes.cons (by omega) Bytes.nil))).append (Bytes.cons (by omega) Bytes.nil)) (by omega) (by omega)
        refine ⟨y, at2, Ev.step (fun k => ?_) he, hy, hb, by omega, by omega⟩
        simp only [spec_l01Src_bytes.l0]
        rw [if_pos (by omega), if_neg k0, if_neg k1, if_pos k2, hb1]
        simp only [Option.bind_some, if_true]
        rw [if_pos (by simp; omega), hv]
        simp only [Option.bind_some]
        rw [if_pos (by simp; omega), ei, ev]
      | false =>
        obtain ⟨y, at2, he, hy, hb, g1, g2⟩ := ih (i + 1) (x ++ [32 + v]) (at_ + 1 + 1) (by omega) (by simp; omega) (by simp; omega) (hx.append (Bytes.cons (by omega) Bytes.nil)) (by omega) (by omega)
        refine ⟨y, at2, Ev.step (fun k => ?_) he, hy, hb, by omega, by omega⟩
        simp only [spec_l01Src_bytes.l0]
        rw [if_pos (by omega), if_neg k0, if_neg k1, if_pos k2, hb1]
        simp only [Option.bind_some]
        rw [if_neg (by decide), hv]
        simp only [Option.bind_some]
        rw [if_pos (by omega), ei, ev]
    · obtain ⟨v, hv, v0, v1, _⟩ := n_tot hl hn at_ sz 23 h0 (by omega) (by omega)
      have v1 := v1 (by omega)
      obtain ⟨y, at2, he, hy, hb, g1, g2⟩ := ih (i + 1) (x ++ [bt (⟨#[97, 98, 99, 100, 101, 102, 103, 104, 32, 105, 106, 107, 108, 109, 110, 111, 112, 46, 32, 101, 116, 97, 111]⟩ : ByteArray) v]) (at_ + 1) (by omega) (by simp; omega) (by simp; omega) (hx.append (Bytes.cons (bt_lit _ _) Bytes.nil)) (by omega) (by omega)
      refine ⟨y, at2, Ev.step (fun k => ?_) he, hy, hb, by omega, by omega⟩
      simp only [spec_l01Src_bytes.l0]
      rw [if_pos (by omega), if_neg k0, if_neg k1, if_neg k2, hv]
      simp only [Option.bind_some]
      rw [if_pos v0, if_pos v1, if_pos (by omega), ei]
theorem bytes_tot {l : List Int} (hl : Bytes l) (hn : l.length ≤ 1048576) (at_ sz n : Int) (n0 : 0 ≤ n) (n1 : n ≤ 1000000) (h0 : 0 ≤ at_) (h1 : at_ + 2 * n ≤ 1099511627600) :
    ∃ (y : List Int) (at2 : Int), Ev (fun k => spec_l01Src_bytes.f k l at_ sz n) (strOfNums y, at2, sz) ∧ (y.length : Int) = n ∧ Bytes y ∧ at_ ≤ at2 ∧ at2 ≤ at_ + 2 * n + 1 := by
  obtain ⟨N, rfl⟩ := Int.eq_ofNat_of_zero_le n0
  obtain ⟨kd, hv, _⟩ := n_tot hl hn at_ sz 6 h0 (by omega) (by omega)
  obtain ⟨y, at2, he, hy, hb, g1, g2⟩ := bytes_l0 hl hn sz kd N (by omega) N 0 [] (at_ + 1) (by omega) (by simp) (by simp) Bytes.nil (by omega) (by omega)
  refine ⟨y, at2, ?_, by omega, hb, by omega, by omega⟩
  unfold spec_l01Src_bytes.f
  exact Ev.bind0 hv he

theorem long_tot {l : List Int} (hl : Bytes l) (hn : l.length ≤ 1048576) (at_ sz : Int) (s0 : 0 ≤ sz) (s1 : sz ≤ 12) (h0 : 0 ≤ at_) (h1 : at_ ≤ 1099511620000) :
    ∃ (y : List Int) (at2 : Int), Ev (fun k => spec_l01Src_long.f k l at_ sz) (strOfNums y, at2, sz) ∧ y.length ≤ 300 ∧ Bytes y ∧ at_ ≤ at2 ∧ at2 ≤ at_ + 700 := by
  unfold spec_l01Src_long.f
  rw [w64 (x := 20 * sz) (by omega) (by omega), w64 (x := 20 + 20 * sz) (by omega) (by omega)]
  obtain ⟨v, hv, v0, v1, _⟩ := n_tot hl hn at_ sz (20 + 20 * sz) h0 (by omega) (by omega)
  have v1 := v1 (by omega)
  obtain ⟨b, hb⟩ := one_tot hl hn (at_ + 1) sz 8 (by omega) (by omega) (by omega)
  cases b with
  | true =>
    obtain ⟨u, hu, u0, u1, _⟩ := n_tot hl hn (at_ + 1 + 1) sz 30 (by omega) (by omega) (by omega)
    have u1 := u1 (by omega)
    obtain ⟨y, at2, he, hy, hy2, g1, g2⟩ := bytes_tot hl hn (at_ + 1 + 1 + 1) sz (55 + u) (by omega) (by omega) (by omega) (by omega)
    refine ⟨y, at2, Ev.bind0 hv (Ev.bind0 hb (Ev.ifT rfl (Ev.bind0 hu (Ev.bind (a := (strOfNums y, at2, sz)) ?_ (Ev.now _))))), by omega, hy2, by omega, by omega⟩
    rw [w64 (x := 55 + u) (by omega) (by omega)]
    exact he
  | false =>
    obtain ⟨y, at2, he, hy, hy2, g1, g2⟩ := bytes_tot hl hn (at_ + 1 + 1) sz v (by omega) (by omega) (by omega) (by omega)
    exact ⟨y, at2, Ev.bind0 hv (Ev.bind0 hb (Ev.ifF (by simp) (Ev.bind he (Ev.now _)))), by omega, hy2, by omega, by omega⟩

theorem right_eq (m W D : ByteArray) (c n : Int) : impl_sealedRight.f m c W D n = some (decide ((1 ≤ m.size ∧ m.size ≤ 200) ∧ 0 ≤ n ∧ c = 0 ∧ W.size ≤ 300 ∧ D.size ≤ 100004)) := by
  unfold impl_sealedRight.f
  rw [ikey_eq, Option.bind_some]
  by_cases c1 : 1 ≤ m.size ∧ m.size ≤ 200
  · rw [if_pos (by simp [c1])]
    by_cases c2 : n ≥ 0
    · rw [if_pos c2]
      by_cases c3 : c = 0
      · rw [if_pos c3]
        by_cases c4 : (W.size : Int) ≤ 300
        · rw [if_pos c4]
          congr 1
          exact decide_eq_decide.mpr (by omega)
        · rw [if_neg c4, decide_eq_false (by omega)]
      · rw [if_neg c3, decide_eq_false (by omega)]
    · rw [if_neg c2, decide_eq_false (by omega)]
  · rw [if_neg (by simp [c1]), decide_eq_false (by omega)]
theorem sstep_inj {x y b : Int} (x0 : 0 ≤ x) (x1 : x < 2147483647) (y0 : 0 ≤ y) (y1 : y < 2147483647) (b0 : 0 ≤ b) (b1 : b ≤ 255) (h : sstep x b = sstep y b) : x = y := by
  rw [sstep_range x0 x1 b0 b1, sstep_range y0 y1 b0 b1] at h
  omega
theorem sstep_ne {x b c : Int} (x0 : 0 ≤ x) (x1 : x < 2147483647) (b0 : 0 ≤ b) (b1 : b ≤ 255) (c0 : 0 ≤ c) (c1 : c ≤ 255) (h : sstep x b = sstep x c) : b = c := by
  rw [sstep_range x0 x1 b0 b1, sstep_range x0 x1 c0 c1] at h
  omega
theorem sstep_in {x b : Int} (x0 : 0 ≤ x) (x1 : x < 2147483647) (b0 : 0 ≤ b) (b1 : b ≤ 255) : 0 ≤ sstep x b ∧ sstep x b < 2147483647 := by
  rw [sstep_range x0 x1 b0 b1]; omega
theorem foldl_inj : ∀ (l : List Int), Bytes l → ∀ x y : Int, 0 ≤ x → x < 2147483647 → 0 ≤ y → y < 2147483647 → l.foldl sstep x = l.foldl sstep y → x = y := by
  intro l
  induction l with
  | nil => intro _ x y _ _ _ _ h; exact h
  | cons b r ih =>
    intro hb x y x0 x1 y0 y1 h
    have h1 := sstep_in x0 x1 hb.head.1 hb.head.2
    have h2 := sstep_in y0 y1 hb.head.1 hb.head.2
    exact sstep_inj x0 x1 y0 y1 hb.head.1 hb.head.2 (ih hb.tail _ _ h1.1 h1.2 h2.1 h2.2 h)
theorem foldl_turn : ∀ (l : List Int), Bytes l → ∀ (i : Nat) (c x : Int), i < l.length → 0 ≤ c → c ≤ 255 → c ≠ l.getD i 0 → 0 ≤ x → x < 2147483647 → (l.set i c).foldl sstep x ≠ l.foldl sstep x := by
  intro l
  induction l with
  | nil => intro _ i c x h; simp at h
  | cons b r ih =>
    intro hb i c x hi c0 c1 hne x0 x1
    cases i with
    | zero =>
      intro e
      simp only [List.set_cons_zero, List.foldl_cons] at e
      have h1 := sstep_in x0 x1 hb.head.1 hb.head.2
      have h2 := sstep_in x0 x1 c0 c1
      exact hne (sstep_ne x0 x1 c0 c1 hb.head.1 hb.head.2 (foldl_inj r hb.tail _ _ h2.1 h2.2 h1.1 h1.2 e))
    | succ i =>
      have h1 := sstep_in x0 x1 hb.head.1 hb.head.2
      simp only [List.set_cons_succ, List.foldl_cons]
      exact ih hb.tail i c _ (by simpa using hi) c0 c1 (by simpa using hne) h1.1 h1.2
theorem F4_inj {x y : Int} (x0 : 0 ≤ x) (x1 : x < 2147483647) (y0 : 0 ≤ y) (y1 : y < 2147483647) (h : F4 x = F4 y) : x = y := by
  have e := congrArg bytesOf h
  rw [F4_bytes, F4_bytes] at e
  simp only [List.cons.injEq, and_true] at e
  omega
theorem getD_set (l : List Int) (i j : Nat) (v : Int) : (l.set i v).getD j 0 = if i = j ∧ j < l.length then v else l.getD j 0 := by
  rw [List.getD_eq_getElem?_getD, List.getD_eq_getElem?_getD, List.getElem?_set]
  by_cases c : i = j
  · subst c
    by_cases d : i < l.length
    · simp [d]
    · simp [d]
  · simp [c]
theorem coverL_set (l : List Int) (x : Int) (i : Nat) (v : Int) : coverL (l.set i v) x = (coverL l x).set i (Go.bits .xor .u8 v (strmByte (strmAt i x))) := by
  refine list_getD_ext (by rw [coverL_len, List.length_set, List.length_set, coverL_len]) (fun j hj => ?_)
  rw [coverL_len, List.length_set] at hj
  rw [getD_set, coverL_len]
  unfold coverL
  rw [coverA_get _ _ _ _ (by rw [List.length_set]; exact hj), coverA_get _ _ _ _ hj, getD_set]
  by_cases c : i = j
  · subst c; rw [if_pos ⟨rfl, hj⟩, if_pos ⟨rfl, hj⟩]
  · rw [if_neg (fun h => c h.1), if_neg (fun h => c h.1)]
theorem bytes_set {l : List Int} (h : Bytes l) (i : Nat) {v : Int} (v0 : 0 ≤ v) (v1 : v ≤ 255) : Bytes (l.set i v) := fun c hc => by
  rcases List.mem_or_eq_of_mem_set hc with h1 | h1
  · exact h c h1
  · rw [h1]; exact ⟨v0, v1⟩
theorem xor_turn {b v : Int} (b0 : 0 ≤ b) (b1 : b ≤ 255) (v0 : 1 ≤ v) (v1 : v ≤ 255) : Go.bits .xor .u8 b v ≠ b := by
  intro h
  rw [u8_xor b v b0 (by omega) (by omega) (by omega)] at h
  have h1 : b.toNat ^^^ v.toNat = b.toNat := by omega
  have h2 : b.toNat ^^^ (b.toNat ^^^ v.toNat) = v.toNat := by rw [← Nat.xor_assoc, Nat.xor_self, Nat.zero_xor]
  rw [h1, Nat.xor_self] at h2
  omega
theorem xor_right {a b s : Int} (a0 : 0 ≤ a) (a1 : a ≤ 255) (b0 : 0 ≤ b) (b1 : b ≤ 255) (s0 : 0 ≤ s) (s1 : s ≤ 255) (h : Go.bits .xor .u8 a s = Go.bits .xor .u8 b s) : a = b := by
  rw [← (xor_byte a0 a1 s0 s1).2, h, (xor_byte b0 b1 s0 s1).2]
theorem isize_PT (t : ByteArray) : (PT t).size = (puts 9 (t.size : Int)).length + t.size := by
  unfold PT; rw [ByteArray.size_append, strOfNums_size]
theorem iwrap_eq (m t : ByteArray) (nonce : Int) (ht : t.size ≤ 100000) (k2 : m.size ≤ 200) (n0 : 0 ≤ nonce) (n1 : nonce < 9223372036854775808) : Ev (fun k => impl_wrap.f k m t nonce) (WRAP m t nonce) := by
  unfold impl_wrap.f
  have hz := PT_size t
  have h4 := F4_size (rsum (PT t) 8)
  exact Ev.bind (show Ev (fun k => impl_PutText.f k t) (PT t) from iputText_eq t ht) (Ev.bind (isum_eq _ (by omega) 8 (by omega)) (Ev.bind0 (ifour_eq _) (Ev.ifT (by omega) (Ev.bind (icov_eq _ m nonce (by rw [ByteArray.size_append]; omega) (by omega) n0 n1) (Ev.now _)))))
theorem WRAP_size (m t : ByteArray) (n : Int) : (WRAP m t n).size ≤ 13 + t.size := by
  have := PT_size t
  unfold WRAP
  rw [COV_size, ByteArray.size_append, F4_size]; omega
theorem iunwrap_good (m t : ByteArray) (n : Int) (m2 : m.size ≤ 200) (k1 : 1 ≤ t.size) (k2 : t.size ≤ 200) (n0 : 0 ≤ n) (n1 : n < 9223372036854775808) : Ev (fun k => impl_unwrap.f k m (WRAP m t n) n) (t, true) := by
  have hws := WRAP_size m t n
  have hi := icov_eq (WRAP m t n) m n (by omega) (by omega) n0 n1
  rw [WRAP, COV_twice] at hi
  have hT : (PT t ++ F4 (rsum (PT t) 8)).size ≤ 1000 := by have := PT_size t; rw [ByteArray.size_append, F4_size]; omega
  obtain ⟨i1, _⟩ := ctext_eq (PT t ++ F4 (rsum (PT t) 8)) (by omega) 0
  have hr := text_read t (by omega) (⟨#[]⟩ : ByteArray) (F4 (rsum (PT t) 8))
  have e0 : (⟨#[]⟩ : ByteArray) ++ (strOfNums (puts 9 (t.size : Int)) ++ t) ++ F4 (rsum (PT t) 8) = PT t ++ F4 (rsum (PT t) 8) := by
    apply bytesOf_inj; simp [bytesOf_append, bytesOf_nil, PT]
  rw [e0] at hr
  have e1 : (((⟨#[]⟩ : ByteArray).size : Nat) : Int) = 0 := rfl
  rw [e1] at hr
  rw [hr] at i1
  obtain ⟨c1, c2, c3, c4⟩ := rtext_cut hr
  have hsp := (app_split (b := F4 (rsum (PT t) 8)) c3).mp rfl
  have hz := PT_size t
  unfold impl_unwrap.f
  refine Ev.bind hi (Ev.bind (i1 rfl) (Ev.ifT rfl (Ev.bind0 (ikey_eq t) (Ev.ifT (by simp [k1, k2]) (Ev.ifT c1 (Ev.ifT c2 ?_))))))
  simp only
  rw [c3, hsp]
  refine Ev.bind (isum_eq _ (by omega) 8 (by omega)) (Ev.bind0 (ifour_eq _) ?_)
  rw [toList_beq, decide_eq_true rfl]
  exact Ev.now _
theorem ext_left (a b : ByteArray) : (a ++ b).extract 0 a.size = a := by
  apply bytesOf_inj
  rw [bytesOf_extract, bytesOf_append, List.drop_zero, Nat.sub_zero, ← bytesOf_length a, List.take_left]
theorem iopen (m t D a b : ByteArray) (n : Int) (m1 : 1 ≤ m.size) (m2 : m.size ≤ 200) (k1 : 1 ≤ t.size) (k2 : t.size ≤ 200) (n0 : 0 ≤ n) (n1 : n < 9223372036854775808) (hd : D.size ≤ 100004) (hb : b.size = 4) (h : COV D t n = a ++ b) :
    Ev (fun k => impl_OpenSealed.f k m 0 (WRAP m t n) D n) (if b = F4 (rsum (t ++ a) 6) then (0, a) else (12, (⟨#[]⟩ : ByteArray))) := by
  have hws := WRAP_size m t n
  have hr : impl_sealedRight.f m 0 (WRAP m t n) D n = some true := by rw [right_eq, decide_eq_true (by omega)]
  have hz := COV_size D t n
  have hc := icov_eq D t n (by omega) (by omega) n0 n1
  rw [h] at hc hz
  have hz2 : (a ++ b).size = a.size + b.size := ByteArray.size_append
  unfold impl_OpenSealed.f
  rw [decide_eq_false (show ¬ (D.size : Int) < 4 by omega)]
  refine Ev.bind0 hr (Ev.ifT rfl (Ev.bind (iunwrap_good m t n m2 k1 k2 n0 n1) (Ev.ifT rfl (Ev.step (fun k => by simp only [impl_OpenSealed.j0]; rw [if_neg (by simp)]) (Ev.bind hc ?_)))))
  have hq : wrap64 (((a ++ b).size : Int) - 4) = (a.size : Int) := by rw [w64 (by omega) (by omega)]; omega
  have ht : (a ++ b).extract a.size (a ++ b).size = b := (app_split (ext_left a b)).mp rfl
  rw [hq, Int.toNat_natCast, ext_left, ht]
  refine Ev.ifT (by omega) (Ev.ifT (by omega) (Ev.ifT (by omega) (Ev.bind (isum_eq _ (by rw [ByteArray.size_append]; omega) 6 (by omega)) (Ev.bind0 (ifour_eq _) ?_))))
  by_cases e : b = F4 (rsum (t ++ a) 6)
  · rw [if_pos e]; exact Ev.ifT (toList_inj.mpr e) (Ev.now _)
  · rw [if_neg e]; exact Ev.ifF (fun q => e (toList_inj.mp q)) (Ev.now _)
/-- What is sealed. -/
def DATA (t d : ByteArray) (n : Int) : ByteArray := COV (d ++ F4 (rsum (t ++ d) 6)) t n
theorem DATA_size (t d : ByteArray) (n : Int) : (DATA t d n).size = d.size + 4 := by unfold DATA; rw [COV_size, ByteArray.size_append, F4_size]
theorem open_good (m t d : ByteArray) (n : Int) (m1 : 1 ≤ m.size) (m2 : m.size ≤ 200) (k1 : 1 ≤ t.size) (k2 : t.size ≤ 200) (n0 : 0 ≤ n) (n1 : n < 9223372036854775808) (hd : d.size ≤ 100000) :
    Ev (fun k => impl_OpenSealed.f k m 0 (WRAP m t n) (DATA t d n) n) (0, d) := by
  have := iopen m t (DATA t d n) d (F4 (rsum (t ++ d) 6)) n m1 m2 k1 k2 n0 n1 (by rw [DATA_size]; omega) (F4_size _) (COV_twice _ _ _)
  rwa [if_pos rfl] at this
theorem open_bad (m t d : ByteArray) (n : Int) (m1 : 1 ≤ m.size) (m2 : m.size ≤ 200) (k1 : 1 ≤ t.size) (k2 : t.size ≤ 200) (n0 : 0 ≤ n) (n1 : n < 9223372036854775808) (hd : d.size ≤ 100000) (i : Nat) (hi : i < d.size + 4) (v : Int) (v0 : 1 ≤ v) (v1 : v ≤ 255) :
    Ev (fun k => impl_OpenSealed.f k m 0 (WRAP m t n) (strOfNums ((bytesOf (DATA t d n)).set i (Go.bits .xor .u8 ((bytesOf (DATA t d n)).getD i 0) v))) n) (12, (⟨#[]⟩ : ByteArray)) := by
  have hB := Bytes.of (DATA t d n)
  have hg := getD_byte hB i
  have hx := (xor_byte hg.1 hg.2 (by omega : 0 ≤ v) v1).1
  have hne := xor_turn hg.1 hg.2 v0 v1
  have hset := bytes_set hB i hx.1 hx.2
  have hplain : bytesOf (COV (DATA t d n) t n) = bytesOf d ++ bytesOf (F4 (rsum (t ++ d) 6)) := by unfold DATA; rw [COV_twice, bytesOf_append]
  have hs := strmByte_range (strmAt i (rsum (t ++ strOfNums (puts 9 n)) 7))
  have hcov : bytesOf (COV (strOfNums ((bytesOf (DATA t d n)).set i (Go.bits .xor .u8 ((bytesOf (DATA t d n)).getD i 0) v))) t n) = (bytesOf d ++ bytesOf (F4 (rsum (t ++ d) 6))).set i (Go.bits .xor .u8 (Go.bits .xor .u8 ((bytesOf (DATA t d n)).getD i 0) v) (strmByte (strmAt i (rsum (t ++ strOfNums (puts 9 n)) 7)))) := by
    rw [COV_bytes, bytesOf_str hset, coverL_set, ← COV_bytes, hplain]
  have hi2 : i < (bytesOf (DATA t d n)).length := by rw [bytesOf_length, DATA_size]; exact hi
  have hold : (bytesOf d ++ bytesOf (F4 (rsum (t ++ d) 6))).getD i 0 = Go.bits .xor .u8 ((bytesOf (DATA t d n)).getD i 0) (strmByte (strmAt i (rsum (t ++ strOfNums (puts 9 n)) 7))) := by
    rw [← hplain, COV_bytes]
    unfold coverL
    exact coverA_get _ _ _ _ hi2
  have hc := (xor_byte hx.1 hx.2 hs.1 hs.2).1
  have hcne : Go.bits .xor .u8 (Go.bits .xor .u8 ((bytesOf (DATA t d n)).getD i 0) v) (strmByte (strmAt i (rsum (t ++ strOfNums (puts 9 n)) 7))) ≠ (bytesOf d ++ bytesOf (F4 (rsum (t ++ d) 6))).getD i 0 := by
    rw [hold]
    exact fun e => hne (xor_right hx.1 hx.2 hg.1 hg.2 hs.1 hs.2 e)
  have hsz : (strOfNums ((bytesOf (DATA t d n)).set i (Go.bits .xor .u8 ((bytesOf (DATA t d n)).getD i 0) v))).size = d.size + 4 := by rw [strOfNums_size, List.length_set, bytesOf_length, DATA_size]
  have hr := rsum_range (t ++ d) 6 (by omega) (by omega)
  generalize Go.bits .xor .u8 (Go.bits .xor .u8 ((bytesOf (DATA t d n)).getD i 0) v) (strmByte (strmAt i (rsum (t ++ strOfNums (puts 9 n)) 7))) = c at *
  have hdb := Bytes.of d
  have hfb := Bytes.of (F4 (rsum (t ++ d) 6))
  have hdl := bytesOf_length d
  have hfl := bytesOf_length (F4 (rsum (t ++ d) 6))
  rw [F4_size] at hfl
  by_cases cs : i < d.size
  · have hset2 := bytes_set hdb i hc.1 hc.2
    have hgd : (bytesOf d ++ bytesOf (F4 (rsum (t ++ d) 6))).getD i 0 = (bytesOf d).getD i 0 := by
      rw [List.getD_eq_getElem?_getD, List.getD_eq_getElem?_getD, List.getElem?_append_left (by omega)]
    have h1 := iopen m t _ (strOfNums ((bytesOf d).set i c)) (F4 (rsum (t ++ d) 6)) n m1 m2 k1 k2 n0 n1 (by rw [hsz]; omega) (F4_size _) (by
      apply bytesOf_inj
      rw [hcov, bytesOf_append, bytesOf_str hset2, List.set_append_left _ _ (by omega)])
    rwa [if_neg] at h1
    intro e
    have hr2 := rsum_range (t ++ strOfNums ((bytesOf d).set i c)) 6 (by omega) (by omega)
    have h2 := F4_inj hr.1 hr.2 hr2.1 hr2.2 e
    unfold rsum at h2
    rw [bytesOf_append, bytesOf_append, bytesOf_str hset2, List.foldl_append, List.foldl_append, tag_start 6 (by omega) (by omega)] at h2
    have hx0 := foldl_range (bytesOf t) (Bytes.of t) (6 + 1) (by omega) (by omega)
    exact foldl_turn (bytesOf d) hdb i c _ (by omega) hc.1 hc.2 (by rw [← hgd]; exact hcne) hx0.1 hx0.2 h2.symm
  · have hset2 := bytes_set hfb (i - d.size) hc.1 hc.2
    have hgd : (bytesOf d ++ bytesOf (F4 (rsum (t ++ d) 6))).getD i 0 = (bytesOf (F4 (rsum (t ++ d) 6))).getD (i - d.size) 0 := by
      rw [List.getD_eq_getElem?_getD, List.getD_eq_getElem?_getD, List.getElem?_append_right (by omega), hdl]
    have h1 := iopen m t _ d (strOfNums ((bytesOf (F4 (rsum (t ++ d) 6))).set (i - d.size) c)) n m1 m2 k1 k2 n0 n1 (by rw [hsz]; omega) (by rw [strOfNums_size, List.length_set, hfl]) (by
      apply bytesOf_inj
      rw [hcov, bytesOf_append, bytesOf_str hset2, List.set_append_right _ _ (by omega), hdl])
    rwa [if_neg] at h1
    intro e
    have e2 := congrArg bytesOf e
    rw [bytesOf_str hset2] at e2
    have e3 := congrArg (fun l => l.getD (i - d.size) 0) e2
    rw [getD_set, if_pos ⟨rfl, by omega⟩] at e3
    rw [hgd] at hcne
    exact hcne e3
theorem seal_good (m t d : ByteArray) (n : Int) (m1 : 1 ≤ m.size) (m2 : m.size ≤ 200) (k1 : 1 ≤ t.size) (k2 : t.size ≤ 200) (n0 : 0 ≤ n) (n1 : n < 9223372036854775808) (hd : d.size ≤ 100000) :
    Ev (fun k => impl_SealObject.f k m t n d) (0, WRAP m t n, DATA t d n) ∧ Ev (fun k => spec_SealObject.f k m t n d) (0, WRAP m t n, DATA t d n) := by
  have hr := rsum_range (t ++ d) 6 (by omega) (by omega)
  have h4 := F4_size (rsum (t ++ d) 6)
  have hs : (t ++ d).size ≤ 400000 := by rw [ByteArray.size_append]; omega
  have hds : (d ++ F4 (rsum (t ++ d) 6)).size ≤ 200000 := by rw [ByteArray.size_append]; omega
  unfold DATA
  constructor
  · unfold impl_SealObject.f
    refine Ev.bind0 (ikey_eq m) (Ev.ifT (by simp [m1, m2]) (Ev.bind0 (ikey_eq t) (Ev.ifT (by simp [k1, k2]) ?_)))
    rw [decide_eq_false (by omega)]
    refine Ev.step (fun k => by simp only [impl_SealObject.j0]; rw [if_neg (by simp)]) ?_
    exact Ev.ifF (by omega) (Ev.ifT (by omega) (Ev.bind (isum_eq _ hs 6 (by omega)) (Ev.bind0 (ifour_eq _) (Ev.bind (iwrap_eq m t n (by omega) m2 n0 n1) (Ev.ifT (by omega) (Ev.bind (icov_eq (d ++ F4 (rsum (t ++ d) 6)) t n (by omega) (by omega) n0 n1) (Ev.now _)))))))
  · unfold spec_SealObject.f
    refine Ev.bind0 (skey_eq m) (Ev.ifT (by simp [m1, m2]) (Ev.bind0 (skey_eq t) (Ev.ifT (by simp [k1, k2]) ?_)))
    rw [decide_eq_false (by omega)]
    refine Ev.step (fun k => by simp only [spec_SealObject.j0]; rw [if_neg (by simp)]) ?_
    exact Ev.ifF (by omega) (Ev.bind (swrap_eq m t n (by omega) m1 m2 n0 n1) (Ev.ifT (by omega) (Ev.bind (ssum_eq _ hs 6 (by omega)) (Ev.bind0 (sfour_eq hr.1 hr.2) (Ev.ifT (by omega) (Ev.bind (sxor_eq (d ++ F4 (rsum (t ++ d) 6)) t n (by omega) k1 k2 n0 n1) (Ev.now _)))))))
theorem seal_form (m t d : ByteArray) (n : Int) (h : ¬ ((1 ≤ m.size ∧ m.size ≤ 200) ∧ (1 ≤ t.size ∧ t.size ≤ 200) ∧ 0 ≤ n)) :
    Ev (fun k => impl_SealObject.f k m t n d) (1, (⟨#[]⟩ : ByteArray), (⟨#[]⟩ : ByteArray)) ∧ Ev (fun k => spec_SealObject.f k m t n d) (1, (⟨#[]⟩ : ByteArray), (⟨#[]⟩ : ByteArray)) := by
  have ij : Ev (fun k => impl_SealObject.j0 k m t n d true) (1, (⟨#[]⟩ : ByteArray), (⟨#[]⟩ : ByteArray)) := Ev.step (f := fun _ => some _) (fun k => by simp [impl_SealObject.j0]) (Ev.now _)
  have sj : Ev (fun k => spec_SealObject.j0 k m t n d true) (1, (⟨#[]⟩ : ByteArray), (⟨#[]⟩ : ByteArray)) := Ev.step (f := fun _ => some _) (fun k => by simp [spec_SealObject.j0]) (Ev.now _)
  unfold impl_SealObject.f spec_SealObject.f
  by_cases c1 : 1 ≤ m.size ∧ m.size ≤ 200
  · by_cases c2 : 1 ≤ t.size ∧ t.size ≤ 200
    · rw [decide_eq_true (show n < 0 by omega)]
      exact ⟨Ev.bind0 (ikey_eq m) (Ev.ifT (by simp [c1]) (Ev.bind0 (ikey_eq t) (Ev.ifT (by simp [c2]) ij))), Ev.bind0 (skey_eq m) (Ev.ifT (by simp [c1]) (Ev.bind0 (skey_eq t) (Ev.ifT (by simp [c2]) sj)))⟩
    · exact ⟨Ev.bind0 (ikey_eq m) (Ev.ifT (by simp [c1]) (Ev.bind0 (ikey_eq t) (Ev.ifF (by simp [c2]) ij))), Ev.bind0 (skey_eq m) (Ev.ifT (by simp [c1]) (Ev.bind0 (skey_eq t) (Ev.ifF (by simp [c2]) sj)))⟩
  · exact ⟨Ev.bind0 (ikey_eq m) (Ev.ifF (by simp [c1]) ij), Ev.bind0 (skey_eq m) (Ev.ifF (by simp [c1]) sj)⟩
theorem drawSeal_j0 {l : List Int} (hl : Bytes l) (hn : l.length ≤ 1048576) (m t : ByteArray) (at_ sz : Int) (s0 : 0 ≤ sz) (s1 : sz ≤ 12) (h0 : 0 ≤ at_) (h1 : at_ ≤ 1000) :
    ∃ t2 n d, Ev (fun k => spec_DrawSealObject.j0 k m t l at_ sz) (m, t2, n, d) ∧ n ≤ 100 ∧ d.size ≤ 300 := by
  obtain ⟨b, hb⟩ := one_tot hl hn at_ sz 12 h0 (by omega) (by omega)
  cases b with
  | true =>
    obtain ⟨u, hu, u0, u1, _⟩ := n_tot hl hn (at_ + 1) sz 3 (by omega) (by omega) (by omega)
    have u1 := u1 (by omega)
    obtain ⟨v, hv, v0, v1, _⟩ := n_tot hl hn (at_ + 1 + 1) sz 100 (by omega) (by omega) (by omega)
    have v1 := v1 (by omega)
    obtain ⟨y, at2, he, hy, hy2, g1, g2⟩ := long_tot hl hn (at_ + 1 + 1 + 1) sz s0 s1 (by omega) (by omega)
    have hw : wrap64 (199 + u) = 199 + u := w64 (by omega) (by omega)
    have hq : wrap64 (v - 1) = v - 1 := w64 (by omega) (by omega)
    refine ⟨strOfNums (List.replicate (wrap64 (199 + u)).toNat 0), wrap64 (v - 1), strOfNums y, ?_, ?_, ?_⟩
    · refine Ev.step (fun k => by rw [spec_DrawSealObject.j0]) ?_
      refine Ev.bind0 hb (Ev.ifT rfl (Ev.bind0 hu (Ev.ifT ?_ (Ev.ifT ?_ (Ev.bind0 hv (Ev.bind he (Ev.now _)))))))
      · simp only; rw [hw]; omega
      · simp only; rw [hw]; omega
    · rw [hq]; omega
    · rw [strOfNums_size]; exact hy
  | false =>
    obtain ⟨v, hv, v0, v1, _⟩ := n_tot hl hn (at_ + 1) sz 100 (by omega) (by omega) (by omega)
    have v1 := v1 (by omega)
    obtain ⟨y, at2, he, hy, hy2, g1, g2⟩ := long_tot hl hn (at_ + 1 + 1) sz s0 s1 (by omega) (by omega)
    have hq : wrap64 (v - 1) = v - 1 := w64 (by omega) (by omega)
    refine ⟨t, wrap64 (v - 1), strOfNums y, ?_, ?_, ?_⟩
    · refine Ev.step (fun k => by rw [spec_DrawSealObject.j0]) ?_
      exact Ev.bind0 hb (Ev.ifF (by simp) (Ev.bind0 hv (Ev.bind he (Ev.now _))))
    · rw [hq]; omega
    · rw [strOfNums_size]; exact hy
theorem drawSeal_tot {l : List Int} (hl : Bytes l) (hn : l.length ≤ 1048576) : ∃ m t n d, Ev (fun k => spec_DrawSealObject.f k l) (m, t, n, d) ∧ n ≤ 100 ∧ d.size ≤ 300 := by
  obtain ⟨sz, es, s0, s1⟩ := source_tot hn
  obtain ⟨y1, a1, h1, _, _, _, g1, g2⟩ := word_tot hl hn 0 sz (by omega) (by omega)
  obtain ⟨y2, a2, h2, _, _, _, g3, g4⟩ := word_tot hl hn a1 sz (by omega) (by omega)
  obtain ⟨b, hb⟩ := one_tot hl hn a2 sz 12 (by omega) (by omega) (by omega)
  cases b with
  | true =>
    obtain ⟨t2, n, d, hj, hb2⟩ := drawSeal_j0 hl hn (⟨#[]⟩ : ByteArray) (strOfNums y2) (a2 + 1) sz s0 s1 (by omega) (by omega)
    exact ⟨_, t2, n, d, Ev.bind0 es (Ev.bind h1 (Ev.bind h2 (Ev.bind0 hb (Ev.ifT rfl hj)))), hb2⟩
  | false =>
    obtain ⟨t2, n, d, hj, hb2⟩ := drawSeal_j0 hl hn (strOfNums y1) (strOfNums y2) (a2 + 1) sz s0 s1 (by omega) (by omega)
    exact ⟨_, t2, n, d, Ev.bind0 es (Ev.bind h1 (Ev.bind h2 (Ev.bind0 hb (Ev.ifF (by simp) hj)))), hb2⟩
theorem at_tot {l : List Int} (hl : Bytes l) (i : Int) (h0 : 0 ≤ i) (h1 : i ≤ 100) : ∃ v, laws_lwAt.f l i = some v ∧ 0 ≤ v ∧ v ≤ 255 := by
  unfold laws_lwAt.f
  by_cases c : i < (l.length : Int)
  · have h := hl.rd i
    exact ⟨rd l i, by rw [if_pos c, if_pos h0, w64 (by omega) (by omega)], h⟩
  · refine ⟨_, if_neg c, ?_⟩
    rw [w64 (x := i * 61) (by omega) (by omega), w64 (by omega) (by omega), Int.tmod_eq_emod_of_nonneg (by omega)]
    omega
theorem turn_eq (D : ByteArray) (at_ by_ : Int) (h1 : 1 ≤ D.size) (h2 : D.size ≤ 1000000) (a0 : 0 ≤ at_) (b0 : 0 ≤ by_) (_b1 : by_ ≤ 255) :
    ∃ (i : Nat) (v : Int), i < D.size ∧ 1 ≤ v ∧ v ≤ 255 ∧ laws_lwTurn.f D at_ by_ = some (strOfNums ((bytesOf D).set i (Go.bits .xor .u8 ((bytesOf D).getD i 0) v))) := by
  have hm : Int.tmod at_ (D.size : Int) = at_ % (D.size : Int) := Int.tmod_eq_emod_of_nonneg a0
  have hm0 : 0 ≤ at_ % (D.size : Int) := Int.emod_nonneg _ (by omega)
  have hm1 : at_ % (D.size : Int) < D.size := Int.emod_lt_of_pos _ (by omega)
  have hv : wrap64 (1 + Int.tmod by_ 255) % 256 = 1 + by_ % 255 := by
    rw [Int.tmod_eq_emod_of_nonneg b0, w64 (by omega) (by omega)]; omega
  refine ⟨(at_ % (D.size : Int)).toNat, 1 + by_ % 255, by omega, by omega, by omega, ?_⟩
  unfold laws_lwTurn.f
  rw [if_neg (by omega), if_pos (by omega), hm, if_pos hm0, if_pos hm1, hv]
theorem rewrap_eq (m now t D : ByteArray) (n : Int) (m1 : 1 ≤ m.size) (m2 : m.size ≤ 200) (w1 : 1 ≤ now.size) (w2 : now.size ≤ 200) (k1 : 1 ≤ t.size) (k2 : t.size ≤ 200) (n0 : 0 ≤ n) (n1 : n < 9223372036854775808) (hd : D.size ≤ 100004) (hd4 : 4 ≤ D.size) :
    Ev (fun k => impl_Rewrap.f k m now 0 (WRAP m t n) D n) (0, WRAP now t n, D) := by
  have hws := WRAP_size m t n
  have hr : impl_sealedRight.f m 0 (WRAP m t n) D n = some true := by rw [right_eq, decide_eq_true (by omega)]
  unfold impl_Rewrap.f
  refine Ev.bind0 (ikey_eq now) (Ev.ifT (by simp [w1, w2]) (Ev.bind0 hr (Ev.step (fun k => by simp only [impl_Rewrap.j0]; rw [if_neg (by simp)]) ?_)))
  exact Ev.bind (iunwrap_good m t n m2 k1 k2 n0 n1) (Ev.ifT rfl (Ev.ifF (by omega) (Ev.bind (iwrap_eq now t n (by omega) w2 n0 n1) (Ev.now _))))
theorem sealed_j1 {l1 : List Int} (h1 : Bytes l1) (m t d : ByteArray) (n : Int) (m1 : 1 ≤ m.size) (m2 : m.size ≤ 200) (k1 : 1 ≤ t.size) (k2 : t.size ≤ 200) (n0 : 0 ≤ n) (n1 : n < 9223372036854775808) (hd : d.size ≤ 300) :
    Ev (fun k => laws_FnSealed.j1 k l1 m n d false 0 (WRAP m t n) (DATA t d n)) true := by
  obtain ⟨v0, e0, a0, b0⟩ := at_tot h1 0 (by omega) (by omega)
  obtain ⟨v1, e1, a1, b1⟩ := at_tot h1 1 (by omega) (by omega)
  obtain ⟨v2, e2, a2, b2⟩ := at_tot h1 2 (by omega) (by omega)
  have hz := DATA_size t d n
  have hw : wrap64 (wrap64 (v0 * 256) + v1) = v0 * 256 + v1 := by rw [w64 (x := v0 * 256) (by omega) (by omega), w64 (by omega) (by omega)]
  obtain ⟨i, v, hi, c0, c1, ht⟩ := turn_eq (DATA t d n) (v0 * 256 + v1) v2 (by omega) (by omega) (by omega) a2 b2
  rw [← hw] at ht
  have s3 : (⟨#[110, 101, 119]⟩ : ByteArray).size = 3 := rfl
  refine Ev.step (fun k => by simp only [laws_FnSealed.j1]; rw [if_neg (by simp)]) ?_
  refine (Ev.bind0 e0 (Ev.bind0 e1 (Ev.bind0 e2 (Ev.bind0 ht (Ev.bind (open_bad m t d n m1 m2 k1 k2 n0 n1 (by omega) i (by omega) v c0 c1) (Ev.ifT rfl (Ev.bind (rewrap_eq m (⟨#[110, 101, 119]⟩ : ByteArray) t (DATA t d n) n m1 m2 (by omega) (by omega) k1 k2 n0 n1 (by omega) (by omega)) (Ev.bind (open_good (⟨#[110, 101, 119]⟩ : ByteArray) t d n (by omega) (by omega) k1 k2 n0 n1 (by omega)) (Ev.ifT rfl (Ev.ifT rfl (Ev.ifT rfl ?_)))))))))))
  rw [toList_beq, decide_eq_true rfl]
  exact Ev.now _
theorem sealed_j0 {l0 l1 : List Int} (h0 : Bytes l0) (g0 : l0.length ≤ 1048576) (h1 : Bytes l1) : Ev (fun k => laws_FnSealed.j0 k l0 l1 false) true := by
  obtain ⟨m, t, n, d, hdr, hn, hd⟩ := drawSeal_tot h0 g0
  refine Ev.step (fun k => by rw [laws_FnSealed.j0, if_neg (by decide)]) (Ev.bind hdr ?_)
  by_cases ok : (1 ≤ m.size ∧ m.size ≤ 200) ∧ (1 ≤ t.size ∧ t.size ≤ 200) ∧ 0 ≤ n
  · obtain ⟨⟨m1, m2⟩, ⟨k1, k2⟩, n0⟩ := ok
    obtain ⟨hi, hs⟩ := seal_good m t d n m1 m2 k1 k2 n0 (by omega) (by omega)
    have hz := DATA_size t d n
    refine Ev.bind hi (Ev.bind hs (Ev.ifF (by simp) (Ev.ifT rfl (Ev.bind (open_good m t d n m1 m2 k1 k2 n0 (by omega) (by omega)) (Ev.ifT rfl (Ev.ifT rfl ?_))))))
    have hb : (((DATA t d n).size : Int) != wrap64 ((d.size : Int) + 4)) = false := by
      rw [w64 (by omega) (by omega), hz]; simp
    simp only
    rw [hb]
    exact sealed_j1 h1 m t d n m1 m2 k1 k2 n0 (by omega) hd
  · obtain ⟨hi, hs⟩ := seal_form m t d n ok
    exact Ev.bind hi (Ev.bind hs (Ev.ifF (by simp) (Ev.ifF (by simp) (Ev.now _))))
theorem FnSealed : laws_FnSealed.Pure := by
  intro l0 l1 ⟨_, w0⟩ ⟨_, w1⟩
  refine Ev.rounds (g := fun k => laws_FnSealed.f k l0 l1) ?_
  have b0 : Bytes l0 := fun x hx => wf_u8 (w0 x hx)
  have b1 : Bytes l1 := fun x hx => wf_u8 (w1 x hx)
  unfold laws_FnSealed.f
  have yes : Ev (fun k => laws_FnSealed.j0 k l0 l1 true) true := Ev.step (f := fun _ => some true) (fun k => by rw [laws_FnSealed.j0, if_pos rfl]) (Ev.now _)
  by_cases c0 : (l0.length : Int) > 1048576
  · exact Ev.ifT c0 yes
  · refine Ev.ifF c0 ?_
    by_cases c1 : (l1.length : Int) > 1048576
    · simp only [c1, decide_true]; exact yes
    · simp only [c1, decide_false]
      exact sealed_j0 b0 (by omega) b1
end Go.Proofs.Ytncghlamcbhpmaa.Pure
