/-
  A drawn list of disks, a drawn key and a drawn number are there, for all drawn bytes.
-/
import Derived.Test.YtmkeepildbkmeaaPFnMovesq
import Derived.Test.YtmkeepildbkmeaaBytesFnMoves
import Derived.Test.YtmkeepildbkmeaaNumFnMoves
namespace Go.Proofs.Ytmkeepildbkmeaa.Pure
open Go.RowKit Go.Proofs.Ytmkeepildbkmeaa.PFnMoves Go.Proofs.Ytmkeepildbkmeaa.Base Go.Proofs.YtmkeepildbkmeaaW.PrintWords Go.Proofs.YtmkeepildbkmeaaW.PrintLast Go.Proofs.YtmkeepildbkmeaaW.PrintMore
theorem n_tot {l : List Int} (hl : Bytes l) (hn : l.length ≤ 1048576) (at_ sz a : Int) (h0 : 0 ≤ at_) (h1 : at_ ≤ 1099511627776) (ha : a ≤ 4611686018427387904) :
    ∃ v, spec_l01Src_n.f l at_ sz a = some (v, at_ + 1, sz) ∧ 0 ≤ v ∧ (1 ≤ a → v < a) ∧ (a < 1 → v = 0) := by
  have e1 : wrap64 (at_ + 1) = at_ + 1 := w64 (by omega) (by omega)
  have e2 : wrap64 ((at_ + 1) - 1) = at_ := by rw [show at_ + 1 - 1 = at_ by omega]; exact w64 (by omega) (by omega)
  unfold spec_l01Src_n.f
  simp only [e1, e2]
  by_cases c1 : a < 1
  · rw [if_pos c1]; exact ⟨0, rfl, by omega, by omega, by omega⟩
  rw [if_neg c1]
  have hmod : ∀ y : Int, 0 ≤ y → 0 ≤ Int.tmod y a ∧ Int.tmod y a < a := fun y hy => by
    rw [Int.tmod_eq_emod_of_nonneg hy]; exact ⟨Int.emod_nonneg _ (by omega), Int.emod_lt_of_pos _ (by omega)⟩
  by_cases c2 : (l.length : Int) = 0
  · rw [if_pos c2, if_neg (by omega)]
    rw [w64 (x := at_ * 7) (by omega) (by omega)]
    have := hmod (at_ * 7) (by omega)
    exact ⟨_, rfl, this.1, fun _ => this.2, by omega⟩
  rw [if_neg c2]
  have hk : (0 : Int) < l.length := by omega
  have m1 : 0 ≤ Int.tmod at_ l.length ∧ Int.tmod at_ l.length < l.length := by
    rw [Int.tmod_eq_emod_of_nonneg h0]; exact ⟨Int.emod_nonneg _ (by omega), Int.emod_lt_of_pos _ hk⟩
  have q1 : 0 ≤ Int.tdiv at_ l.length ∧ Int.tdiv at_ l.length ≤ at_ := by
    rw [Int.tdiv_eq_ediv_of_nonneg h0]; exact ⟨Int.ediv_nonneg h0 (by omega), Int.ediv_le_self _ h0⟩
  rw [if_pos m1.1, if_pos m1.2]
  have b1 := hl.rd (Int.tmod at_ l.length)
  generalize rd l (Int.tmod at_ l.length) = x1 at *
  generalize Int.tdiv at_ l.length = y1 at *
  rw [w64 (x := x1) (by omega) (by omega), w64 (x := y1) (by omega) (by omega), w64 (x := y1 * 37) (by omega) (by omega), w64 (x := x1 + y1 * 37) (by omega) (by omega)]
  by_cases c3 : a > 200
  · rw [if_pos c3]
    have m2 : 0 ≤ Int.tmod (at_ + 1) l.length ∧ Int.tmod (at_ + 1) l.length < l.length := by
      rw [Int.tmod_eq_emod_of_nonneg (by omega)]; exact ⟨Int.emod_nonneg _ (by omega), Int.emod_lt_of_pos _ hk⟩
    rw [e1] at *
    rw [if_pos m2.1, if_pos m2.2, if_neg (by omega)]
    have b2 := hl.rd (Int.tmod (at_ + 1) l.length)
    generalize rd l (Int.tmod (at_ + 1) l.length) = x2 at *
    rw [w64 (x := x2) (by omega) (by omega), w64 (x := x2 * 13) (by omega) (by omega), w64 (x := (x1 + y1 * 37) * 251) (by omega) (by omega), w64 (x := (x1 + y1 * 37) * 251 + x2 * 13) (by omega) (by omega), w64 (x := (x1 + y1 * 37) * 251 + x2 * 13 + at_) (by omega) (by omega)]
    have := hmod ((x1 + y1 * 37) * 251 + x2 * 13 + at_) (by omega)
    exact ⟨_, rfl, this.1, fun _ => this.2, by omega⟩
  · rw [if_neg c3, if_neg (by omega)]
    have := hmod (x1 + y1 * 37) (by omega)
    exact ⟨_, rfl, this.1, fun _ => this.2, by omega⟩
theorem one_tot {l : List Int} (hl : Bytes l) (hn : l.length ≤ 1048576) (at_ sz a : Int) (h0 : 0 ≤ at_) (h1 : at_ ≤ 1099511627776) (ha : a ≤ 4611686018427387904) :
    ∃ b, spec_l01Src_one.f l at_ sz a = some (b, at_ + 1, sz) := by
  obtain ⟨v, hv, _⟩ := n_tot hl hn at_ sz a h0 h1 ha
  exact ⟨_, by unfold spec_l01Src_one.f; rw [hv]; rfl⟩
theorem source_tot {l : List Int} (hn : l.length ≤ 1048576) : ∃ sz, spec_l01Source.f l = some (l, 0, sz) ∧ 0 ≤ sz ∧ sz ≤ 12 := by
  unfold spec_l01Source.f
  rw [w64 (by omega) (by omega)]
  split
  · exact ⟨12, rfl, by omega, by omega⟩
  · exact ⟨_, rfl, by omega, by omega⟩

theorem letters_ok : ∀ m : Nat, m < 26 → 97 ≤ bt (⟨#[97, 98, 99, 100, 101, 102, 103, 104, 105, 106, 107, 108, 109, 110, 111, 112, 113, 114, 115, 116, 117, 118, 119, 120, 121, 122]⟩ : ByteArray) (m : Int) ∧ bt (⟨#[97, 98, 99, 100, 101, 102, 103, 104, 105, 106, 107, 108, 109, 110, 111, 112, 113, 114, 115, 116, 117, 118, 119, 120, 121, 122]⟩ : ByteArray) (m : Int) ≤ 122 := by decide
theorem word_l0 {l : List Int} (hl : Bytes l) (hn : l.length ≤ 1048576) (sz : Int) (d : Nat) : ∀ (x : List Int) (k at_ : Int), k = d → d ≤ 100 → 0 ≤ at_ → at_ ≤ 1099511627776 - d → x.length + d ≤ 200 → (∀ c ∈ x, 97 ≤ c ∧ c ≤ 122) →
    ∃ y : List Int, Ev (fun n => spec_l01Src_word.l0 n x k l at_ sz) (strOfNums y, at_ + d, sz) ∧ y.length = x.length + d ∧ (∀ c ∈ y, 97 ≤ c ∧ c ≤ 122) := by
  induction d with
  | zero =>
    intro x k at_ hk _ _ _ _ hx
    refine ⟨x, Ev.step (f := fun _ => some (strOfNums x, at_, sz)) (fun n => ?_) ?_, rfl, hx⟩
    · simp only [spec_l01Src_word.l0]; rw [if_neg (by omega)]
    · simpa using Ev.now (strOfNums x, at_, sz)
  | succ d ih =>
    intro x k at_ hk hd h0 h1 hx hc
    obtain ⟨v, hv, v0, v1, _⟩ := n_tot hl hn at_ sz 26 h0 (by omega) (by omega)
    have hb : 97 ≤ bt (⟨#[97, 98, 99, 100, 101, 102, 103, 104, 105, 106, 107, 108, 109, 110, 111, 112, 113, 114, 115, 116, 117, 118, 119, 120, 121, 122]⟩ : ByteArray) v ∧ bt (⟨#[97, 98, 99, 100, 101, 102, 103, 104, 105, 106, 107, 108, 109, 110, 111, 112, 113, 114, 115, 116, 117, 118, 119, 120, 121, 122]⟩ : ByteArray) v ≤ 122 := by
      have v1 := v1 (by omega)
      obtain ⟨m, rfl⟩ := Int.eq_ofNat_of_zero_le v0
      exact letters_ok m (by omega)
    obtain ⟨y, hy, ylen, yc⟩ := ih (x ++ [bt (⟨#[97, 98, 99, 100, 101, 102, 103, 104, 105, 106, 107, 108, 109, 110, 111, 112, 113, 114, 115, 116, 117, 118, 119, 120, 121, 122]⟩ : ByteArray) v]) (k - 1) (at_ + 1) (by omega) (by omega) (by omega) (by omega) (by simp; omega) (by
      intro c hcm
      rcases List.mem_append.mp hcm with h | h
      · exact hc c h
      · obtain rfl := List.mem_singleton.mp h; exact hb)
    refine ⟨y, ?_, by rw [ylen]; simp; omega, yc⟩
    refine Ev.step (f := fun n => spec_l01Src_word.l0 n (x ++ [bt (⟨#[97, 98, 99, 100, 101, 102, 103, 104, 105, 106, 107, 108, 109, 110, 111, 112, 113, 114, 115, 116, 117, 118, 119, 120, 121, 122]⟩ : ByteArray) v]) (k - 1) l (at_ + 1) sz) (fun n => ?_) ?_
    · simp only [spec_l01Src_word.l0]
      rw [if_pos (by omega), hv]
      simp only [Option.bind_some]
      rw [if_pos v0, if_pos (v1 (by omega)), if_pos (by omega), w64 (by omega) (by omega)]
    · rw [show at_ + ((d + 1 : Nat) : Int) = at_ + 1 + (d : Int) by omega]; exact hy
theorem word_tot {l : List Int} (hl : Bytes l) (hn : l.length ≤ 1048576) (at_ sz : Int) (h0 : 0 ≤ at_) (h1 : at_ ≤ 1099511627000) :
    ∃ (y : List Int) (at2 : Int), Ev (fun n => spec_l01Src_word.f n l at_ sz) (strOfNums y, at2, sz) ∧ 1 ≤ y.length ∧ y.length ≤ 6 ∧ (∀ c ∈ y, 97 ≤ c ∧ c ≤ 122) ∧ at_ ≤ at2 ∧ at2 ≤ at_ + 7 := by
  obtain ⟨v, hv, v0, v1, _⟩ := n_tot hl hn at_ sz 6 h0 (by omega) (by omega)
  have v1 := v1 (by omega)
  obtain ⟨m, rfl⟩ := Int.eq_ofNat_of_zero_le v0
  obtain ⟨y, hy, ylen, yc⟩ := word_l0 hl hn sz (m + 1) [] (1 + m) (at_ + 1) (by omega) (by omega) (by omega) (by omega) (by simp; omega) (by simp)
  refine ⟨y, at_ + 1 + ((m + 1 : Nat) : Int), ?_, by rw [ylen]; simp, by rw [ylen]; simp; omega, yc, by omega, by omega⟩
  refine Ev.congr (fun k => ?_) hy
  unfold spec_l01Src_word.f
  rw [hv]; simp only [Option.bind_some]
  rw [w64 (by omega) (by omega)]

theorem dec_one (v : Int) (h0 : 0 ≤ v) (h1 : v < 10) : Ev (fun k => spec_l01Dec.f k v) (strOfNums [48 + v]) := by
  refine Ev.step (f := fun _ => some (strOfNums [48 + v])) (fun k => ?_) (Ev.now _)
  simp only [spec_l01Dec.f]
  rw [if_neg (by omega), if_pos h1, w64 (by omega) (by omega), Int.emod_eq_of_lt (by omega) (by omega)]
theorem dec_two (v : Int) (h0 : 0 ≤ v) (h1 : v < 100) : ∃ y : List Int, Ev (fun k => spec_l01Dec.f k v) (strOfNums y) ∧ y.length ≤ 2 := by
  by_cases c : v < 10
  · exact ⟨_, dec_one v h0 c, by simp⟩
  · have e1 : wrap64 (Int.tdiv v 10) = v / 10 := by rw [Int.tdiv_eq_ediv_of_nonneg h0]; exact w64 (by omega) (by omega)
    have e2 : (wrap64 (48 + (Int.tmod v 10))) % 256 = 48 + v % 10 := by rw [Int.tmod_eq_emod_of_nonneg h0, w64 (by omega) (by omega)]; omega
    refine ⟨[48 + v / 10] ++ [48 + v % 10], ?_, by simp⟩
    refine Ev.step (f := fun k => (spec_l01Dec.f k (wrap64 (Int.tdiv v 10))).bind fun t142 => ((some (([(wrap64 (48 + (Int.tmod v 10))) % 256] : List Int) : List Int)).bind fun y143 => (if t142.size + (strOfNums y143).size ≤ 9223372036854775807 then (some (t142 ++ (strOfNums y143))) else (none)))) (fun k => ?_) ?_
    · simp only [spec_l01Dec.f]
      rw [if_neg (by omega), if_neg c]
    · rw [e1, e2]
      refine Ev.bind (dec_one (v / 10) (by omega) (by omega)) (Ev.bind0 rfl (Ev.ifT (by rw [strOfNums_size, strOfNums_size]; simp) ?_))
      have : strOfNums [48 + v / 10] ++ strOfNums [48 + v % 10] = strOfNums ([48 + v / 10] ++ [48 + v % 10]) := by
        apply bytesOf_inj
        rw [bytesOf_append, bytesOf_str (fun x hx => by simp at hx; omega), bytesOf_str (fun x hx => by simp at hx; omega), bytesOf_str (fun x hx => by simp at hx; omega)]
      rw [this]; exact Ev.now _
theorem pick_size (v : Int) (h0 : 0 ≤ v) (h1 : v < 4) : (rdOf ByteArray.empty ([(⟨#[]⟩ : ByteArray), (⟨#[47]⟩ : ByteArray), (⟨#[46]⟩ : ByteArray), (⟨#[47, 97]⟩ : ByteArray)] : List ByteArray) v).size ≤ 2 := by
  obtain rfl | rfl | rfl | rfl : v = 0 ∨ v = 1 ∨ v = 2 ∨ v = 3 := by omega
  all_goals decide
theorem key_tot {l : List Int} (hl : Bytes l) (hn : l.length ≤ 1048576) (at_ sz : Int) (h0 : 0 ≤ at_) (h1 : at_ ≤ 1099511620000) :
    ∃ (y : ByteArray) (at2 : Int), Ev (fun k => spec_l01Src_key.f k l at_ sz) (y, at2, sz) ∧ y.size ≤ 20 ∧ at_ ≤ at2 ∧ at2 ≤ at_ + 20 := by
  obtain ⟨w, a1, ew, _, w2, _, g1, g2⟩ := word_tot hl hn at_ sz h0 (by omega)
  obtain ⟨v, hv, v0, v1, _⟩ := n_tot hl hn a1 sz 4 (by omega) (by omega) (by omega)
  have v1 := v1 (by omega)
  obtain ⟨u, hu, u0, u1, _⟩ := n_tot hl hn (a1 + 1) sz 50 (by omega) (by omega) (by omega)
  have u1 := u1 (by omega)
  obtain ⟨y, ey, yl⟩ := dec_two u u0 (by omega)
  have hp := pick_size v v0 v1
  have hw : (strOfNums w).size = w.length := strOfNums_size w
  have hy : (strOfNums y).size = y.length := strOfNums_size y
  unfold spec_l01Src_key.f
  generalize hL : ([(⟨#[]⟩ : ByteArray), (⟨#[47]⟩ : ByteArray), (⟨#[46]⟩ : ByteArray), (⟨#[47, 97]⟩ : ByteArray)] : List ByteArray) = L at *
  have hlen : (L.length : Int) = 4 := by rw [← hL]; rfl
  generalize hq : rdOf ByteArray.empty L v = q at *
  refine ⟨(strOfNums w ++ q) ++ strOfNums y, a1 + 1 + 1, Ev.bind ew (Ev.bind0 rfl (Ev.bind0 hv (Ev.ifT v0 (Ev.ifT (by rw [hlen]; exact v1) ?_)))), by simp only [ByteArray.size_append]; omega, by omega, by omega⟩
  simp only [hq]
  exact Ev.ifT (by omega) (Ev.bind0 hu (Ev.bind ey (Ev.ifT (by rw [ByteArray.size_append]; omega) (Ev.now _))))

theorem nodes_l0 {l : List Int} (hl : Bytes l) (hn : l.length ≤ 1048576) (sz : Int) : ∀ (d : Nat) (x : List S32) (k4 at_ : Int), k4 = d → 0 ≤ at_ → at_ + 3 * d ≤ 1099511627000 → x.length + d ≤ 1000 →
    ∃ y at2, Ev (fun k => spec_l01Src_nodes.l0 k x k4 l at_ sz) (y, at2, sz) ∧ y.length = x.length + d ∧ at_ ≤ at2 ∧ at2 ≤ at_ + 3 * d
  | 0, x, k4, at_, hk, h0, h1, hx => ⟨x, at_, Ev.step (f := fun _ => some (x, at_, sz)) (fun k => by rw [spec_l01Src_nodes.l0, if_neg (by omega)]) (Ev.now _), rfl, by omega, by omega⟩
  | d + 1, x, k4, at_, hk, h0, h1, hx => by
    obtain ⟨v, hv, v0, v1, _⟩ := n_tot hl hn at_ sz 6 h0 (by omega) (by omega)
    obtain ⟨u, hu, u0, u1, _⟩ := n_tot hl hn (at_ + 1) sz 5 (by omega) (by omega) (by omega)
    obtain ⟨b, hb⟩ := one_tot hl hn (at_ + 1 + 1) sz 10 (by omega) (by omega) (by omega)
    have ek : wrap64 (k4 - 1) = (d : Int) := by rw [w64 (by omega) (by omega)]; omega
    cases b with
    | true =>
      obtain ⟨y, at2, ev, q1, q2, q3⟩ := nodes_l0 hl hn sz d (x ++ [(⟨v, 0⟩ : S32)]) (wrap64 (k4 - 1)) (at_ + 1 + 1 + 1) ek (by omega) (by omega) (by simp; omega)
      refine ⟨y, at2, ?_, by rw [q1]; simp; omega, by omega, by omega⟩
      refine Ev.step (fun k => by rw [spec_l01Src_nodes.l0, if_pos (by omega)]) ?_
      exact Ev.bind0 hv (Ev.bind0 hu (Ev.bind0 hb (Ev.ifT rfl (Ev.ifT (by omega) ev))))
    | false =>
      obtain ⟨y, at2, ev, q1, q2, q3⟩ := nodes_l0 hl hn sz d (x ++ [(⟨v, wrap64 (1 + u)⟩ : S32)]) (wrap64 (k4 - 1)) (at_ + 1 + 1 + 1) ek (by omega) (by omega) (by simp; omega)
      refine ⟨y, at2, ?_, by rw [q1]; simp; omega, by omega, by omega⟩
      refine Ev.step (fun k => by rw [spec_l01Src_nodes.l0, if_pos (by omega)]) ?_
      exact Ev.bind0 hv (Ev.bind0 hu (Ev.bind0 hb (Ev.ifF Bool.false_ne_true (Ev.ifT (by omega) ev))))
theorem anyNodes_tot {l : List Int} (hl : Bytes l) (hn : l.length ≤ 1048576) (at_ sz : Int) (s0 : 0 ≤ sz) (s1 : sz ≤ 12) (h0 : 0 ≤ at_) (h1 : at_ ≤ 1099511620000) :
    ∃ y at2, Ev (fun k => spec_l01Src_anyNodes.f k l at_ sz) (y, at2, sz) ∧ at_ ≤ at2 ∧ at2 ≤ at_ + 100 := by
  have e8 : wrap64 (8 + sz) = 8 + sz := w64 (by omega) (by omega)
  obtain ⟨v, hv, v0, v1, _⟩ := n_tot hl hn at_ sz (8 + sz) h0 (by omega) (by omega)
  have v2 := v1 (by omega)
  obtain ⟨m, rfl⟩ := Int.eq_ofNat_of_zero_le v0
  have em : wrap64 (1 + (m : Int)) = ((m + 1 : Nat) : Int) := by rw [w64 (by omega) (by omega)]; omega
  obtain ⟨y, a2, ev, q1, q2, q3⟩ := nodes_l0 hl hn sz (m + 1) [] (wrap64 (1 + (m : Int))) (at_ + 1) em (by omega) (by omega) (by simp; omega)
  simp only [List.length_nil] at q1
  have hnodes : Ev (fun k => spec_l01Src_nodes.f k l at_ sz) (y, a2, sz) := by
    unfold spec_l01Src_nodes.f
    rw [e8]
    exact Ev.bind0 hv ev
  obtain ⟨p, hp, p0, p1, _⟩ := n_tot hl hn a2 sz (y.length : Int) (by omega) (by omega) (by omega)
  have p2 := p1 (by omega)
  obtain ⟨t, ht, t0, t1, _⟩ := n_tot hl hn (a2 + 1) sz 15 (by omega) (by omega) (by omega)
  obtain ⟨u, hu, u0, u1, _⟩ := n_tot hl hn (a2 + 1 + 1) sz 3 (by omega) (by omega) (by omega)
  have u2 := u1 (by omega)
  unfold spec_l01Src_anyNodes.f
  by_cases c0 : t = 0
  · exact ⟨_, a2 + 1 + 1 + 1, Ev.bind hnodes (Ev.bind0 hp (Ev.bind0 ht (Ev.ifT c0 (Ev.bind0 rfl (Ev.bind0 hu (Ev.ifT u0 (Ev.ifT (by show u < ((3 : Nat) : Int); omega) (Ev.ifT p0 (Ev.ifT p2 (Ev.now _)))))))))), by omega, by omega⟩
  by_cases c1 : t = 1
  · exact ⟨_, a2 + 1 + 1 + 1, Ev.bind hnodes (Ev.bind0 hp (Ev.bind0 ht (Ev.ifF c0 (Ev.ifT c1 (Ev.bind0 rfl (Ev.bind0 hu (Ev.ifT u0 (Ev.ifT (by show u < ((3 : Nat) : Int); omega) (Ev.ifT p0 (Ev.ifT p2 (Ev.now _))))))))))), by omega, by omega⟩
  by_cases c2 : t = 2
  · exact ⟨_, a2 + 1 + 1, Ev.bind hnodes (Ev.bind0 hp (Ev.bind0 ht (Ev.ifF c0 (Ev.ifF c1 (Ev.ifT c2 (Ev.now _)))))), by omega, by omega⟩
  · exact ⟨_, a2 + 1 + 1, Ev.bind hnodes (Ev.bind0 hp (Ev.bind0 ht (Ev.ifF c0 (Ev.ifF c1 (Ev.ifF c2 (Ev.now _)))))), by omega, by omega⟩
theorem drawPlace_tot {l : List Int} (hl : Bytes l) (hn : l.length ≤ 1048576) : ∃ y key n, Ev (fun k => spec_DrawPlaceKey.f k l) (y, key, n) := by
  obtain ⟨sz, es, s0, s1⟩ := source_tot hn
  obtain ⟨key, a1, ek, _, g1, g2⟩ := key_tot hl hn 0 sz (by omega) (by omega)
  obtain ⟨b, hb⟩ := one_tot hl hn a1 sz 30 (by omega) (by omega) (by omega)
  unfold spec_DrawPlaceKey.f
  cases b with
  | false =>
    obtain ⟨y, a2, ey, q1, q2⟩ := anyNodes_tot hl hn (a1 + 1) sz s0 s1 (by omega) (by omega)
    obtain ⟨u, hu, u0, _⟩ := n_tot hl hn a2 sz 6 (by omega) (by omega) (by omega)
    obtain ⟨v, hv, v0, v1, _⟩ := n_tot hl hn (a2 + 1) sz 8 (by omega) (by omega) (by omega)
    have v2 := v1 (by omega)
    exact ⟨_, _, _, Ev.bind0 es (Ev.bind ek (Ev.bind0 hb (Ev.ifF Bool.false_ne_true (Ev.bind ey (Ev.bind0 hu (Ev.bind0 rfl (Ev.bind0 hv (Ev.ifT v0 (Ev.ifT (by show v < ((8 : Nat) : Int); omega) (Ev.now _))))))))))⟩
  | true =>
    obtain ⟨w, hw, w0, w1, _⟩ := n_tot hl hn (a1 + 1) sz 3 (by omega) (by omega) (by omega)
    have w2 := w1 (by omega)
    have ew : wrap64 (999 + w) = 999 + w := w64 (by omega) (by omega)
    obtain ⟨y, a2, ey, q1, q2⟩ := anyNodes_tot hl hn (a1 + 1 + 1) sz s0 s1 (by omega) (by omega)
    obtain ⟨u, hu, u0, _⟩ := n_tot hl hn a2 sz 6 (by omega) (by omega) (by omega)
    obtain ⟨v, hv, v0, v1, _⟩ := n_tot hl hn (a2 + 1) sz 8 (by omega) (by omega) (by omega)
    have v2 := v1 (by omega)
    exact ⟨_, _, _, Ev.bind0 es (Ev.bind ek (Ev.bind0 hb (Ev.ifT rfl (Ev.bind0 hw (Ev.ifT (by rw [ew]; omega) (Ev.ifT (by rw [ew]; omega) (Ev.bind ey (Ev.bind0 hu (Ev.bind0 rfl (Ev.bind0 hv (Ev.ifT v0 (Ev.ifT (by show v < ((8 : Nat) : Int); omega) (Ev.now _)))))))))))))⟩
end Go.Proofs.Ytmkeepildbkmeaa.Pure
