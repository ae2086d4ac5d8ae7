/-
  The plain law Winner: of three drawn entries the winner does not hang on grouping; of two with other stamps not on their order; it is one of them; for all drawn bytes.
-/
import Derived.Test.YtncghlamcbhpmaaPFnWinnerq
import Derived.Test.YtncghlamcbhpmaaBase
namespace Go.Proofs.Ytncghlamcbhpmaa.Pure
open Go.RowKit Go.Proofs.Ytncghlamcbhpmaa.PFnWinner Go.Proofs.Ytncghlamcbhpmaa.Base Go.Proofs.YtncghlamcbhpmaaW.PrintWords Go.Proofs.YtncghlamcbhpmaaW.PrintLast Go.Proofs.YtncghlamcbhpmaaW.PrintMore
def Bytes (l : List Int) : Prop := ∀ x ∈ l, 0 ≤ x ∧ x ≤ 255
theorem Bytes.rd {l : List Int} (h : Bytes l) (i : Int) : 0 ≤ rd l i ∧ rd l i ≤ 255 := by
  unfold Go.Proofs.YtncghlamcbhpmaaW.PrintWords.rd
  rw [List.getD_eq_getElem?_getD]
  cases hh : l[i.toNat]? with
  | none => simp
  | some x => simpa using h x (List.mem_of_getElem? hh)
theorem n_tot {l : List Int} (hl : Bytes l) (hn : l.length ≤ 1048576) (at_ sz a : Int) (h0 : 0 ≤ at_) (h1 : at_ ≤ 1099511627776) (ha : a ≤ 4611686018427387904) :
    ∃ v, spec_l01Src_n.f l at_ sz a = some (v, at_ + 1, sz) ∧ 0 ≤ v ∧ (1 ≤ a → v < a) ∧ (a < 1 → v = 0) := by
  have e1 : wrap64 (at_ + 1) = at_ + 1 := w64 (by omega) (by omega)
  have e2 : wrap64 ((at_ + 1) - 1) = at_ := by rw [show at_ + 1 - 1 = at_ by omega]; exact w64 (by omega) (by omega)
  unfold spec_l01Src_n.f
  simp only [e1, e2]
  by_cases c1 : a < 1
  · rw [if_pos c1]; exact ⟨0, rfl, by omega, by omega, by omega⟩
  rw [if_neg c1]
  have hmod : ∀ y : Int, 0 ≤ y → 0 ≤ Int.tmod y a ∧ Int.tmod y a < a := fun y hy => by
    rw [Int.tmod_eq_emod_of_nonneg hy]; exact ⟨Int.emod_nonneg _ (by omega), Int.emod_lt_of_pos _ (by omega)⟩
  by_cases c2 : (l.length : Int) = 0
  · rw [if_pos c2, if_neg (by omega)]
    rw [w64 (x := at_ * 7) (by omega) (by omega)]
    have := hmod (at_ * 7) (by omega)
    exact ⟨_, rfl, this.1, fun _ => this.2, by omega⟩
  rw [if_neg c2]
  have hk : (0 : Int) < l.length := by omega
  have m1 : 0 ≤ Int.tmod at_ l.length ∧ Int.tmod at_ l.length < l.length := by
    rw [Int.tmod_eq_emod_of_nonneg h0]; exact ⟨Int.emod_nonneg _ (by omega), Int.emod_lt_of_pos _ hk⟩
  have q1 : 0 ≤ Int.tdiv at_ l.length ∧ Int.tdiv at_ l.length ≤ at_ := by
    rw [Int.tdiv_eq_ediv_of_nonneg h0]; exact ⟨Int.ediv_nonneg h0 (by omega), Int.ediv_le_self _ h0⟩
  rw [if_pos m1.1, if_pos m1.2]
  have b1 := hl.rd (Int.tmod at_ l.length)
  generalize rd l (Int.tmod at_ l.length) = x1 at *
  generalize Int.tdiv at_ l.length = y1 at *
  rw [w64 (x := x1) (by omega) (by omega), w64 (x := y1) (by omega) (by omega), w64 (x := y1 * 37) (by omega) (by omega), w64 (x := x1 + y1 * 37) (by omega) (by omega)]
  by_cases c3 : a > 200
  · rw [if_pos c3]
    have m2 : 0 ≤ Int.tmod (at_ + 1) l.length ∧ Int.tmod (at_ + 1) l.length < l.length := by
      rw [Int.tmod_eq_emod_of_nonneg (by omega)]; exact ⟨Int.emod_nonneg _ (by omega), Int.emod_lt_of_pos _ hk⟩
    rw [e1] at *
    rw [if_pos m2.1, if_pos m2.2, if_neg (by omega)]
    have b2 := hl.rd (Int.tmod (at_ + 1) l.length)
    generalize rd l (Int.tmod (at_ + 1) l.length) = x2 at *
    rw [w64 (x := x2) (by omega) (by omega), w64 (x := x2 * 13) (by omega) (by omega), w64 (x := (x1 + y1 * 37) * 251) (by omega) (by omega), w64 (x := (x1 + y1 * 37) * 251 + x2 * 13) (by omega) (by omega), w64 (x := (x1 + y1 * 37) * 251 + x2 * 13 + at_) (by omega) (by omega)]
    have := hmod ((x1 + y1 * 37) * 251 + x2 * 13 + at_) (by omega)
    exact ⟨_, rfl, this.1, fun _ => this.2, by omega⟩
  · rw [if_neg c3, if_neg (by omega)]
    have := hmod (x1 + y1 * 37) (by omega)
    exact ⟨_, rfl, this.1, fun _ => this.2, by omega⟩
theorem one_tot {l : List Int} (hl : Bytes l) (hn : l.length ≤ 1048576) (at_ sz a : Int) (h0 : 0 ≤ at_) (h1 : at_ ≤ 1099511627776) (ha : a ≤ 4611686018427387904) :
    ∃ b, spec_l01Src_one.f l at_ sz a = some (b, at_ + 1, sz) := by
  obtain ⟨v, hv, _⟩ := n_tot hl hn at_ sz a h0 h1 ha
  exact ⟨_, by unfold spec_l01Src_one.f; rw [hv]; rfl⟩
theorem source_tot {l : List Int} (hn : l.length ≤ 1048576) : ∃ sz, spec_l01Source.f l = some (l, 0, sz) ∧ 0 ≤ sz ∧ sz ≤ 12 := by
  unfold spec_l01Source.f
  rw [w64 (by omega) (by omega)]
  split
  · exact ⟨12, rfl, by omega, by omega⟩
  · exact ⟨_, rfl, by omega, by omega⟩

theorem letters_ok : ∀ m : Nat, m < 26 → 97 ≤ bt (⟨#[97, 98, 99, 100, 101, 102, 103, 104, 105, 106, 107, 108, 109, 110, 111, 112, 113, 114, 115, 116, 117, 118, 119, 120, 121, 122]⟩ : ByteArray) (m : Int) ∧ bt (⟨#[97, 98, 99, 100, 101, 102, 103, 104, 105, 106, 107, 108, 109, 110, 111, 112, 113, 114, 115, 116, 117, 118, 119, 120, 121, 122]⟩ : ByteArray) (m : Int) ≤ 122 := by decide
theorem word_l0 {l : List Int} (hl : Bytes l) (hn : l.length ≤ 1048576) (sz : Int) (d : Nat) : ∀ (x : List Int) (k at_ : Int), k = d → d ≤ 100 → 0 ≤ at_ → at_ ≤ 1099511627776 - d → x.length + d ≤ 200 → (∀ c ∈ x, 97 ≤ c ∧ c ≤ 122) →
    ∃ y : List Int, Ev (fun n => spec_l01Src_word.l0 n x k l at_ sz) (strOfNums y, at_ + d, sz) ∧ y.length = x.length + d ∧ (∀ c ∈ y, 97 ≤ c ∧ c ≤ 122) := by
  induction d with
  | zero =>
    intro x k at_ hk _ _ _ _ hx
    refine ⟨x, Ev.step (f := fun _ => some (strOfNums x, at_, sz)) (fun n => ?_) ?_, rfl, hx⟩
    · simp only [spec_l01Src_word.l0]; rw [if_neg (by omega)]
    · simpa using Ev.now (strOfNums x, at_, sz)
  | succ d ih =>
    intro x k at_ hk hd h0 h1 hx hc
    obtain ⟨v, hv, v0, v1, _⟩ := n_tot hl hn at_ sz 26 h0 (by omega) (by omega)
    have hb : 97 ≤ bt (⟨#[97, 98, 99, 100, 101, 102, 103, 104, 105, 106, 107, 108, 109, 110, 111, 112, 113, 114, 115, 116, 117, 118, 119, 120, 121, 122]⟩ : ByteArray) v ∧ bt (⟨#[97, 98, 99, 100, 101, 102, 103, 104, 105, 106, 107, 108, 109, 110, 111, 112, 113, 114, 115, 116, 117, 118, 119, 120, 121, 122]⟩ : ByteArray) v ≤ 122 := by
      have v1 := v1 (by omega)
      obtain ⟨m, rfl⟩ := Int.eq_ofNat_of_zero_le v0
      exact letters_ok m (by omega)
    obtain ⟨y, hy, ylen, yc⟩ := ih (x ++ [bt (⟨#[97, 98, 99, 100, 101, 102, 103, 104, 105, 106, 107, 108, 109, 110, 111, 112, 113, 114, 115, 116, 117, 118, 119, 120, 121, 122]⟩ : ByteArray) v]) (k - 1) (at_ + 1) (by omega) (by omega) (by omega) (by omega) (by simp; omega) (by
      intro c hcm
      rcases List.mem_append.mp hcm with h | h
      · exact hc c h
      · obtain rfl := List.mem_singleton.mp h; exact hb)
    refine ⟨y, ?_, by rw [ylen]; simp; omega, yc⟩
    refine Ev.step (f := fun n => spec_l01Src_word.l0 n (x ++ [bt (⟨#[97, 98, 99, 100, 101, 102, 103, 104, 105, 106, 107, 108, 109, 110, 111, 112, 113, 114, 115, 116, 117, 118, 119, 120, 121, 122]⟩ : ByteArray) v]) (k - 1) l (at_ + 1) sz) (fun n => ?_) ?_
    · simp only [spec_l01Src_word.l0]
      rw [if_pos (by omega), hv]
      simp only [Option.bind_some]
      rw [if_pos v0, if_pos (v1 (by omega)), if_pos (by omega), w64 (by omega) (by omega)]
    · rw [show at_ + ((d + 1 : Nat) : Int) = at_ + 1 + (d : Int) by omega]; exact hy
theorem word_tot {l : List Int} (hl : Bytes l) (hn : l.length ≤ 1048576) (at_ sz : Int) (h0 : 0 ≤ at_) (h1 : at_ ≤ 1099511627000) :
    ∃ (y : List Int) (at2 : Int), Ev (fun n => spec_l01Src_word.f n l at_ sz) (strOfNums y, at2, sz) ∧ 1 ≤ y.length ∧ y.length ≤ 6 ∧ (∀ c ∈ y, 97 ≤ c ∧ c ≤ 122) ∧ at_ ≤ at2 ∧ at2 ≤ at_ + 7 := by
  obtain ⟨v, hv, v0, v1, _⟩ := n_tot hl hn at_ sz 6 h0 (by omega) (by omega)
  have v1 := v1 (by omega)
  obtain ⟨m, rfl⟩ := Int.eq_ofNat_of_zero_le v0
  obtain ⟨y, hy, ylen, yc⟩ := word_l0 hl hn sz (m + 1) [] (1 + m) (at_ + 1) (by omega) (by omega) (by omega) (by omega) (by simp; omega) (by simp)
  refine ⟨y, at_ + 1 + ((m + 1 : Nat) : Int), ?_, by rw [ylen]; simp, by rw [ylen]; simp; omega, yc, by omega, by omega⟩
  refine Ev.congr (fun k => ?_) hy
  unfold spec_l01Src_word.f
  rw [hv]; simp only [Option.bind_some]
  rw [w64 (by omega) (by omega)]

abbrev E := ByteArray × Int × Int × Bool × ByteArray
def wins (a b : E) : Prop := a.2.1 < b.2.1 ∨ (a.2.1 = b.2.1 ∧ a.2.2.1 < b.2.2.1)
instance (a b : E) : Decidable (wins a b) := by unfold wins; infer_instance
def win (a b : E) : E := if wins a b then b else a
theorem win_pos {a b : E} (h : wins a b) : win a b = b := if_pos h
theorem win_neg {a b : E} (h : ¬ wins a b) : win a b = a := if_neg h
theorem impl_eq (a b : E) : impl_Winner.f a.1 a.2.1 a.2.2.1 a.2.2.2.1 a.2.2.2.2 b.1 b.2.1 b.2.2.1 b.2.2.2.1 b.2.2.2.2 = some (win a b) := by
  unfold impl_Winner.f
  by_cases h1 : b.2.1 > a.2.1
  · rw [if_pos h1, win_pos (.inl h1)]
  · rw [if_neg h1]
    by_cases h2 : b.2.1 = a.2.1
    · rw [if_pos h2]
      by_cases h3 : b.2.2.1 > a.2.2.1
      · rw [if_pos h3, win_pos (.inr ⟨h2.symm, h3⟩)]
      · rw [if_neg h3, win_neg (by unfold wins; omega)]
    · rw [if_neg h2, win_neg (by unfold wins; omega)]
theorem spec_eq (a b : E) : spec_Winner.f a.1 a.2.1 a.2.2.1 a.2.2.2.1 a.2.2.2.2 b.1 b.2.1 b.2.2.1 b.2.2.2.1 b.2.2.2.2 = some (win a b) := by
  rw [← impl_eq]; rfl
theorem win_assoc (a b c : E) : win (win a b) c = win a (win b c) := by
  by_cases h1 : wins a b <;> by_cases h2 : wins b c <;> by_cases h3 : wins a c <;> simp only [win, h1, h2, h3, if_true, if_false] <;> (exfalso; unfold wins at h1 h2 h3; omega)
theorem win_comm (a b : E) (h : a.2.1 ≠ b.2.1 ∨ a.2.2.1 ≠ b.2.2.1) : win b a = win a b := by
  by_cases h1 : wins a b
  · rw [win_pos h1, win_neg (by unfold wins at *; omega)]
  · rw [win_neg h1, win_pos (by unfold wins at *; omega)]
theorem j2_true (a b c : E) (k : Nat) : laws_FnWinner.j2 (k + 1) false a.1 a.2.1 a.2.2.1 a.2.2.2.1 a.2.2.2.2 b.1 b.2.1 b.2.2.1 b.2.2.2.1 b.2.2.2.2 c.1 c.2.1 c.2.2.1 c.2.2.2.1 c.2.2.2.2 = some true := by
  simp only [laws_FnWinner.j2]
  rw [if_neg (by decide), impl_eq a b]; simp only [Option.bind_some]
  rw [impl_eq (win a b) c]; simp only [Option.bind_some]
  rw [impl_eq b c]; simp only [Option.bind_some]
  rw [impl_eq a (win b c)]; simp only [Option.bind_some]
  rw [win_assoc]; simp
theorem j1_true (a b c : E) (k : Nat) : laws_FnWinner.j1 (k + 2) false a.1 a.2.1 a.2.2.1 a.2.2.2.1 a.2.2.2.2 b.1 b.2.1 b.2.2.1 b.2.2.2.1 b.2.2.2.2 c.1 c.2.1 c.2.2.1 c.2.2.2.1 c.2.2.2.2 (win a b).1 (win a b).2.1 (win a b).2.2.1 (win a b).2.2.2.1 (win a b).2.2.2.2 = some true := by
  rw [laws_FnWinner.j1]
  rw [if_neg (by decide)]
  by_cases h1 : a.2.1 = b.2.1
  · rw [if_pos h1]
    by_cases h2 : a.2.2.1 = b.2.2.1
    · rw [if_pos h2]; exact j2_true a b c k
    · rw [if_neg h2, impl_eq b a]; simp only [Option.bind_some]
      rw [win_comm a b (.inr h2)]; simp only [BEq.rfl, Bool.not_true, Bool.or_false]; exact j2_true a b c k
  · rw [if_neg h1, impl_eq b a]; simp only [Option.bind_some]
    rw [win_comm a b (.inl h1)]; simp only [BEq.rfl, Bool.not_true, Bool.or_false]; exact j2_true a b c k
theorem entry_tot {l : List Int} (hl : Bytes l) (hn : l.length ≤ 1048576) (at_ sz : Int) (h0 : 0 ≤ at_) (h1 : at_ ≤ 1099511626000) :
    ∃ (a : E) (at2 : Int), Ev (fun n => spec_l01Src_siteEntry.f n l at_ sz) (a.1, a.2.1, a.2.2.1, a.2.2.2.1, a.2.2.2.2, at2, sz) ∧ at_ ≤ at2 ∧ at2 ≤ at_ + 10 := by
  obtain ⟨v1, e1, _⟩ := n_tot hl hn at_ sz 4 h0 (by omega) (by omega)
  obtain ⟨v2, e2, _⟩ := n_tot hl hn (at_ + 1) sz 3 (by omega) (by omega) (by omega)
  obtain ⟨v3, e3⟩ := one_tot hl hn (at_ + 1 + 1) sz 3 (by omega) (by omega) (by omega)
  obtain ⟨y, at2, hy, _, _, _, g1, g2⟩ := word_tot hl hn (at_ + 1 + 1 + 1) sz (by omega) (by omega)
  refine ⟨(⟨#[107]⟩, v1, v2, v3, strOfNums y), at2, ?_, by omega, by omega⟩
  unfold spec_l01Src_siteEntry.f
  simp only [e1, Option.bind_some, e2, e3]
  exact Ev.bind hy (Ev.now _)
theorem draw_tot {l : List Int} (hl : Bytes l) (hn : l.length ≤ 1048576) :
    ∃ (a b : E), Ev (fun n => spec_DrawWinner.f n l) (a.1, a.2.1, a.2.2.1, a.2.2.2.1, a.2.2.2.2, b) := by
  obtain ⟨sz, es, _⟩ := source_tot hn
  obtain ⟨a, at1, ha, g1, g2⟩ := entry_tot hl hn 0 sz (by omega) (by omega)
  obtain ⟨b, at2, hb, g3, g4⟩ := entry_tot hl hn at1 sz (by omega) (by omega)
  refine ⟨a, b, ?_⟩
  unfold spec_DrawWinner.f
  simp only [es, Option.bind_some]
  exact Ev.bind ha (Ev.bind hb (Ev.now _))
theorem j0_true {l0 l1 : List Int} (h0 : Bytes l0) (n0 : l0.length ≤ 1048576) (h1 : Bytes l1) (n1 : l1.length ≤ 1048576) : Ev (fun k => laws_FnWinner.j0 k l0 l1 false) true := by
  obtain ⟨a, b, hab⟩ := draw_tot h0 n0
  obtain ⟨c, c', hc⟩ := draw_tot h1 n1
  refine Ev.step (fun k => by rw [laws_FnWinner.j0, if_neg (by decide)]) ?_
  refine Ev.bind hab (Ev.bind hc ?_)
  simp only [impl_eq a b, spec_eq a b, Option.bind_some]
  refine ⟨2, fun k hk => ?_⟩
  obtain ⟨k, rfl⟩ : ∃ m, k = m + 2 := ⟨k - 2, by omega⟩
  simp only [BEq.rfl, Bool.not_true, Bool.or_false, Bool.false_eq_true, if_false]
  have hor : win a b = a ∨ win a b = b := by unfold win; split <;> simp
  have j := j1_true a b c k
  rcases hor with h | h
  · rw [h] at j ⊢; simp only [BEq.rfl, Bool.not_true, Bool.or_false, Bool.false_eq_true, if_false]; exact j
  · rw [h] at j ⊢; simp only [BEq.rfl, Bool.not_true, Bool.or_false]
    split <;> exact j
theorem FnWinner : laws_FnWinner.Pure := by
  intro l0 l1 ⟨_, w0⟩ ⟨_, w1⟩
  refine Ev.rounds (g := fun k => laws_FnWinner.f k l0 l1) ?_
  have b0 : Bytes l0 := fun x hx => wf_u8 (w0 x hx)
  have b1 : Bytes l1 := fun x hx => wf_u8 (w1 x hx)
  unfold laws_FnWinner.f
  by_cases c0 : (l0.length : Int) > 1048576
  · simp only [if_pos c0]
    exact Ev.step (f := fun _ => some true) (fun k => by rw [laws_FnWinner.j0, if_pos rfl]) (Ev.now _)
  · simp only [if_neg c0]
    by_cases c1 : (l1.length : Int) > 1048576
    · simp only [c1, decide_true]
      exact Ev.step (f := fun _ => some true) (fun k => by rw [laws_FnWinner.j0, if_pos rfl]) (Ev.now _)
    · simp only [c1, decide_false]
      exact j0_true b0 (by omega) b1 (by omega)
end Go.Proofs.Ytncghlamcbhpmaa.Pure
