/-
  What the mix of a key, a disk and a turn is, the score of a disk, and what is wrong with the disks: as the program and the reference have it; for keys of at most 1000 bytes.
-/
import Derived.Test.YtmkeepildbkmeaaPFnMovesq
import Derived.Test.YtmkeepildbkmeaaNumFnMoves
import Derived.Laws.BitsAllLaws
namespace Go.Proofs.Ytmkeepildbkmeaa.Pure
open Go.RowKit Go.Proofs.Ytmkeepildbkmeaa.PFnMoves Go.Proofs.Ytmkeepildbkmeaa.Base Go.Proofs.YtmkeepildbkmeaaW.PrintWords Go.Proofs.YtmkeepildbkmeaaW.PrintLast Go.Proofs.YtmkeepildbkmeaaW.PrintMore
theorem pow128 (j : Nat) : (128 : Int) ^ j = 2 ^ (7 * j) := by
  rw [Int.pow_mul]; rfl
theorem pow128_le {i j : Nat} (h : i ≤ j) : (128 : Int) ^ i ≤ 128 ^ j := by
  have : (128 : Nat) ^ i ≤ 128 ^ j := Nat.pow_le_pow_right (by omega) h
  exact_mod_cast this
theorem pow128_pos (j : Nat) : (1 : Int) ≤ 128 ^ j := pow128_le (i := 0) (Nat.zero_le j)
theorem wraps_u64 (n : Int) (h₀ : 0 ≤ n) (h₁ : n < 2 ^ 63) : IntKind.u64.wrap n = n := by
  simp [IntKind.wrap, IntKind.bits, IntKind.signed]
  omega
theorem drop_cons {s : ByteArray} {p : Nat} (h : p < s.size) : (bytesOf s).drop p = bt s (p : Int) :: (bytesOf s).drop (p + 1) := by
  have hl : p < (bytesOf s).length := by rw [bytesOf_length]; exact h
  rw [List.drop_eq_getElem_cons hl, bt_bytes, List.getD_eq_getElem?_getD, List.getElem?_eq_getElem hl]
  rfl

theorem sput_l0 : ∀ (d : Nat) (v : Int) (x : List Int), 1 ≤ d → d ≤ 9 → 0 ≤ v → v < 128 ^ d → x.length + d ≤ 100 → Ev (fun k => spec_PutNum.l0 k v x) (strOfNums (x ++ puts d v)) := by
  intro d
  induction d with
  | zero => intro v x h; omega
  | succ d ih =>
    intro v x _ hd h0 h1 hx
    have p9 : (128 : Int) ^ (d + 1) ≤ 128 ^ 9 := pow128_le (by omega)
    have e9 : (128 : Int) ^ 9 = 9223372036854775808 := by decide
    by_cases c : v > 127
    · have hd' : v / 128 < 128 ^ d := by rw [Int.pow_succ] at h1; omega
      have d1 : 1 ≤ d := by
        rcases Nat.eq_zero_or_pos d with h0 | h0
        · subst h0; simp at hd'; omega
        · exact h0
      have := ih (v / 128) (x ++ [128 + v % 128]) d1 (by omega) (by omega) hd' (by simp; omega)
      refine Ev.step (fun k => ?_) (show Ev (fun k => spec_PutNum.l0 k (v / 128) (x ++ [128 + v % 128])) _ from ?_)
      · simp only [spec_PutNum.l0]
        rw [if_pos c, if_pos (by omega), Int.tdiv_eq_ediv_of_nonneg h0, Int.tmod_eq_emod_of_nonneg h0, w64 (x := v / 128) (by omega) (by omega), w64 (x := 128 + v % 128) (by omega) (by omega), Int.emod_eq_of_lt (a := 128 + v % 128) (b := 256) (by omega) (by omega)]
      · simp only [puts]
        rw [if_pos c]
        simpa using this
    · refine Ev.step (f := fun _ => some (strOfNums (x ++ [v]))) (fun k => ?_) ?_
      · simp only [spec_PutNum.l0]
        rw [if_neg c, if_pos (by omega), Int.emod_eq_of_lt (a := v) (b := 256) (by omega) (by omega)]
      · simp only [puts]
        rw [if_neg c]
        exact Ev.now _
theorem sput_eq (v : Int) (h0 : 0 ≤ v) (h1 : v < 9223372036854775808) : Ev (fun k => spec_PutNum.f k v) (strOfNums (puts 9 v)) := by
  unfold spec_PutNum.f
  have e9 : (128 : Int) ^ 9 = 9223372036854775808 := by decide
  exact Ev.ifF (by omega) (sput_l0 9 v [] (by omega) (by omega) h0 (by omega) (by simp))

theorem or_128 {b : Int} (h0 : 0 ≤ b) (h1 : b ≤ 255) : Go.bits .or .u8 b 128 = 128 + b % 128 := by
  obtain ⟨m, rfl⟩ := Int.eq_ofNat_of_zero_le h0
  have hm : m < 256 := by omega
  have : ∀ m : Nat, m < 256 → Go.bits .or .u8 (m : Int) 128 = 128 + (m : Int) % 128 := by decide +kernel
  exact this m hm
theorem iput_l0 : ∀ (d : Nat) (v : Int) (x : List Int), 1 ≤ d → d ≤ 9 → 0 ≤ v → v < 128 ^ d → x.length + d ≤ 100 → Ev (fun k => impl_PutNum.l0 k x v) (strOfNums (x ++ puts d v)) := by
  intro d
  induction d with
  | zero => intro v x h; omega
  | succ d ih =>
    intro v x _ hd h0 h1 hx
    by_cases c : v > 127
    · have hd' : v / 128 < 128 ^ d := by rw [Int.pow_succ] at h1; omega
      have d1 : 1 ≤ d := by
        rcases Nat.eq_zero_or_pos d with h0 | h0
        · subst h0; simp at hd'; omega
        · exact h0
      have := ih (v / 128) (x ++ [128 + v % 128]) d1 (by omega) (by omega) hd' (by simp; omega)
      refine Ev.step (fun k => ?_) (show Ev (fun k => impl_PutNum.l0 k (x ++ [128 + v % 128]) (v / 128)) _ from ?_)
      · simp only [impl_PutNum.l0]
        rw [if_pos (by omega), if_pos (by omega), or_128 (by omega) (by omega), show v % 256 % 128 = v % 128 by omega]
      · simp only [puts]
        rw [if_pos c]
        simpa using this
    · refine Ev.step (f := fun _ => some (strOfNums (x ++ [v]))) (fun k => ?_) ?_
      · simp only [impl_PutNum.l0]
        rw [if_neg (by omega), if_pos (by omega), Int.emod_eq_of_lt (a := v) (b := 256) (by omega) (by omega)]
      · simp only [puts]
        rw [if_neg c]
        exact Ev.now _
theorem iput_eq (v : Int) (h0 : 0 ≤ v) (h1 : v < 9223372036854775808) : Ev (fun k => impl_PutNum.f k v) (strOfNums (puts 9 v)) := by
  have e9 : (128 : Int) ^ 9 = 9223372036854775808 := by decide
  unfold impl_PutNum.f
  rw [wraps_u64 v h0 (by omega)]
  exact Ev.ifF (by omega) (iput_l0 9 v [] (by omega) (by omega) h0 (by omega) (by simp))

/-- One step of the sum, and the sum of a text. -/
def sstep (x b : Int) : Int := Int.tmod (wrap64 (wrap64 (wrap64 (x * 65539) + wrap64 b) + 1)) 2147483647
def rsum (s : ByteArray) (tag : Int) : Int := (bytesOf s).foldl sstep (wrap64 (Int.tmod tag 2147483647 + 1))
theorem sstep_range {x b : Int} (x0 : 0 ≤ x) (x1 : x < 2147483647) (b0 : 0 ≤ b) (b1 : b ≤ 255) : sstep x b = (x * 65539 + b + 1) % 2147483647 := by
  unfold sstep
  rw [w64 (x := x * 65539) (by omega) (by omega), w64 (x := b) (by omega) (by omega), w64 (x := x * 65539 + b) (by omega) (by omega), w64 (by omega) (by omega), Int.tmod_eq_emod_of_nonneg (by omega)]
theorem foldl_range : ∀ (l : List Int), Bytes l → ∀ x, 0 ≤ x → x < 2147483647 → 0 ≤ l.foldl sstep x ∧ l.foldl sstep x < 2147483647 := by
  intro l
  induction l with
  | nil => intro _ x h0 h1; exact ⟨h0, h1⟩
  | cons b r ih =>
    intro hb x h0 h1
    have e := sstep_range h0 h1 hb.head.1 hb.head.2
    simp only [List.foldl_cons]
    exact ih hb.tail _ (by rw [e]; omega) (by rw [e]; omega)
theorem tag_start (tag : Int) (h0 : 0 ≤ tag) (h1 : tag ≤ 100) : wrap64 (Int.tmod tag 2147483647 + 1) = tag + 1 := by
  rw [Int.tmod_eq_emod_of_nonneg h0, w64 (by omega) (by omega)]; omega
theorem rsum_range (s : ByteArray) (tag : Int) (h0 : 0 ≤ tag) (h1 : tag ≤ 100) : 0 ≤ rsum s tag ∧ rsum s tag < 2147483647 := by
  unfold rsum
  rw [tag_start tag h0 h1]
  exact foldl_range _ (Bytes.of s) _ (by omega) (by omega)
theorem ssum_l0 (s : ByteArray) (hs : s.size ≤ 400000) : ∀ (d i : Nat) (x : Int), i + d = s.size → Ev (fun k => spec_SumOf.l0 k s x (i : Int)) (((bytesOf s).drop i).foldl sstep x) := by
  intro d
  induction d with
  | zero =>
    intro i x hi
    refine Ev.step (f := fun _ => some x) (fun k => ?_) ?_
    · simp only [spec_SumOf.l0]
      rw [if_neg (by omega)]
    · rw [List.drop_of_length_le (by rw [bytesOf_length]; omega)]
      exact Ev.now _
  | succ d ih =>
    intro i x hi
    refine Ev.step (fun k => ?_) (show Ev (fun k => spec_SumOf.l0 k s (sstep x (bt s (i : Int))) ((i + 1 : Nat) : Int)) _ from ?_)
    · simp only [spec_SumOf.l0]
      rw [if_pos (by omega), if_pos (by omega), w64 (x := (i : Int) + 1) (by omega) (by omega)]
      rfl
    · rw [drop_cons (by omega), List.foldl_cons]
      exact ih (i + 1) _ (by omega)
theorem ssum_eq (s : ByteArray) (hs : s.size ≤ 400000) (tag : Int) (h0 : 0 ≤ tag) : Ev (fun k => spec_SumOf.f k s tag) (rsum s tag) := by
  unfold spec_SumOf.f rsum
  refine Ev.ifF (by omega) ?_
  rw [show decide ((s.size : Int) > 400000) = false from decide_eq_false (by omega)]
  refine Ev.step (fun k => ?_) (ssum_l0 s hs s.size 0 _ (by omega))
  simp only [spec_SumOf.j0]
  rw [if_neg (by simp)]
  rfl
theorem isum_l0 (s : ByteArray) (hs : s.size ≤ 400000) : ∀ (d i : Nat) (x : Int), i + d = s.size → Ev (fun k => impl_SumOf.l0 k s x (s.size : Int) (i : Int)) (((bytesOf s).drop i).foldl sstep x) := by
  intro d
  induction d with
  | zero =>
    intro i x hi
    refine Ev.step (f := fun _ => some x) (fun k => ?_) ?_
    · simp only [impl_SumOf.l0]
      rw [if_neg (by omega)]
    · rw [List.drop_of_length_le (by rw [bytesOf_length]; omega)]
      exact Ev.now _
  | succ d ih =>
    intro i x hi
    refine Ev.step (fun k => ?_) (show Ev (fun k => impl_SumOf.l0 k s (sstep x (bt s (i : Int))) (s.size : Int) ((i + 1 : Nat) : Int)) _ from ?_)
    · simp only [impl_SumOf.l0]
      rw [if_pos (by omega), if_pos (by omega), if_pos (by omega), w64 (x := (i : Int) + 1) (by omega) (by omega)]
      rfl
    · rw [drop_cons (by omega), List.foldl_cons]
      exact ih (i + 1) _ (by omega)
theorem isum_eq (s : ByteArray) (hs : s.size ≤ 400000) (tag : Int) (h0 : 0 ≤ tag) : Ev (fun k => impl_SumOf.f k s tag) (rsum s tag) := by
  unfold impl_SumOf.f rsum
  refine Ev.ifF (by omega) ?_
  rw [show decide ((s.size : Int) > 400000) = false from decide_eq_false (by omega)]
  refine Ev.step (fun k => ?_) (isum_l0 s hs s.size 0 _ (by omega))
  simp only [impl_SumOf.j0]
  rw [if_neg (by simp)]
  rfl
theorem puts_size {v : Int} (h0 : 0 ≤ v) : (strOfNums (puts 9 v)).size ≤ 9 := by
  rw [← bytesOf_length, bytesOf_str (puts_bytes 9 v h0)]; exact puts_len 9 v
/-- Four bytes of a number. -/

def putN (v : Int) : ByteArray := strOfNums (puts 9 v)
/-- The mix of a key, a disk and a turn. -/
def mixV (a1 : ByteArray) (i t : Int) : Int := Go.bits .xor .i64 (Int.tmod (wrap64 (rsum (a1 ++ putN i ++ putN t) 17 * 48271)) 2147483647) (wrap64 (Int.tdiv (Int.tmod (wrap64 (rsum (a1 ++ putN i ++ putN t) 17 * 48271)) 2147483647) 65536))
theorem mix_sizes {a1 : ByteArray} (hs : a1.size ≤ 1000) {i t : Int} (h0 : 0 ≤ i) (t0 : 0 ≤ t) : (a1 ++ putN i).size ≤ 1009 ∧ (a1 ++ putN i ++ putN t).size ≤ 1018 := by
  have h1 := puts_size h0
  have h2 := puts_size t0
  have h3 : (putN i).size ≤ 9 := h1
  have h4 : (putN t).size ≤ 9 := h2
  have e1 : (a1 ++ putN i).size = a1.size + (putN i).size := ByteArray.size_append
  have e2 : (a1 ++ putN i ++ putN t).size = (a1 ++ putN i).size + (putN t).size := ByteArray.size_append
  omega
theorem imix_eq {a1 : ByteArray} (hs : a1.size ≤ 1000) {i t : Int} (h0 : 0 ≤ i) (h1 : i ≤ 1000000) (t0 : 0 ≤ t) (t1 : t ≤ 1000000) : Ev (fun k => impl_MixOf.f k a1 i t) (mixV a1 i t) := by
  obtain ⟨s1, s2⟩ := mix_sizes hs h0 t0
  have p1 := puts_size h0
  have p2 := puts_size t0
  unfold impl_MixOf.f
  refine Ev.ifF (by omega) (Ev.ifF (by omega) ?_)
  have e : decide ((a1.size : Int) > 1000) = false := decide_eq_false (by omega)
  rw [e]
  refine Ev.step (fun k => by rw [impl_MixOf.j0, if_neg (by decide)]) ?_
  refine Ev.bind (iput_eq i h0 (by omega)) (Ev.ifT (by omega) (Ev.bind (iput_eq t t0 (by omega)) (Ev.ifT (by show (a1 ++ putN i).size + _ ≤ _; omega) ?_)))
  exact Ev.bind (isum_eq (a1 ++ putN i ++ putN t) (by omega) 17 (by omega)) (Ev.now _)
theorem smix_eq {a1 : ByteArray} (hs : a1.size ≤ 1000) {i t : Int} (h0 : 0 ≤ i) (h1 : i ≤ 1000000) (t0 : 0 ≤ t) (t1 : t ≤ 1000000) : Ev (fun k => spec_MixOf.f k a1 i t) (mixV a1 i t) := by
  obtain ⟨s1, s2⟩ := mix_sizes hs h0 t0
  have p1 := puts_size h0
  have p2 := puts_size t0
  unfold spec_MixOf.f
  refine Ev.ifF (by omega) (Ev.ifF (by omega) ?_)
  have e : decide ((a1.size : Int) > 1000) = false := decide_eq_false (by omega)
  rw [e]
  refine Ev.step (fun k => by rw [spec_MixOf.j0, if_neg (by decide)]) ?_
  refine Ev.bind (sput_eq i h0 (by omega)) (Ev.ifT (by omega) (Ev.bind (sput_eq t t0 (by omega)) (Ev.ifT (by show (a1 ++ putN i).size + _ ≤ _; omega) ?_)))
  exact Ev.bind (ssum_eq (a1 ++ putN i ++ putN t) (by omega) 17 (by omega)) (Ev.now _)
/-- The best of the turns from t on. -/
def bestV (a1 : ByteArray) (i : Int) : Nat → Int → Int → Int
  | 0, _, b => b
  | d + 1, t, b => bestV a1 i d (t + 1) (mx b (mixV a1 i t))
def scoreV (a1 : ByteArray) (i : Int) (w : Int) : Int := bestV a1 i w.toNat 0 (-1)
theorem iscore_l0 {a1 : ByteArray} (hs : a1.size ≤ 1000) {i w : Int} (h0 : 0 ≤ i) (h1 : i ≤ 1000000) (w1 : w ≤ 64) : ∀ (d : Nat) (t b : Int), 0 ≤ t → t + d = w → Ev (fun k => impl_scoreOf.l0 k a1 i b w t) (bestV a1 i d t b)
  | 0, t, b, t0, hd => Ev.step (f := fun _ => some b) (fun k => by rw [impl_scoreOf.l0, if_neg (by omega)]) (Ev.now _)
  | d + 1, t, b, t0, hd => by
    refine Ev.step (fun k => by rw [impl_scoreOf.l0, if_pos (by omega)]) ?_
    refine Ev.bind (imix_eq hs h0 h1 t0 (by omega)) ?_
    rw [w64 (by omega) (by omega)]
    exact iscore_l0 hs h0 h1 w1 d (t + 1) _ (by omega) (by omega)
theorem iscore_eq {a1 : ByteArray} (hs : a1.size ≤ 1000) {i w : Int} (dm : Int) (h0 : 0 ≤ i) (h1 : i ≤ 1000000) (w0 : 0 ≤ w) (w1 : w ≤ 64) : Ev (fun k => impl_scoreOf.f k dm w a1 i) (scoreV a1 i w) :=
  iscore_l0 hs h0 h1 w1 w.toNat 0 (-1) (by omega) (by omega)
theorem sscore_l0 {a1 : ByteArray} (hs : a1.size ≤ 1000) {l0 : List S32} {i : Int} (h0 : 0 ≤ i) (h1 : i ≤ 1000000) (hi : i < (l0.length : Int)) (w1 : (rd_T32 l0 i).f1 ≤ 64) : ∀ (d : Nat) (t b : Int), 0 ≤ t → t + d = (rd_T32 l0 i).f1 → Ev (fun k => spec_l06Score.l0 k l0 a1 i b t) (bestV a1 i d t b)
  | 0, t, b, t0, hd => Ev.step (f := fun _ => some b) (fun k => by rw [spec_l06Score.l0, if_pos h0, if_pos hi, if_neg (by omega)]) (Ev.now _)
  | d + 1, t, b, t0, hd => by
    refine Ev.step (fun k => by rw [spec_l06Score.l0, if_pos h0, if_pos hi, if_pos (by omega)]) ?_
    refine Ev.bind (smix_eq hs h0 h1 t0 (by omega)) ?_
    rw [w64 (x := t + 1) (by omega) (by omega)]
    by_cases c : mixV a1 i t > b
    · refine Ev.ifT c ?_
      have := sscore_l0 hs h0 h1 hi w1 d (t + 1) (mixV a1 i t) (by omega) (by omega)
      show Ev _ (bestV a1 i d (t + 1) (mx b (mixV a1 i t)))
      unfold mx
      rw [if_pos (by omega)]; exact this
    · refine Ev.ifF c ?_
      have := sscore_l0 hs h0 h1 hi w1 d (t + 1) b (by omega) (by omega)
      show Ev _ (bestV a1 i d (t + 1) (mx b (mixV a1 i t)))
      unfold mx
      rw [if_neg (by omega)]; exact this
theorem sscore_eq {a1 : ByteArray} (hs : a1.size ≤ 1000) {l0 : List S32} {i : Int} (h0 : 0 ≤ i) (h1 : i ≤ 1000000) (hi : i < (l0.length : Int)) (w0 : 0 ≤ (rd_T32 l0 i).f1) (w1 : (rd_T32 l0 i).f1 ≤ 64) : Ev (fun k => spec_l06Score.f k l0 a1 i) (scoreV a1 i (rd_T32 l0 i).f1) :=
  sscore_l0 hs h0 h1 hi w1 _ 0 (-1) (by omega) (by omega)
/-- All is right with the disks. -/
def Right (l0 : List S32) : Prop := 1 ≤ l0.length ∧ l0.length ≤ 200 ∧ ∀ i, i < l0.length → 0 ≤ (rd_T32 l0 (i : Int)).f0 ∧ (rd_T32 l0 (i : Int)).f0 ≤ 200 ∧ 0 ≤ (rd_T32 l0 (i : Int)).f1 ∧ (rd_T32 l0 (i : Int)).f1 ≤ 64
open Classical in
theorem inf_l0 {l0 : List S32} (h1 : 1 ≤ l0.length) (h2 : l0.length ≤ 200) : ∀ (d i : Nat), i + d = l0.length → (∀ j, j < i → 0 ≤ (rd_T32 l0 (j : Int)).f0 ∧ (rd_T32 l0 (j : Int)).f0 ≤ 200 ∧ 0 ≤ (rd_T32 l0 (j : Int)).f1 ∧ (rd_T32 l0 (j : Int)).f1 ≤ 64) →
    Ev (fun k => impl_NodesFault.l0 k l0 (l0.length : Int) (i : Int)) (if Right l0 then 0 else 1) ∧ Ev (fun k => spec_NodesFault.l0 k l0 (i : Int)) (if Right l0 then 0 else 1)
  | 0, i, hd, h => by
    rw [if_pos ⟨h1, h2, fun j hj => h j (by omega)⟩]
    exact ⟨Ev.step (fun k => by rw [impl_NodesFault.l0, if_neg (by omega)]) (Ev.now _), Ev.step (fun k => by rw [spec_NodesFault.l0, if_neg (by omega)]) (Ev.now _)⟩
  | d + 1, i, hd, h => by
    have hi : i < l0.length := by omega
    have no : ¬ (0 ≤ (rd_T32 l0 (i : Int)).f0 ∧ (rd_T32 l0 (i : Int)).f0 ≤ 200 ∧ 0 ≤ (rd_T32 l0 (i : Int)).f1 ∧ (rd_T32 l0 (i : Int)).f1 ≤ 64) → ¬ Right l0 := fun hn hr => hn (hr.2.2 i hi)
    have es : wrap64 ((i : Int) + 1) = ((i + 1 : Nat) : Int) := by rw [w64 (by omega) (by omega)]; omega
    by_cases c1 : (rd_T32 l0 (i : Int)).f0 < 0
    · rw [if_neg (no (by omega))]
      exact ⟨Ev.step (fun k => by rw [impl_NodesFault.l0, if_pos (by omega), if_pos (by omega), if_pos (by omega), if_pos c1]) (Ev.now _), Ev.step (fun k => by rw [spec_NodesFault.l0, if_pos (by omega), if_pos (by omega), if_pos c1]) (Ev.now _)⟩
    by_cases c2 : (rd_T32 l0 (i : Int)).f0 > 200
    · rw [if_neg (no (by omega))]
      exact ⟨Ev.step (fun k => by rw [impl_NodesFault.l0, if_pos (by omega), if_pos (by omega), if_pos (by omega), if_neg c1, if_pos c2]) (Ev.now _), Ev.step (fun k => by rw [spec_NodesFault.l0, if_pos (by omega), if_pos (by omega), if_neg c1, if_pos c2]) (Ev.now _)⟩
    by_cases c3 : (rd_T32 l0 (i : Int)).f1 < 0
    · rw [if_neg (no (by omega))]
      exact ⟨Ev.step (fun k => by rw [impl_NodesFault.l0, if_pos (by omega), if_pos (by omega), if_pos (by omega), if_neg c1, if_neg c2, if_pos c3]) (Ev.now _), Ev.step (fun k => by rw [spec_NodesFault.l0, if_pos (by omega), if_pos (by omega), if_neg c1, if_neg c2, if_pos c3]) (Ev.now _)⟩
    by_cases c4 : (rd_T32 l0 (i : Int)).f1 > 64
    · rw [if_neg (no (by omega))]
      exact ⟨Ev.step (fun k => by rw [impl_NodesFault.l0, if_pos (by omega), if_pos (by omega), if_pos (by omega), if_neg c1, if_neg c2, if_neg c3, if_pos c4]) (Ev.now _), Ev.step (fun k => by rw [spec_NodesFault.l0, if_pos (by omega), if_pos (by omega), if_neg c1, if_neg c2, if_neg c3, if_pos c4]) (Ev.now _)⟩
    obtain ⟨g1, g2⟩ := inf_l0 h1 h2 d (i + 1) (by omega) (fun j hj => by
      by_cases e : j = i
      · subst e; omega
      · exact h j (by omega))
    refine ⟨Ev.step (fun k => by rw [impl_NodesFault.l0, if_pos (by omega), if_pos (by omega), if_pos (by omega), if_neg c1, if_neg c2, if_neg c3, if_neg c4, es]) g1, Ev.step (fun k => by rw [spec_NodesFault.l0, if_pos (by omega), if_pos (by omega), if_neg c1, if_neg c2, if_neg c3, if_neg c4, es]) g2⟩
open Classical in
theorem nf_eq (l0 : List S32) : Ev (fun k => impl_NodesFault.f k l0) (if Right l0 then 0 else 1) ∧ Ev (fun k => spec_NodesFault.f k l0) (if Right l0 then 0 else 1) := by
  unfold impl_NodesFault.f spec_NodesFault.f
  by_cases c : (l0.length : Int) < 1
  · rw [if_neg (fun h => by have := h.1; omega)]
    exact ⟨Ev.ifT c (Ev.step (fun k => by rw [impl_NodesFault.j0, if_pos rfl]) (Ev.now _)), Ev.ifT c (Ev.step (fun k => by rw [spec_NodesFault.j0, if_pos rfl]) (Ev.now _))⟩
  by_cases c2 : (l0.length : Int) > 200
  · rw [if_neg (fun h => by have := h.2.1; omega)]
    have e : decide ((l0.length : Int) > 200) = true := decide_eq_true c2
    rw [e]
    exact ⟨Ev.ifF c (Ev.step (fun k => by rw [impl_NodesFault.j0, if_pos rfl]) (Ev.now _)), Ev.ifF c (Ev.step (fun k => by rw [spec_NodesFault.j0, if_pos rfl]) (Ev.now _))⟩
  · have e : decide ((l0.length : Int) > 200) = false := decide_eq_false c2
    rw [e]
    obtain ⟨g1, g2⟩ := inf_l0 (l0 := l0) (by omega) (by omega) l0.length 0 (by omega) (fun j hj => by omega)
    exact ⟨Ev.ifF c (Ev.step (fun k => by rw [impl_NodesFault.j0, if_neg (by decide)]; rfl) g1), Ev.ifF c (Ev.step (fun k => by rw [spec_NodesFault.j0, if_neg (by decide)]; rfl) g2)⟩
end Go.Proofs.Ytmkeepildbkmeaa.Pure
