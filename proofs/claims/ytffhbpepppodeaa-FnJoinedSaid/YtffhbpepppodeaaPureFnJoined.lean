/-
  The plain law Joined: an object cut into stripes comes back, though of each any M shards are lost; for all drawn bytes.
-/
import Derived.Test.YtffhbpepppodeaaPFnJoinedq
import Derived.Test.YtffhbpepppodeaaNumFnJoined
import Derived.Test.YtffhbpepppodeaaTakenFnJoined
import Derived.Test.YtffhbpepppodeaaCutFnJoined
namespace Go.Proofs.Ytffhbpepppodeaa.Pure
open Go.RowKit Go.Proofs.Ytffhbpepppodeaa.PFnJoined Go.Proofs.Ytffhbpepppodeaa.Base Go.Proofs.YtffhbpepppodeaaW.PrintWords Go.Proofs.YtffhbpepppodeaaW.PrintLast Go.Proofs.YtffhbpepppodeaaW.PrintMore
open Go.Proofs.Ytffhbpepppodeaa.Gf Go.Proofs.Ytffhbpepppodeaa.Reduce Go.Proofs.Ytffhbpepppodeaa.Grid Go.Proofs.Ytffhbpepppodeaa.Field Go.Proofs.Ytffhbpepppodeaa.Elim Go.Proofs.Ytffhbpepppodeaa.Cauchy Go.Proofs.Ytffhbpepppodeaa.Plant Go.Proofs.Ytffhbpepppodeaa.Plant2 Go.Proofs.Ytffhbpepppodeaa.Plant4 Go.Proofs.Ytffhbpepppodeaa.Plant5 Go.Proofs.Ytffhbpepppodeaa.Plant6
open Go.Proofs.Ytffhbpepppodeaa.Coded (bt_str str_ext mix_sum data_again shard_size shard_byte basis_all heldT held_mem held_nodup held_snoc dcol dcol_byt)
open Go.Proofs.Ytffhbpepppodeaa.Taken (basis_take)
open Go.Proofs.Ytffhbpepppodeaa.Cut (pieceS dataS dataS_len dataS_size)

theorem n_tot {l : List Int} (hl : Bytes l) (hn : l.length ≤ 1048576) (at_ sz a : Int) (h0 : 0 ≤ at_) (h1 : at_ ≤ 1099511627776) (ha : a ≤ 4611686018427387904) :
    ∃ v, spec_l01Src_n.f l at_ sz a = some (v, at_ + 1, sz) ∧ 0 ≤ v ∧ (1 ≤ a → v < a) ∧ (a < 1 → v = 0) := by
  have e1 : wrap64 (at_ + 1) = at_ + 1 := w64 (by omega) (by omega)
  have e2 : wrap64 ((at_ + 1) - 1) = at_ := by rw [show at_ + 1 - 1 = at_ by omega]; exact w64 (by omega) (by omega)
  unfold spec_l01Src_n.f
  simp only [e1, e2]
  by_cases c1 : a < 1
  · rw [if_pos c1]; exact ⟨0, rfl, by omega, by omega, by omega⟩
  rw [if_neg c1]
  have hmod : ∀ y : Int, 0 ≤ y → 0 ≤ Int.tmod y a ∧ Int.tmod y a < a := fun y hy => by
    rw [Int.tmod_eq_emod_of_nonneg hy]; exact ⟨Int.emod_nonneg _ (by omega), Int.emod_lt_of_pos _ (by omega)⟩
  by_cases c2 : (l.length : Int) = 0
  · rw [if_pos c2, if_neg (by omega)]
    rw [w64 (x := at_ * 7) (by omega) (by omega)]
    have := hmod (at_ * 7) (by omega)
    exact ⟨_, rfl, this.1, fun _ => this.2, by omega⟩
  rw [if_neg c2]
  have hk : (0 : Int) < l.length := by omega
  have m1 : 0 ≤ Int.tmod at_ l.length ∧ Int.tmod at_ l.length < l.length := by
    rw [Int.tmod_eq_emod_of_nonneg h0]; exact ⟨Int.emod_nonneg _ (by omega), Int.emod_lt_of_pos _ hk⟩
  have q1 : 0 ≤ Int.tdiv at_ l.length ∧ Int.tdiv at_ l.length ≤ at_ := by
    rw [Int.tdiv_eq_ediv_of_nonneg h0]; exact ⟨Int.ediv_nonneg h0 (by omega), Int.ediv_le_self _ h0⟩
  rw [if_pos m1.1, if_pos m1.2]
  have b1 := hl.rd (Int.tmod at_ l.length)
  generalize rd l (Int.tmod at_ l.length) = x1 at *
  generalize Int.tdiv at_ l.length = y1 at *
  rw [w64 (x := x1) (by omega) (by omega), w64 (x := y1) (by omega) (by omega), w64 (x := y1 * 37) (by omega) (by omega), w64 (x := x1 + y1 * 37) (by omega) (by omega)]
  by_cases c3 : a > 200
  · rw [if_pos c3]
    have m2 : 0 ≤ Int.tmod (at_ + 1) l.length ∧ Int.tmod (at_ + 1) l.length < l.length := by
      rw [Int.tmod_eq_emod_of_nonneg (by omega)]; exact ⟨Int.emod_nonneg _ (by omega), Int.emod_lt_of_pos _ hk⟩
    rw [e1] at *
    rw [if_pos m2.1, if_pos m2.2, if_neg (by omega)]
    have b2 := hl.rd (Int.tmod (at_ + 1) l.length)
    generalize rd l (Int.tmod (at_ + 1) l.length) = x2 at *
    rw [w64 (x := x2) (by omega) (by omega), w64 (x := x2 * 13) (by omega) (by omega), w64 (x := (x1 + y1 * 37) * 251) (by omega) (by omega), w64 (x := (x1 + y1 * 37) * 251 + x2 * 13) (by omega) (by omega), w64 (x := (x1 + y1 * 37) * 251 + x2 * 13 + at_) (by omega) (by omega)]
    have := hmod ((x1 + y1 * 37) * 251 + x2 * 13 + at_) (by omega)
    exact ⟨_, rfl, this.1, fun _ => this.2, by omega⟩
  · rw [if_neg c3, if_neg (by omega)]
    have := hmod (x1 + y1 * 37) (by omega)
    exact ⟨_, rfl, this.1, fun _ => this.2, by omega⟩
theorem one_tot {l : List Int} (hl : Bytes l) (hn : l.length ≤ 1048576) (at_ sz a : Int) (h0 : 0 ≤ at_) (h1 : at_ ≤ 1099511627776) (ha : a ≤ 4611686018427387904) :
    ∃ b, spec_l01Src_one.f l at_ sz a = some (b, at_ + 1, sz) := by
  obtain ⟨v, hv, _⟩ := n_tot hl hn at_ sz a h0 h1 ha
  exact ⟨_, by unfold spec_l01Src_one.f; rw [hv]; rfl⟩
theorem source_tot {l : List Int} (hn : l.length ≤ 1048576) : ∃ sz, spec_l01Source.f l = some (l, 0, sz) ∧ 0 ≤ sz ∧ sz ≤ 12 := by
  unfold spec_l01Source.f
  rw [w64 (by omega) (by omega)]
  split
  · exact ⟨12, rfl, by omega, by omega⟩
  · exact ⟨_, rfl, by omega, by omega⟩

theorem bt_lit (s : ByteArray) (i : Int) : 0 ≤ bt s i ∧ bt s i ≤ 255 := bt_range s i
theorem bytes_l0 {l : List Int} (hl : Bytes l) (hn : l.length ≤ 1048576) (sz kd : Int) (N : Nat) (hN : N ≤ 1000000) : ∀ (d i : Nat) (x : List Int) (at_ : Int), i + d = N → i ≤ x.length → x.length ≤ 3 * i → Bytes x → 0 ≤ at_ → at_ + 2 * d ≤ 1099511627700 →
    ∃ (y : List Int) (at2 : Int), Ev (fun k => spec_l01Src_bytes.l0 k (N : Int) x kd (i : Int) l at_ sz) (strOfNums y, at2, sz) ∧ y.length = N ∧ Bytes y ∧ at_ ≤ at2 ∧ at2 ≤ at_ + 2 * d := by
  intro d
  induction d with
  | zero =>
    intro i x at_ hi h1 h2 hx h0 ha
    by_cases c : (x.length : Int) > (N : Int)
    · refine ⟨x.take N, at_, Ev.step (f := fun _ => some (strOfNums (x.take N), at_, sz)) (fun k => ?_) (Ev.now _), by rw [List.length_take]; omega, hx.take _, by omega, by omega⟩
      simp only [spec_l01Src_bytes.l0]
      rw [if_neg (by omega), if_pos c, if_pos (by omega), if_pos (by omega), if_pos (by omega)]
      simp
    · refine ⟨x, at_, Ev.step (f := fun _ => some (strOfNums x, at_, sz)) (fun k => ?_) (Ev.now _), by omega, hx, by omega, by omega⟩
      simp only [spec_l01Src_bytes.l0]
      rw [if_neg (by omega), if_neg c]
  | succ d ih =>
    intro i x at_ hi h1 h2 hx h0 ha
    have ei : wrap64 ((i : Int) + 1) = ((i + 1 : Nat) : Int) := by rw [w64 (by omega) (by omega)]; rfl
    by_cases k0 : kd = 0
    · obtain ⟨v, hv, v0, v1, _⟩ := n_tot hl hn at_ sz 256 h0 (by omega) (by omega)
      have v1 := v1 (by omega)
      obtain ⟨y, at2, he, hy, hb, g1, g2⟩ := ih (i + 1) (x ++ [v]) (at_ + 1) (by omega) (by simp; omega) (by simp; omega) (hx.append (Bytes.cons (by omega) Bytes.nil)) (by omega) (by omega)
      refine ⟨y, at2, Ev.step (fun k => ?_) he, hy, hb, by omega, by omega⟩
      simp only [spec_l01Src_bytes.l0]
      rw [if_pos (by omega), if_pos k0, hv]
      simp only [Option.bind_some]
      rw [if_pos (by omega), ei, Int.emod_eq_of_lt v0 v1]
    by_cases k1 : kd = 1
    · obtain ⟨v, hv, v0, v1, _⟩ := n_tot hl hn at_ sz 9 h0 (by omega) (by omega)
      have v1 := v1 (by omega)
      obtain ⟨y, at2, he, hy, hb, g1, g2⟩ := ih (i + 1) (x ++ [bt (⟨#[32, 9, 61, 46, 13, 10, 45, 97, 95]⟩ : ByteArray) v]) (at_ + 1) (by omega) (by simp; omega) (by simp; omega) (hx.append (Bytes.cons (bt_lit _ _) Bytes.nil)) (by omega) (by omega)
      refine ⟨y, at2, Ev.step (fun k => ?_) he, hy, hb, by omega, by omega⟩
      simp only [spec_l01Src_bytes.l0]
      rw [if_pos (by omega), if_neg k0, if_pos k1, hv]
      simp only [Option.bind_some]
      rw [if_pos v0, if_pos v1, if_pos (by omega), ei]
    by_cases k2 : kd = 2
    · obtain ⟨b, hb1⟩ := one_tot hl hn at_ sz 12 h0 (by omega) (by omega)
      obtain ⟨v, hv, v0, v1, _⟩ := n_tot hl hn (at_ + 1) sz 95 (by omega) (by omega) (by omega)
      have v1 := v1 (by omega)
      have ev : (wrap64 (32 + v)) % 256 = 32 + v := by rw [w64 (by omega) (by omega), Int.emod_eq_of_lt (by omega) (by omega)]
      cases b with
      | true =>
        obtain ⟨y, at2, he, hy, hb, g1, g2⟩ := ih (i + 1) (x ++ [13, 10] ++ [32 + v]) (at_ + 1 + 1) (by omega) (by simp; omega) (by simp; omega) ((hx.append (Bytes.cons (by omega) (Bytes.cons (by omega) Bytes.nil))).append (Bytes.cons (by omega) Bytes.nil)) (by omega) (by omega)
        refine ⟨y, at2, Ev.step (fun k => ?_) he, hy, hb, by omega, by omega⟩
        simp only [spec_l01Src_bytes.l0]
        rw [if_pos (by omega), if_neg k0, if_neg k1, if_pos k2, hb1]
        simp only [Option.bind_some, if_true]
        rw [if_pos (by simp; omega), hv]
        simp only [Option.bind_some]
        rw [if_pos (by simp; omega), ei, ev]
      | false =>
        obtain ⟨y, at2, he, hy, hb, g1, g2⟩ := ih (i + 1) (x ++ [32 + v]) (at_ + 1 + 1) (by omega) (by simp; omega) (by simp; omega) (hx.append (Bytes.cons (by omega) Bytes.nil)) (by omega) (by omega)
        refine ⟨y, at2, Ev.step (fun k => ?_) he, hy, hb, by omega, by omega⟩
        simp only [spec_l01Src_bytes.l0]
        rw [if_pos (by omega), if_neg k0, if_neg k1, if_pos k2, hb1]
        simp only [Option.bind_some]
        rw [if_neg (by decide), hv]
        simp only [Option.bind_some]
        rw [if_pos (by omega), ei, ev]
    · obtain ⟨v, hv, v0, v1, _⟩ := n_tot hl hn at_ sz 23 h0 (by omega) (by omega)
      have v1 := v1 (by omega)
      obtain ⟨y, at2, he, hy, hb, g1, g2⟩ := ih (i + 1) (x ++ [bt (⟨#[97, 98, 99, 100, 101, 102, 103, 104, 32, 105, 106, 107, 108, 109, 110, 111, 112, 46, 32, 101, 116, 97, 111]⟩ : ByteArray) v]) (at_ + 1) (by omega) (by simp; omega) (by simp; omega) (hx.append (Bytes.cons (bt_lit _ _) Bytes.nil)) (by omega) (by omega)
      refine ⟨y, at2, Ev.step (fun k => ?_) he, hy, hb, by omega, by omega⟩
      simp only [spec_l01Src_bytes.l0]
      rw [if_pos (by omega), if_neg k0, if_neg k1, if_neg k2, hv]
      simp only [Option.bind_some]
      rw [if_pos v0, if_pos v1, if_pos (by omega), ei]
theorem bytes_tot {l : List Int} (hl : Bytes l) (hn : l.length ≤ 1048576) (at_ sz n : Int) (n0 : 0 ≤ n) (n1 : n ≤ 1000000) (h0 : 0 ≤ at_) (h1 : at_ + 2 * n ≤ 1099511627600) :
    ∃ (y : List Int) (at2 : Int), Ev (fun k => spec_l01Src_bytes.f k l at_ sz n) (strOfNums y, at2, sz) ∧ (y.length : Int) = n ∧ Bytes y ∧ at_ ≤ at2 ∧ at2 ≤ at_ + 2 * n + 1 := by
  obtain ⟨N, rfl⟩ := Int.eq_ofNat_of_zero_le n0
  obtain ⟨kd, hv, _⟩ := n_tot hl hn at_ sz 6 h0 (by omega) (by omega)
  obtain ⟨y, at2, he, hy, hb, g1, g2⟩ := bytes_l0 hl hn sz kd N (by omega) N 0 [] (at_ + 1) (by omega) (by simp) (by simp) Bytes.nil (by omega) (by omega)
  refine ⟨y, at2, ?_, by omega, hb, by omega, by omega⟩
  unfold spec_l01Src_bytes.f
  exact Ev.bind0 hv he

theorem set_map {α : Type} {n m : Nat} {f g : Nat → α} {x : α} (h1 : g m = x) (h2 : ∀ b, b ≠ m → g b = f b) : ((List.range n).map f).set m x = (List.range n).map g := by
  apply List.ext_getElem
  · simp
  · intro b hb _
    rw [List.getElem_set]
    by_cases e : m = b
    · rw [if_pos e]; subst e; simp [h1]
    · rw [if_neg e]; simp [h2 b (Ne.symm e)]
theorem map_congr_range {α : Type} {n : Nat} {f g : Nat → α} (h : ∀ b, b < n → f b = g b) : (List.range n).map f = (List.range n).map g := List.map_congr_left fun b m => h b (List.mem_range.1 m)
theorem repl_map {α : Type} (n : Nat) (x : α) : List.replicate n x = (List.range n).map (fun _ => x) := by
  apply List.ext_getElem
  · simp
  · intro b _ _; simp
structure Fine (K M G : Nat) : Prop where
  k1 : 1 ≤ K
  k2 : K ≤ 32
  m : M ≤ 16
  g : G ≤ K
  s : K + M + G ≤ 64
theorem impl_fault {K M G : Nat} (h : Fine K M G) : impl_CodeFault.f (K : Int) (M : Int) (G : Int) = some 0 := by
  obtain ⟨h1, h2, h3, h4, h5⟩ := h
  unfold impl_CodeFault.f
  rw [if_neg (by omega), if_neg (by omega), if_neg (by omega), if_neg (by omega), if_neg (by omega), if_neg (by omega), if_neg]
  rw [w64 (x := (K : Int) + M) (by omega) (by omega), w64 (by omega) (by omega)]; omega
theorem size_w {K M G : Nat} (h : Fine K M G) : wrap64 (wrap64 ((K : Int) + M) + G) = ((K + M + G : Nat) : Int) := by
  obtain ⟨h1, h2, h3, h4, h5⟩ := h
  rw [w64 (x := (K : Int) + M) (by omega) (by omega), w64 (by omega) (by omega)]; omega
theorem impl_size {K M G : Nat} (h : Fine K M G) : impl_CodeSize.f (K : Int) (M : Int) (G : Int) = some ((K + M + G : Nat) : Int) := by
  unfold impl_CodeSize.f
  rw [impl_fault h, Option.bind_some, if_pos rfl, size_w h]
theorem mod_w (j G : Nat) : Int.tmod (j : Int) (G : Int) = ((j % G : Nat) : Int) := by rw [Int.tmod_eq_emod_of_nonneg (by omega)]; omega
theorem suc_w {j : Nat} (h : j < 1048576) : wrap64 ((j : Int) + 1) = ((j + 1 : Nat) : Int) := by rw [w64 (by omega) (by omega)]; rfl
theorem one_loop {l : List ByteArray} {n : Nat} (hl : l.length ≤ 64) (h1 : 1 ≤ n) (hn : n ≤ 4096) (hd : ∀ j : Nat, j < l.length → (rdOf ByteArray.empty l (j : Int)).size = n) :
    ∀ (d i : Nat), i + d = l.length → Ev (fun k => impl_oneLength.l0 k l l (l.length : Int) (i : Int)) true
  | 0, i, hd' => Ev.step (fun k => by rw [impl_oneLength.l0, if_neg (by omega)]) (Ev.now _)
  | d + 1, i, hd' => by
    refine Ev.step (fun k => by rw [impl_oneLength.l0]) ?_
    refine Ev.ifT (by omega) (Ev.ifT (by omega) (Ev.ifT (by omega) ?_))
    have e0 : (rdOf ByteArray.empty l 0).size = n := hd 0 (by omega)
    rw [hd i (by omega), e0, w64 (by omega) (by omega)]
    refine Ev.ifF (by omega) ?_
    exact (Ev.ifF (by omega) (Ev.ifT (by omega) (Ev.ifT rfl (one_loop hl h1 hn hd d (i + 1) (by omega)))))
theorem add_w {a b : Nat} (ha : a < 1048576) (hb : b < 1048576) : wrap64 ((a : Int) + (b : Int)) = ((a + b : Nat) : Int) := by rw [w64 (by omega) (by omega)]; rfl
def allU (l : List Int) : Prop := ∀ y ∈ l, (Lit.int .u8 y).wf = true
theorem at_some {l : List Int} (hl : allU l) (i : Nat) (hi : i ≤ 1000000) : ∃ x : Nat, x < 256 ∧ laws_lwAt.f l (i : Int) = some (x : Int) := by
  unfold laws_lwAt.f
  by_cases c : i < l.length
  · have hb : 0 ≤ rd l (i : Int) ∧ rd l (i : Int) ≤ 255 := by
      unfold rd
      rw [Int.toNat_natCast]
      exact wf_u8 (hl _ (getD_mem 0 c))
    refine ⟨(rd l (i : Int)).toNat, by omega, ?_⟩
    rw [if_pos (by omega), if_pos (by omega), w64 (by omega) (by omega)]
    exact congrArg some (Int.toNat_of_nonneg hb.1).symm
  · refine ⟨(i * 61 + 29) % 256, by omega, ?_⟩
    rw [if_neg (by omega), w64 (x := (i : Int) * 61) (by omega) (by omega), w64 (by omega) (by omega), Int.tmod_eq_emod_of_nonneg (by omega)]
    congr 1
theorem has_loop (l : List Int) (hl : l.length ≤ 1048576) (x : Int) : ∀ (d i : Nat), i + d = l.length → Ev (fun k => laws_lwHas.l0 k l x (i : Int)) (decide (x ∈ l.drop i))
  | 0, i, hd => by
    rw [List.drop_of_length_le (by omega), decide_eq_false (by simp)]
    exact Ev.step (fun k => by rw [laws_lwHas.l0, if_neg (by omega)]) (Ev.now _)
  | d + 1, i, hd => by
    have hi : i < l.length := by omega
    have e : rd l (i : Int) = l[i] := by unfold rd; rw [Int.toNat_natCast, List.getD_eq_getElem?_getD, List.getElem?_eq_getElem hi]; rfl
    refine Ev.step (fun k => by rw [laws_lwHas.l0]) ?_
    refine Ev.ifT (by omega) (Ev.ifT (by omega) ?_)
    rw [e, List.drop_eq_getElem_cons hi]
    by_cases c : l[i] = x
    · rw [decide_eq_true (by rw [c]; exact List.mem_cons_self)]
      exact Ev.ifT c (Ev.now _)
    · have e2 : decide (x ∈ l[i] :: l.drop (i + 1)) = decide (x ∈ l.drop (i + 1)) := decide_eq_decide.2 ⟨fun m => (List.mem_cons.1 m).resolve_left (Ne.symm c), List.mem_cons_of_mem _⟩
      rw [e2]
      refine Ev.ifF c ?_
      rw [w64 (by omega) (by omega)]
      exact has_loop l hl x d (i + 1) (by omega)
theorem has_f (l : List Int) (hl : l.length ≤ 1048576) (x : Int) : Ev (fun k => laws_lwHas.f k l x) (decide (x ∈ l)) := has_loop l hl x l.length 0 (by omega)
theorem has_nat (l : List Nat) (hl : l.length ≤ 1048576) (x : Nat) : Ev (fun k => laws_lwHas.f k (l.map Int.ofNat) (x : Int)) (decide (x ∈ l)) := by
  have h := has_f (l.map Int.ofNat) (by simpa using hl) (x : Int)
  have e : decide ((x : Int) ∈ l.map Int.ofNat) = decide (x ∈ l) := decide_eq_decide.2 ⟨fun m => by
    obtain ⟨y, hy, e⟩ := List.mem_map.1 m
    rw [← Int.ofNat.inj e]; exact hy, fun m => List.mem_map.2 ⟨x, m, rfl⟩⟩
  rwa [e] at h
def junk : ByteArray := ⟨#[]⟩
def shs (ks : List Nat) (en : List ByteArray) (n : Nat) : List S61 := (List.range n).map fun (i : Nat) => if i ∈ ks then ⟨true, rdOf ByteArray.empty en (i : Int)⟩ else ⟨false, junk⟩
theorem shs_len (ks : List Nat) (en : List ByteArray) (n : Nat) : (shs ks en n).length = n := by simp [shs]
theorem shs_take (ks : List Nat) (en : List ByteArray) {n i : Nat} (h : i < n) : (shs ks en n).take (i + 1) = (shs ks en n).take i ++ [if i ∈ ks then ⟨true, rdOf ByteArray.empty en (i : Int)⟩ else ⟨false, junk⟩] := by
  rw [List.take_succ_eq_append_getElem (by rw [shs_len]; exact h)]
  congr 2
  simp [shs]
theorem rd_shs (ks : List Nat) (en : List ByteArray) {n i : Nat} (h : i < n) : rd_T61 (shs ks en n) (i : Int) = if i ∈ ks then ⟨true, rdOf ByteArray.empty en (i : Int)⟩ else ⟨false, junk⟩ := by
  unfold rd_T61 shs
  rw [Int.toNat_natCast, List.getD_eq_getElem?_getD, List.getElem?_map, List.getElem?_range h]
  rfl
def hvOf (ks : List Nat) (n : Nat) : List Bool := (List.range n).map fun i => decide (i ∈ ks)
def txOf (ks : List Nat) (en : List ByteArray) (n : Nat) : List ByteArray := (List.range n).map fun (i : Nat) => if i ∈ ks then rdOf ByteArray.empty en (i : Int) else ⟨#[]⟩
def hlOf (ks : List Nat) (en : List ByteArray) (n : Nat) : List ByteArray := ((List.range n).filter fun i => decide (i ∈ ks)).map fun (i : Nat) => rdOf ByteArray.empty en (i : Int)
theorem hl_len (ks : List Nat) (en : List ByteArray) (n : Nat) : (hlOf ks en n).length ≤ n := by
  unfold hlOf
  rw [List.length_map]
  exact Nat.le_trans (List.length_filter_le _ _) (by simp)
theorem hl_succ (ks : List Nat) (en : List ByteArray) (n : Nat) : hlOf ks en (n + 1) = if n ∈ ks then hlOf ks en n ++ [rdOf ByteArray.empty en (n : Int)] else hlOf ks en n := by
  unfold hlOf
  rw [List.range_succ, List.filter_append, List.map_append]
  by_cases c : n ∈ ks
  · rw [if_pos c, List.filter_cons_of_pos (by simpa using c)]; rfl
  · rw [if_neg c, List.filter_cons_of_neg (by simpa using c)]; simp
theorem held_loop (ks : List Nat) (en : List ByteArray) {n : Nat} (hn : n ≤ 64) : ∀ (d i : Nat), i + d = n → Ev (fun k => impl_heldOf.l0 k ((List.range n).map fun b => if b < i then decide (b ∈ ks) else false) ((List.range n).map fun (b : Nat) => if b < i ∧ b ∈ ks then rdOf ByteArray.empty en (b : Int) else ⟨#[]⟩) (hlOf ks en i) (shs ks en n) (n : Int) (i : Int)) (hvOf ks n, txOf ks en n, hlOf ks en n)
  | 0, i, hd => by
    obtain rfl : i = n := by omega
    refine Ev.step (f := fun _ => some (hvOf ks i, txOf ks en i, hlOf ks en i)) (fun k => ?_) (Ev.now _)
    rw [impl_heldOf.l0, if_neg (by omega)]
    unfold hvOf txOf
    rw [map_congr_range (g := fun b => decide (b ∈ ks)) fun b hb => if_pos hb, map_congr_range (g := fun (b : Nat) => if b ∈ ks then rdOf ByteArray.empty en (b : Int) else ⟨#[]⟩) fun b hb => by
      by_cases c : b ∈ ks
      · rw [if_pos c, if_pos ⟨hb, c⟩]
      · rw [if_neg c, if_neg (fun e => c e.2)]]
  | d + 1, i, hd => by
    have IH := held_loop ks en hn d (i + 1) (by omega)
    have er := rd_shs ks en (n := n) (i := i) (by omega)
    have hl := hl_len ks en i
    rw [hl_succ] at IH
    have eA : ((List.range n).map fun b => if b < i then decide (b ∈ ks) else false).set i (decide (i ∈ ks)) = (List.range n).map fun b => if b < i + 1 then decide (b ∈ ks) else false := set_map (by rw [if_pos (Nat.lt_succ_self i)]) fun b hb => by
      by_cases c : b < i
      · rw [if_pos c, if_pos (Nat.lt_succ_of_lt c)]
      · rw [if_neg c, if_neg (fun e => c (Nat.lt_of_le_of_ne (Nat.le_of_lt_succ e) hb))]
    refine Ev.step (fun k => by rw [impl_heldOf.l0, er, suc_w (by omega)]) ?_
    refine Ev.ifT (by omega) (Ev.ifT (by omega) (Ev.ifT (by rw [shs_len]; omega) (Ev.ifT (by simp; omega) ?_)))
    by_cases c : i ∈ ks
    · rw [if_pos c] at IH ⊢
      rw [decide_eq_true c] at eA
      have eB : ((List.range n).map fun (b : Nat) => if b < i ∧ b ∈ ks then rdOf ByteArray.empty en (b : Int) else ⟨#[]⟩).set i (rdOf ByteArray.empty en (i : Int)) = (List.range n).map fun (b : Nat) => if b < i + 1 ∧ b ∈ ks then rdOf ByteArray.empty en (b : Int) else ⟨#[]⟩ := set_map (by rw [if_pos ⟨Nat.lt_succ_self i, c⟩]) fun b hb => by
        by_cases c : b < i ∧ b ∈ ks
        · rw [if_pos c, if_pos ⟨Nat.lt_succ_of_lt c.1, c.2⟩]
        · rw [if_neg c, if_neg (fun e => c ⟨Nat.lt_of_le_of_ne (Nat.le_of_lt_succ e.1) hb, e.2⟩)]
      refine Ev.bind0 rfl ?_
      rw [Int.toNat_natCast]
      refine Ev.ifT rfl (Ev.ifT (by simp; omega) (Ev.ifT (by omega) ?_))
      rw [eA, eB]
      exact IH
    · rw [if_neg c] at IH ⊢
      rw [decide_eq_false c] at eA
      have eB : ((List.range n).map fun (b : Nat) => if b < i ∧ b ∈ ks then rdOf ByteArray.empty en (b : Int) else (⟨#[]⟩ : ByteArray)) = (List.range n).map fun (b : Nat) => if b < i + 1 ∧ b ∈ ks then rdOf ByteArray.empty en (b : Int) else ⟨#[]⟩ := map_congr_range fun b _ => by
        by_cases c2 : b < i ∧ b ∈ ks
        · rw [if_pos c2, if_pos ⟨Nat.lt_succ_of_lt c2.1, c2.2⟩]
        · rw [if_neg c2, if_neg (fun e => c2 ⟨Nat.lt_of_le_of_ne (Nat.le_of_lt_succ e.1) (fun e3 => c (e3 ▸ e.2)), e.2⟩)]
      refine Ev.bind0 rfl ?_
      rw [Int.toNat_natCast, eA, eB]
      exact Ev.ifF (by decide) IH
theorem held_f (ks : List Nat) (en : List ByteArray) {n : Nat} (hn : n ≤ 64) : Ev (fun k => impl_heldOf.f k (shs ks en n)) (hvOf ks n, txOf ks en n, hlOf ks en n) := by
  unfold impl_heldOf.f
  rw [shs_len]
  refine Ev.ifT (by omega) (Ev.ifT (by omega) (Ev.ifT (by omega) ?_))
  rw [Int.toNat_natCast, repl_map, repl_map, map_congr_range (g := fun b => if b < 0 then decide (b ∈ ks) else false) fun b _ => by rw [if_neg (Nat.not_lt_zero b)], map_congr_range (α := ByteArray) (g := fun (b : Nat) => if b < 0 ∧ b ∈ ks then rdOf ByteArray.empty en (b : Int) else ⟨#[]⟩) fun b _ => by rw [if_neg (fun e => Nat.not_lt_zero b e.1)]]
  exact held_loop ks en hn n 0 (by omega)
theorem enc_rd {K M G n : Nat} {data : List ByteArray} {t : Nat} (h : t < K + M + G) : rdOf ByteArray.empty (encV K M G n data) (t : Int) = shardV K M G n data t := by
  unfold rdOf encV
  rw [Int.toNat_natCast, List.getD_eq_getElem?_getD, List.getElem?_map, List.getElem?_range h]; rfl
theorem decode_f {K M n : Nat} (h : Fine K M 0) {data : List ByteArray} (hl : data.length = K) (h1 : 1 ≤ n) (hn : n ≤ 4096) (hd : ∀ j : Nat, j < data.length → (rdOf ByteArray.empty data (j : Int)).size = n) {ks : List Nat} (hks : K ≤ ks.length) (nks : ks.Nodup) (hlt : ∀ t ∈ ks, t < K + M) :
    Ev (fun k => impl_DecodeShards.f k (K : Int) (M : Int) 0 (shs ks (encV K M 0 n data) (K + M))) (0, encV K M 0 n data) := by
  have hs := h.s
  have hk1 := h.k1
  have hrd : ∀ t, t < K + M → rdOf false (hvOf ks (K + M)) (t : Int) = decide (t ∈ ks) := fun t ht => by
    unfold rdOf hvOf
    rw [Int.toNat_natCast, List.getD_eq_getElem?_getD, List.getElem?_map, List.getElem?_range ht]; rfl
  have hmem : ∀ t, t ∈ heldT (hvOf ks (K + M)) (K + M) ↔ t ∈ ks := fun t => by
    rw [held_mem]
    exact ⟨fun ⟨a, b⟩ => by rw [hrd t a] at b; exact of_decide_eq_true b, fun m => ⟨hlt t m, by rw [hrd t (hlt t m)]; exact decide_eq_true m⟩⟩
  have hT0 : K ≤ (heldT (hvOf ks (K + M)) (K + M)).length := by
    have a2 := List.Nodup.length_le_of_subset nks (l₂ := heldT (hvOf ks (K + M)) (K + M)) fun t m => (hmem t).2 m
    omega
  have hT : ((heldT (hvOf ks (K + M)) (K + M)).take K).length = K := by rw [List.length_take]; omega
  have hmem2 : ∀ t, t ∈ (heldT (hvOf ks (K + M)) (K + M)).take K → t ∈ ks := fun t m => (hmem t).1 (List.mem_of_mem_take m)
  have hvl : (hvOf ks (K + M)).length = K + M := by simp [hvOf]
  have htl : (txOf ks (encV K M 0 n data) (K + M)).length = K + M := by simp [txOf]
  have htk : takenD (K : Int) (M : Int) 0 (hvOf ks (K + M)) = ((heldT (hvOf ks (K + M)) (K + M)).take K) := by
    unfold takenD
    rw [hvl]
    exact basis_take (G := 0) (by omega) hT0 (K + M) (Nat.le_refl _)
  have hrx : ∀ t ∈ ((heldT (hvOf ks (K + M)) (K + M)).take K), rdOf ByteArray.empty (txOf ks (encV K M 0 n data) (K + M)) (t : Int) = shardV K M 0 n data t := fun t m => by
    have m2 := hmem2 t m
    have m3 := hlt t m2
    rw [← enc_rd (G := 0) (n := n) (data := data) (by omega)]
    unfold txOf
    conv => lhs; unfold rdOf
    rw [Int.toNat_natCast, List.getD_eq_getElem?_getD, List.getElem?_map, List.getElem?_range m3]
    show (if t ∈ ks then _ else _) = _
    rw [if_pos m2]
    rfl
  have hsz : ∀ t, (shardV K M 0 n data t).size = n := shard_size (fun j hj => hd j (by omega))
  have hgd : ∀ r, r < K → ((heldT (hvOf ks (K + M)) (K + M)).take K).getD r 0 ∈ ((heldT (hvOf ks (K + M)) (K + M)).take K) := fun r hr => getD_mem 0 (by omega)
  have hg : ∀ r, r < K → (rdOf ByteArray.empty (txOf ks (encV K M 0 n data) (K + M)) (((heldT (hvOf ks (K + M)) (K + M)).take K).getD r 0 : Nat)).size = n := fun r hr => by rw [hrx _ (hgd r hr), hsz]
  have ho : Ev (fun k => impl_oneLength.f k (hlOf ks (encV K M 0 n data) (K + M))) true := one_loop (n := n) (by have := hl_len ks (encV K M 0 n data) (K + M); omega) h1 hn (fun j hj => by
    have : rdOf ByteArray.empty (hlOf ks (encV K M 0 n data) (K + M)) (j : Int) ∈ hlOf ks (encV K M 0 n data) (K + M) := by unfold rdOf; rw [Int.toNat_natCast]; exact getD_mem _ hj
    unfold hlOf at this
    obtain ⟨t, mt, e⟩ := List.mem_map.1 this
    have ht := List.mem_range.1 (List.mem_filter.1 mt).1
    unfold hlOf
    rw [← e, enc_rd (t := t) (G := 0) (by omega), hsz]) (hlOf ks (encV K M 0 n data) (K + M)).length 0 (by omega)
  unfold impl_DecodeShards.f
  refine Ev.bind0 (impl_fault h) ?_
  refine Ev.ifT rfl ?_
  refine Ev.bind0 (impl_size h) ?_
  refine Ev.ifT (by rw [shs_len]; rfl) ?_
  refine Ev.bind (held_f ks (encV K M 0 n data) (by omega)) ?_
  refine Ev.bind ho ?_
  refine Ev.ifT rfl ?_
  dsimp only
  rw [htk, hvl, htl, hT]
  refine Ev.ifT ⟨by simp, rfl⟩ ?_
  refine Ev.ifF (by simp) ?_
  simp only [Int.toNat_natCast, Int.toNat_zero]
  rw [hg 0 (by omega)]
  refine Ev.ifT ⟨by first | rfl | trivial, fun r hr => hlt _ (hmem2 _ (hgd r hr)), fun r hr => hg r hr, hn⟩ ?_
  rw [data_again (n := n) (by omega) hl (fun j hj => hd j (by omega)) hT (List.Nodup.sublist (List.take_sublist _ _) (held_nodup _ _)) (fun t m => hlt t (hmem2 t m)) hrx]
  exact Ev.now _

/-! ### draws -/
theorem code2_tot {l : List Int} (hl : Bytes l) (hn : l.length ≤ 1048576) (at_ sz : Int) (h0 : 0 ≤ at_) (h1 : at_ ≤ 1000) : ∃ a b c at2, spec_l01Src_code2.f l at_ sz = some (a, b, c, at2, sz) ∧ 0 ≤ at2 ∧ at2 ≤ at_ + 4 := by
  obtain ⟨v1, e1, p1, p2, _⟩ := n_tot hl hn at_ sz 6 h0 (by omega) (by omega)
  obtain ⟨v2, e2, _⟩ := n_tot hl hn (at_ + 1) sz 4 (by omega) (by omega) (by omega)
  obtain ⟨b, e3⟩ := one_tot hl hn (at_ + 1 + 1) sz 2 (by omega) (by omega) (by omega)
  have p3 := p2 (by omega)
  have w1 : wrap64 (1 + v1) = 1 + v1 := w64 (by omega) (by omega)
  have w2 : wrap64 (1 + v1 + 1) = 1 + v1 + 1 := w64 (by omega) (by omega)
  obtain ⟨v4, e4, _⟩ := n_tot hl hn (at_ + 1 + 1 + 1) sz (1 + v1 + 1) (by omega) (by omega) (by omega)
  unfold spec_l01Src_code2.f
  rw [e1, Option.bind_some]
  dsimp only
  rw [e2, Option.bind_some]
  dsimp only
  rw [e3, Option.bind_some]
  dsimp only
  by_cases c : b = true
  · rw [if_pos c, w1, w2, e4, Option.bind_some]
    exact ⟨_, _, _, at_ + 1 + 1 + 1 + 1, rfl, by omega, by omega⟩
  · rw [if_neg c]
    exact ⟨_, _, _, at_ + 1 + 1 + 1, rfl, by omega, by omega⟩
theorem unit_tot {l : List Int} (hl : Bytes l) (hn : l.length ≤ 1048576) (at_ sz : Int) (h0 : 0 ≤ at_) (h1 : at_ ≤ 1000) : ∃ v at2, spec_l01Src_unit.f l at_ sz = some (v, at2, sz) ∧ 0 ≤ at2 ∧ at2 ≤ at_ + 2 := by
  obtain ⟨b, e1⟩ := one_tot hl hn at_ sz 20 (by omega) (by omega) (by omega)
  obtain ⟨v2, e2, p1, p2, _⟩ := n_tot hl hn (at_ + 1) sz 4 (by omega) (by omega) (by omega)
  obtain ⟨v3, e3, _⟩ := n_tot hl hn (at_ + 1) sz 6 (by omega) (by omega) (by omega)
  have p3 := p2 (by omega)
  unfold spec_l01Src_unit.f
  rw [e1, Option.bind_some]
  dsimp only
  by_cases c : b = true
  · rw [if_pos c, Option.bind_some, e2, Option.bind_some, if_pos p1, if_pos (by simpa using p3)]
    exact ⟨_, at_ + 1 + 1, rfl, by omega, by omega⟩
  · rw [if_neg c, e3, Option.bind_some]
    exact ⟨_, at_ + 1 + 1, rfl, by omega, by omega⟩
theorem draw_f {l : List Int} (hl : Bytes l) (hn : l.length ≤ 1048576) : ∃ (a b c e : Int) (y : List Int), y.length ≤ 60 ∧ Ev (fun k => spec_DrawSplitObject.f k l) (a, b, c, e, strOfNums y) := by
  obtain ⟨sz, e0, _⟩ := source_tot hn
  obtain ⟨a, b, c, at2, e1, p1, p2⟩ := code2_tot hl hn 0 sz (by omega) (by omega)
  obtain ⟨v, at3, e2, p3, p4⟩ := unit_tot hl hn at2 sz (by omega) (by omega)
  obtain ⟨m, e3, p5, p6, _⟩ := n_tot hl hn at3 sz 60 (by omega) (by omega) (by omega)
  have p7 := p6 (by omega)
  obtain ⟨y, at4, e4, p8, _⟩ := bytes_tot hl hn (at3 + 1) sz m p5 (by omega) (by omega) (by omega)
  refine ⟨a, b, c, v, y, by omega, ?_⟩
  unfold spec_DrawSplitObject.f
  refine Ev.bind0 e0 (Ev.bind0 e1 (Ev.bind0 e2 (Ev.bind0 e3 (Ev.bind e4 (Ev.now _)))))
/-! ### how many stripes -/
theorem w64n {q : Nat} (h : q ≤ 1000000) : wrap64 (q : Int) = (q : Int) := w64 (by omega) (by omega)
theorem tm5 {i : Nat} (h : i < 256) : wrap64 (1 + Int.tmod (i : Int) 5) = ((1 + i % 5 : Nat) : Int) := by rw [Int.tmod_eq_emod_of_nonneg (by omega), w64 (by omega) (by omega)]; omega
theorem tm4 (i : Nat) : Int.tmod (i : Int) 4 = ((i % 4 : Nat) : Int) := by rw [Int.tmod_eq_emod_of_nonneg (by omega)]; omega
theorem tm7 {i : Nat} (h : i < 256) : wrap64 (1 + Int.tmod (i : Int) 7) = ((1 + i % 7 : Nat) : Int) := by rw [Int.tmod_eq_emod_of_nonneg (by omega), w64 (by omega) (by omega)]; omega
theorem nat_div (a b : Nat) : Int.tdiv (a : Int) (b : Int) = ((a / b : Nat) : Int) := by rw [Int.tdiv_eq_ediv_of_nonneg (by omega)]; exact (Int.natCast_ediv a b).symm
theorem mul_w {K u P : Nat} (hP : P = K * u) (h : P ≤ 1000000) : wrap64 ((K : Int) * (u : Int)) = (P : Int) := by
  rw [← Int.natCast_mul, ← hP]; exact w64 (by omega) (by omega)
theorem count_f {K M u s P : Nat} (hF : Fine K M 0) (hu : 1 ≤ u) (hu2 : u ≤ 4096) (hP : P = K * u) (hP2 : P ≤ 1000) (hP1 : 1 ≤ P) (hs : s ≤ 100) : Ev (fun k => impl_StripeCount.f k (K : Int) (M : Int) 0 (u : Int) (s : Int)) (((s + P - 1) / P : Nat) : Int) := by
  have hq : (s + P - 1) / P ≤ s + P - 1 := Nat.div_le_self _ _
  have hq2 : (s + P - 1) / P ≤ 200 := by
    have h1 : s + P - 1 ≤ 100 * P + P - 1 := by have := Nat.mul_le_mul_left 100 hP1; omega
    have h2 := Nat.div_le_div_right (c := P) h1
    have h3 : (100 * P + P - 1) / P < 101 + 1 := (Nat.div_lt_iff_lt_mul (by omega)).2 (by omega)
    omega
  unfold impl_StripeCount.f
  refine Ev.bind0 (impl_fault hF) (Ev.ifT rfl (Ev.ifF (by omega) (Ev.ifF (by omega) (Ev.ifF (by omega) ?_))))
  rw [decide_eq_false (by omega)]
  refine Ev.step (fun k => by rw [impl_StripeCount.j0, mul_w hP (by omega)]) ?_
  refine Ev.ifF (by decide) (Ev.ifF (by omega) ?_)
  have w1 : wrap64 ((s : Int) + (P : Int)) = ((s + P : Nat) : Int) := add_w (by omega) (by omega)
  have w2 : wrap64 (((s + P : Nat) : Int) - 1) = ((s + P - 1 : Nat) : Int) := by rw [w64 (by omega) (by omega)]; omega
  rw [w1, w2, nat_div, w64n (Nat.le_trans hq2 (by decide))]
  generalize (s + P - 1) / P = q at hq2
  exact Ev.ifF (by omega) (Ev.now _)
theorem cover {s P : Nat} (h : 1 ≤ P) : s ≤ (s + P - 1) / P * P := by
  have h1 := Nat.div_add_mod (s + P - 1) P
  have h2 := Nat.mod_lt (s + P - 1) (show P > 0 by omega)
  rw [Nat.mul_comm] at h1
  omega
theorem below {s P i : Nat} (h : 1 ≤ P) (hi : i < (s + P - 1) / P) : i * P ≤ s := by
  have h1 : (i + 1) * P ≤ s + P - 1 := (Nat.le_div_iff_mul_le (by omega)).1 hi
  rw [Nat.succ_mul] at h1
  omega
theorem split_f {K M u P : Nat} {d : ByteArray} (hF : Fine K M 0) (hu : 1 ≤ u) (hu2 : u ≤ 4096) (hP : P = K * u) (hP2 : P ≤ 1000) (hP1 : 1 ≤ P) (hs : d.size ≤ 100) : Ev (fun k => impl_SplitObject.f k (K : Int) (M : Int) 0 (u : Int) d) (0, stripesV K M 0 u d ((d.size + P - 1) / P)) := by
  have hq2 : (d.size + P - 1) / P ≤ 200 := by
    have h1 : d.size + P - 1 ≤ 100 * P + P - 1 := by have := Nat.mul_le_mul_left 100 hP1; omega
    have h2 := Nat.div_le_div_right (c := P) h1
    have h3 : (100 * P + P - 1) / P < 101 + 1 := (Nat.div_lt_iff_lt_mul (by omega)).2 (by omega)
    omega
  obtain ⟨f1, f2, f3, f4, f5⟩ := id hF
  unfold impl_SplitObject.f
  refine Ev.bind (count_f hF hu hu2 hP hP2 hP1 hs) (Ev.ifF (Int.not_lt.2 (Int.natCast_nonneg _)) ?_)
  simp only [Int.toNat_natCast, Int.toNat_zero]
  refine Ev.ifT ⟨by omega, by omega, by omega, by omega, by omega, by omega, by omega, by omega, by omega, by omega, by omega, fun i hi => ?_⟩ (Ev.now _)
  rw [Nat.mul_assoc, ← hP]
  exact below hP1 hi
/-! ### the lost ones -/
def keptOf (ls : List Nat) (n : Nat) : List Nat := (List.range n).filter fun t => !decide (t ∈ ls)
theorem kept_mem {ls : List Nat} {n t : Nat} : t ∈ keptOf ls n ↔ t < n ∧ t ∉ ls := by unfold keptOf; rw [List.mem_filter, List.mem_range]; simp
theorem kept_nodup (ls : List Nat) (n : Nat) : (keptOf ls n).Nodup := List.Nodup.sublist List.filter_sublist List.nodup_range
theorem kept_len {ls : List Nat} {K M : Nat} (h : ls.length ≤ M) : K ≤ (keptOf ls (K + M)).length := by
  have e := count_split (fun t => decide (t ∈ ls)) (List.range (K + M))
  have h2 : ((List.range (K + M)).filter fun t => decide (t ∈ ls)).length ≤ ls.length := List.Nodup.length_le_of_subset (List.Nodup.sublist List.filter_sublist List.nodup_range) fun t m => by simpa using (List.mem_filter.1 m).2
  rw [List.length_range] at e
  unfold keptOf
  omega
theorem idx_w {i m : Nat} (hi : i ≤ 1000) (hm : m ≤ 1000) : wrap64 ((wrap64 (3 + (wrap64 ((i : Int) * 4)))) + (m : Int)) = ((3 + i * 4 + m : Nat) : Int) := by
  rw [w64 (x := (i : Int) * 4) (by omega) (by omega), w64 (x := 3 + (i : Int) * 4) (by omega) (by omega), w64 (by omega) (by omega)]; omega
theorem lost_loop {more : List Int} (hm : allU more) {K M i : Nat} (h1 : 1 ≤ K) (hK : K ≤ 5) (hM : M ≤ 3) (hi : i ≤ 1000) {d : ByteArray} {u sz : Int} {acc : List S55} {st : List S58} (hin : i < st.length) (hlen : (rd_T58 st (i : Int)).f0.length = K + M) {R : Bool}
    (next : ∀ ls : List Nat, ls.length = M → Ev (fun k => laws_FnJoined.l2 k more d u sz acc (i : Int) (ls.map Int.ofNat) 0 (K : Int) (M : Int) 0 0 st []) R) :
    ∀ (e m : Nat) (ls : List Nat), m + e = M → ls.length = m → Ev (fun k => laws_FnJoined.l1 k more d u sz acc (i : Int) (ls.map Int.ofNat) (m : Int) (K : Int) (M : Int) 0 0 st) R
  | 0, m, ls, he, hl => by
    refine Ev.step (fun k => by rw [laws_FnJoined.l1, add_w (by omega) (by omega)]) ?_
    exact Ev.ifF (by omega) (Ev.ifT (by omega) (Ev.ifT (by omega) (Ev.ifT (by rw [hlen]) (next ls (by omega)))))
  | e + 1, m, ls, he, hl => by
    obtain ⟨x, hx1, hx2⟩ := at_some hm (3 + i * 4 + m) (by omega)
    have IH := lost_loop hm h1 hK hM hi hin hlen next e (m + 1) (ls ++ [x % (K + M)]) (by omega) (by simp; omega)
    rw [List.map_append] at IH
    refine Ev.step (fun k => by rw [laws_FnJoined.l1, add_w (by omega) (by omega), idx_w hi (by omega), suc_w (by omega)]) ?_
    refine Ev.ifT (by omega) (Ev.bind0 hx2 (Ev.ifF (by omega) (Ev.ifT (by rw [List.length_map]; omega) ?_)))
    rw [mod_w]
    exact IH
theorem shard_loop {more : List Int} {K M i : Nat} (h1 : 1 ≤ K) (hK : K ≤ 5) (hM : M ≤ 3) (hi : i ≤ 1000) {d : ByteArray} {u sz : Int} {acc : List S55} (hac : acc.length ≤ 1000) {st : List S58} (hin : i < st.length) (hlen : (rd_T58 st (i : Int)).f0.length = K + M) {ls : List Nat} (hls : ls.length = M) {R : Bool}
    (next : Ev (fun k => laws_FnJoined.l0 k more d u sz (acc ++ [⟨shs (keptOf ls (K + M)) (rd_T58 st (i : Int)).f0 (K + M)⟩]) ((i + 1 : Nat) : Int) (K : Int) (M : Int) 0 0 st) R) :
    ∀ (e b : Nat), b + e = K + M → Ev (fun k => laws_FnJoined.l2 k more d u sz acc (i : Int) (ls.map Int.ofNat) (b : Int) (K : Int) (M : Int) 0 0 st ((shs (keptOf ls (K + M)) (rd_T58 st (i : Int)).f0 (K + M)).take b)) R
  | 0, b, he => by
    refine Ev.step (fun k => by rw [laws_FnJoined.l2, suc_w (show i < 1048576 by omega)]) ?_
    rw [List.take_of_length_le (by rw [shs_len]; omega)]
    exact Ev.ifT (by omega) (Ev.ifT (by omega) (Ev.ifF (by omega) (Ev.ifT (by omega) next)))
  | e + 1, b, he => by
    have IH := shard_loop h1 hK hM hi hac hin hlen hls next e (b + 1) (by omega)
    rw [shs_take _ _ (by omega)] at IH
    have hl : ((shs (keptOf ls (K + M)) (rd_T58 st (i : Int)).f0 (K + M)).take b).length < 5864062014805 := by rw [List.length_take, shs_len]; omega
    refine Ev.step (fun k => by rw [laws_FnJoined.l2, suc_w (show b < 1048576 by omega)]) ?_
    refine Ev.ifT (by omega) (Ev.ifT (by omega) (Ev.ifT (by omega) (Ev.bind (has_nat ls (by omega) b) ?_)))
    by_cases c : b ∈ ls
    · rw [if_neg (fun m => (kept_mem.1 m).2 c)] at IH
      rw [decide_eq_true c]
      exact Ev.ifT rfl (Ev.ifT hl IH)
    · rw [if_pos (kept_mem.2 ⟨by omega, c⟩)] at IH
      rw [decide_eq_false c]
      exact Ev.ifF (by decide) (Ev.ifT (by omega) (Ev.ifT hl IH))
/-! ### put together -/
theorem enc_take {K M G n : Nat} {data : List ByteArray} (hl : data.length = K) : (encV K M G n data).take K = data := by
  apply List.ext_getElem
  · rw [List.length_take, encV_len]; omega
  · intro j h1 h2
    have hj : j < K := by omega
    rw [List.getElem_take]
    unfold encV
    rw [List.getElem_map, List.getElem_range]
    unfold shardV
    rw [if_pos hj]
    unfold rdOf
    rw [Int.toNat_natCast, List.getD_eq_getElem?_getD, List.getElem?_eq_getElem h2]; rfl
def pre (d : ByteArray) (m : Nat) : List Int := (List.range m).map fun p : Nat => bt d (p : Int)
theorem pre_len (d : ByteArray) (m : Nat) : (pre d m).length = m := by simp [pre]
theorem pre_step (K u : Nat) (d : ByteArray) (i b : Nat) : pre d (i * K * u + b * u) ++ bytesOf (pieceS K u d i b) = pre d (i * K * u + (b + 1) * u) := by
  unfold pieceS
  rw [bytesOf_str (fun x m => by obtain ⟨j, _, rfl⟩ := List.mem_map.1 m; exact Coded.bt_byte d _)]
  unfold pre
  rw [Nat.succ_mul, ← Nat.add_assoc, List.range_add (n := i * K * u + b * u) (m := u), List.map_append, List.map_map]
  congr 1
  refine List.map_congr_left fun j _ => ?_
  show bt d ((i * K * u + (b * u + j) : Nat) : Int) = bt d ((i * K * u + b * u + j : Nat) : Int)
  rw [Nat.add_assoc]
theorem pre_all (d : ByteArray) {m : Nat} (h : d.size ≤ m) : strOfNums ((pre d m).take d.size) = d := by
  have e : (pre d m).take d.size = bytesOf d := by
    unfold pre
    rw [← List.map_take, List.take_range, Nat.min_eq_left h]
    apply List.ext_getElem
    · simp [bytesOf_length]
    · intro j h1 h2
      rw [List.getElem_map, List.getElem_range, bt_bytes, List.getD_eq_getElem?_getD, List.getElem?_eq_getElem h2]; rfl
  rw [e, str_bytesOf]
theorem rd_dataS (K u : Nat) (d : ByteArray) (i b : Nat) (h : b < K) : rdOf ByteArray.empty (dataS K u d i) (b : Int) = pieceS K u d i b := by
  unfold rdOf dataS
  rw [Int.toNat_natCast, List.getD_eq_getElem?_getD, List.getElem?_map, List.getElem?_range h]; rfl
theorem join_l1 {K M u n i : Nat} {d : ByteArray} {acc : List S55} (hK : K ≤ 5) (hu2 : u ≤ 7) (hi : i < n) (hn : n ≤ 200) {R : Int × ByteArray}
    (next : Ev (fun k => impl_JoinObject.l0 k (u : Int) (d.size : Int) (pre d ((i + 1) * K * u)) acc (n : Int) ((i + 1 : Nat) : Int) (K : Int) (M : Int) 0) R) :
    ∀ (e b : Nat), b + e = K → Ev (fun k => impl_JoinObject.l1 k (u : Int) (d.size : Int) (pre d (i * K * u + b * u)) acc (n : Int) (i : Int) (dataS K u d i) (K : Int) (b : Int) (K : Int) (M : Int) 0) R
  | 0, b, he => by
    obtain rfl : b = K := by omega
    refine Ev.step (fun k => by rw [impl_JoinObject.l1, suc_w (show i < 1048576 by omega)]) ?_
    refine Ev.ifF (by omega) ?_
    rw [show (i + 1) * b * u = i * b * u + b * u by rw [Nat.succ_mul, Nat.add_mul]] at next
    exact next
  | e + 1, b, he => by
    have IH := join_l1 hK hu2 hi hn next e (b + 1) (by omega)
    have q1 : i * K * u ≤ 200 * 5 * 7 := Nat.mul_le_mul (Nat.mul_le_mul (by omega) hK) hu2
    have q2 : b * u ≤ 5 * 7 := Nat.mul_le_mul (by omega) hu2
    have hsz : (pieceS K u d i b).size = u := by
      have := dataS_size K u d i b (by rw [dataS_len]; omega)
      rwa [rd_dataS K u d i b (by omega)] at this
    refine Ev.step (fun k => by rw [impl_JoinObject.l1, suc_w (show b < 1048576 by omega), rd_dataS K u d i b (by omega)]) ?_
    refine Ev.ifT (by omega) (Ev.ifT (by omega) (Ev.ifT (by rw [dataS_len]; omega) (Ev.ifT (by rw [pre_len, hsz]; omega) ?_)))
    rw [pre_step]
    exact IH
def Good (K M u : Nat) (d : ByteArray) (i : Nat) (x : S55) : Prop := ∃ ks : List Nat, K ≤ ks.length ∧ ks.Nodup ∧ (∀ t ∈ ks, t < K + M) ∧ x.f0 = shs ks (encV K M 0 u (dataS K u d i)) (K + M)
theorem join_l0 {K M u n : Nat} {d : ByteArray} {acc : List S55} (hF : Fine K M 0) (hK : K ≤ 5) (hu : 1 ≤ u) (hu2 : u ≤ 7) (hn : n ≤ 200) (ha : acc.length = n) (hg : ∀ i : Nat, i < n → Good K M u d i (rd_T55 acc (i : Int))) (hs : d.size ≤ n * K * u) :
    ∀ (e i : Nat), i + e = n → Ev (fun k => impl_JoinObject.l0 k (u : Int) (d.size : Int) (pre d (i * K * u)) acc (n : Int) (i : Int) (K : Int) (M : Int) 0) (0, d)
  | 0, i, he => by
    obtain rfl : i = n := by omega
    refine Ev.step (fun k => by rw [impl_JoinObject.l0]) ?_
    refine Ev.ifF (by omega) (Ev.ifT (by omega) (Ev.ifT (by rw [pre_len]; omega) ?_))
    rw [Int.toNat_natCast, pre_all d hs]
    exact Ev.now _
  | e + 1, i, he => by
    have IH := join_l0 (M := M) hF hK hu hu2 hn ha hg hs e (i + 1) (by omega)
    have hk1 := hF.k1
    obtain ⟨ks, g1, g2, g3, g4⟩ := hg i (by omega)
    have hd := dataS_size K u d i
    have hel : (encV K M 0 u (dataS K u d i)).length = K + M := by rw [encV_len]; rfl
    have h0 : (rdOf ByteArray.empty (encV K M 0 u (dataS K u d i)) 0).size = u := by
      have := enc_rd (K := K) (M := M) (G := 0) (n := u) (data := dataS K u d i) (t := 0) (by omega)
      rw [show ((0 : Nat) : Int) = 0 from rfl] at this
      rw [this]
      exact shard_size (fun j hj => hd j (by rw [dataS_len]; exact hj)) 0
    refine Ev.step (fun k => by rw [impl_JoinObject.l0]) ?_
    refine Ev.ifT (by omega) (Ev.ifT (by omega) (Ev.ifT (by omega) ?_))
    rw [g4]
    refine Ev.bind (decode_f hF (dataS_len K u d i) hu (by omega) hd g1 g2 g3) ?_
    refine Ev.ifT rfl (Ev.ifT (by rw [hel]; omega) ?_)
    rw [h0]
    refine Ev.ifT rfl (Ev.ifT (by omega) (Ev.ifT (by rw [hel]; omega) ?_))
    rw [Int.toNat_natCast, enc_take (dataS_len K u d i)]
    refine Ev.bind0 rfl ?_
    rw [dataS_len]
    have := join_l1 (M := M) (acc := acc) hK hu2 (show i < n by omega) hn IH K 0 (by omega)
    rw [Nat.zero_mul, Nat.add_zero] at this
    exact this
theorem rd_stripe {K M u n i : Nat} {d : ByteArray} (h : i < n) : (rd_T58 (stripesV K M 0 u d n) (i : Int)).f0 = encV K M 0 u (dataS K u d i) := by
  unfold rd_T58 stripesV
  rw [Int.toNat_natCast, List.getD_eq_getElem?_getD, List.getElem?_map, List.getElem?_range h]; rfl
theorem rd_snoc {acc : List S55} {x : S55} {i j : Nat} (ha : acc.length = i) : rd_T55 (acc ++ [x]) (j : Int) = if j < i then rd_T55 acc (j : Int) else if j = i then x else z55 := by
  unfold rd_T55
  rw [Int.toNat_natCast, List.getD_eq_getElem?_getD, List.getD_eq_getElem?_getD]
  by_cases c : j < i
  · rw [if_pos c, List.getElem?_append_left (by omega)]
  · rw [if_neg c, List.getElem?_append_right (by omega), ha]
    by_cases e : j = i
    · subst e; rw [if_pos rfl, Nat.sub_self]; rfl
    · rw [if_neg e, List.getElem?_eq_none (by simp; omega)]; rfl
theorem stripes_loop {more : List Int} (hm : allU more) {K M u n : Nat} {d : ByteArray} (hF : Fine K M 0) (hK : K ≤ 5) (hM : M ≤ 3) (hu : 1 ≤ u) (hu2 : u ≤ 7) (hn : n ≤ 200)
    (fin : ∀ acc : List S55, acc.length = n → (∀ i : Nat, i < n → Good K M u d i (rd_T55 acc (i : Int))) → Ev (fun k => impl_JoinObject.f k (K : Int) (M : Int) 0 (u : Int) (d.size : Int) acc) (0, d)) :
    ∀ (e i : Nat) (acc : List S55), i + e = n → acc.length = i → (∀ j : Nat, j < i → Good K M u d j (rd_T55 acc (j : Int))) → Ev (fun k => laws_FnJoined.l0 k more d (u : Int) (d.size : Int) acc (i : Int) (K : Int) (M : Int) 0 0 (stripesV K M 0 u d n)) true
  | 0, i, acc, he, ha, hg => by
    obtain rfl : i = n := by omega
    refine Ev.step (fun k => by rw [laws_FnJoined.l0, stripesV_len]) ?_
    refine Ev.ifF (by omega) (Ev.bind (fin acc ha hg) (Ev.ifT rfl ?_))
    simp only [beq_self_eq_true]
    exact Ev.now _
  | e + 1, i, acc, he, ha, hg => by
    have hk1 := hF.k1
    have hr := rd_stripe (K := K) (M := M) (u := u) (n := n) (i := i) (d := d) (by omega)
    have hlen : (rd_T58 (stripesV K M 0 u d n) (i : Int)).f0.length = K + M := by rw [hr, encV_len]; rfl
    refine Ev.step (fun k => by rw [laws_FnJoined.l0, stripesV_len]) ?_
    refine Ev.ifT (by omega) ?_
    refine lost_loop hm hk1 hK hM (by omega) (by rw [stripesV_len]; omega) hlen (fun ls hls => ?_) M 0 [] (by omega) rfl
    have IH := stripes_loop hm hF hK hM hu hu2 hn fin e (i + 1) (acc ++ [⟨shs (keptOf ls (K + M)) (rd_T58 (stripesV K M 0 u d n) (i : Int)).f0 (K + M)⟩]) (by omega) (by simp [ha]) (fun j hj => by
      rw [rd_snoc ha]
      by_cases c : j < i
      · rw [if_pos c]; exact hg j c
      · obtain rfl : j = i := by omega
        rw [if_neg c, if_pos rfl]
        exact ⟨keptOf ls (K + M), kept_len (by omega), kept_nodup _ _, fun t m => (kept_mem.1 m).1, by rw [hr]⟩)
    exact shard_loop hk1 hK hM (by omega) (by omega) (by rw [stripesV_len]; omega) hlen hls IH (K + M) 0 (by omega)
theorem joined {l0 l1 : List Int} (h0 : Bytes l0) (hn : l0.length ≤ 1048576) (h1 : allU l1) : Ev (fun k => laws_FnJoined.j0 k l0 l1 false) true := by
  obtain ⟨a, b, c, e, ys, hy, hdraw⟩ := draw_f h0 hn
  obtain ⟨x, hx, ex⟩ := at_some h1 0 (by omega)
  obtain ⟨y, hyy, ey⟩ := at_some h1 1 (by omega)
  obtain ⟨z, hz, ez⟩ := at_some h1 2 (by omega)
  have hsz : (strOfNums ys).size ≤ 100 := by rw [strOfNums_size]; omega
  generalize strOfNums ys = d at hdraw hsz
  refine Ev.step (fun k => by rw [laws_FnJoined.j0]) ?_
  refine Ev.ifF (by decide) (Ev.bind hdraw (Ev.bind0 ex (Ev.bind0 ey (Ev.bind0 ez ?_))))
  rw [tm5 hx, tm4, tm7 hz]
  generalize hKK : 1 + x % 5 = K
  generalize hMM : y % 4 = M
  generalize huu : 1 + z % 7 = u
  have hF : Fine K M 0 := ⟨by omega, by omega, by omega, by omega, by omega⟩
  obtain ⟨P, hP⟩ : ∃ P, P = K * u := ⟨_, rfl⟩
  have hP2 : P ≤ 5 * 7 := by rw [hP]; exact Nat.mul_le_mul (by omega) (by omega)
  have hP1 : 1 ≤ P := by rw [hP]; exact Nat.mul_pos (show 0 < K by omega) (show 0 < u by omega)
  have hcount := count_f (M := M) (s := d.size) hF (show 1 ≤ u by omega) (by omega) hP (by omega) hP1 hsz
  refine Ev.bind (split_f hF (by omega) (by omega) hP (by omega) hP1 hsz) ?_
  refine Ev.ifT rfl (Ev.bind hcount ?_)
  have hq : (d.size + P - 1) / P ≤ 200 := by
    have h1 : d.size + P - 1 ≤ 100 * P + P - 1 := by have := Nat.mul_le_mul_left 100 hP1; omega
    have h2 := Nat.div_le_div_right (c := P) h1
    have h3 : (100 * P + P - 1) / P < 101 + 1 := (Nat.div_lt_iff_lt_mul (by omega)).2 (by omega)
    omega
  have hcov := cover (s := d.size) hP1
  generalize hnn : (d.size + P - 1) / P = n at hcount hq hcov
  rw [hP, ← Nat.mul_assoc] at hcov
  refine Ev.step (fun k => by rw [laws_FnJoined.j1]) ?_
  refine Ev.ifF (by rw [stripesV_len]; simp) ?_
  refine stripes_loop h1 hF (by omega) (by omega) (by omega) (by omega) hq (fun acc ha hg => ?_) n 0 [] (by omega) rfl (fun j hj => by omega)
  unfold impl_JoinObject.f
  refine Ev.bind hcount (Ev.ifF (by omega) ?_)
  rw [ha, show ((n : Int) != (n : Int)) = false by simp]
  refine Ev.step (fun k => by rw [impl_JoinObject.j0]) ?_
  refine Ev.ifF (by decide) ?_
  rw [ha]
  have := join_l0 (M := M) hF (by omega) (by omega) (by omega) hq ha hg hcov n 0 (by omega)
  rw [Nat.zero_mul, Nat.zero_mul] at this
  exact this
theorem FnJoined : laws_FnJoined.Pure := fun l0 l1 h0 h1 => by
  have hn : Ev (fun k => laws_FnJoined.f k l0 l1) true := by
    have hT : Ev (fun k => laws_FnJoined.j0 k l0 l1 true) true := Ev.step (fun k => by rw [laws_FnJoined.j0, if_pos rfl]) (Ev.now _)
    unfold laws_FnJoined.f
    by_cases c : (l0.length : Int) > 1048576
    · exact Ev.ifT c hT
    · refine Ev.ifF c ?_
      by_cases c2 : (l1.length : Int) > 1048576
      · rw [decide_eq_true c2]; exact hT
      · rw [decide_eq_false c2]; exact joined (fun y m => wf_u8 (h0.2 y m)) (by omega) h1.2
  exact hn.rounds
end Go.Proofs.Ytffhbpepppodeaa.Pure
