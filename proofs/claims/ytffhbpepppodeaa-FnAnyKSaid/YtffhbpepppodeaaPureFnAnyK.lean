/-
  The plain law AnyK: any K shards give all shards back; for all drawn bytes.
-/
import Derived.Test.YtffhbpepppodeaaPureCodeFnAnyK
namespace Go.Proofs.Ytffhbpepppodeaa.Pure
open Go.RowKit Go.Proofs.Ytffhbpepppodeaa.PFnAnyK Go.Proofs.Ytffhbpepppodeaa.Base Go.Proofs.YtffhbpepppodeaaW.PrintWords Go.Proofs.YtffhbpepppodeaaW.PrintLast Go.Proofs.YtffhbpepppodeaaW.PrintMore
open Go.Proofs.Ytffhbpepppodeaa.Gf Go.Proofs.Ytffhbpepppodeaa.Reduce Go.Proofs.Ytffhbpepppodeaa.Grid Go.Proofs.Ytffhbpepppodeaa.Field Go.Proofs.Ytffhbpepppodeaa.Elim Go.Proofs.Ytffhbpepppodeaa.Cauchy Go.Proofs.Ytffhbpepppodeaa.Plant Go.Proofs.Ytffhbpepppodeaa.Plant2 Go.Proofs.Ytffhbpepppodeaa.Plant4 Go.Proofs.Ytffhbpepppodeaa.Plant5 Go.Proofs.Ytffhbpepppodeaa.Plant6
open Go.Proofs.Ytffhbpepppodeaa.Coded (bt_byte bt_str str_ext mix_sum data_again shard_size shard_byte basis_all heldT held_mem held_nodup held_snoc dcol dcol_byt)

theorem add_w {a b : Nat} (ha : a < 1048576) (hb : b < 1048576) : wrap64 ((a : Int) + (b : Int)) = ((a + b : Nat) : Int) := by rw [w64 (by omega) (by omega)]; rfl
theorem div_w {i : Nat} (h : i < 1048576) : wrap64 (Int.tdiv (i : Int) 40) = ((i / 40 : Nat) : Int) := by rw [Int.tdiv_eq_ediv_of_nonneg (by omega), w64 (by omega) (by omega)]; omega
theorem tm40 (i : Nat) : Int.tmod (i : Int) 40 = ((i % 40 : Nat) : Int) := by rw [Int.tmod_eq_emod_of_nonneg (by omega)]; omega
theorem tm7 (i : Nat) : Int.tmod (i : Int) 7 = ((i % 7 : Nat) : Int) := by rw [Int.tmod_eq_emod_of_nonneg (by omega)]; omega
theorem tm8 {i : Nat} (h : i < 1048576) : wrap64 (1 + Int.tmod (i : Int) 8) = ((1 + i % 8 : Nat) : Int) := by rw [Int.tmod_eq_emod_of_nonneg (by omega), w64 (by omega) (by omega)]; omega
def allU (l : List Int) : Prop := ∀ y ∈ l, (Lit.int .u8 y).wf = true
theorem at_some {l : List Int} (hl : allU l) (i : Nat) (hi : i ≤ 1000000) : ∃ x : Nat, x < 256 ∧ laws_lwAt.f l (i : Int) = some (x : Int) := by
  unfold laws_lwAt.f
  by_cases c : i < l.length
  · have hb : 0 ≤ rd l (i : Int) ∧ rd l (i : Int) ≤ 255 := by
      unfold rd
      rw [Int.toNat_natCast]
      exact wf_u8 (hl _ (getD_mem 0 c))
    refine ⟨(rd l (i : Int)).toNat, by omega, ?_⟩
    rw [if_pos (by omega), if_pos (by omega), w64 (by omega) (by omega)]
    exact congrArg some (Int.toNat_of_nonneg hb.1).symm
  · refine ⟨(i * 61 + 29) % 256, by omega, ?_⟩
    rw [if_neg (by omega), w64 (x := (i : Int) * 61) (by omega) (by omega), w64 (by omega) (by omega), Int.tmod_eq_emod_of_nonneg (by omega)]
    congr 1
theorem data_l1 {l : List Int} (hl : allU l) {n K : Nat} (hn : n ≤ 8) (hK : K ≤ 32) {j : Nat} (hj : j < K) {acc : List ByteArray} (ha : acc.length ≤ 32) : ∀ (d b : Nat) (x8 : List Int), b + d = n → x8.length = b → ∃ t : ByteArray, t.size = n ∧ ∀ R, Ev (fun k => laws_lwData.l0 k l (K : Int) (n : Int) (acc ++ [t]) ((j + 1 : Nat) : Int)) R →
    Ev (fun k => laws_lwData.l1 k l (K : Int) (n : Int) acc (j : Int) x8 (b : Int)) R
  | 0, b, x8, hd, hx => by
    refine ⟨strOfNums x8, by rw [strOfNums_size]; omega, fun R h => ?_⟩
    refine Ev.step (fun k => by rw [laws_lwData.l1]) ?_
    refine Ev.ifF (by omega) (Ev.ifT (by omega) ?_)
    rw [w64 (by omega) (by omega)]
    exact h
  | d + 1, b, x8, hd, hx => by
    obtain ⟨x, hx1, hx2⟩ := at_some hl (10 + j * 8 + b) (by omega)
    obtain ⟨t, ht, H⟩ := data_l1 hl hn hK hj ha d (b + 1) (x8 ++ [((x : Int)) % 256]) (by omega) (by simp [hx])
    refine ⟨t, ht, fun R h => ?_⟩
    refine Ev.step (fun k => by rw [laws_lwData.l1]) ?_
    refine Ev.ifT (by omega) ?_
    rw [w64 (x := (j : Int) * 8) (by omega) (by omega), w64 (x := 10 + (j : Int) * 8) (by omega) (by omega), w64 (x := 10 + (j : Int) * 8 + (b : Int)) (by omega) (by omega)]
    have e : 10 + (j : Int) * 8 + (b : Int) = ((10 + j * 8 + b : Nat) : Int) := by omega
    rw [e]
    refine Ev.bind0 hx2 ?_
    refine Ev.ifT (by omega) ?_
    rw [w64 (by omega) (by omega)]
    exact H R h
theorem data_l0 {l : List Int} (hl : allU l) {n K : Nat} (hn : n ≤ 8) (hK : K ≤ 32) : ∀ (d j : Nat) (acc : List ByteArray), j + d = K → acc.length = j → (∀ t ∈ acc, t.size = n) → ∃ out : List ByteArray, out.length = K ∧ (∀ t ∈ out, t.size = n) ∧ Ev (fun k => laws_lwData.l0 k l (K : Int) (n : Int) acc (j : Int)) out
  | 0, j, acc, hd, ha, hs => ⟨acc, by omega, hs, Ev.step (f := fun _ => some acc) (fun k => by rw [laws_lwData.l0, if_neg (by omega)]) (Ev.now _)⟩
  | d + 1, j, acc, hd, ha, hs => by
    obtain ⟨t, ht, H⟩ := data_l1 hl hn hK (j := j) (by omega) (acc := acc) (by omega) n 0 [] (by omega) rfl
    obtain ⟨out, h1, h2, h3⟩ := data_l0 hl hn hK d (j + 1) (acc ++ [t]) (by omega) (by simp [ha]) (fun x m => by
      rcases List.mem_append.1 m with m | m
      · exact hs x m
      · rw [List.mem_singleton.1 m]; exact ht)
    refine ⟨out, h1, h2, ?_⟩
    refine Ev.step (fun k => by rw [laws_lwData.l0]) ?_
    exact Ev.ifT (by omega) (H out h3)
theorem data_f {l : List Int} (hl : allU l) {K : Nat} (hK : K ≤ 32) : ∃ n out, 1 ≤ n ∧ n ≤ 8 ∧ out.length = K ∧ (∀ j : Nat, j < out.length → (rdOf ByteArray.empty out (j : Int)).size = n) ∧ Ev (fun k => laws_lwData.f k l (K : Int)) out := by
  obtain ⟨x, hx1, hx2⟩ := at_some hl 9 (by omega)
  obtain ⟨out, h1, h2, h3⟩ := data_l0 hl (n := 1 + x % 8) (by omega) hK K 0 [] (by omega) rfl (fun t m => by simp at m)
  refine ⟨1 + x % 8, out, by omega, by omega, h1, fun j hj => h2 _ (by unfold rdOf; rw [Int.toNat_natCast]; exact getD_mem _ hj), ?_⟩
  unfold laws_lwData.f
  refine Ev.bind0 hx2 ?_
  rw [tm8 (by omega)]
  exact h3
theorem has_loop (l : List Int) (hl : l.length ≤ 1048576) (x : Int) : ∀ (d i : Nat), i + d = l.length → Ev (fun k => laws_lwHas.l0 k l x (i : Int)) (decide (x ∈ l.drop i))
  | 0, i, hd => by
    rw [List.drop_of_length_le (by omega), decide_eq_false (by simp)]
    exact Ev.step (fun k => by rw [laws_lwHas.l0, if_neg (by omega)]) (Ev.now _)
  | d + 1, i, hd => by
    have hi : i < l.length := by omega
    have e : rd l (i : Int) = l[i] := by unfold rd; rw [Int.toNat_natCast, List.getD_eq_getElem?_getD, List.getElem?_eq_getElem hi]; rfl
    refine Ev.step (fun k => by rw [laws_lwHas.l0]) ?_
    refine Ev.ifT (by omega) (Ev.ifT (by omega) ?_)
    rw [e, List.drop_eq_getElem_cons hi]
    by_cases c : l[i] = x
    · rw [decide_eq_true (by rw [c]; exact List.mem_cons_self)]
      exact Ev.ifT c (Ev.now _)
    · have e2 : decide (x ∈ l[i] :: l.drop (i + 1)) = decide (x ∈ l.drop (i + 1)) := decide_eq_decide.2 ⟨fun m => (List.mem_cons.1 m).resolve_left (Ne.symm c), List.mem_cons_of_mem _⟩
      rw [e2]
      refine Ev.ifF c ?_
      rw [w64 (by omega) (by omega)]
      exact has_loop l hl x d (i + 1) (by omega)
theorem has_f (l : List Int) (hl : l.length ≤ 1048576) (x : Int) : Ev (fun k => laws_lwHas.f k l x) (decide (x ∈ l)) := has_loop l hl x l.length 0 (by omega)
theorem has_nat (l : List Nat) (hl : l.length ≤ 1048576) (x : Nat) : Ev (fun k => laws_lwHas.f k (l.map Int.ofNat) (x : Int)) (decide (x ∈ l)) := by
  have h := has_f (l.map Int.ofNat) (by simpa using hl) (x : Int)
  have e : decide ((x : Int) ∈ l.map Int.ofNat) = decide (x ∈ l) := decide_eq_decide.2 ⟨fun m => by
    obtain ⟨y, hy, e⟩ := List.mem_map.1 m
    rw [← Int.ofNat.inj e]; exact hy, fun m => List.mem_map.2 ⟨x, m, rfl⟩⟩
  rwa [e] at h

theorem residues {n v : Nat} (hn : 1 ≤ n) {ks : List Nat} (h : ∀ t, t < n → (v + t) % n ∈ ks) : n ≤ ks.length := by
  have hsub : List.range n ⊆ ks := fun r m => by
    have hr := List.mem_range.1 m
    have := h ((r + (n - 1) * v) % n) (Nat.mod_lt _ (by omega))
    obtain ⟨m', rfl⟩ : ∃ m', n = m' + 1 := ⟨n - 1, by omega⟩
    rw [Nat.add_mod_mod, show v + (r + (m' + 1 - 1) * v) = r + (m' + 1) * v by rw [Nat.succ_mul, Nat.add_sub_cancel]; omega, Nat.add_mul_mod_self_left, Nat.mod_eq_of_lt hr] at this
    exact this
  have := List.Nodup.length_le_of_subset List.nodup_range hsub
  rwa [List.length_range] at this
theorem keep_loop {more : List Int} (hm : allU more) {K M : Nat} (h1 : 1 ≤ K) (hK : K ≤ 8) (hM : M ≤ 6) {v0 : Nat} (hv0 : laws_lwAt.f more ((0 : Nat) : Int) = some (v0 : Int)) {en : List ByteArray} {R : Bool}
    (next : ∀ ks : List Nat, ks.length = K → ks.Nodup → (∀ t ∈ ks, t < K + M) → Ev (fun k => laws_FnAnyK.l1 k (ks.map Int.ofNat) [] 0 (K : Int) (M : Int) 0 0 en) R) :
    ∀ (d i : Nat) (ks : List Nat), i + d = 40 * (K + M) → ks.length ≤ K → ks.Nodup → (∀ t ∈ ks, t < K + M) → (∀ t, 40 * t < i → (v0 + t) % (K + M) ∈ ks) → Ev (fun k => laws_FnAnyK.l0 k more (ks.map Int.ofNat) (i : Int) (K : Int) (M : Int) 0 0 en) R
  | d, i, ks, hd, hl, hn, ht, hi => by
    have hlen : (((ks.map Int.ofNat).length : Nat) : Int) = (ks.length : Int) := by rw [List.length_map]
    refine Ev.step (fun k => by rw [laws_FnAnyK.l0, hlen]) ?_
    by_cases c : ks.length < K
    · refine Ev.ifT (by omega) ?_
      rcases d with _ | d
      · have := residues (n := K + M) (v := v0) (by omega) (ks := ks) fun t ht => hi t (by omega)
        omega
      obtain ⟨x, hx1, hx2⟩ := at_some hm (i % 40) (by omega)
      rw [tm40]
      refine Ev.bind0 hx2 ?_
      rw [add_w (by omega) (by omega), div_w (by omega), add_w (by omega) (by omega), mod_w, suc_w (by omega)]
      refine Ev.ifF (by omega) ?_
      refine Ev.bind (has_nat ks (by omega) ((x + i / 40) % (K + M))) ?_
      have hstep : ∀ ks' : List Nat, (∀ t ∈ ks, t ∈ ks') → (x + i / 40) % (K + M) ∈ ks' → ∀ t, 40 * t < i + 1 → (v0 + t) % (K + M) ∈ ks' := fun ks' hs hmem t htl => by
        by_cases e : 40 * t = i
        · have h0 : i % 40 = 0 := by omega
          rw [h0] at hx2
          have hxv : x = v0 := by
            have := hx2.symm.trans hv0
            exact Int.ofNat.inj (Option.some.inj this)
          have hit : i / 40 = t := by omega
          rw [hxv, hit] at hmem
          exact hmem
        · exact hs _ (hi t (by omega))
      have hlt : (x + i / 40) % (K + M) < K + M := Nat.mod_lt _ (by omega)
      by_cases c2 : (x + i / 40) % (K + M) ∈ ks
      · rw [decide_eq_true c2]
        exact Ev.ifT rfl (keep_loop hm h1 hK hM hv0 next d (i + 1) ks (by omega) hl hn ht (hstep ks (fun _ m => m) c2))
      · rw [decide_eq_false c2]
        refine Ev.ifF (by decide) ?_
        refine Ev.ifT (by rw [List.length_map]; omega) ?_
        have := keep_loop hm h1 hK hM hv0 next d (i + 1) (ks ++ [(x + i / 40) % (K + M)]) (by omega) (by simp; omega) (List.nodup_append.2 ⟨hn, by simp, fun a ma b mb => by
          rw [List.mem_singleton.1 mb]; exact fun e => c2 (e ▸ ma)⟩) (fun t m => by
            rcases List.mem_append.1 m with m | m
            · exact ht t m
            · rw [List.mem_singleton.1 m]; exact hlt) (hstep _ (fun _ m => List.mem_append_left _ m) (by simp))
        rw [List.map_append] at this
        exact this
    · refine Ev.ifF (by omega) ?_
      exact next ks (by omega) hn ht
/-! ### the shards -/
def junk : ByteArray := ⟨#[106, 117, 110, 107]⟩
def shs (ks : List Nat) (en : List ByteArray) (n : Nat) : List S61 := (List.range n).map fun (i : Nat) => if i ∈ ks then ⟨true, rdOf ByteArray.empty en (i : Int)⟩ else ⟨false, junk⟩
theorem shs_len (ks : List Nat) (en : List ByteArray) (n : Nat) : (shs ks en n).length = n := by simp [shs]
theorem shs_take (ks : List Nat) (en : List ByteArray) {n i : Nat} (h : i < n) : (shs ks en n).take (i + 1) = (shs ks en n).take i ++ [if i ∈ ks then ⟨true, rdOf ByteArray.empty en (i : Int)⟩ else ⟨false, junk⟩] := by
  rw [List.take_succ_eq_append_getElem (by rw [shs_len]; exact h)]
  congr 2
  simp [shs]
theorem shard_loop {K M : Nat} (h1 : 1 ≤ K) (hK : K ≤ 8) (hM : M ≤ 6) {en : List ByteArray} (hen : en.length = K + M) {ks : List Nat} (hks : ks.length = K) {R : Bool}
    (next : Ev (fun k => (impl_DecodeShards.f k (K : Int) (M : Int) 0 (shs ks en (K + M))).bind fun bt239 => (if bt239.1 = 0 then ((laws_lwTexts.f k bt239.2 en).bind fun t244 => (some t244)) else (some false))) R) :
    ∀ (d i : Nat), i + d = K + M → Ev (fun k => laws_FnAnyK.l1 k (ks.map Int.ofNat) ((shs ks en (K + M)).take i) (i : Int) (K : Int) (M : Int) 0 0 en) R
  | 0, i, hd => by
    refine Ev.step (fun k => by rw [laws_FnAnyK.l1, add_w (by omega) (by omega)]) ?_
    refine Ev.ifF (by omega) ?_
    rw [List.take_of_length_le (by rw [shs_len]; omega)]
    exact next
  | d + 1, i, hd => by
    have IH := shard_loop h1 hK hM hen hks next d (i + 1) (by omega)
    rw [shs_take ks en (by omega)] at IH
    have hl : ((shs ks en (K + M)).take i).length < 5864062014805 := by rw [List.length_take, shs_len]; omega
    refine Ev.step (fun k => by rw [laws_FnAnyK.l1, add_w (by omega) (by omega), suc_w (by omega)]) ?_
    refine Ev.ifT (by omega) ?_
    refine Ev.bind (has_nat ks (by omega) i) ?_
    by_cases c : i ∈ ks
    · rw [if_pos c] at IH
      rw [decide_eq_true c]
      exact Ev.ifT rfl (Ev.ifT (by omega) (Ev.ifT (by omega) (Ev.ifT hl IH)))
    · rw [if_neg c] at IH
      rw [decide_eq_false c]
      exact Ev.ifF (by decide) (Ev.ifT hl IH)
theorem rd_shs (ks : List Nat) (en : List ByteArray) {n i : Nat} (h : i < n) : rd_T61 (shs ks en n) (i : Int) = if i ∈ ks then ⟨true, rdOf ByteArray.empty en (i : Int)⟩ else ⟨false, junk⟩ := by
  unfold rd_T61 shs
  rw [Int.toNat_natCast, List.getD_eq_getElem?_getD, List.getElem?_map, List.getElem?_range h]
  rfl
def hvOf (ks : List Nat) (n : Nat) : List Bool := (List.range n).map fun i => decide (i ∈ ks)
def txOf (ks : List Nat) (en : List ByteArray) (n : Nat) : List ByteArray := (List.range n).map fun (i : Nat) => if i ∈ ks then rdOf ByteArray.empty en (i : Int) else ⟨#[]⟩
def hlOf (ks : List Nat) (en : List ByteArray) (n : Nat) : List ByteArray := ((List.range n).filter fun i => decide (i ∈ ks)).map fun (i : Nat) => rdOf ByteArray.empty en (i : Int)
theorem hl_len (ks : List Nat) (en : List ByteArray) (n : Nat) : (hlOf ks en n).length ≤ n := by
  unfold hlOf
  rw [List.length_map]
  exact Nat.le_trans (List.length_filter_le _ _) (by simp)
theorem hl_succ (ks : List Nat) (en : List ByteArray) (n : Nat) : hlOf ks en (n + 1) = if n ∈ ks then hlOf ks en n ++ [rdOf ByteArray.empty en (n : Int)] else hlOf ks en n := by
  unfold hlOf
  rw [List.range_succ, List.filter_append, List.map_append]
  by_cases c : n ∈ ks
  · rw [if_pos c, List.filter_cons_of_pos (by simpa using c)]; rfl
  · rw [if_neg c, List.filter_cons_of_neg (by simpa using c)]; simp
theorem held_loop (ks : List Nat) (en : List ByteArray) {n : Nat} (hn : n ≤ 64) : ∀ (d i : Nat), i + d = n → Ev (fun k => impl_heldOf.l0 k ((List.range n).map fun b => if b < i then decide (b ∈ ks) else false) ((List.range n).map fun (b : Nat) => if b < i ∧ b ∈ ks then rdOf ByteArray.empty en (b : Int) else ⟨#[]⟩) (hlOf ks en i) (shs ks en n) (n : Int) (i : Int)) (hvOf ks n, txOf ks en n, hlOf ks en n)
  | 0, i, hd => by
    obtain rfl : i = n := by omega
    refine Ev.step (f := fun _ => some (hvOf ks i, txOf ks en i, hlOf ks en i)) (fun k => ?_) (Ev.now _)
    rw [impl_heldOf.l0, if_neg (by omega)]
    unfold hvOf txOf
    rw [map_congr_range (g := fun b => decide (b ∈ ks)) fun b hb => if_pos hb, map_congr_range (g := fun (b : Nat) => if b ∈ ks then rdOf ByteArray.empty en (b : Int) else ⟨#[]⟩) fun b hb => by
      by_cases c : b ∈ ks
      · rw [if_pos c, if_pos ⟨hb, c⟩]
      · rw [if_neg c, if_neg (fun e => c e.2)]]
  | d + 1, i, hd => by
    have IH := held_loop ks en hn d (i + 1) (by omega)
    have er := rd_shs ks en (n := n) (i := i) (by omega)
    have hl := hl_len ks en i
    rw [hl_succ] at IH
    have eA : ((List.range n).map fun b => if b < i then decide (b ∈ ks) else false).set i (decide (i ∈ ks)) = (List.range n).map fun b => if b < i + 1 then decide (b ∈ ks) else false := set_map (by rw [if_pos (Nat.lt_succ_self i)]) fun b hb => by
      by_cases c : b < i
      · rw [if_pos c, if_pos (Nat.lt_succ_of_lt c)]
      · rw [if_neg c, if_neg (fun e => c (Nat.lt_of_le_of_ne (Nat.le_of_lt_succ e) hb))]
    refine Ev.step (fun k => by rw [impl_heldOf.l0, er, suc_w (by omega)]) ?_
    refine Ev.ifT (by omega) (Ev.ifT (by omega) (Ev.ifT (by rw [shs_len]; omega) (Ev.ifT (by simp; omega) ?_)))
    by_cases c : i ∈ ks
    · rw [if_pos c] at IH ⊢
      rw [decide_eq_true c] at eA
      have eB : ((List.range n).map fun (b : Nat) => if b < i ∧ b ∈ ks then rdOf ByteArray.empty en (b : Int) else ⟨#[]⟩).set i (rdOf ByteArray.empty en (i : Int)) = (List.range n).map fun (b : Nat) => if b < i + 1 ∧ b ∈ ks then rdOf ByteArray.empty en (b : Int) else ⟨#[]⟩ := set_map (by rw [if_pos ⟨Nat.lt_succ_self i, c⟩]) fun b hb => by
        by_cases c : b < i ∧ b ∈ ks
        · rw [if_pos c, if_pos ⟨Nat.lt_succ_of_lt c.1, c.2⟩]
        · rw [if_neg c, if_neg (fun e => c ⟨Nat.lt_of_le_of_ne (Nat.le_of_lt_succ e.1) hb, e.2⟩)]
      refine Ev.bind0 rfl ?_
      rw [Int.toNat_natCast]
      refine Ev.ifT rfl (Ev.ifT (by simp; omega) (Ev.ifT (by omega) ?_))
      rw [eA, eB]
      exact IH
    · rw [if_neg c] at IH ⊢
      rw [decide_eq_false c] at eA
      have eB : ((List.range n).map fun (b : Nat) => if b < i ∧ b ∈ ks then rdOf ByteArray.empty en (b : Int) else (⟨#[]⟩ : ByteArray)) = (List.range n).map fun (b : Nat) => if b < i + 1 ∧ b ∈ ks then rdOf ByteArray.empty en (b : Int) else ⟨#[]⟩ := map_congr_range fun b _ => by
        by_cases c2 : b < i ∧ b ∈ ks
        · rw [if_pos c2, if_pos ⟨Nat.lt_succ_of_lt c2.1, c2.2⟩]
        · rw [if_neg c2, if_neg (fun e => c2 ⟨Nat.lt_of_le_of_ne (Nat.le_of_lt_succ e.1) (fun e3 => c (e3 ▸ e.2)), e.2⟩)]
      refine Ev.bind0 rfl ?_
      rw [Int.toNat_natCast, eA, eB]
      exact Ev.ifF (by decide) IH
theorem held_f (ks : List Nat) (en : List ByteArray) {n : Nat} (hn : n ≤ 64) : Ev (fun k => impl_heldOf.f k (shs ks en n)) (hvOf ks n, txOf ks en n, hlOf ks en n) := by
  unfold impl_heldOf.f
  rw [shs_len]
  refine Ev.ifT (by omega) (Ev.ifT (by omega) (Ev.ifT (by omega) ?_))
  rw [Int.toNat_natCast, repl_map, repl_map, map_congr_range (g := fun b => if b < 0 then decide (b ∈ ks) else false) fun b _ => by rw [if_neg (Nat.not_lt_zero b)], map_congr_range (α := ByteArray) (g := fun (b : Nat) => if b < 0 ∧ b ∈ ks then rdOf ByteArray.empty en (b : Int) else ⟨#[]⟩) fun b _ => by rw [if_neg (fun e => Nat.not_lt_zero b e.1)]]
  exact held_loop ks en hn n 0 (by omega)
theorem enc_rd {K M G n : Nat} {data : List ByteArray} {t : Nat} (h : t < K + M + G) : rdOf ByteArray.empty (encV K M G n data) (t : Int) = shardV K M G n data t := by
  unfold rdOf encV
  rw [Int.toNat_natCast, List.getD_eq_getElem?_getD, List.getElem?_map, List.getElem?_range h]; rfl
theorem decode_f {K M n : Nat} (h : Fine K M 0) {data : List ByteArray} (hl : data.length = K) (h1 : 1 ≤ n) (hn : n ≤ 4096) (hd : ∀ j : Nat, j < data.length → (rdOf ByteArray.empty data (j : Int)).size = n) {ks : List Nat} (hks : ks.length = K) (nks : ks.Nodup) (hlt : ∀ t ∈ ks, t < K + M) :
    Ev (fun k => impl_DecodeShards.f k (K : Int) (M : Int) 0 (shs ks (encV K M 0 n data) (K + M))) (0, encV K M 0 n data) := by
  have hs := h.s
  have hk1 := h.k1
  have hrd : ∀ t, t < K + M → rdOf false (hvOf ks (K + M)) (t : Int) = decide (t ∈ ks) := fun t ht => by
    unfold rdOf hvOf
    rw [Int.toNat_natCast, List.getD_eq_getElem?_getD, List.getElem?_map, List.getElem?_range ht]; rfl
  have hmem : ∀ t, t ∈ heldT (hvOf ks (K + M)) (K + M) ↔ t ∈ ks := fun t => by
    rw [held_mem]
    exact ⟨fun ⟨a, b⟩ => by rw [hrd t a] at b; exact of_decide_eq_true b, fun m => ⟨hlt t m, by rw [hrd t (hlt t m)]; exact decide_eq_true m⟩⟩
  have hT : (heldT (hvOf ks (K + M)) (K + M)).length = K := by
    have a1 := List.Nodup.length_le_of_subset (held_nodup (hvOf ks (K + M)) (K + M)) (l₂ := ks) fun t m => (hmem t).1 m
    have a2 := List.Nodup.length_le_of_subset nks (l₂ := heldT (hvOf ks (K + M)) (K + M)) fun t m => (hmem t).2 m
    omega
  have hvl : (hvOf ks (K + M)).length = K + M := by simp [hvOf]
  have htl : (txOf ks (encV K M 0 n data) (K + M)).length = K + M := by simp [txOf]
  have htk : takenD (K : Int) (M : Int) 0 (hvOf ks (K + M)) = heldT (hvOf ks (K + M)) (K + M) := by
    unfold takenD
    rw [hvl]
    exact basis_all (G := 0) (by omega) hT (K + M) (Nat.le_refl _)
  have hrx : ∀ t ∈ heldT (hvOf ks (K + M)) (K + M), rdOf ByteArray.empty (txOf ks (encV K M 0 n data) (K + M)) (t : Int) = shardV K M 0 n data t := fun t m => by
    have m2 := (hmem t).1 m
    have m3 := hlt t m2
    rw [← enc_rd (G := 0) (n := n) (data := data) (by omega)]
    unfold txOf
    conv => lhs; unfold rdOf
    rw [Int.toNat_natCast, List.getD_eq_getElem?_getD, List.getElem?_map, List.getElem?_range m3]
    show (if t ∈ ks then _ else _) = _
    rw [if_pos m2]
    rfl
  have hsz : ∀ t, (shardV K M 0 n data t).size = n := shard_size (fun j hj => hd j (by omega))
  have hgd : ∀ r, r < K → (heldT (hvOf ks (K + M)) (K + M)).getD r 0 ∈ heldT (hvOf ks (K + M)) (K + M) := fun r hr => getD_mem 0 (by omega)
  have hg : ∀ r, r < K → (rdOf ByteArray.empty (txOf ks (encV K M 0 n data) (K + M)) ((heldT (hvOf ks (K + M)) (K + M)).getD r 0 : Nat)).size = n := fun r hr => by rw [hrx _ (hgd r hr), hsz]
  have ho : Ev (fun k => impl_oneLength.f k (hlOf ks (encV K M 0 n data) (K + M))) true := one_loop (n := n) (by have := hl_len ks (encV K M 0 n data) (K + M); omega) h1 hn (fun j hj => by
    have : rdOf ByteArray.empty (hlOf ks (encV K M 0 n data) (K + M)) (j : Int) ∈ hlOf ks (encV K M 0 n data) (K + M) := by unfold rdOf; rw [Int.toNat_natCast]; exact getD_mem _ hj
    unfold hlOf at this
    obtain ⟨t, mt, e⟩ := List.mem_map.1 this
    have ht := List.mem_range.1 (List.mem_filter.1 mt).1
    unfold hlOf
    rw [← e, enc_rd (t := t) (G := 0) (by omega), hsz]) (hlOf ks (encV K M 0 n data) (K + M)).length 0 (by omega)
  unfold impl_DecodeShards.f
  refine Ev.bind0 (impl_fault h) ?_
  refine Ev.ifT rfl ?_
  refine Ev.bind0 (impl_size h) ?_
  refine Ev.ifT (by rw [shs_len]; rfl) ?_
  refine Ev.bind (held_f ks (encV K M 0 n data) (by omega)) ?_
  refine Ev.bind ho ?_
  refine Ev.ifT rfl ?_
  dsimp only
  rw [htk, hvl, htl, hT]
  refine Ev.ifT ⟨by simp, rfl⟩ ?_
  refine Ev.ifF (by simp) ?_
  simp only [Int.toNat_natCast, Int.toNat_zero]
  rw [hg 0 (by omega)]
  refine Ev.ifT ⟨by first | rfl | trivial, fun r hr => hlt _ ((hmem _).1 (hgd r hr)), fun r hr => hg r hr, hn⟩ ?_
  rw [data_again (n := n) (by omega) hl (fun j hj => hd j (by omega)) hT (held_nodup _ _) (fun t m => hlt t ((hmem t).1 m)) hrx]
  exact Ev.now _
theorem anyk {l0 l1 : List Int} (h0 : allU l0) (h1 : allU l1) : Ev (fun k => laws_FnAnyK.j0 k l0 l1 false) true := by
  obtain ⟨x, hx, ex⟩ := at_some h0 0 (by omega)
  obtain ⟨y, hy, ey⟩ := at_some h0 1 (by omega)
  obtain ⟨v0, hv, ev⟩ := at_some h1 0 (by omega)
  obtain ⟨n, data, n1, n2, hl, hd, hdat⟩ := data_f h0 (K := 1 + x % 8) (by omega)
  refine Ev.step (fun k => by rw [laws_FnAnyK.j0]) ?_
  refine Ev.ifF (by decide) ?_
  refine Ev.bind0 ex ?_
  refine Ev.bind0 ey ?_
  rw [tm8 (by omega), tm7]
  generalize hKK : 1 + x % 8 = K at hl hdat ⊢
  generalize hMM : y % 7 = M
  have hF : Fine K M 0 := ⟨by omega, by omega, by omega, by omega, by omega⟩
  have hlen : (encV K M 0 n data).length = K + M := by rw [encV_len]; rfl
  refine Ev.bind hdat ?_
  refine Ev.bind (impl_encode hF hl n1 (by omega) hd) ?_
  refine Ev.ifT rfl ?_
  refine Ev.ifT (by rw [add_w (by omega) (by omega)]; exact congrArg Int.ofNat hlen) ?_
  refine Ev.bind (spec_encode hF hl n1 (by omega) hd) ?_
  refine Ev.bind (texts_same (encV K M 0 n data) (by omega)) ?_
  refine Ev.step (fun k => by rw [laws_FnAnyK.j1]) ?_
  refine Ev.ifF (by decide) ?_
  refine keep_loop h1 (K := K) (M := M) (by omega) (by omega) (by omega) ev (fun ks a b c => ?_) (40 * (K + M)) 0 [] (by omega) (by simp) (by simp) (fun t m => by simp at m) (fun t ht => by omega)
  refine shard_loop (K := K) (M := M) (by omega) (by omega) (by omega) hlen a ?_ (K + M) 0 (by omega)
  refine Ev.bind (decode_f hF hl n1 (by omega) hd a b c) ?_
  refine Ev.ifT rfl ?_
  exact Ev.bind (texts_same (encV K M 0 n data) (by omega)) (Ev.now _)
theorem FnAnyK : laws_FnAnyK.Pure := fun l0 l1 h0 h1 => by
  have hn : Ev (fun k => laws_FnAnyK.f k l0 l1) true := by
    have hT : Ev (fun k => laws_FnAnyK.j0 k l0 l1 true) true := Ev.step (fun k => by rw [laws_FnAnyK.j0, if_pos rfl]) (Ev.now _)
    have hN : Ev (fun k => laws_FnAnyK.j0 k l0 l1 false) true := anyk h0.2 h1.2
    unfold laws_FnAnyK.f
    by_cases c : (l0.length : Int) > 1048576
    · exact Ev.ifT c hT
    · refine Ev.ifF c ?_
      by_cases c2 : (l1.length : Int) > 1048576
      · rw [decide_eq_true c2]; exact hT
      · rw [decide_eq_false c2]; exact hN
  exact hn.rounds
end Go.Proofs.Ytffhbpepppodeaa.Pure
