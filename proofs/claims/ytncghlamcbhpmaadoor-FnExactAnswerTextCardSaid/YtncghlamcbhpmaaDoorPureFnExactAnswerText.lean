/-
  The plain law AnswerText: the program's text is the reference's; for all numbers and texts.
-/
import Derived.Test.YtncghlamcbhpmaaDoorPFnExactAnswerTextq
import Derived.Test.YtncghlamcbhpmaaDoorBase
namespace Go.Proofs.YtncghlamcbhpmaaDoor.Pure
open Go.RowKit Go.Proofs.YtncghlamcbhpmaaDoor.PFnExactAnswerText Go.Proofs.YtncghlamcbhpmaaDoor.Base Go.Proofs.YtncghlamcbhpmaaDoorW.PrintWords Go.Proofs.YtncghlamcbhpmaaDoorW.PrintLast Go.Proofs.YtncghlamcbhpmaaDoorW.PrintMore
theorem app_mk (a b : Array UInt8) : (⟨a⟩ : ByteArray) ++ ⟨b⟩ = ⟨a ++ b⟩ := ByteArray.ext (by rw [ByteArray.data_append])
theorem dig_at (x : Nat) (h : x < 10) : strOfNums [wrap64 (48 + (x : Int)) % 256] = ⟨#[UInt8.ofNat (48 + x)]⟩ := by
  have e : (wrap64 (48 + (x : Int)) % 256).toNat = 48 + x := by unfold wrap64; omega
  unfold strOfNums
  simp [e]
theorem dec_one {u : Nat} (h : u < 10) : (⟨(Lib.decDigits u).toArray⟩ : ByteArray) = strOfNums [wrap64 (48 + (u : Int)) % 256] := by
  rw [dig_at u h, Lib.decDigits, dif_pos h]
theorem dec_more {u : Nat} (h : ¬ u < 10) : (⟨(Lib.decDigits u).toArray⟩ : ByteArray) = ⟨(Lib.decDigits (u / 10)).toArray⟩ ++ strOfNums [wrap64 (48 + ((u % 10 : Nat) : Int)) % 256] := by
  rw [dig_at (u % 10) (Nat.mod_lt _ (by decide)), app_mk]
  conv => lhs; rw [Lib.decDigits, dif_neg h]
  simp
theorem itoaB_pos (u : Nat) : itoaB (u : Int) = ⟨(Lib.decDigits u).toArray⟩ := by unfold itoaB; rw [Lib.itoa_nonneg]
theorem itoaB_neg (u : Nat) (h : 1 ≤ u) : itoaB (-(u : Int)) = ⟨#[45]⟩ ++ ⟨(Lib.decDigits u).toArray⟩ := by unfold itoaB; rw [Lib.itoa_neg u h, app_mk]; simp
theorem dec_len (u : Nat) (h : u ≤ 9223372036854775807) : (⟨(Lib.decDigits u).toArray⟩ : ByteArray).size ≤ 21 := by
  rw [← itoaB_pos]; exact itoaB_size _ (by omega) (by omega)
theorem dg_len (x : Nat) (h : x < 10) : (strOfNums [wrap64 (48 + (x : Int)) % 256]).size = 1 := by rw [dig_at x h]; rfl
theorem sdec_pos : ∀ u : Nat, u ≤ 9223372036854775807 → Ev (fun k => spec_l01Dec.f k (u : Int)) (⟨(Lib.decDigits u).toArray⟩ : ByteArray) := by
  intro u
  induction u using Nat.strongRecOn with
  | ind u ih =>
    intro hu
    by_cases h : u < 10
    · refine Ev.step (f := fun _ => some (strOfNums [wrap64 (48 + (u : Int)) % 256])) (fun k => ?_) ?_
      · rw [spec_l01Dec.f, if_neg (by omega), if_pos (by omega)]
      · rw [dec_one h]; exact Ev.now _
    · have e1 : wrap64 (Int.tdiv (u : Int) 10) = ((u / 10 : Nat) : Int) := by rw [Int.tdiv_eq_ediv_of_nonneg (by omega), w64 (by omega) (by omega)]; omega
      have e2 : Int.tmod (u : Int) 10 = ((u % 10 : Nat) : Int) := by rw [Int.tmod_eq_emod_of_nonneg (by omega)]; omega
      refine Ev.step (fun k => by rw [spec_l01Dec.f, if_neg (by omega), if_neg (by omega)]) ?_
      rw [e1]
      refine Ev.bind (ih (u / 10) (by omega) (by omega)) (Ev.bind0 rfl ?_)
      rw [e2]
      refine Ev.ifT ?_ ?_
      · have := dec_len (u / 10) (by omega)
        have := dg_len (u % 10) (Nat.mod_lt _ (by decide))
        omega
      · rw [dec_more h]; exact Ev.now _
theorem sdec_neg : ∀ u : Nat, 1 ≤ u → u ≤ 9223372036854775808 → Ev (fun k => spec_l01Dec.f k (-(u : Int))) (itoaB (-(u : Int))) := by
  intro u
  induction u using Nat.strongRecOn with
  | ind u ih =>
    intro h1 hu
    rw [itoaB_neg u h1]
    by_cases h : u < 10
    · refine Ev.step (fun k => by rw [spec_l01Dec.f, if_pos (by omega), if_pos (by omega)]) ?_
      rw [w64 (by omega) (by omega), Int.neg_neg]
      refine Ev.bind (sdec_pos u (by omega)) (Ev.ifT ?_ (Ev.now _))
      have := dec_len u (by omega)
      omega
    · have e1 : wrap64 (Int.tdiv (-(u : Int)) 10) = -((u / 10 : Nat) : Int) := by rw [Int.neg_tdiv, Int.tdiv_eq_ediv_of_nonneg (by omega), w64 (by omega) (by omega)]; omega
      have e2 : 48 - Int.tmod (-(u : Int)) 10 = 48 + ((u % 10 : Nat) : Int) := by rw [Int.neg_tmod, Int.tmod_eq_emod_of_nonneg (by omega)]; omega
      refine Ev.step (fun k => by rw [spec_l01Dec.f, if_pos (by omega), if_neg (by omega)]) ?_
      rw [e1]
      refine Ev.bind (ih (u / 10) (by omega) (by omega) (by omega)) (Ev.bind0 rfl ?_)
      rw [e2, itoaB_neg _ (by omega)]
      have hs := dec_len (u / 10) (by omega)
      have hd := dg_len (u % 10) (Nat.mod_lt _ (by decide))
      refine Ev.ifT ?_ ?_
      · rw [ByteArray.size_append]
        have : (⟨#[45]⟩ : ByteArray).size = 1 := rfl
        omega
      · rw [dec_more h, ← ByteArray.append_assoc]; exact Ev.now _
theorem sdec (n : Int) (h0 : -9223372036854775808 ≤ n) (h1 : n ≤ 9223372036854775807) : Ev (fun k => spec_l01Dec.f k n) (itoaB n) := by
  by_cases h : 0 ≤ n
  · obtain ⟨u, rfl⟩ := Int.eq_ofNat_of_zero_le h
    rw [itoaB_pos]; exact sdec_pos u (by omega)
  · obtain ⟨u, hu⟩ := Int.eq_ofNat_of_zero_le (show 0 ≤ -n by omega)
    obtain rfl : n = -(u : Int) := by omega
    exact sdec_neg u (by omega) (by omega)
theorem FnExactAnswerText : laws_FnExactAnswerText.Pure := by
  intro a0 a1 a2 w0 w1 hs
  have b0 := wf_i64 w0
  have b1 := wf_i64 w1
  refine Ev.rounds (g := fun k => laws_FnExactAnswerText.f k a0 a1 a2) ?_
  unfold laws_FnExactAnswerText.f
  by_cases c : (a2.size : Int) > 1048576
  · exact Ev.ifT c (Ev.now _)
  · refine Ev.ifF c ?_
    by_cases d : (a2.size : Int) > 400000
    · refine Ev.bind (a := (⟨#[]⟩ : ByteArray)) ?_ (Ev.bind0 (a := (⟨#[]⟩ : ByteArray)) ?_ (Ev.ifT rfl (Ev.now _)))
      · unfold spec_AnswerText.f; exact Ev.ifT d (Ev.now _)
      · unfold impl_AnswerText.f; exact if_pos (by omega)
    · refine Ev.bind (a := ansOf (itoaB a0) (itoaB a1) (itoaB (a2.size : Int)) a2) ?_ (Ev.bind0 (a := ansOf (itoaB a0) (itoaB a1) (itoaB (a2.size : Int)) a2) ?_ (Ev.ifT rfl (Ev.now _)))
      · unfold spec_AnswerText.f
        have s0 := itoaB_size a0 b0.1 b0.2
        have s1 := itoaB_size a1 b1.1 b1.2
        have s2 := itoaB_size (a2.size : Int) (by omega) (by omega)
        have u1 : (⟨#[32]⟩ : ByteArray).size = 1 := rfl
        have u2 : (⟨#[10]⟩ : ByteArray).size = 1 := rfl
        refine Ev.ifF d (Ev.bind (sdec a0 b0.1 b0.2) (Ev.ifT (by omega) (Ev.bind (sdec a1 b1.1 b1.2) (Ev.ifT ?_ (Ev.ifT ?_ (Ev.bind (sdec (a2.size : Int) (by omega) (by omega)) (Ev.ifT ?_ (Ev.ifT ?_ (Ev.ifT ?_ (Ev.now _))))))))))
        all_goals (simp only [ByteArray.size_append]; omega)
      · unfold impl_AnswerText.f
        rw [if_neg (by omega), if_pos ⟨b0, b1⟩]
end Go.Proofs.YtncghlamcbhpmaaDoor.Pure
