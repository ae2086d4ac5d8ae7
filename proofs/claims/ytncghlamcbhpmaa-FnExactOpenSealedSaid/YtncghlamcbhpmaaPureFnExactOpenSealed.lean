/-
  The plain law of the exact OpenSealed: the program opens what the reference opens, with the same code and text; for all sealed things.
-/
import Derived.Test.YtncghlamcbhpmaaPureSealOS
namespace Go.Proofs.Ytncghlamcbhpmaa.Pure
open Go.RowKit Go.Proofs.Ytncghlamcbhpmaa.PFnExactOpenSealed Go.Proofs.Ytncghlamcbhpmaa.Base Go.Proofs.YtncghlamcbhpmaaW.PrintWords Go.Proofs.YtncghlamcbhpmaaW.PrintLast Go.Proofs.YtncghlamcbhpmaaW.PrintMore
theorem right_eq (m W D : ByteArray) (c n : Int) : impl_sealedRight.f m c W D n = some (decide ((1 ≤ m.size ∧ m.size ≤ 200) ∧ 0 ≤ n ∧ c = 0 ∧ W.size ≤ 300 ∧ D.size ≤ 100004)) := by
  unfold impl_sealedRight.f
  rw [ikey_eq, Option.bind_some]
  by_cases c1 : 1 ≤ m.size ∧ m.size ≤ 200
  · rw [if_pos (by simp [c1])]
    by_cases c2 : n ≥ 0
    · rw [if_pos c2]
      by_cases c3 : c = 0
      · rw [if_pos c3]
        by_cases c4 : (W.size : Int) ≤ 300
        · rw [if_pos c4]
          congr 1
          exact decide_eq_decide.mpr (by omega)
        · rw [if_neg c4, decide_eq_false (by omega)]
      · rw [if_neg c3, decide_eq_false (by omega)]
    · rw [if_neg c2, decide_eq_false (by omega)]
  · rw [if_neg (by simp [c1]), decide_eq_false (by omega)]
theorem sunwrap_bad (m W D : ByteArray) (c n : Int) (h : ¬ ((1 ≤ m.size ∧ m.size ≤ 200) ∧ 0 ≤ n ∧ c = 0 ∧ W.size ≤ 300 ∧ D.size ≤ 100004)) : Ev (fun k => spec_l11Unwrap.f k m c W D n) ((⟨#[]⟩ : ByteArray), 1) := by
  have hj : Ev (fun k => spec_l11Unwrap.j0 k m n true c W D) ((⟨#[]⟩ : ByteArray), 1) := Ev.step (f := fun _ => some _) (fun k => by simp [spec_l11Unwrap.j0]) (Ev.now _)
  unfold spec_l11Unwrap.f
  refine Ev.bind0 (skey_eq m) ?_
  by_cases c1 : 1 ≤ m.size ∧ m.size ≤ 200
  · refine Ev.ifT (by simp [c1]) ?_
    by_cases c2 : n < 0
    · exact Ev.ifT c2 hj
    · refine Ev.ifF c2 ?_
      by_cases c3 : c = 0
      · refine Ev.ifT c3 ?_
        by_cases c4 : (W.size : Int) > 300
        · exact Ev.ifT c4 hj
        · refine Ev.ifF c4 ?_
          rw [show decide ((D.size : Int) > 100004) = true from decide_eq_true (by omega)]
          exact hj
      · exact Ev.ifF c3 hj
  · exact Ev.ifF (by simp [c1]) hj
theorem wrap_iff {m W K : ByteArray} {n nx : Int} (h : rtext (COV W m n) 0 = (true, K, nx)) : WRAP m K n = W ↔ (COV W m n).extract nx.toNat (COV W m n).size = F4 (rsum (PT K) 8) := by
  obtain ⟨h1, h2, h3, h4⟩ := rtext_cut h
  rw [← app_split h3]
  unfold WRAP
  constructor
  · intro e; rw [← e, COV_twice]
  · intro e; rw [e, COV_twice]
theorem unwrap_eq (m W D : ByteArray) (n : Int) (m1 : 1 ≤ m.size) (m2 : m.size ≤ 200) (n0 : 0 ≤ n) (n1 : n < 9223372036854775808) (hw : W.size ≤ 300) (hd : D.size ≤ 100004) :
    ∃ (K : ByteArray) (b : Bool), Ev (fun k => impl_unwrap.f k m W n) (K, b) ∧ (b = true → 1 ≤ K.size ∧ K.size ≤ 200) ∧ Ev (fun k => spec_l11Unwrap.f k m 0 W D n) (if b = true then (K, 0) else ((⟨#[]⟩ : ByteArray), 12)) := by
  have hT : (COV W m n).size = W.size := COV_size W m n
  obtain ⟨i1, i2⟩ := ctext_eq (COV W m n) (by omega) 0
  have hs := stext_eq (COV W m n) (by omega) 0
  have hi := icov_eq W m n (by omega) (by omega) n0 n1
  have hx := sxor_eq W m n (by omega) m1 m2 n0 n1
  have red : ∀ r, Ev (fun k => (spec_GetText.f k (COV W m n) 0).bind fun bt145 => (if bt145.1 = true then ((spec_l11Key.f bt145.2.1).bind fun t149 => (if t149 = true then ((spec_l11Wrap.f k m bt145.2.1 n).bind fun t150 => (if t150.toList = W.toList then (some (bt145.2.1, 0)) else (some ((⟨#[]⟩ : ByteArray), 12)))) else (some ((⟨#[]⟩ : ByteArray), 12)))) else (some ((⟨#[]⟩ : ByteArray), 12)))) r →
      Ev (fun k => spec_l11Unwrap.f k m 0 W D n) r := by
    intro r hr
    unfold spec_l11Unwrap.f
    refine Ev.bind0 (skey_true m1 m2) (Ev.ifT rfl (Ev.ifF (by omega) (Ev.ifT rfl (Ev.ifF (by omega) ?_))))
    rw [show decide ((D.size : Int) > 100004) = false from decide_eq_false (by omega)]
    exact Ev.step (fun k => by simp only [spec_l11Unwrap.j0]; rw [if_neg (by simp)]) (Ev.bind hx hr)
  unfold impl_unwrap.f
  cases hg : (rtext (COV W m n) 0).1 with
  | false =>
    obtain ⟨x, y, hy⟩ := i2 hg
    refine ⟨(⟨#[]⟩ : ByteArray), false, Ev.bind hi (Ev.bind hy (Ev.ifF (by simp) (Ev.now _))), by simp, red _ (Ev.bind hs ?_)⟩
    rw [if_neg (by simp)]
    exact Ev.ifF (by simp [hg]) (Ev.now _)
  | true =>
    have hy := i1 hg
    obtain ⟨K, nx, hr⟩ : ∃ K nx, rtext (COV W m n) 0 = (true, K, nx) := ⟨_, _, by rw [← hg]⟩
    rw [hr] at hy hs
    simp only at hy hs
    obtain ⟨c1, c2, c3, c4⟩ := rtext_cut hr
    by_cases ck : 1 ≤ K.size ∧ K.size ≤ 200
    · have hp := PT_size K
      refine ⟨K, decide ((COV W m n).extract nx.toNat (COV W m n).size = F4 (rsum (PT K) 8)), Ev.bind hi (Ev.bind hy (Ev.ifT rfl (Ev.bind0 (ikey_eq K) (Ev.ifT (by simp [ck]) (Ev.ifT c1 (Ev.ifT c2 ?_)))))), fun _ => ck, red _ (Ev.bind hs (Ev.ifT rfl (Ev.bind0 (skey_eq K) (Ev.ifT (by simp [ck]) (Ev.bind (swrap_eq m K n c4 m1 m2 n0 n1) ?_)))))⟩
      · rw [c3]
        refine Ev.bind (isum_eq _ (by omega) 8 (by omega)) (Ev.bind0 (ifour_eq _) ?_)
        rw [toList_beq]
        exact Ev.now _
      · by_cases e : (COV W m n).extract nx.toNat (COV W m n).size = F4 (rsum (PT K) 8)
        · rw [if_pos (decide_eq_true e)]
          exact Ev.ifT (toList_inj.mpr ((wrap_iff hr).mpr e)) (Ev.now _)
        · rw [decide_eq_false e, if_neg (show ¬ (false = true) by simp)]
          exact Ev.ifF (fun e2 => e ((wrap_iff hr).mp (toList_inj.mp e2))) (Ev.now _)
    · refine ⟨(⟨#[]⟩ : ByteArray), false, Ev.bind hi (Ev.bind hy (Ev.ifT rfl (Ev.bind0 (ikey_eq K) (Ev.ifF (by simp [ck]) (Ev.now _))))), by simp, red _ (Ev.bind hs (Ev.ifT rfl (Ev.bind0 (skey_eq K) (Ev.ifF (by simp [ck]) ?_))))⟩
      rw [if_neg (by simp)]
      exact Ev.now _
theorem open_eq (m W D : ByteArray) (c n : Int) (hD : D.size ≤ 1048576) (n1 : n < 9223372036854775808) : ∃ r : Int × ByteArray, Ev (fun k => impl_OpenSealed.f k m c W D n) r ∧ Ev (fun k => spec_OpenSealed.f k m c W D n) r := by
  by_cases ok : (1 ≤ m.size ∧ m.size ≤ 200) ∧ 0 ≤ n ∧ c = 0 ∧ W.size ≤ 300 ∧ D.size ≤ 100004
  · obtain ⟨⟨m1, m2⟩, n0, rfl, hw, hd⟩ := ok
    obtain ⟨K, b, hi, hb, hs⟩ := unwrap_eq m W D n m1 m2 n0 n1 hw hd
    have hr : impl_sealedRight.f m 0 W D n = some true := by rw [right_eq, decide_eq_true (by omega)]
    have bad : Ev (fun k => impl_OpenSealed.j0 k n K true 0 W D) (12, (⟨#[]⟩ : ByteArray)) := Ev.step (f := fun _ => some _) (fun k => by simp [impl_OpenSealed.j0]) (Ev.now _)
    unfold impl_OpenSealed.f spec_OpenSealed.f
    cases b with
    | false =>
      rw [if_neg (by simp)] at hs
      exact ⟨_, Ev.bind0 hr (Ev.ifT rfl (Ev.bind hi (Ev.ifF (by simp) bad))), Ev.bind hs (Ev.ifF (by simp) (Ev.now _))⟩
    | true =>
      rw [if_pos rfl] at hs
      obtain ⟨k1, k2⟩ := hb rfl
      have hx := sxor_eq D K n (by omega) k1 k2 n0 n1
      have hc := icov_eq D K n (by omega) (by omega) n0 n1
      have hz := COV_size D K n
      by_cases c4 : (D.size : Int) < 4
      · rw [decide_eq_true c4]
        exact ⟨_, Ev.bind0 hr (Ev.ifT rfl (Ev.bind hi (Ev.ifT rfl bad))), Ev.bind hs (Ev.ifT rfl (Ev.bind hx (Ev.ifT (by omega) (Ev.now _))))⟩
      · rw [decide_eq_false c4]
        generalize COV D K n = T at *
        have hq : wrap64 ((T.size : Int) - 4) = (T.size : Int) - 4 := w64 (by omega) (by omega)
        have hes : (T.extract 0 ((T.size : Int) - 4).toNat).size = T.size - 4 := by rw [size_extract (by omega) (by omega)]; omega
        have hr2 := rsum_range (K ++ T.extract 0 ((T.size : Int) - 4).toNat) 6 (by omega) (by omega)
        have hsz : (K ++ T.extract 0 ((T.size : Int) - 4).toNat).size ≤ 400000 := by rw [ByteArray.size_append]; omega
        by_cases e : T.extract ((T.size : Int) - 4).toNat T.size = F4 (rsum (K ++ T.extract 0 ((T.size : Int) - 4).toNat) 6)
        · refine ⟨(0, T.extract 0 ((T.size : Int) - 4).toNat), Ev.bind0 hr (Ev.ifT rfl (Ev.bind hi (Ev.ifT rfl (Ev.step (fun k => by simp only [impl_OpenSealed.j0]; rw [if_neg (by simp)]) (Ev.bind hc ?_))))), Ev.bind hs (Ev.ifT rfl (Ev.bind hx (Ev.ifF (by omega) ?_)))⟩
          · rw [hq]
            exact Ev.ifT (by omega) (Ev.ifT (by omega) (Ev.ifT (by omega) (Ev.bind (isum_eq _ hsz 6 (by omega)) (Ev.bind0 (ifour_eq _) (Ev.ifT (toList_inj.mpr e) (Ev.now _))))))
          · rw [hq]
            exact Ev.ifT (by omega) (Ev.ifT (by omega) (Ev.ifT (by simp only; omega) (Ev.bind (ssum_eq _ hsz 6 (by omega)) (Ev.bind0 (sfour_eq hr2.1 hr2.2) (Ev.ifT (toList_inj.mpr e.symm) (Ev.now _))))))
        · refine ⟨(12, (⟨#[]⟩ : ByteArray)), Ev.bind0 hr (Ev.ifT rfl (Ev.bind hi (Ev.ifT rfl (Ev.step (fun k => by simp only [impl_OpenSealed.j0]; rw [if_neg (by simp)]) (Ev.bind hc ?_))))), Ev.bind hs (Ev.ifT rfl (Ev.bind hx (Ev.ifF (by omega) ?_)))⟩
          · rw [hq]
            exact Ev.ifT (by omega) (Ev.ifT (by omega) (Ev.ifT (by omega) (Ev.bind (isum_eq _ hsz 6 (by omega)) (Ev.bind0 (ifour_eq _) (Ev.ifF (fun q => e (toList_inj.mp q)) (Ev.now _))))))
          · rw [hq]
            exact Ev.ifT (by omega) (Ev.ifT (by omega) (Ev.ifT (by simp only; omega) (Ev.bind (ssum_eq _ hsz 6 (by omega)) (Ev.bind0 (sfour_eq hr2.1 hr2.2) (Ev.ifF (fun q => e (toList_inj.mp q).symm) (Ev.now _))))))
  · refine ⟨(1, (⟨#[]⟩ : ByteArray)), ?_, ?_⟩
    · unfold impl_OpenSealed.f
      exact Ev.bind0 (right_eq m W D c n) (Ev.ifF (by simpa using ok) (Ev.now _))
    · unfold spec_OpenSealed.f
      exact Ev.bind (sunwrap_bad m W D c n ok) (Ev.ifF (by simp) (Ev.now _))
theorem szSealed_tot (c : Int) (W D : ByteArray) (hW : W.size ≤ maxLen) (hD : D.size ≤ maxLen) : ∃ r, laws_szSealed.f c W D 1048576 = some r ∧ (r < 0 ∨ D.size ≤ 1048576) := by
  rw [lmax] at hW hD
  unfold laws_szSealed.f
  rw [w64 (x := 1048576 - (W.size : Int)) (by omega) (by omega)]
  by_cases c1 : 1048576 - (W.size : Int) < 0
  · exact ⟨_, if_pos c1, Or.inl (by omega)⟩
  · rw [if_neg c1, w64 (x := 1048576 - (W.size : Int) - (D.size : Int)) (by omega) (by omega)]
    by_cases c2 : 1048576 - (W.size : Int) - (D.size : Int) < 0
    · exact ⟨_, if_pos c2, Or.inl (by omega)⟩
    · exact ⟨_, if_neg c2, Or.inr (by omega)⟩
theorem FnExactOpenSealed : laws_FnExactOpenSealed.Pure := by
  intro m c W D n h0 h1 h2 h3 h4
  have hn := wf_i64 h4
  obtain ⟨z, hz, hzz⟩ := szSealed_tot c W D h2 h3
  apply Ev.rounds
  unfold laws_FnExactOpenSealed.f
  by_cases c0 : (m.size : Int) > 1048576
  · exact Ev.ifT c0 (Ev.now _)
  · refine Ev.ifF c0 (Ev.bind0 hz ?_)
    by_cases c1 : z < 0
    · exact Ev.ifT c1 (Ev.now _)
    · refine Ev.ifF c1 ?_
      obtain ⟨r, hi, hs⟩ := open_eq m W D c n (hzz.resolve_left c1) (by omega)
      exact Ev.bind0 rfl (Ev.bind hs (Ev.bind0 rfl (Ev.bind hi (Ev.bind0 (show laws_eqBytesResult.f r.1 r.2 r.1 r.2 = some true by simp [laws_eqBytesResult.f]) (Ev.ifT rfl (Ev.now _))))))
end Go.Proofs.Ytncghlamcbhpmaa.Pure
