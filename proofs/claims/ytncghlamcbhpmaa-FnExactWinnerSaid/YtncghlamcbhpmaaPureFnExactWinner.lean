/-
  The plain law of the exact Winner: the program's answer is the reference's; for all pairs of entries.
-/
import Derived.Test.YtncghlamcbhpmaaPFnExactWinnerq
import Derived.Test.YtncghlamcbhpmaaBase
namespace Go.Proofs.Ytncghlamcbhpmaa.Pure
open Go.RowKit Go.Proofs.Ytncghlamcbhpmaa.PFnExactWinner Go.Proofs.Ytncghlamcbhpmaa.Base Go.Proofs.YtncghlamcbhpmaaW.PrintWords Go.Proofs.YtncghlamcbhpmaaW.PrintLast Go.Proofs.YtncghlamcbhpmaaW.PrintMore
abbrev E := ByteArray × Int × Int × Bool × ByteArray
theorem winner_eq (a b : E) : ∃ c : E, impl_Winner.f a.1 a.2.1 a.2.2.1 a.2.2.2.1 a.2.2.2.2 b.1 b.2.1 b.2.2.1 b.2.2.2.1 b.2.2.2.2 = some c ∧ spec_Winner.f a.1 a.2.1 a.2.2.1 a.2.2.2.1 a.2.2.2.2 b.1 b.2.1 b.2.2.1 b.2.2.2.1 b.2.2.2.2 = some c := by
  unfold impl_Winner.f spec_Winner.f
  by_cases h1 : b.2.1 > a.2.1
  · rw [if_pos h1]; exact ⟨_, rfl, rfl⟩
  · rw [if_neg h1]
    by_cases h2 : b.2.1 = a.2.1
    · rw [if_pos h2]
      by_cases h3 : b.2.2.1 > a.2.2.1
      · rw [if_pos h3]; exact ⟨_, rfl, rfl⟩
      · rw [if_neg h3]; exact ⟨_, rfl, rfl⟩
    · rw [if_neg h2]; exact ⟨_, rfl, rfl⟩
theorem sz_tot (a : E) (n : Int) : ∃ r, laws_szSiteEntry.f a.1 a.2.1 a.2.2.1 a.2.2.2.1 a.2.2.2.2 n = some r := by
  unfold laws_szSiteEntry.f
  split
  · exact ⟨_, rfl⟩
  · split
    · exact ⟨_, rfl⟩
    · exact ⟨_, rfl⟩
theorem FnExactWinner : laws_FnExactWinner.Pure := by
  intro a0 a1 a2 a3 a4 b0 b1 b2 b3 b4 _ _ _ _ _ _ _ _
  have key : ∀ a b : E, laws_FnExactWinner.f a.1 a.2.1 a.2.2.1 a.2.2.2.1 a.2.2.2.2 b.1 b.2.1 b.2.2.1 b.2.2.2.1 b.2.2.2.2 = some true := by
    intro a b
    unfold laws_FnExactWinner.f
    obtain ⟨r, hr⟩ := sz_tot a 1048576
    rw [hr]
    simp only [Option.bind_some]
    by_cases c : r < 0
    · rw [if_pos c]
    · rw [if_neg c]
      obtain ⟨q, hq⟩ := sz_tot b r
      rw [hq]
      simp only [Option.bind_some]
      by_cases d : q < 0
      · rw [if_pos d]
      · rw [if_neg d]
        obtain ⟨w, h1, h2⟩ := winner_eq a b
        simp only [laws_toSiteEntry.f, Option.bind_some, h1, h2]
        simp [laws_eqSiteEntry.f]
  exact key (a0, a1, a2, a3, a4) (b0, b1, b2, b3, b4)
end Go.Proofs.Ytncghlamcbhpmaa.Pure
