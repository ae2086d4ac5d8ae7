/-
  The plain law NewerLog: the program's answer is the reference's; for all lists of entries.
-/
import Derived.Test.YtncghlamcbhpmaaPFnExactNewerLogq
import Derived.Test.YtncghlamcbhpmaaBase
namespace Go.Proofs.Ytncghlamcbhpmaa.Pure
open Go.RowKit Go.Proofs.Ytncghlamcbhpmaa.PFnExactNewerLog Go.Proofs.Ytncghlamcbhpmaa.Base Go.Proofs.YtncghlamcbhpmaaW.PrintWords Go.Proofs.YtncghlamcbhpmaaW.PrintLast Go.Proofs.YtncghlamcbhpmaaW.PrintMore
def cGE (x : S88) : S90 := ⟨x.f0, x.f1⟩
theorem toGE (l : List S88) (h : l.length ≤ 1048576) : Ev (fun k => laws_toGroupEntryS.f k l) (l.map cGE) := by
  unfold laws_toGroupEntryS.f
  refine Ev.ifT (by omega) (Ev.ifT (by simp; omega) ?_)
  refine map_loop laws_toGroupEntryS.l0 cGE z88 (fun _ => True) (fun x y i hx _ hi hy r hr => ?_) (fun x y i hi => ?_) l (by omega) (by simp) _
  · refine Ev.step (fun k => ?_) hr
    simp only [laws_toGroupEntryS.l0, laws_toGroupEntry.f, Option.bind_some]
    rw [if_pos (by omega), if_pos (by omega), if_pos (by omega), w64 (by omega) (by omega)]
    rfl
  · exact Ev.step (f := fun _ => some y) (fun k => by simp only [laws_toGroupEntryS.l0]; rw [if_neg (by omega)]) (Ev.now _)
theorem eqGE (l : List S90) (h : l.length ≤ 1048576) : Ev (fun k => laws_eqGroupEntryS.f k l l) true := by
  unfold laws_eqGroupEntryS.f
  refine Ev.ifT rfl ?_
  refine eq_loop laws_eqGroupEntryS.l0 (fun _ => True) (fun x i hx _ hi hr => ?_) (fun x i hi => ?_) l (by omega) (by simp)
  · refine Ev.step (fun k => ?_) hr
    simp only [laws_eqGroupEntryS.l0, laws_eqGroupEntry.f, if_true, Option.bind_some]
    rw [if_pos (by omega), if_pos (by omega), if_pos (by omega), w64 (by omega) (by omega)]
  · exact Ev.step (f := fun _ => some true) (fun k => by simp only [laws_eqGroupEntryS.l0]; rw [if_neg (by omega)]) (Ev.now _)
theorem szGE (l : List S88) (left : Int) (h0 : 0 ≤ left) (h1 : left ≤ 1048576) (hl : l.length ≤ maxLen ∧ ∀ y ∈ l, Q88 y) : ∃ r, Ev (fun k => laws_szGroupEntryS.f k l left) r ∧ (r < 0 ∨ 0 ≤ r ∧ r ≤ left ∧ l.length ≤ 1048576) := by
  obtain ⟨hn, hq⟩ := hl
  rw [lmax] at hn
  unfold laws_szGroupEntryS.f
  rw [w64 (by omega) (by omega)]
  by_cases c : left - (l.length : Int) < 0
  · exact ⟨-1, Ev.ifT c (Ev.now _), .inl (by omega)⟩
  · refine Exists.elim (sz_loop laws_szGroupEntryS.l0 Q88 (fun x left i hx hok hi h0 h1 => ?_) (fun x left i hi => ?_) l (by omega) hq (left - l.length) (by omega) (by omega)) (fun r hr => ⟨r, Ev.ifF c hr.1, by have := hr.2; omega⟩)
    · have hb : (x.getD i z88).f1.size ≤ maxLen := (hok _ (getD_mem _ hi)).2
      rw [lmax] at hb
      have e : ∀ k, laws_szGroupEntryS.l0 (k + 1) x left (i : Int) = if left - ((x.getD i z88).f1.size : Int) < 0 then some (-1) else laws_szGroupEntryS.l0 k x (left - ((x.getD i z88).f1.size : Int)) ((i : Int) + 1) := fun k => by
        simp only [laws_szGroupEntryS.l0, laws_szGroupEntry.f]
        rw [if_pos (by omega), if_pos (by omega), show (rd_T88 x (i : Int)) = x.getD i z88 from rfl, w64 (by omega) (by omega), w64 (x := (i : Int) + 1) (by omega) (by omega)]
        by_cases c : left - ((x.getD i z88).f1.size : Int) < 0
        · rw [if_pos c, if_pos c]; rfl
        · rw [if_neg c, if_neg c]; simp only [Option.bind_some]; rw [if_neg c]
      by_cases c : left - ((x.getD i z88).f1.size : Int) < 0
      · exact .inl ⟨-1, Ev.step (f := fun _ => some (-1)) (fun k => by rw [e, if_pos c]) (Ev.now _), by omega⟩
      · exact .inr ⟨left - ((x.getD i z88).f1.size : Int), by omega, by omega, fun r hr => Ev.step (fun k => by rw [e, if_neg c]) hr⟩
    · exact Ev.step (f := fun _ => some left) (fun k => by simp only [laws_szGroupEntryS.l0]; rw [if_neg (by omega)]) (Ev.now _)

theorem last_tot (l : List S90) (h : l.length ≤ 1048576) : ∃ v, spec_l15Last.f l = some v ∧ impl_lastTerm.f l = some v := by
  unfold spec_l15Last.f impl_lastTerm.f
  by_cases c : (l.length : Int) = 0
  · exact ⟨0, if_pos c, if_pos c⟩
  · rw [if_neg c, w64 (by omega) (by omega), if_pos (by omega), if_pos (by omega)]
    exact ⟨_, rfl, rfl⟩
theorem newer_eq (a b : List S90) (ha : a.length ≤ 1048576) (hb : b.length ≤ 1048576) : ∃ v, spec_NewerLog.f a b = some v ∧ impl_NewerLog.f a b = some v := by
  obtain ⟨x, hx, hx'⟩ := last_tot a ha
  obtain ⟨y, hy, hy'⟩ := last_tot b hb
  unfold spec_NewerLog.f impl_NewerLog.f
  simp only [hx, hx', hy, hy', Option.bind_some]
  by_cases c : x > y
  · exact ⟨true, if_pos c, if_pos c⟩
  · rw [if_neg c]
    by_cases d : x = y
    · rw [if_pos d]; exact ⟨_, rfl, rfl⟩
    · rw [if_neg d]; exact ⟨_, rfl, rfl⟩
theorem FnExactNewerLog : laws_FnExactNewerLog.Pure := by
  intro l0 l1 q0 q1
  refine Ev.rounds (g := fun k => laws_FnExactNewerLog.f k l0 l1) ?_
  unfold laws_FnExactNewerLog.f
  obtain ⟨r0, e0, h0⟩ := szGE l0 1048576 (by omega) (by omega) q0
  refine Ev.bind e0 ?_
  by_cases c0 : r0 < 0
  · exact Ev.ifT c0 (Ev.now _)
  refine Ev.ifF c0 ?_
  obtain ⟨r1, e1, h1⟩ := szGE l1 r0 (by omega) (by omega) q1
  refine Ev.bind e1 ?_
  by_cases c1 : r1 < 0
  · exact Ev.ifT c1 (Ev.now _)
  refine Ev.ifF c1 ?_
  have t0 := toGE l0 (by omega)
  have t1 := toGE l1 (by omega)
  obtain ⟨v, n1, n2⟩ := newer_eq (l0.map cGE) (l1.map cGE) (by simp; omega) (by simp; omega)
  refine Ev.bind t0 (Ev.bind t1 (Ev.bind0 n1 (Ev.bind t0 (Ev.bind t1 (Ev.bind0 n2 ?_)))))
  refine Ev.ifF (by simp) (Ev.bind t0 (Ev.bind (eqGE _ (by simp; omega)) (Ev.ifT rfl ?_)))
  exact Ev.bind t1 (Ev.bind (eqGE _ (by simp; omega)) (Ev.ifT rfl (Ev.now _)))
end Go.Proofs.Ytncghlamcbhpmaa.Pure
