/-
  The plain law ClusterFault: the program's answer is the reference's; for all configurations.
-/
import Derived.Test.YtncghlamcbhpmaaPFnExactClusterFaultq
import Derived.Test.YtncghlamcbhpmaaBase
namespace Go.Proofs.Ytncghlamcbhpmaa.Pure
open Go.RowKit Go.Proofs.Ytncghlamcbhpmaa.PFnExactClusterFault Go.Proofs.Ytncghlamcbhpmaa.Base Go.Proofs.YtncghlamcbhpmaaW.PrintWords Go.Proofs.YtncghlamcbhpmaaW.PrintLast Go.Proofs.YtncghlamcbhpmaaW.PrintMore
def cNode (x : S127) : S125 := ⟨x.f0, x.f1⟩
theorem toNodes (l : List S127) (h : l.length ≤ 1048576) : Ev (fun k => laws_toNodeS.f k l) (l.map cNode) := by
  unfold laws_toNodeS.f
  refine Ev.ifT (by omega) (Ev.ifT (by simp; omega) ?_)
  refine map_loop laws_toNodeS.l0 cNode z127 (fun _ => True) (fun x y i hx _ hi hy r hr => ?_) (fun x y i hi => ?_) l (by omega) (by simp) _
  · refine Ev.step (fun k => ?_) hr
    simp only [laws_toNodeS.l0, laws_toNode.f, Option.bind_some]
    rw [if_pos (by omega), if_pos (by omega), if_pos (by omega), w64 (by omega) (by omega)]
    rfl
  · exact Ev.step (f := fun _ => some y) (fun k => by simp only [laws_toNodeS.l0]; rw [if_neg (by omega)]) (Ev.now _)
theorem eqNodes (l : List S125) (h : l.length ≤ 1048576) : Ev (fun k => laws_eqNodeS.f k l l) true := by
  unfold laws_eqNodeS.f
  refine Ev.ifT rfl ?_
  refine eq_loop laws_eqNodeS.l0 (fun _ => True) (fun x i hx _ hi hr => ?_) (fun x i hi => ?_) l (by omega) (by simp)
  · refine Ev.step (fun k => ?_) hr
    simp only [laws_eqNodeS.l0, laws_eqNode.f, if_true, Option.bind_some]
    rw [if_pos (by omega), if_pos (by omega), if_pos (by omega), w64 (by omega) (by omega)]
  · exact Ev.step (f := fun _ => some true) (fun k => by simp only [laws_eqNodeS.l0]; rw [if_neg (by omega)]) (Ev.now _)
theorem szNodes (l : List S127) (left : Int) (h0 : 0 ≤ left) (h1 : left ≤ 1048576) (hl : l.length ≤ maxLen) : ∃ r, laws_szNodeS.f l left = some r ∧ (r < 0 ∨ 0 ≤ r ∧ r ≤ left ∧ l.length ≤ 1048576) := by
  rw [lmax] at hl
  unfold laws_szNodeS.f
  rw [w64 (by omega) (by omega)]
  by_cases c : left - (l.length : Int) < 0
  · exact ⟨-1, if_pos c, .inl (by omega)⟩
  · exact ⟨_, if_neg c, .inr (by omega)⟩

theorem nodesFault_l (l : List S125) (h : l.length ≤ 1048576) : ∀ (d i : Nat), l.length = i + d → ∃ v, Ev (fun k => spec_NodesFault.l0 k l (i : Int)) v ∧ Ev (fun k => impl_NodesFault.l0 k l (l.length : Int) (i : Int)) v := by
  intro d
  induction d with
  | zero =>
    intro i hi
    exact ⟨0, Ev.step (f := fun _ => some 0) (fun k => by simp only [spec_NodesFault.l0]; rw [if_neg (by omega)]) (Ev.now _), Ev.step (f := fun _ => some 0) (fun k => by simp only [impl_NodesFault.l0]; rw [if_neg (by omega)]) (Ev.now _)⟩
  | succ d ih =>
    intro i hi
    obtain ⟨v, h1, h2⟩ := ih (i + 1) (by omega)
    have e1 : wrap64 ((i : Int) + 1) = ((i + 1 : Nat) : Int) := by rw [w64 (by omega) (by omega)]; rfl
    by_cases a1 : ((rd_T125 l (i : Int)).f0) < 0
    · exact ⟨1, Ev.step (f := fun _ => some 1) (fun k => by simp only [spec_NodesFault.l0]; rw [if_pos (by omega), if_pos (by omega), if_pos a1]) (Ev.now _), Ev.step (f := fun _ => some 1) (fun k => by simp only [impl_NodesFault.l0]; rw [if_pos (by omega), if_pos (by omega), if_pos (by omega), if_pos a1]) (Ev.now _)⟩
    by_cases a2 : ((rd_T125 l (i : Int)).f0) > 200
    · exact ⟨1, Ev.step (f := fun _ => some 1) (fun k => by simp only [spec_NodesFault.l0]; rw [if_pos (by omega), if_pos (by omega), if_neg a1, if_pos a2]) (Ev.now _), Ev.step (f := fun _ => some 1) (fun k => by simp only [impl_NodesFault.l0]; rw [if_pos (by omega), if_pos (by omega), if_pos (by omega), if_neg a1, if_pos a2]) (Ev.now _)⟩
    by_cases a3 : ((rd_T125 l (i : Int)).f1) < 0
    · exact ⟨1, Ev.step (f := fun _ => some 1) (fun k => by simp only [spec_NodesFault.l0]; rw [if_pos (by omega), if_pos (by omega), if_neg a1, if_neg a2, if_pos a3]) (Ev.now _), Ev.step (f := fun _ => some 1) (fun k => by simp only [impl_NodesFault.l0]; rw [if_pos (by omega), if_pos (by omega), if_pos (by omega), if_neg a1, if_neg a2, if_pos a3]) (Ev.now _)⟩
    by_cases a4 : ((rd_T125 l (i : Int)).f1) > 64
    · exact ⟨1, Ev.step (f := fun _ => some 1) (fun k => by simp only [spec_NodesFault.l0]; rw [if_pos (by omega), if_pos (by omega), if_neg a1, if_neg a2, if_neg a3, if_pos a4]) (Ev.now _), Ev.step (f := fun _ => some 1) (fun k => by simp only [impl_NodesFault.l0]; rw [if_pos (by omega), if_pos (by omega), if_pos (by omega), if_neg a1, if_neg a2, if_neg a3, if_pos a4]) (Ev.now _)⟩
    refine ⟨v, Ev.step (fun k => ?_) h1, Ev.step (fun k => ?_) h2⟩
    · simp only [spec_NodesFault.l0]; rw [if_pos (by omega), if_pos (by omega), if_neg a1, if_neg a2, if_neg a3, if_neg a4, e1]
    · simp only [impl_NodesFault.l0]; rw [if_pos (by omega), if_pos (by omega), if_pos (by omega), if_neg a1, if_neg a2, if_neg a3, if_neg a4, e1]
theorem nodesFault_eq (l : List S125) (h : l.length ≤ 1048576) : ∃ v, Ev (fun k => spec_NodesFault.f k l) v ∧ Ev (fun k => impl_NodesFault.f k l) v := by
  have one : ∀ b : Bool, b = true → Ev (fun k => spec_NodesFault.j0 k l b) 1 ∧ Ev (fun k => impl_NodesFault.j0 k l b) 1 := by
    rintro b rfl
    exact ⟨Ev.step (f := fun _ => some 1) (fun k => by simp only [spec_NodesFault.j0, if_true]) (Ev.now _), Ev.step (f := fun _ => some 1) (fun k => by simp only [impl_NodesFault.j0, if_true]) (Ev.now _)⟩
  unfold spec_NodesFault.f impl_NodesFault.f
  by_cases c : (l.length : Int) < 1
  · exact ⟨1, Ev.ifT c (one true rfl).1, Ev.ifT c (one true rfl).2⟩
  by_cases d : (l.length : Int) > 200
  · exact ⟨1, Ev.ifF c (one _ (by simpa using d)).1, Ev.ifF c (one _ (by simpa using d)).2⟩
  obtain ⟨v, h1, h2⟩ := nodesFault_l l h l.length 0 (by omega)
  have dd : decide ((l.length : Int) > 200) = false := by simpa using d
  rw [dd]
  exact ⟨v, Ev.ifF c (Ev.step (fun k => by simp only [spec_NodesFault.j0]; rw [if_neg (by decide)]; rfl) h1), Ev.ifF c (Ev.step (fun k => by simp only [impl_NodesFault.j0]; rw [if_neg (by decide)]; rfl) h2)⟩
theorem codeFault_eq (a b c : Int) : ∃ v, spec_CodeFault.f a b c = some v ∧ impl_CodeFault.f a b c = some v := by
  have : impl_CodeFault.f a b c = spec_CodeFault.f a b c := rfl
  rw [this]
  unfold spec_CodeFault.f
  by_cases h1 : a < 1
  · rw [if_pos h1]; exact ⟨_, rfl, rfl⟩
  rw [if_neg h1]
  by_cases h1 : a > 32
  · rw [if_pos h1]; exact ⟨_, rfl, rfl⟩
  rw [if_neg h1]
  by_cases h1 : b < 0
  · rw [if_pos h1]; exact ⟨_, rfl, rfl⟩
  rw [if_neg h1]
  by_cases h1 : b > 16
  · rw [if_pos h1]; exact ⟨_, rfl, rfl⟩
  rw [if_neg h1]
  by_cases h1 : c < 0
  · rw [if_pos h1]; exact ⟨_, rfl, rfl⟩
  rw [if_neg h1]
  by_cases h1 : c > a
  · rw [if_pos h1]; exact ⟨_, rfl, rfl⟩
  rw [if_neg h1]
  by_cases h1 : wrap64 (wrap64 (a + b) + c) > 64
  · rw [if_pos h1]; exact ⟨_, rfl, rfl⟩
  rw [if_neg h1]; exact ⟨_, rfl, rfl⟩

theorem clusterFault_eq (l : List S125) (a b c u : Int) (h : l.length ≤ 1048576) : ∃ v, Ev (fun k => spec_ClusterFault.f k l a b c u) v ∧ Ev (fun k => impl_ClusterFault.f k l a b c u) v := by
  obtain ⟨v, h1, h2⟩ := nodesFault_eq l h
  obtain ⟨x, g1, g2⟩ := codeFault_eq a b c
  unfold spec_ClusterFault.f impl_ClusterFault.f
  by_cases c1 : v = 0
  · by_cases c2 : x = 0
    · by_cases c3 : u < 1
      · exact ⟨1, Ev.bind h1 (Ev.ifT c1 (Ev.bind0 g1 (Ev.ifT c2 (Ev.ifT c3 (Ev.now _))))), Ev.bind h2 (Ev.ifT c1 (Ev.bind0 g2 (Ev.ifT c2 (Ev.ifT c3 (Ev.now _)))))⟩
      · by_cases c4 : u > 4096
        · exact ⟨1, Ev.bind h1 (Ev.ifT c1 (Ev.bind0 g1 (Ev.ifT c2 (Ev.ifF c3 (Ev.ifT c4 (Ev.now _)))))), Ev.bind h2 (Ev.ifT c1 (Ev.bind0 g2 (Ev.ifT c2 (Ev.ifF c3 (Ev.ifT c4 (Ev.now _))))))⟩
        · exact ⟨0, Ev.bind h1 (Ev.ifT c1 (Ev.bind0 g1 (Ev.ifT c2 (Ev.ifF c3 (Ev.ifF c4 (Ev.now _)))))), Ev.bind h2 (Ev.ifT c1 (Ev.bind0 g2 (Ev.ifT c2 (Ev.ifF c3 (Ev.ifF c4 (Ev.now _))))))⟩
    · exact ⟨1, Ev.bind h1 (Ev.ifT c1 (Ev.bind0 g1 (Ev.ifF c2 (Ev.now _)))), Ev.bind h2 (Ev.ifT c1 (Ev.bind0 g2 (Ev.ifF c2 (Ev.now _))))⟩
  · exact ⟨1, Ev.bind h1 (Ev.ifF c1 (Ev.now _)), Ev.bind h2 (Ev.ifF c1 (Ev.now _))⟩
theorem toCC (l : List S127) (a b c u : Int) (h : l.length ≤ 1048576) : Ev (fun k => laws_toClusterConfig.f k l a b c u) (l.map cNode, a, b, c, u) := by
  unfold laws_toClusterConfig.f
  exact Ev.bind (toNodes l h) (Ev.bind0 rfl (Ev.now _))
theorem eqCC (l : List S125) (a b c u : Int) (h : l.length ≤ 1048576) : Ev (fun k => laws_eqClusterConfig.f k l a b c u l a b c u) true := by
  unfold laws_eqClusterConfig.f
  refine Ev.bind (eqNodes l h) (Ev.ifT rfl (Ev.bind0 (a := true) ?_ (Ev.ifT rfl (Ev.ifT rfl (Ev.now _)))))
  simp [laws_eqCode.f]
theorem FnExactClusterFault : laws_FnExactClusterFault.Pure := by
  intro l a b c u ql _ _ _ _
  refine Ev.rounds (g := fun k => laws_FnExactClusterFault.f k l a b c u) ?_
  unfold laws_FnExactClusterFault.f
  obtain ⟨r, e, h⟩ := szNodes l 1048576 (by omega) (by omega) ql.1
  have e' : laws_szClusterConfig.f l a b c u 1048576 = some (if r < 0 then -1 else r) := by
    unfold laws_szClusterConfig.f
    rw [e]; simp only [Option.bind_some]; split <;> rfl
  refine Ev.bind0 e' ?_
  by_cases c0 : r < 0
  · rw [if_pos c0]; exact Ev.ifT (by omega) (Ev.now _)
  rw [if_neg c0]
  refine Ev.ifF c0 ?_
  have hl : l.length ≤ 1048576 := by omega
  have t := toCC l a b c u hl
  obtain ⟨v, h1, h2⟩ := clusterFault_eq (l.map cNode) a b c u (by simpa using hl)
  refine Ev.bind t (Ev.bind h1 (Ev.bind t (Ev.bind h2 (Ev.ifT rfl (Ev.bind t (Ev.bind (eqCC _ _ _ _ _ (by simpa using hl)) (Ev.ifT rfl (Ev.now _))))))))
end Go.Proofs.Ytncghlamcbhpmaa.Pure
