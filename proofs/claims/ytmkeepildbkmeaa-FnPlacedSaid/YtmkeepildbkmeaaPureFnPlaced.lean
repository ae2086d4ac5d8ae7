/-
  The plain law Placed; for all drawn bytes.
-/
import Derived.Test.YtmkeepildbkmeaaPurePlacedFnPlaced
import Derived.Test.YtmkeepildbkmeaaPureDrawFnPlaced
namespace Go.Proofs.Ytmkeepildbkmeaa.Pure
open Go.RowKit Go.Proofs.Ytmkeepildbkmeaa.PFnPlaced Go.Proofs.Ytmkeepildbkmeaa.Base Go.Proofs.YtmkeepildbkmeaaW.PrintWords Go.Proofs.YtmkeepildbkmeaaW.PrintLast Go.Proofs.YtmkeepildbkmeaaW.PrintMore
open Go.Proofs.Ytmkeepildbkmeaa.Hs Go.Proofs.Ytmkeepildbkmeaa.Ring

theorem lwInts_f (l : List Int) (hl : l.length ≤ 1048576) : Ev (fun k => laws_lwInts.f k l l) true := by
  unfold laws_lwInts.f
  refine Ev.ifT rfl ?_
  exact eq_loop laws_lwInts.l0 (fun _ => True) (fun x i h1 _ hi ev => by
    refine Ev.step (fun k => by rw [laws_lwInts.l0, if_pos (by omega), if_pos (by omega), if_pos (by omega), if_pos rfl]) ?_
    rw [w64 (by omega) (by omega)]
    exact ev) (fun x i hi => Ev.step (fun k => by rw [laws_lwInts.l0, if_neg (by omega)]) (Ev.now _)) l (by omega) (fun _ _ => trivial)
theorem FnPlaced : laws_FnPlaced.Pure := by
  intro code hc
  have hcb : Bytes code := fun x hx => wf_u8 (hc.2 x hx)
  refine Ev.rounds (g := fun k => laws_FnPlaced.f k code) ?_
  unfold laws_FnPlaced.f
  by_cases c : (code.length : Int) > 1048576
  · exact Ev.ifT c (Ev.now _)
  refine Ev.ifF c ?_
  obtain ⟨l0, a1, a2, hd⟩ := drawPlace_tot hcb (by omega)
  refine Ev.bind hd ?_
  have empty : ∀ r : Int, Ev (fun k => laws_FnPlaced.j0 k l0 a1 (!true) r []) true := fun r =>
    Ev.step (fun k => by rw [laws_FnPlaced.j0, if_neg (by decide)]) (Ev.step (f := fun _ => some true) (fun k => by rw [laws_FnPlaced.l0, if_neg (by decide)]) (Ev.now _))
  by_cases h : Right l0 ∧ 1 ≤ a2 ∧ a2 ≤ 64 ∧ a1.size ≤ 1000
  rotate_left
  · obtain ⟨e1, e2⟩ := bad_eq h
    exact Ev.bind e1 (Ev.bind e2 (Ev.ifT rfl (Ev.bind (lwInts_f [] (by decide)) (empty 1))))
  have e1 := iplace_good h.1 h.2.1 h.2.2.1 h.2.2.2
  have e2 := splace_good h.1 h.2.1 h.2.2.1 h.2.2.2
  refine Ev.bind e1 (Ev.bind e2 (Ev.ifT rfl ?_))
  obtain ⟨S, s1, s2, s3, s4⟩ := placed (domOf l0) a2 (scN a1 l0) l0.length
  have hlen := h.1.2.1
  have hpl := pick_len (domOf l0) a2 (ringV (scN a1 l0) l0.length) []
  have hrl := ring_len (scN a1 l0) l0.length
  simp only [List.length_nil] at hpl
  have hSl : S.length ≤ 1000 := by
    have : (S.map (·.1)).length = S.length := List.length_map _
    rw [← s1] at this; omega
  unfold placeV resV
  by_cases f : ((pickV (domOf l0) a2 (ringV (scN a1 l0) l0.length) []).length : Int) < a2
  · rw [if_pos f]
    exact Ev.bind (lwInts_f [] (by decide)) (empty 7)
  · rw [if_neg f, s1]
    refine Ev.bind (lwInts_f (S.map (·.1)) (by rw [List.length_map]; omega)) ?_
    refine Ev.step (fun k => by rw [laws_FnPlaced.j0, if_neg (by decide)]) ?_
    exact disk_loop h.1 h.2.2.2 s2 hSl s3 s4 S.length 0 (by omega)
end Go.Proofs.Ytmkeepildbkmeaa.Pure
