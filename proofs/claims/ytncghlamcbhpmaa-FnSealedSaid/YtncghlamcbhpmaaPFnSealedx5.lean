/-
  Unwrap: what the call does.
-/
import Derived.Test.YtncghlamcbhpmaaPFnSealedx0
import Derived.Test.YtncghlamcbhpmaaPFnSealedx2
import Derived.Test.YtncghlamcbhpmaaPFnSealedx3
import Derived.Test.YtncghlamcbhpmaaPFnSealedx4
namespace Go.Proofs.Ytncghlamcbhpmaa.PFnSealed
open Go.RowKit Go.Proofs.YtncghlamcbhpmaaW.PrintWords Go.Proofs.YtncghlamcbhpmaaW.PrintLast Go.Proofs.YtncghlamcbhpmaaW.PrintMore
def impl_unwrap.f (k : Nat) (a0 : ByteArray) (a1 : ByteArray) (a2 : Int) : Option (ByteArray × Bool) :=
  (impl_covered.f k a1 a0 a2).bind fun d => (impl_cursor_text.f k d 0).bind fun b =>
    if b.2.1 = true then (impl_isKey.f b.1).bind fun q => if q = true then
      (if 0 ≤ b.2.2.2 then (if b.2.2.2 ≤ (b.2.2.1.size : Int) then (impl_SumOf.f k (b.2.2.1.extract 0 b.2.2.2.toNat) 8).bind fun s => (impl_sumBytes.f s).bind fun u => some (b.1, (b.2.2.1.extract b.2.2.2.toNat b.2.2.1.size).toList == u.toList) else none) else none)
      else some ((⟨#[]⟩ : ByteArray), false)
    else some ((⟨#[]⟩ : ByteArray), false)
theorem impl_unwrap.mono : ∀ a0 a1 a2 k, LeO (impl_unwrap.f k a0 a1 a2) (impl_unwrap.f (k + 1) a0 a1 a2) := by
  intro a0 a1 a2 k
  unfold impl_unwrap.f
  exact LeO.bind (impl_covered.mono a1 a0 a2 k) (fun d => LeO.bind (impl_cursor_text.mono d 0 k) (fun b => LeO.ite (LeO.bind (LeO.refl _) (fun q => LeO.ite (LeO.ite (LeO.ite (LeO.bind (impl_SumOf.mono _ 8 k) (fun _ => LeO.refl _)) (LeO.refl _)) (LeO.refl _)) (LeO.refl _))) (LeO.refl _)))
set_option maxHeartbeats 8000000 in
set_option maxRecDepth 100000 in
theorem impl_unwrap.calls (k : Nat) (a0 : ByteArray) (a1 : ByteArray) (a2 : Int) (r1 : ByteArray) (r2 : Bool) (w : World) (h : impl_unwrap.f k a0 a1 a2 = some (r1, r2)) :
    Calls Try.prog 75 #[.string a0, .string a1, .int .i64 a2] w fun e w' => e = .returned (.tuple #[.string r1, .bool r2]) ∧ Below w.heap.size w w' := by
  have hu := Try.underlying95
  obtain ⟨d, h1, h⟩ := Option.bind_eq_some_iff.mp h
  obtain ⟨⟨t1, t2, t3, t4⟩, h2, h⟩ := Option.bind_eq_some_iff.mp h
  replace h : (if t2 = true then (impl_isKey.f t1).bind fun q => if q = true then (if 0 ≤ t4 then (if t4 ≤ (t3.size : Int) then (impl_SumOf.f k (t3.extract 0 t4.toNat) 8).bind fun s => (impl_sumBytes.f s).bind fun u => some (t1, (t3.extract t4.toNat t3.size).toList == u.toList) else none) else none) else some ((⟨#[]⟩ : ByteArray), false) else some ((⟨#[]⟩ : ByteArray), false)) = some (r1, r2) := h
  have A1 := Aside0.mk h1
  have A2 := Aside0.mk h2
  clear h1 h2
  cases t2 with
  | false =>
    simp only [Bool.false_eq_true, if_false, Option.some.injEq, Prod.mk.injEq] at h
    obtain ⟨rfl, rfl⟩ := h
    go_enter Try.func75, Try.ntmps75
    go_wp2_with (first
    | ((with_reducible refine gate_callee (f := 76) rfl ?_); refine goesL_ (some 15) rfl rfl Try.func76 (by kernel_rfl) rfl #[.string a1, .string a0, .int .i64 a2] rfl (by (try simp only [List.map_toArray, List.map_cons, List.map_nil]); first | done | rfl) ?_; (with_reducible refine (impl_covered.calls k a1 a0 a2 d _ A1.out).mono ?_); rintro e w1 ⟨rfl, hb⟩; refine ⟨_, rfl, ?_⟩; have HB := Aside0.mk hb; clear hb)
    | ((with_reducible refine gate_dst (N := 17) rfl ?_); (try (refine gate_guard (by rfl) ?_; dsimp only)); refine box_event ?hg (N := 17) ?hd (cs := #[.string d, .int .i64 0]) (t := 95) ?hr ?_; (case hd => rfl); (case hg => rfl); (case hr => first | (go_simp; done) | (go_simp; rfl)); intro g hg w2 hbox hb; have HI := Aside0.mk (show IsS95 w w2 g d 0 from ⟨hbox, by rw [hg]; exact HB.out.size⟩); have HB' := Aside0.mk (below_step HB.out hb); clear HB hb hbox hg; have HB := HB'; clear HB')
    | ((with_reducible refine gate_callee (f := 56) rfl ?_); refine goesL_ (some 20) rfl rfl Try.func56 (by kernel_rfl) rfl #[.pointer (some ⟨g, 0, none⟩)] rfl (by (try simp only [List.map_toArray, List.map_cons, List.map_nil]); first | done | rfl) ?_; (with_reducible refine (impl_cursor_text.calls k g d 0 t1 false t3 t4 w _ HI.out HB.out A2.out).mono ?_); rintro e w3 ⟨rfl, hi, hb, hk⟩; refine ⟨_, rfl, ?_⟩; have HI' := Aside0.mk hi; have HB' := Aside0.mk hb; clear HI HB hi hb hk; have HI := HI'; have HB := HB'; clear HI' HB'))
    go_ret2
    exact ⟨rfl, HB.out⟩
  | true =>
    simp only [if_true] at h
    obtain ⟨q, h3, h⟩ := Option.bind_eq_some_iff.mp h
    have A3 := Aside0.mk h3
    clear h3
    cases q with
    | false =>
      simp only [Bool.false_eq_true, if_false, Option.some.injEq, Prod.mk.injEq] at h
      obtain ⟨rfl, rfl⟩ := h
      go_enter Try.func75, Try.ntmps75
      go_wp2_with (first
    | ((with_reducible refine gate_callee (f := 76) rfl ?_); refine goesL_ (some 15) rfl rfl Try.func76 (by kernel_rfl) rfl #[.string a1, .string a0, .int .i64 a2] rfl (by (try simp only [List.map_toArray, List.map_cons, List.map_nil]); first | done | rfl) ?_; (with_reducible refine (impl_covered.calls k a1 a0 a2 d _ A1.out).mono ?_); rintro e w1 ⟨rfl, hb⟩; refine ⟨_, rfl, ?_⟩; have HB := Aside0.mk hb; clear hb)
    | ((with_reducible refine gate_dst (N := 17) rfl ?_); (try (refine gate_guard (by rfl) ?_; dsimp only)); refine box_event ?hg (N := 17) ?hd (cs := #[.string d, .int .i64 0]) (t := 95) ?hr ?_; (case hd => rfl); (case hg => rfl); (case hr => first | (go_simp; done) | (go_simp; rfl)); intro g hg w2 hbox hb; have HI := Aside0.mk (show IsS95 w w2 g d 0 from ⟨hbox, by rw [hg]; exact HB.out.size⟩); have HB' := Aside0.mk (below_step HB.out hb); clear HB hb hbox hg; have HB := HB'; clear HB')
    | ((with_reducible refine gate_callee (f := 56) rfl ?_); refine goesL_ (some 20) rfl rfl Try.func56 (by kernel_rfl) rfl #[.pointer (some ⟨g, 0, none⟩)] rfl (by (try simp only [List.map_toArray, List.map_cons, List.map_nil]); first | done | rfl) ?_; (with_reducible refine (impl_cursor_text.calls k g d 0 t1 true t3 t4 w _ HI.out HB.out A2.out).mono ?_); rintro e w3 ⟨rfl, hi, hb, hk⟩; refine ⟨_, rfl, ?_⟩; have HI' := Aside0.mk hi; have HB' := Aside0.mk hb; clear HI HB hi hb hk; have HI := HI'; have HB := HB'; clear HI' HB')
    | ((with_reducible refine gate_callee (f := 81) rfl ?_); (try (refine gate_guard (by rfl) ?_; dsimp only)); refine goesL_ (some 27) rfl rfl Try.func81 (by kernel_rfl) rfl #[.string t1] rfl (by (try simp only [List.map_toArray, List.map_cons, List.map_nil]); first | done | rfl) ?_; (with_reducible refine (impl_isKey.calls t1 false _ A3.out).mono ?_); rintro e w4 ⟨rfl, hd⟩; refine ⟨_, rfl, ?_⟩; have HI' := Aside0.mk (show IsS95 w w4 g t3 t4 by obtain ⟨nd, rfl⟩ := hd.out; exact IsS95.drewN HI.out nd); have HB' := Aside0.mk (show Below w.heap.size w w4 by obtain ⟨nd, rfl⟩ := hd.out; exact pw_below_drewN HB.out nd); clear HI HB hd; have HI := HI'; have HB := HB'; clear HI' HB'))
      go_ret2
      exact ⟨rfl, HB.out⟩
    | true =>
      simp only [if_true] at h
      by_cases c1 : 0 ≤ t4
      rotate_left
      · rw [if_neg c1] at h; cases h
      rw [if_pos c1] at h
      by_cases c2 : t4 ≤ (t3.size : Int)
      rotate_left
      · rw [if_neg c2] at h; cases h
      rw [if_pos c2] at h
      obtain ⟨s, h4, h⟩ := Option.bind_eq_some_iff.mp h
      obtain ⟨u, h5, h⟩ := Option.bind_eq_some_iff.mp h
      simp only [Option.some.injEq, Prod.mk.injEq] at h
      obtain ⟨rfl, rfl⟩ := h
      have A4 := Aside0.mk h4
      have A5 := Aside0.mk h5
      have c1b := eq_true c1
      have c1c := decide_eq_true c1
      have c2b := eq_true c2
      have c2c := decide_eq_true c2
      clear h4 h5
      go_enter Try.func75, Try.ntmps75
      go_wp2_with (first
    | ((with_reducible refine gate_callee (f := 76) rfl ?_); refine goesL_ (some 15) rfl rfl Try.func76 (by kernel_rfl) rfl #[.string a1, .string a0, .int .i64 a2] rfl (by (try simp only [List.map_toArray, List.map_cons, List.map_nil]); first | done | rfl) ?_; (with_reducible refine (impl_covered.calls k a1 a0 a2 d _ A1.out).mono ?_); rintro e w1 ⟨rfl, hb⟩; refine ⟨_, rfl, ?_⟩; have HB := Aside0.mk hb; clear hb)
    | ((with_reducible refine gate_dst (N := 17) rfl ?_); (try (refine gate_guard (by rfl) ?_; dsimp only)); refine box_event ?hg (N := 17) ?hd (cs := #[.string d, .int .i64 0]) (t := 95) ?hr ?_; (case hd => rfl); (case hg => rfl); (case hr => first | (go_simp; done) | (go_simp; rfl)); intro g hg w2 hbox hb; have HI := Aside0.mk (show IsS95 w w2 g d 0 from ⟨hbox, by rw [hg]; exact HB.out.size⟩); have HB' := Aside0.mk (below_step HB.out hb); clear HB hb hbox hg; have HB := HB'; clear HB')
    | ((with_reducible refine gate_callee (f := 56) rfl ?_); refine goesL_ (some 20) rfl rfl Try.func56 (by kernel_rfl) rfl #[.pointer (some ⟨g, 0, none⟩)] rfl (by (try simp only [List.map_toArray, List.map_cons, List.map_nil]); first | done | rfl) ?_; (with_reducible refine (impl_cursor_text.calls k g d 0 t1 true t3 t4 w _ HI.out HB.out A2.out).mono ?_); rintro e w3 ⟨rfl, hi, hb, hk⟩; refine ⟨_, rfl, ?_⟩; have HI' := Aside0.mk hi; have HB' := Aside0.mk hb; clear HI HB hi hb hk; have HI := HI'; have HB := HB'; clear HI' HB')
    | ((with_reducible refine gate_callee (f := 81) rfl ?_); (try (refine gate_guard (by rfl) ?_; dsimp only)); refine goesL_ (some 27) rfl rfl Try.func81 (by kernel_rfl) rfl #[.string t1] rfl (by (try simp only [List.map_toArray, List.map_cons, List.map_nil]); first | done | rfl) ?_; (with_reducible refine (impl_isKey.calls t1 true _ A3.out).mono ?_); rintro e w4 ⟨rfl, hd⟩; refine ⟨_, rfl, ?_⟩; have HI' := Aside0.mk (show IsS95 w w4 g t3 t4 by obtain ⟨nd, rfl⟩ := hd.out; exact IsS95.drewN HI.out nd); have HB' := Aside0.mk (show Below w.heap.size w w4 by obtain ⟨nd, rfl⟩ := hd.out; exact pw_below_drewN HB.out nd); clear HI HB hd; have HI := HI'; have HB := HB'; clear HI' HB'))
      have hc0 : w4.cell? ⟨g, 0, none⟩ = some (.string t3) := cellS95_0 HI.out.1
      have hc1 : w4.cell? ⟨g, 1, none⟩ = some (.int .i64 t4) := cellS95_1 HI.out.1
      go_region_with (first
        | (go_at_call 78; refine (impl_SumOf.calls k (t3.extract 0 t4.toNat) 8 s _ A4.out).mono ?_; rintro e w5 ⟨rfl, hd⟩; have HI5 := Aside0.mk (show IsS95 w w5 g t3 t4 by obtain ⟨nd, rfl⟩ := hd; exact IsS95.drewN HI.out.drew nd); have HB5 := Aside0.mk (show Below w.heap.size w w5 by obtain ⟨nd, rfl⟩ := hd; exact pw_below_drewN (pw_below_drewN HB.out 1) nd); clear hd)
        | (go_at_call 77; refine (impl_sumBytes.calls s u _ A5.out).mono ?_; rintro e w6 ⟨rfl, hb6⟩; have HI6 := Aside0.mk (IsS95.below HI5.out hb6); have HB6 := Aside0.mk (below_step HB5.out hb6); clear hb6; have hc2 : w6.cell? ⟨g, 0, none⟩ = some (.string t3) := cellS95_0 HI6.out.1; have hc3 : w6.cell? ⟨g, 1, none⟩ = some (.int .i64 t4) := cellS95_1 HI6.out.1))
      all_goals go_wp2
      all_goals go_quiet (fail)
      all_goals go_wp2
      all_goals go_ret2
      all_goals exact ⟨rfl, pw_below_drewN HB6.out _⟩

end Go.Proofs.Ytncghlamcbhpmaa.PFnSealed
