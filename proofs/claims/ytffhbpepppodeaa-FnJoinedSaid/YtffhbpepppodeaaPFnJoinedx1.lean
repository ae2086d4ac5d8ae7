import Derived.Test.YtffhbpepppodeaaPFnJoinedx0
namespace Go.Proofs.Ytffhbpepppodeaa.PFnJoined
open Go.RowKit Go.Proofs.YtffhbpepppodeaaW.PrintWords Go.Proofs.YtffhbpepppodeaaW.PrintLast Go.Proofs.YtffhbpepppodeaaW.PrintMore
attribute [local go_sem] max2_int min2_int max_two min_two max_three min_three max_four min_four   -- for this text's walks alone
set_option linter.unusedVariables false
set_option linter.unusedSimpArgs false

def IsS171 (w0 W : World) (g : Nat) (f0 : List Int) (f1 : Int) (f2 : Int) : Prop:=∃ A0 c0,W.heap[g]? = some (.cells #[.slice A0 f0.length c0,.int .i64 f1,.int .i64 f2] 171 (0,0)) ∧ w0.heap.size ≤ g ∧ Kd.C (Kd.int .u8) w0 A0 f0.length f0
theorem IsS171.grown {w0 W : World} {g : Nat} {f0 : List Int} {f1 : Int} {f2 : Int} {W1 : World} {row : Option Nat} (h : IsS171 w0 W g f0 f1 f2) (hw : W.grownBy W1 row) (hne : some g ≠ row) : IsS171 w0 W1 g f0 f1 f2:=by
 obtain ⟨A0,c0,hb,hg,hr0⟩:=h
 exact ⟨A0,c0,blk_grown hb hw hne,hg,hr0⟩
theorem IsS171.own_neN {w0 W : World} {g : Nat} {f0 : List Int} {f1 : Int} {f2 : Int} {α : Type} {d : Kd α} {e : Nat} {base : Nat} {ok : Nat → Prop} {v : Value} {xs : List α} (h : IsS171 w0 W g f0 f1 f2) (ho : Kd.N d e W base ok v xs) (ht : e ≠ 171) : some g ≠ v.ownBlock:=by
 obtain ⟨A0,c0,hb,hg,hr0⟩:=h
 exact Kd.N_ne ho hb ht
theorem IsS171.fresh {w0 W : World} {g : Nat} {f0 : List Int} {f1 : Int} {f2 : Int} (h : IsS171 w0 W g f0 f1 f2) : ∀ k,W.heap.size ≤ k → k ≠ g:=by
 obtain ⟨A0,c0,hb,hg,hr0⟩:=h
 exact Kd.freshB hb
theorem IsS171.kept {w0 W : World} {g : Nat} {f0 : List Int} {f1 : Int} {f2 : Int} {W1 : World} {S : Nat → Prop} (h : IsS171 w0 W g f0 f1 f2) (hk : Kept W W1 S) (hne : ¬ S g) : IsS171 w0 W1 g f0 f1 f2:=by
 obtain ⟨A0,c0,hb,hg,hr0⟩:=h
 exact ⟨A0,c0,blk_kept hb hk hne,hg,hr0⟩
theorem IsS171.below {w0 W : World} {g : Nat} {f0 : List Int} {f1 : Int} {f2 : Int} {W1 : World} (h : IsS171 w0 W g f0 f1 f2) (hw : Below W.heap.size W W1) : IsS171 w0 W1 g f0 f1 f2:=h.grown (grown_of_below hw none) (by simp)
theorem IsS171.alloc {w0 W : World} {g : Nat} {f0 : List Int} {f1 : Int} {f2 : Int} (h : IsS171 w0 W g f0 f1 f2) (o : Obj) : IsS171 w0 (W.alloc o) g f0 f1 f2:=h.below (below_alloc (Below.refl _ _) o)
theorem IsS171.drewN {w0 W : World} {g : Nat} {f0 : List Int} {f1 : Int} {f2 : Int} (h : IsS171 w0 W g f0 f1 f2) (m : Nat) : IsS171 w0 (W.drewN m) g f0 f1 f2:=h
theorem IsS171.drew {w0 W : World} {g : Nat} {f0 : List Int} {f1 : Int} {f2 : Int} (h : IsS171 w0 W g f0 f1 f2) : IsS171 w0 W.drew g f0 f1 f2:=h
theorem IsS171.at_ {w0 W : World} {g : Nat} {f0 : List Int} {f1 : Int} {f2 : Int} {w' : World} {m : Nat} (hq : W.drewN m = w') (h : IsS171 w0 W g f0 f1 f2) : IsS171 w0 w' g f0 f1 f2:=by subst hq;exact IsS171.drewN h m
theorem IsS171.apart {w0 W : World} {g : Nat} {f0 : List Int} {f1 : Int} {f2 : Int} {α : Type} {d : Kd α} {e : Nat} {base : Nat} {ok : Nat → Prop} {v : Value} {xs : List α} (h : IsS171 w0 W g f0 f1 f2) (ho : d.R e W base ok v xs) (ht : ∀ q,q ∈ e :: d.E → q ≠ 171) : d.R e W base (fun k=>ok k ∧ k ≠ g) v xs:=by
 obtain ⟨A0,c0,hb,hg,hr0⟩:=h
 exact Kd.R_types ho hb ht
theorem IsS171.own_ne {w0 W : World} {g : Nat} {f0 : List Int} {f1 : Int} {f2 : Int} {α : Type} {d : Kd α} {e : Nat} {base : Nat} {ok : Nat → Prop} {v : Value} {xs : List α} (h : IsS171 w0 W g f0 f1 f2) (ho : d.R e W base ok v xs) (ht : e ≠ 171) : some g ≠ v.ownBlock:=by
 obtain ⟨A0,c0,hb,hg,hr0⟩:=h
 exact Kd.R_ne ho hb ht
theorem IsS171.apartQ {w0 W : World} {g : Nat} {f0 : List Int} {f1 : Int} {f2 : Int} {α : Type} {d : Kd α} {e : Nat} {base : Nat} {ok : Nat → Prop} {v : Value} {xs : List α} (h : IsS171 w0 W g f0 f1 f2) (ho : d.Q e W base ok v xs) (ht : ∀ q,q ∈ e :: d.E → q ≠ 171) : d.Q e W base (fun k=>ok k ∧ k ≠ g) v xs:=by
 obtain ⟨A0,c0,hb,hg,hr0⟩:=h
 exact Kd.Q_types ho hb ht
theorem IsS171.own_neQ {w0 W : World} {g : Nat} {f0 : List Int} {f1 : Int} {f2 : Int} {α : Type} {d : Kd α} {e : Nat} {base : Nat} {ok : Nat → Prop} {v : Value} {xs : List α} (h : IsS171 w0 W g f0 f1 f2) (ho : d.Q e W base ok v xs) (ht : e ≠ 171) : some g ≠ v.ownBlock:=by
 obtain ⟨A0,c0,hb,hg,hr0⟩:=h
 exact Kd.Q_ne ho hb ht
theorem IsS171.apartS {w0 W : World} {g : Nat} {f0 : List Int} {f1 : Int} {f2 : Int} {α : Type} {d : Kd α} {e : Nat} {base : Nat} {ok : Nat → Prop} {v : Value} {xs : List α} (h : IsS171 w0 W g f0 f1 f2) (ho : d.S e W base ok v xs) (ht : ∀ q,q ∈ e :: d.E → q ≠ 171) : d.S e W base (fun k=>ok k ∧ k ≠ g) v xs:=by
 obtain ⟨A0,c0,hb,hg,hr0⟩:=h
 exact Kd.S_types ho hb ht
theorem IsS171.own_neS {w0 W : World} {g : Nat} {f0 : List Int} {f1 : Int} {f2 : Int} {α : Type} {d : Kd α} {e : Nat} {base : Nat} {ok : Nat → Prop} {v : Value} {xs : List α} (h : IsS171 w0 W g f0 f1 f2) (ho : d.S e W base ok v xs) (ht : e ≠ 171) : some g ≠ v.ownBlock:=by
 obtain ⟨A0,c0,hb,hg,hr0⟩:=h
 exact Kd.S_ne ho hb ht
theorem IsS171.lt {w0 W : World} {g : Nat} {f0 : List Int} {f1 : Int} {f2 : Int} (h : IsS171 w0 W g f0 f1 f2) : g < W.heap.size:=by
 obtain ⟨A0,c0,hb,hg,hr0⟩:=h
 exact blk_lt hb
theorem IsS171.ge {w0 W : World} {g : Nat} {f0 : List Int} {f1 : Int} {f2 : Int} (h : IsS171 w0 W g f0 f1 f2) : w0.heap.size ≤ g:=by
 obtain ⟨A0,c0,hb,hg,hr0⟩:=h
 exact hg
theorem IsS171.ne_blk {w0 W : World} {g : Nat} {f0 : List Int} {f1 : Int} {f2 : Int} {a : Nat} {cs : Array Value} {t : TypeId} {fr : Nat × Nat} (h : IsS171 w0 W g f0 f1 f2) (hb2 : W.heap[a]? = some (.cells cs t fr)) (ht : t ≠ 171) : g ≠ a:=by
 obtain ⟨A0,c0,hb,hg,hr0⟩:=h
 rintro rfl
 rw [hb] at hb2
 injection hb2 with hb2
 injection hb2 with _ ht2
 exact ht ht2.symm
theorem IsS171.far {w0 W : World} {g : Nat} {f0 : List Int} {f1 : Int} {f2 : Int} {p : Addr} (h : IsS171 w0 W g f0 f1 f2) (hne : g ≠ p.block) (u : Value) : IsS171 w0 (W.setCell p u) g f0 f1 f2:=by
 obtain ⟨A0,c0,hb,hg,hr0⟩:=h
 exact ⟨A0,c0,blk_far hb hne u,hg,hr0⟩
theorem cellS171_0 {W : World} {g : Nat} {A0 : Option Addr} {c0 : Nat} {f0 : List Int} {f1 : Int} {f2 : Int} (h : W.heap[g]? = some (.cells #[.slice A0 f0.length c0,.int .i64 f1,.int .i64 f2] 171 (0,0))) : W.cell? ⟨g,0,none⟩ = some (.slice A0 f0.length c0):=(blk_cell h 0).trans rfl
theorem cellS171_1 {W : World} {g : Nat} {A0 : Option Addr} {c0 : Nat} {f0 : List Int} {f1 : Int} {f2 : Int} (h : W.heap[g]? = some (.cells #[.slice A0 f0.length c0,.int .i64 f1,.int .i64 f2] 171 (0,0))) : W.cell? ⟨g,1,none⟩ = some (.int .i64 f1):=(blk_cell h 1).trans rfl
theorem IsS171.set_1 {w0 W : World} {g : Nat} {f0 : List Int} {f1 : Int} {f2 : Int} (h : IsS171 w0 W g f0 f1 f2) (x : Int) : IsS171 w0 (W.setCell ⟨g,1,none⟩ (.int .i64 x)) g f0 x f2:=by
 obtain ⟨A0,c0,hb,hg,hr0⟩:=h
 exact ⟨A0,c0,by simpa using blk_set hb 1 (.int .i64 x),hg,hr0⟩
theorem cellS171_2 {W : World} {g : Nat} {A0 : Option Addr} {c0 : Nat} {f0 : List Int} {f1 : Int} {f2 : Int} (h : W.heap[g]? = some (.cells #[.slice A0 f0.length c0,.int .i64 f1,.int .i64 f2] 171 (0,0))) : W.cell? ⟨g,2,none⟩ = some (.int .i64 f2):=(blk_cell h 2).trans rfl
theorem IsS171.set_2 {w0 W : World} {g : Nat} {f0 : List Int} {f1 : Int} {f2 : Int} (h : IsS171 w0 W g f0 f1 f2) (x : Int) : IsS171 w0 (W.setCell ⟨g,2,none⟩ (.int .i64 x)) g f0 f1 x:=by
 obtain ⟨A0,c0,hb,hg,hr0⟩:=h
 exact ⟨A0,c0,by simpa using blk_set hb 2 (.int .i64 x),hg,hr0⟩
theorem IsS171.new (w0 W : World) (A0 : Option Addr) (c0 : Nat) (f0 : List Int) (f1 : Int) (f2 : Int) (hB : Below w0.heap.size w0 W) (hr0 : Kd.C (Kd.int .u8) w0 A0 f0.length f0) : IsS171 w0 (W.alloc (.cells #[.slice A0 f0.length c0,.int .i64 f1,.int .i64 f2] 171)) W.heap.size f0 f1 f2:=⟨A0,c0,by simpa using heap_alloc_new W _,hB.size,hr0⟩

/-! ### spec_l01Source: function 74 -/
def spec_l01Source.f (l0 : List Int) : Option (List Int × Int × Int):=if (wrap64 ((l0.length : Int) / 16)) > 12 then (some (l0,0,12)) else (some (l0,0,wrap64 ((l0.length : Int) / 16)))
set_option maxHeartbeats 8000000 in
set_option maxRecDepth 100000 in
theorem spec_l01Source.calls (A0 : Option Addr) (c0 : Nat) (l0 : List Int) (r1 : List Int) (r2 : Int) (r3 : Int) (w0 w : World) (hB : Below w0.heap.size w0 w) (hr0 : Kd.C (Kd.int .u8) w0 A0 l0.length l0) (hc0 : l0.length ≤ c0) (h : spec_l01Source.f l0 = some (r1,r2,r3)) :
  Calls Try.prog 74 #[.slice A0 l0.length c0] w fun e w'=>∃ g_ : Nat,e = .returned (.pointer (some ⟨g_,0,none⟩)) ∧ IsS171 w0 w' g_ r1 r2 r3 ∧ Below w0.heap.size w0 w' ∧ Below w.heap.size w w':=by
 have hu171:=Try.underlying171
 have HR0:=Aside0.mk hr0
 have HC0:=Aside0.mk hc0
 clear hr0 hc0
 have HBW:=Aside0.mk (Below.refl w.heap.size w)
 have HW0:=Aside0.mk hB.size
 have HB:=Aside0.mk hB
 clear hB
 have H : (if (wrap64 ((l0.length : Int) / 16)) > 12 then (some (l0,0,12)) else (some (l0,0,wrap64 ((l0.length : Int) / 16)))) = some (r1,r2,r3):=h
 clear h
 by_cases c2 : (wrap64 ((l0.length : Int) / 16)) > 12
 ·rw [if_pos c2] at H
  have c2b0 : decide (12 < (wrap64 ((l0.length : Int) / 16))) = true:=decide_eq_true c2
  clear c2
  simp only [Option.some.injEq,Prod.mk.injEq] at H
  obtain ⟨rfl,rfl,rfl⟩:=H
  go_enter Try.func74,Try.ntmps74
  go_wp2_with (first|((with_reducible refine gate_dst (N:=12) rfl ?_);refine box_event ?hg (N:=12) ?hd (cs:=#[.slice A0 l0.length c0,.int .i64 0,.int .i64 12]) (t:=171) ?hr ?_;(case hd=>rfl);(case hg=>rfl);(case hr=>first|(go_simp;done)|(go_simp;rfl));intro gb101 hg w3 hbox hb;have n0_:=Aside0.mk (below_step HBW.out hb);have n1_:=Aside0.mk (below_step (by repeat (first|(with_reducible first|exact HB.out|apply below_alloc|apply pw_below_drewN|apply below_drew1)|exact HB.out)) hb);have n2_:=Aside0.mk (hbox);have n3_:=Aside0.mk ((by rw [hg];exact (below_size (by repeat (first|(with_reducible first|exact HBW.out|apply below_alloc|apply pw_below_drewN|apply below_drew1)|exact HBW.out))) : w.heap.size ≤ gb101));have n4_:=Aside0.mk ((Nat.le_trans HW0.out (by rw [hg];exact (below_size (by repeat (first|(with_reducible first|exact HBW.out|apply below_alloc|apply pw_below_drewN|apply below_drew1)|exact HBW.out))) : w.heap.size ≤ gb101) : w0.heap.size ≤ gb101));clear HBW HB;have HBW:=n0_;have HB:=n1_;have BK101:=n2_;have GW101:=n3_;have GE101:=n4_;clear n0_ n1_ n2_ n3_ n4_ hb hbox hg))
  go_ret
  exact ⟨_,rfl,(show IsS171 w0 _ gb101 l0 0 12 from ⟨_,_,by (with_reducible repeat first|refine blk_drewN ?_ _|refine blk_alloc ?_ _);exact BK101.out,GE101.out,HR0.out⟩),by repeat (first|(with_reducible first|exact HB.out|apply below_alloc|apply pw_below_drewN|apply below_drew1|refine below_set ?_ GE101.out)|exact HB.out),by repeat (first|(with_reducible first|exact HBW.out|apply below_alloc|apply pw_below_drewN|apply below_drew1|refine below_set ?_ GW101.out)|exact HBW.out)⟩
 ·rw [if_neg c2] at H
  have c2b0 : decide (12 < (wrap64 ((l0.length : Int) / 16))) = false:=decide_eq_false c2
  clear c2
  simp only [Option.some.injEq,Prod.mk.injEq] at H
  obtain ⟨rfl,rfl,rfl⟩:=H
  go_enter Try.func74,Try.ntmps74
  go_wp2_with (first|((with_reducible refine gate_dst (N:=12) rfl ?_);refine box_event ?hg (N:=12) ?hd (cs:=#[.slice A0 l0.length c0,.int .i64 0,.int .i64 (wrap64 ((l0.length : Int) / 16))]) (t:=171) ?hr ?_;(case hd=>rfl);(case hg=>rfl);(case hr=>first|(go_simp;done)|(go_simp;rfl));intro gb102 hg w4 hbox hb;have n0_:=Aside0.mk (below_step HBW.out hb);have n1_:=Aside0.mk (below_step (by repeat (first|(with_reducible first|exact HB.out|apply below_alloc|apply pw_below_drewN|apply below_drew1)|exact HB.out)) hb);have n2_:=Aside0.mk (hbox);have n3_:=Aside0.mk ((by rw [hg];exact (below_size (by repeat (first|(with_reducible first|exact HBW.out|apply below_alloc|apply pw_below_drewN|apply below_drew1)|exact HBW.out))) : w.heap.size ≤ gb102));have n4_:=Aside0.mk ((Nat.le_trans HW0.out (by rw [hg];exact (below_size (by repeat (first|(with_reducible first|exact HBW.out|apply below_alloc|apply pw_below_drewN|apply below_drew1)|exact HBW.out))) : w.heap.size ≤ gb102) : w0.heap.size ≤ gb102));clear HBW HB;have HBW:=n0_;have HB:=n1_;have BK102:=n2_;have GW102:=n3_;have GE102:=n4_;clear n0_ n1_ n2_ n3_ n4_ hb hbox hg))
  go_ret
  exact ⟨_,rfl,(show IsS171 w0 _ gb102 l0 0 (wrap64 ((l0.length : Int) / 16)) from ⟨_,_,by (with_reducible repeat first|refine blk_drewN ?_ _|refine blk_alloc ?_ _);exact BK102.out,GE102.out,HR0.out⟩),by repeat (first|(with_reducible first|exact HB.out|apply below_alloc|apply pw_below_drewN|apply below_drew1|refine below_set ?_ GE102.out)|exact HB.out),by repeat (first|(with_reducible first|exact HBW.out|apply below_alloc|apply pw_below_drewN|apply below_drew1|refine below_set ?_ GW102.out)|exact HBW.out)⟩

/-! ### spec_l01Src_n: function 75 -/
def spec_l01Src_n.f (s0_0 : List Int) (s0_1 : Int) (s0_2 : Int) (a1 : Int) : Option (Int × Int × Int):=if a1 < 1 then (some (0,wrap64 (s0_1 + 1),s0_2)) else (if (s0_0.length : Int) = 0 then (if a1 = 0 then (none) else (some (Int.tmod (wrap64 ((wrap64 ((wrap64 (s0_1 + 1)) - 1)) * 7)) a1,wrap64 (s0_1 + 1),s0_2))) else (if 0 ≤ (Int.tmod (wrap64 ((wrap64 (s0_1 + 1)) - 1)) (s0_0.length : Int)) then (if (Int.tmod (wrap64 ((wrap64 (s0_1 + 1)) - 1)) (s0_0.length : Int)) < (s0_0.length : Int) then (if a1 > 200 then (if 0 ≤ (Int.tmod (wrap64 ((wrap64 ((wrap64 (s0_1 + 1)) - 1)) + 1)) (s0_0.length : Int)) then (if (Int.tmod (wrap64 ((wrap64 ((wrap64 (s0_1 + 1)) - 1)) + 1)) (s0_0.length : Int)) < (s0_0.length : Int) then (if a1 = 0 then (none) else (some (Int.tmod (wrap64 ((wrap64 ((wrap64 ((wrap64 ((wrap64 (rd s0_0 (Int.tmod (wrap64 ((wrap64 (s0_1 + 1)) - 1)) (s0_0.length : Int)))) + (wrap64 ((wrap64 (Int.tdiv (wrap64 ((wrap64 (s0_1 + 1)) - 1)) (s0_0.length : Int))) * 37)))) * 251)) + (wrap64 ((wrap64 (rd s0_0 (Int.tmod (wrap64 ((wrap64 ((wrap64 (s0_1 + 1)) - 1)) + 1)) (s0_0.length : Int)))) * 13)))) + (wrap64 ((wrap64 (s0_1 + 1)) - 1)))) a1,wrap64 (s0_1 + 1),s0_2))) else (none)) else (none)) else (if a1 = 0 then (none) else (some (Int.tmod (wrap64 ((wrap64 (rd s0_0 (Int.tmod (wrap64 ((wrap64 (s0_1 + 1)) - 1)) (s0_0.length : Int)))) + (wrap64 ((wrap64 (Int.tdiv (wrap64 ((wrap64 (s0_1 + 1)) - 1)) (s0_0.length : Int))) * 37)))) a1,wrap64 (s0_1 + 1),s0_2)))) else (none)) else (none)))
set_option maxHeartbeats 8000000 in
set_option maxRecDepth 100000 in
theorem spec_l01Src_n.calls (g : Nat) (s0_0 : List Int) (s0_1 : Int) (s0_2 : Int) (a1 : Int) (r1 : Int) (r2 : Int) (r3 : Int) (w0 w : World) (hI : IsS171 w0 w g s0_0 s0_1 s0_2) (hB : Below w0.heap.size w0 w) (h : spec_l01Src_n.f s0_0 s0_1 s0_2 a1 = some (r1,r2,r3)) :
  Calls Try.prog 75 #[.pointer (some ⟨g,0,none⟩),.int .i64 a1] w fun e w'=>e = .returned (.int .i64 r1) ∧ IsS171 w0 w' g s0_0 r2 r3 ∧ Below w0.heap.size w0 w' ∧ KeepBut w w' g none:=by
 have HI0:=Aside0.mk hI
 have HK:=Aside0.mk (KeepBut.refl w g none)
 have HL:=Aside0.mk hB.size
 clear hI
 have HW0:=Aside0.mk hB.size
 have HB:=Aside0.mk hB
 clear hB
 have H : (if a1 < 1 then (some (0,wrap64 (s0_1 + 1),s0_2)) else (if (s0_0.length : Int) = 0 then (if a1 = 0 then (none) else (some (Int.tmod (wrap64 ((wrap64 ((wrap64 (s0_1 + 1)) - 1)) * 7)) a1,wrap64 (s0_1 + 1),s0_2))) else (if 0 ≤ (Int.tmod (wrap64 ((wrap64 (s0_1 + 1)) - 1)) (s0_0.length : Int)) then (if (Int.tmod (wrap64 ((wrap64 (s0_1 + 1)) - 1)) (s0_0.length : Int)) < (s0_0.length : Int) then (if a1 > 200 then (if 0 ≤ (Int.tmod (wrap64 ((wrap64 ((wrap64 (s0_1 + 1)) - 1)) + 1)) (s0_0.length : Int)) then (if (Int.tmod (wrap64 ((wrap64 ((wrap64 (s0_1 + 1)) - 1)) + 1)) (s0_0.length : Int)) < (s0_0.length : Int) then (if a1 = 0 then (none) else (some (Int.tmod (wrap64 ((wrap64 ((wrap64 ((wrap64 ((wrap64 (rd s0_0 (Int.tmod (wrap64 ((wrap64 (s0_1 + 1)) - 1)) (s0_0.length : Int)))) + (wrap64 ((wrap64 (Int.tdiv (wrap64 ((wrap64 (s0_1 + 1)) - 1)) (s0_0.length : Int))) * 37)))) * 251)) + (wrap64 ((wrap64 (rd s0_0 (Int.tmod (wrap64 ((wrap64 ((wrap64 (s0_1 + 1)) - 1)) + 1)) (s0_0.length : Int)))) * 13)))) + (wrap64 ((wrap64 (s0_1 + 1)) - 1)))) a1,wrap64 (s0_1 + 1),s0_2))) else (none)) else (none)) else (if a1 = 0 then (none) else (some (Int.tmod (wrap64 ((wrap64 (rd s0_0 (Int.tmod (wrap64 ((wrap64 (s0_1 + 1)) - 1)) (s0_0.length : Int)))) + (wrap64 ((wrap64 (Int.tdiv (wrap64 ((wrap64 (s0_1 + 1)) - 1)) (s0_0.length : Int))) * 37)))) a1,wrap64 (s0_1 + 1),s0_2)))) else (none)) else (none)))) = some (r1,r2,r3):=h
 clear h
 by_cases c3 : a1 < 1
 ·rw [if_pos c3] at H
  have c3b0 : decide (a1 < 1) = true:=decide_eq_true c3
  clear c3
  simp only [Option.some.injEq,Prod.mk.injEq] at H
  obtain ⟨rfl,rfl,rfl⟩:=H
  obtain ⟨ASz4_0,cSz4_0,HGz4,hgz4,HSz4_0⟩:=HI0.out
  have hcz4_0:=cellS171_0 HGz4
  have hcz4_1:=cellS171_1 HGz4
  have hcz4_2:=cellS171_2 HGz4
  have hfz4_1:=blk_frozen HGz4 1
  have hfz4_2:=blk_frozen HGz4 2
  clear HGz4 hgz4
  go_enter Try.func75,Try.ntmps75
  go_wp2
  repeat (go_quiet (fail);try go_wp2)
  go_ret
  exact ⟨by first|rfl|(simp [errW_none,errW_some] <;> rfl)|(simp [*,errW_none,errW_some] <;> rfl),by repeat (first|(with_reducible first|exact HI0.out|apply IsS171.alloc|apply IsS171.drewN|apply IsS171.set_1|apply IsS171.set_2)|exact HI0.out),by repeat (first|(with_reducible first|exact HB.out|apply below_alloc|apply pw_below_drewN|apply below_drew1|refine below_set ?_ (IsS171.ge HI0.out))|exact HB.out),by repeat (first|(with_reducible first|exact HK.out|apply KeepBut.set_|apply keep_drewN|apply keep_alloc)|exact HK.out)⟩
 ·rw [if_neg c3] at H
  have c3b0 : decide (a1 < 1) = false:=decide_eq_false c3
  clear c3
  by_cases c5 : (s0_0.length : Int) = 0
  ·rw [if_pos c5] at H
   have c5b0 : ((s0_0.length : Int) == 0) = true:=beq_iff_eq.mpr c5
   have c5b1 : ((s0_0.length : Int) != 0) = false:=bne_eq_false_iff_eq.mpr c5
   clear c5
   by_cases c6 : a1 = 0
   ·rw [if_pos c6] at H
    exact absurd H (by simp)
   ·rw [if_neg c6] at H
    have c6b0 : (a1 == 0) = false:=beq_eq_false_iff_ne.mpr c6
    have c6b1 : (a1 != 0) = true:=bne_iff_ne.mpr c6
    simp only [Option.some.injEq,Prod.mk.injEq] at H
    obtain ⟨rfl,rfl,rfl⟩:=H
    obtain ⟨ASz7_0,cSz7_0,HGz7,hgz7,HSz7_0⟩:=HI0.out
    have hcz7_0:=cellS171_0 HGz7
    have hcz7_1:=cellS171_1 HGz7
    have hcz7_2:=cellS171_2 HGz7
    have hfz7_1:=blk_frozen HGz7 1
    have hfz7_2:=blk_frozen HGz7 2
    clear HGz7 hgz7
    go_enter Try.func75,Try.ntmps75
    go_wp2
    repeat (go_quiet (fail);try go_wp2)
    go_ret
    exact ⟨by first|rfl|(simp [errW_none,errW_some] <;> rfl)|(simp [*,errW_none,errW_some] <;> rfl),by repeat (first|(with_reducible first|exact HI0.out|apply IsS171.alloc|apply IsS171.drewN|apply IsS171.set_1|apply IsS171.set_2)|exact HI0.out),by repeat (first|(with_reducible first|exact HB.out|apply below_alloc|apply pw_below_drewN|apply below_drew1|refine below_set ?_ (IsS171.ge HI0.out))|exact HB.out),by repeat (first|(with_reducible first|exact HK.out|apply KeepBut.set_|apply keep_drewN|apply keep_alloc)|exact HK.out)⟩
  ·rw [if_neg c5] at H
   have c5b0 : ((s0_0.length : Int) == 0) = false:=beq_eq_false_iff_ne.mpr c5
   have c5b1 : ((s0_0.length : Int) != 0) = true:=bne_iff_ne.mpr c5
   have c5b2 : ¬ (s0_0 = []):=fun h_=>c5 (by rw [h_];rfl)
   obtain ⟨ji8,hji8⟩ : ∃ j_ : Int,(Int.tmod (wrap64 ((wrap64 (s0_1 + 1)) - 1)) (s0_0.length : Int)) = j_:=⟨_,rfl⟩
   replace H : (if 0 ≤ (ji8) then (if (ji8) < (s0_0.length : Int) then (if a1 > 200 then (if 0 ≤ (Int.tmod (wrap64 ((wrap64 ((wrap64 (s0_1 + 1)) - 1)) + 1)) (s0_0.length : Int)) then (if (Int.tmod (wrap64 ((wrap64 ((wrap64 (s0_1 + 1)) - 1)) + 1)) (s0_0.length : Int)) < (s0_0.length : Int) then (if a1 = 0 then (none) else (some (Int.tmod (wrap64 ((wrap64 ((wrap64 ((wrap64 ((wrap64 (rd s0_0 (ji8))) + (wrap64 ((wrap64 (Int.tdiv (wrap64 ((wrap64 (s0_1 + 1)) - 1)) (s0_0.length : Int))) * 37)))) * 251)) + (wrap64 ((wrap64 (rd s0_0 (Int.tmod (wrap64 ((wrap64 ((wrap64 (s0_1 + 1)) - 1)) + 1)) (s0_0.length : Int)))) * 13)))) + (wrap64 ((wrap64 (s0_1 + 1)) - 1)))) a1,wrap64 (s0_1 + 1),s0_2))) else (none)) else (none)) else (if a1 = 0 then (none) else (some (Int.tmod (wrap64 ((wrap64 (rd s0_0 (ji8))) + (wrap64 ((wrap64 (Int.tdiv (wrap64 ((wrap64 (s0_1 + 1)) - 1)) (s0_0.length : Int))) * 37)))) a1,wrap64 (s0_1 + 1),s0_2)))) else (none)) else (none)) = some (r1,r2,r3):=by first|(rw [hji8] at H;exact H)|(simp only [hji8] at H ⊢;exact H)
   by_cases c9 : 0 ≤ (ji8)
   ·rw [if_pos c9] at H
    have c9b0 : decide (0 ≤ (ji8)) = true:=decide_eq_true c9
    clear c9
    by_cases c10 : (ji8) < (s0_0.length : Int)
    ·rw [if_pos c10] at H
     have c10b0 : decide ((ji8) < (s0_0.length : Int)) = true:=decide_eq_true c10
     clear c10
     by_cases c11 : a1 > 200
     ·rw [if_pos c11] at H
      have c11b0 : decide (200 < a1) = true:=decide_eq_true c11
      clear c11
      obtain ⟨ji12,hji12⟩ : ∃ j_ : Int,(Int.tmod (wrap64 ((wrap64 ((wrap64 (s0_1 + 1)) - 1)) + 1)) (s0_0.length : Int)) = j_:=⟨_,rfl⟩
      replace H : (if 0 ≤ (ji12) then (if (ji12) < (s0_0.length : Int) then (if a1 = 0 then (none) else (some (Int.tmod (wrap64 ((wrap64 ((wrap64 ((wrap64 ((wrap64 (rd s0_0 (ji8))) + (wrap64 ((wrap64 (Int.tdiv (wrap64 ((wrap64 (s0_1 + 1)) - 1)) (s0_0.length : Int))) * 37)))) * 251)) + (wrap64 ((wrap64 (rd s0_0 (ji12))) * 13)))) + (wrap64 ((wrap64 (s0_1 + 1)) - 1)))) a1,wrap64 (s0_1 + 1),s0_2))) else (none)) else (none)) = some (r1,r2,r3):=by first|(rw [hji12] at H;exact H)|(simp only [hji12] at H ⊢;exact H)
      by_cases c13 : 0 ≤ (ji12)
      ·rw [if_pos c13] at H
       have c13b0 : decide (0 ≤ (ji12)) = true:=decide_eq_true c13
       clear c13
       by_cases c14 : (ji12) < (s0_0.length : Int)
       ·rw [if_pos c14] at H
        have c14b0 : decide ((ji12) < (s0_0.length : Int)) = true:=decide_eq_true c14
        clear c14
        by_cases c15 : a1 = 0
        ·rw [if_pos c15] at H
         exact absurd H (by simp)
        ·rw [if_neg c15] at H
         have c15b0 : (a1 == 0) = false:=beq_eq_false_iff_ne.mpr c15
         have c15b1 : (a1 != 0) = true:=bne_iff_ne.mpr c15
         simp only [Option.some.injEq,Prod.mk.injEq] at H
         obtain ⟨rfl,rfl,rfl⟩:=H
         obtain ⟨ASz16_0,cSz16_0,HGz16,hgz16,HSz16_0⟩:=HI0.out
         have hcz16_0:=cellS171_0 HGz16
         have hcz16_1:=cellS171_1 HGz16
         have hcz16_2:=cellS171_2 HGz16
         have hfz16_1:=blk_frozen HGz16 1
         have hfz16_2:=blk_frozen HGz16 2
         clear HGz16 hgz16
         have p103 : 0 ≤ ((ji8) : Int):=of_decide_eq_true (by first|(with_reducible assumption)|assumption)
         have q103 : (ji8) < (s0_0.length : Int):=of_decide_eq_true (by first|(with_reducible assumption)|assumption)
         obtain ⟨ad103,e103,hx103_0⟩:=Kd.at_int HSz16_0 (ji8) p103 q103
         cases e103
         have hn103_0 : ad103.block ≠ g:=Nat.ne_of_lt (Nat.lt_of_lt_of_le (by have:=World.block_lt_of_cell? _ _ hx103_0;first|rwa [add_block] at this|exact this) (IsS171.ge HI0.out))
         replace hx103_0:=pw_cell_below HB.out hx103_0
         replace hx103_0:=(cell_far (p:=⟨g,1,none⟩) (by first|(rw [add_block];exact hn103_0)|(show (Addr.add _ _).block ≠ _;rw [add_block];exact hn103_0)|exact hn103_0) (.int .i64 (wrap64 (s0_1 + 1)))).trans hx103_0
         (try have hy103_0:=fun (n_ : Nat)=>(show (((w.drewN n_).setCell ⟨g,1,none⟩ (.int .i64 (wrap64 (s0_1 + 1))))).cell? _ = some _ from hx103_0))
         clear hn103_0
         replace p103:=eq_true p103
         replace q103:=eq_true q103
         have p104 : 0 ≤ ((ji12) : Int):=of_decide_eq_true (by first|(with_reducible assumption)|assumption)
         have q104 : (ji12) < (s0_0.length : Int):=of_decide_eq_true (by first|(with_reducible assumption)|assumption)
         obtain ⟨ad104,e104,hx104_0⟩:=Kd.at_int HSz16_0 (ji12) p104 q104
         obtain rfl : ad103 = ad104:=(by injection e104)
         have hn104_0 : ad103.block ≠ g:=Nat.ne_of_lt (Nat.lt_of_lt_of_le (by have:=World.block_lt_of_cell? _ _ hx104_0;first|rwa [add_block] at this|exact this) (IsS171.ge HI0.out))
         replace hx104_0:=pw_cell_below HB.out hx104_0
         replace hx104_0:=(cell_far (p:=⟨g,1,none⟩) (by first|(rw [add_block];exact hn104_0)|(show (Addr.add _ _).block ≠ _;rw [add_block];exact hn104_0)|exact hn104_0) (.int .i64 (wrap64 (s0_1 + 1)))).trans hx104_0
         (try have hy104_0:=fun (n_ : Nat)=>(show (((w.drewN n_).setCell ⟨g,1,none⟩ (.int .i64 (wrap64 (s0_1 + 1))))).cell? _ = some _ from hx104_0))
         clear hn104_0
         replace p104:=eq_true p104
         replace q104:=eq_true q104
         go_enter Try.func75,Try.ntmps75
         go_wp2
         repeat (go_quiet (fail);try go_wp2)
         go_ret
         exact ⟨by first|rfl|(simp [errW_none,errW_some] <;> rfl)|(simp only [← hji8,← hji12];first|rfl|(simp [errW_none,errW_some] <;> rfl))|(simp [*,errW_none,errW_some] <;> rfl),by repeat (first|(with_reducible first|exact HI0.out|apply IsS171.alloc|apply IsS171.drewN|apply IsS171.set_1|apply IsS171.set_2)|exact HI0.out),by repeat (first|(with_reducible first|exact HB.out|apply below_alloc|apply pw_below_drewN|apply below_drew1|refine below_set ?_ (IsS171.ge HI0.out))|exact HB.out),by repeat (first|(with_reducible first|exact HK.out|apply KeepBut.set_|apply keep_drewN|apply keep_alloc)|exact HK.out)⟩
       ·rw [if_neg c14] at H
        exact absurd H (by simp)
      ·rw [if_neg c13] at H
       exact absurd H (by simp)
     ·rw [if_neg c11] at H
      have c11b0 : decide (200 < a1) = false:=decide_eq_false c11
      clear c11
      by_cases c17 : a1 = 0
      ·rw [if_pos c17] at H
       exact absurd H (by simp)
      ·rw [if_neg c17] at H
       have c17b0 : (a1 == 0) = false:=beq_eq_false_iff_ne.mpr c17
       have c17b1 : (a1 != 0) = true:=bne_iff_ne.mpr c17
       simp only [Option.some.injEq,Prod.mk.injEq] at H
       obtain ⟨rfl,rfl,rfl⟩:=H
       obtain ⟨ASz18_0,cSz18_0,HGz18,hgz18,HSz18_0⟩:=HI0.out
       have hcz18_0:=cellS171_0 HGz18
       have hcz18_1:=cellS171_1 HGz18
       have hcz18_2:=cellS171_2 HGz18
       have hfz18_1:=blk_frozen HGz18 1
       have hfz18_2:=blk_frozen HGz18 2
       clear HGz18 hgz18
       have p103 : 0 ≤ ((ji8) : Int):=of_decide_eq_true (by first|(with_reducible assumption)|assumption)
       have q103 : (ji8) < (s0_0.length : Int):=of_decide_eq_true (by first|(with_reducible assumption)|assumption)
       obtain ⟨ad103,e103,hx103_0⟩:=Kd.at_int HSz18_0 (ji8) p103 q103
       cases e103
       have hn103_0 : ad103.block ≠ g:=Nat.ne_of_lt (Nat.lt_of_lt_of_le (by have:=World.block_lt_of_cell? _ _ hx103_0;first|rwa [add_block] at this|exact this) (IsS171.ge HI0.out))
       replace hx103_0:=pw_cell_below HB.out hx103_0
       replace hx103_0:=(cell_far (p:=⟨g,1,none⟩) (by first|(rw [add_block];exact hn103_0)|(show (Addr.add _ _).block ≠ _;rw [add_block];exact hn103_0)|exact hn103_0) (.int .i64 (wrap64 (s0_1 + 1)))).trans hx103_0
       (try have hy103_0:=fun (n_ : Nat)=>(show (((w.drewN n_).setCell ⟨g,1,none⟩ (.int .i64 (wrap64 (s0_1 + 1))))).cell? _ = some _ from hx103_0))
       clear hn103_0
       replace p103:=eq_true p103
       replace q103:=eq_true q103
       go_enter Try.func75,Try.ntmps75
       go_wp2
       repeat (go_quiet (fail);try go_wp2)
       go_ret
       exact ⟨by first|rfl|(simp [errW_none,errW_some] <;> rfl)|(simp only [← hji8];first|rfl|(simp [errW_none,errW_some] <;> rfl))|(simp [*,errW_none,errW_some] <;> rfl),by repeat (first|(with_reducible first|exact HI0.out|apply IsS171.alloc|apply IsS171.drewN|apply IsS171.set_1|apply IsS171.set_2)|exact HI0.out),by repeat (first|(with_reducible first|exact HB.out|apply below_alloc|apply pw_below_drewN|apply below_drew1|refine below_set ?_ (IsS171.ge HI0.out))|exact HB.out),by repeat (first|(with_reducible first|exact HK.out|apply KeepBut.set_|apply keep_drewN|apply keep_alloc)|exact HK.out)⟩
    ·rw [if_neg c10] at H
     exact absurd H (by simp)
   ·rw [if_neg c9] at H
    exact absurd H (by simp)

/-! ### spec_l01Src_one: function 77 -/
def spec_l01Src_one.f (s0_0 : List Int) (s0_1 : Int) (s0_2 : Int) (a1 : Int) : Option (Bool × Int × Int):=(spec_l01Src_n.f s0_0 s0_1 s0_2 a1).bind fun bt105=>(some ((bt105.1 == 0),bt105.2.1,bt105.2.2))
set_option maxHeartbeats 8000000 in
set_option maxRecDepth 100000 in
theorem spec_l01Src_one.calls (g : Nat) (s0_0 : List Int) (s0_1 : Int) (s0_2 : Int) (a1 : Int) (r1 : Bool) (r2 : Int) (r3 : Int) (w0 w : World) (hI : IsS171 w0 w g s0_0 s0_1 s0_2) (hB : Below w0.heap.size w0 w) (h : spec_l01Src_one.f s0_0 s0_1 s0_2 a1 = some (r1,r2,r3)) :
  Calls Try.prog 77 #[.pointer (some ⟨g,0,none⟩),.int .i64 a1] w fun e w'=>e = .returned (.bool r1) ∧ IsS171 w0 w' g s0_0 r2 r3 ∧ Below w0.heap.size w0 w' ∧ KeepBut w w' g none:=by
 have HI0:=Aside0.mk hI
 have HK:=Aside0.mk (KeepBut.refl w g none)
 have HL:=Aside0.mk hB.size
 clear hI
 have HW0:=Aside0.mk hB.size
 have HB:=Aside0.mk hB
 clear hB
 have H : ((spec_l01Src_n.f s0_0 s0_1 s0_2 a1).bind fun bt105=>(some ((bt105.1 == 0),bt105.2.1,bt105.2.2))) = some (r1,r2,r3):=h
 clear h
 replace H:=Option.bind_eq_some_iff.mp H
 obtain ⟨⟨t105,t106,t107⟩,A30,H⟩:=H
 replace H : (some ((t105 == 0),t106,t107)) = some (r1,r2,r3):=H
 have A3:=Aside0.mk A30
 clear A30
 simp only [Option.some.injEq,Prod.mk.injEq] at H
 obtain ⟨rfl,rfl,rfl⟩:=H
 go_enter Try.func77,Try.ntmps77
 go_wp2_with (first|((with_reducible refine gate_callee (f:=75) rfl ?_);refine goesL_ (some 7) rfl rfl Try.func75 (by kernel_rfl) rfl #[.pointer (some ⟨g,0,none⟩),.int .i64 a1] rfl (by (try simp only [List.map_toArray,List.map_cons,List.map_nil]);first|done|rfl) ?_;(with_reducible refine (spec_l01Src_n.calls g s0_0 s0_1 s0_2 a1 t105 t106 t107 w0 _ ?side1 ?side2 A3.out).mono ?_);(case side1=>repeat (first|(with_reducible first|exact HI0.out|apply IsS171.alloc|apply IsS171.drewN|apply IsS171.set_1|apply IsS171.set_2)|exact HI0.out));(case side2=>repeat (first|(with_reducible first|exact HB.out|apply below_alloc|apply pw_below_drewN|apply below_drew1|refine below_set ?_ (IsS171.ge HI0.out))|exact HB.out));rintro e w4 ⟨rfl,hi,hb,hk⟩;refine ⟨_,rfl,?_⟩;have n0_:=Aside0.mk (KeepBut.trans (by repeat (first|(with_reducible first|exact HK.out|apply KeepBut.set_|apply keep_drewN|apply keep_alloc)|exact HK.out)) hk (.inl rfl));have n1_:=Aside0.mk (hb);have n2_:=Aside0.mk (hi);clear HK HB HI0;have HK:=n0_;have HB:=n1_;have HI0:=n2_;clear n0_ n1_ n2_;(try clear hb);(try clear hb2);(try clear hk);(try clear hi)))
 go_ret
 exact ⟨by first|rfl|(simp [errW_none,errW_some] <;> rfl)|(simp [*,errW_none,errW_some] <;> rfl),by repeat (first|(with_reducible first|exact HI0.out|apply IsS171.alloc|apply IsS171.drewN|apply IsS171.set_1|apply IsS171.set_2)|exact HI0.out),by repeat (first|(with_reducible first|exact HB.out|apply below_alloc|apply pw_below_drewN|apply below_drew1|refine below_set ?_ (IsS171.ge HI0.out))|exact HB.out),by repeat (first|(with_reducible first|exact HK.out|apply KeepBut.set_|apply keep_drewN|apply keep_alloc)|exact HK.out)⟩

/-! ### spec_l01Src_code2: function 81 -/
def spec_l01Src_code2.f (s0_0 : List Int) (s0_1 : Int) (s0_2 : Int) : Option (Int × Int × Int × Int × Int):=(spec_l01Src_n.f s0_0 s0_1 s0_2 6).bind fun bt109=>((spec_l01Src_n.f s0_0 bt109.2.1 bt109.2.2 4).bind fun bt112=>((spec_l01Src_one.f s0_0 bt112.2.1 bt112.2.2 2).bind fun bt116=>(if bt116.1 = true then ((spec_l01Src_n.f s0_0 bt116.2.1 bt116.2.2 (wrap64 ((wrap64 (1 + bt109.1)) + 1))).bind fun bt119=>(some (wrap64 (1 + bt109.1),bt112.1,bt119.1,bt119.2.1,bt119.2.2))) else (some (wrap64 (1 + bt109.1),bt112.1,0,bt116.2.1,bt116.2.2)))))
set_option maxHeartbeats 8000000 in
set_option maxRecDepth 100000 in
theorem spec_l01Src_code2.calls (g : Nat) (s0_0 : List Int) (s0_1 : Int) (s0_2 : Int) (r1 : Int) (r2 : Int) (r3 : Int) (r4 : Int) (r5 : Int) (w0 w : World) (hI : IsS171 w0 w g s0_0 s0_1 s0_2) (hB : Below w0.heap.size w0 w) (h : spec_l01Src_code2.f s0_0 s0_1 s0_2 = some (r1,r2,r3,r4,r5)) :
  Calls Try.prog 81 #[.pointer (some ⟨g,0,none⟩)] w fun e w'=>e = .returned (.agg #[.int .i64 r1,.int .i64 r2,.int .i64 r3]) ∧ IsS171 w0 w' g s0_0 r4 r5 ∧ Below w0.heap.size w0 w' ∧ KeepBut w w' g none:=by
 have hu43:=Try.underlying43
 have HI0:=Aside0.mk hI
 have HK:=Aside0.mk (KeepBut.refl w g none)
 have HL:=Aside0.mk hB.size
 clear hI
 have HW0:=Aside0.mk hB.size
 have HB:=Aside0.mk hB
 clear hB
 have H : ((spec_l01Src_n.f s0_0 s0_1 s0_2 6).bind fun bt109=>((spec_l01Src_n.f s0_0 bt109.2.1 bt109.2.2 4).bind fun bt112=>((spec_l01Src_one.f s0_0 bt112.2.1 bt112.2.2 2).bind fun bt116=>(if bt116.1 = true then ((spec_l01Src_n.f s0_0 bt116.2.1 bt116.2.2 (wrap64 ((wrap64 (1 + bt109.1)) + 1))).bind fun bt119=>(some (wrap64 (1 + bt109.1),bt112.1,bt119.1,bt119.2.1,bt119.2.2))) else (some (wrap64 (1 + bt109.1),bt112.1,0,bt116.2.1,bt116.2.2)))))) = some (r1,r2,r3,r4,r5):=h
 clear h
 replace H:=Option.bind_eq_some_iff.mp H
 obtain ⟨⟨t109,t110,t111⟩,A20,H⟩:=H
 replace H : ((spec_l01Src_n.f s0_0 t110 t111 4).bind fun bt112=>((spec_l01Src_one.f s0_0 bt112.2.1 bt112.2.2 2).bind fun bt116=>(if bt116.1 = true then ((spec_l01Src_n.f s0_0 bt116.2.1 bt116.2.2 (wrap64 ((wrap64 (1 + t109)) + 1))).bind fun bt119=>(some (wrap64 (1 + t109),bt112.1,bt119.1,bt119.2.1,bt119.2.2))) else (some (wrap64 (1 + t109),bt112.1,0,bt116.2.1,bt116.2.2))))) = some (r1,r2,r3,r4,r5):=H
 have A2:=Aside0.mk A20
 clear A20
 replace H:=Option.bind_eq_some_iff.mp H
 obtain ⟨⟨t112,t113,t114⟩,A30,H⟩:=H
 replace H : ((spec_l01Src_one.f s0_0 t113 t114 2).bind fun bt116=>(if bt116.1 = true then ((spec_l01Src_n.f s0_0 bt116.2.1 bt116.2.2 (wrap64 ((wrap64 (1 + t109)) + 1))).bind fun bt119=>(some (wrap64 (1 + t109),t112,bt119.1,bt119.2.1,bt119.2.2))) else (some (wrap64 (1 + t109),t112,0,bt116.2.1,bt116.2.2)))) = some (r1,r2,r3,r4,r5):=H
 have A3:=Aside0.mk A30
 clear A30
 replace H:=Option.bind_eq_some_iff.mp H
 obtain ⟨⟨t116,t117,t118⟩,A40,H⟩:=H
 replace H : (if t116 = true then ((spec_l01Src_n.f s0_0 t117 t118 (wrap64 ((wrap64 (1 + t109)) + 1))).bind fun bt119=>(some (wrap64 (1 + t109),t112,bt119.1,bt119.2.1,bt119.2.2))) else (some (wrap64 (1 + t109),t112,0,t117,t118))) = some (r1,r2,r3,r4,r5):=H
 have A4:=Aside0.mk A40
 clear A40
 by_cases c5 : t116 = true
 ·subst c5
  have H1 : ((spec_l01Src_n.f s0_0 t117 t118 (wrap64 ((wrap64 (1 + t109)) + 1))).bind fun bt119=>(some (wrap64 (1 + t109),t112,bt119.1,bt119.2.1,bt119.2.2))) = some (r1,r2,r3,r4,r5):=by rw [if_pos rfl] at H;exact H
  clear H
  have H:=H1
  clear H1
  replace H:=Option.bind_eq_some_iff.mp H
  obtain ⟨⟨t119,t120,t121⟩,A60,H⟩:=H
  replace H : (some (wrap64 (1 + t109),t112,t119,t120,t121)) = some (r1,r2,r3,r4,r5):=H
  have A6:=Aside0.mk A60
  clear A60
  simp only [Option.some.injEq,Prod.mk.injEq] at H
  obtain ⟨rfl,rfl,rfl,rfl,rfl⟩:=H
  go_enter Try.func81,Try.ntmps81
  go_wp2_with (first|((with_reducible refine gate_dst (N:=2) rfl ?_);refine box_event ?hg (N:=2) ?hd (cs:=#[.int .i64 0,.int .i64 0,.int .i64 0]) (t:=43) ?hr ?_;(case hd=>rfl);(case hg=>rfl);(case hr=>first|(go_simp;done)|(go_simp;rfl));intro gb108 hg w7 hbox hb;have n0_:=Aside0.mk (IsS171.below (by repeat (first|(with_reducible first|exact HI0.out|apply IsS171.alloc|apply IsS171.drewN|apply IsS171.set_1|apply IsS171.set_2)|exact HI0.out)) hb);have n1_:=Aside0.mk (KeepBut.trans (by repeat (first|(with_reducible first|exact HK.out|apply KeepBut.set_|apply keep_drewN|apply keep_alloc)|exact HK.out)) (KeepBut.of_below hb g none) (.inl rfl));have n2_:=Aside0.mk (below_step (by repeat (first|(with_reducible first|exact HB.out|apply below_alloc|apply pw_below_drewN|apply below_drew1|refine below_set ?_ (IsS171.ge HI0.out))|exact HB.out)) hb);have n3_:=Aside0.mk (hbox);have n4_:=Aside0.mk ((by rw [hg];exact (keep_size (w:=w) (g:=g) (row:=none) (by repeat (first|(with_reducible first|exact HK.out|apply KeepBut.set_|apply keep_drewN|apply keep_alloc)|exact HK.out))) : w.heap.size ≤ gb108));have n5_:=Aside0.mk ((Nat.le_trans HW0.out (by rw [hg];exact (keep_size (w:=w) (g:=g) (row:=none) (by repeat (first|(with_reducible first|exact HK.out|apply KeepBut.set_|apply keep_drewN|apply keep_alloc)|exact HK.out))) : w.heap.size ≤ gb108) : w0.heap.size ≤ gb108));have n6_:=Aside0.mk ((by rw [hg];exact Nat.ne_of_lt (IsS171.lt (show IsS171 w0 _ g s0_0 s0_1 s0_2 from by repeat (first|(with_reducible first|exact HI0.out|apply IsS171.alloc|apply IsS171.drewN|apply IsS171.set_1|apply IsS171.set_2)|exact HI0.out))) : g ≠ gb108));have n7_:=Aside0.mk ((by rw [hg];exact Nat.ne_of_gt (IsS171.lt (show IsS171 w0 _ g s0_0 s0_1 s0_2 from by repeat (first|(with_reducible first|exact HI0.out|apply IsS171.alloc|apply IsS171.drewN|apply IsS171.set_1|apply IsS171.set_2)|exact HI0.out))) : gb108 ≠ g));clear HI0 HK HB;have HI0:=n0_;have HK:=n1_;have HB:=n2_;have BK108:=n3_;have GW108:=n4_;have GE108:=n5_;have NB0_108:=n6_;have NB108_0:=n7_;clear n0_ n1_ n2_ n3_ n4_ n5_ n6_ n7_ hb hbox hg)|((with_reducible refine gate_callee (f:=75) rfl ?_);refine goesL_ (some 5) rfl rfl Try.func75 (by kernel_rfl) rfl #[.pointer (some ⟨g,0,none⟩),.int .i64 6] rfl (by (try simp only [List.map_toArray,List.map_cons,List.map_nil]);first|done|rfl) ?_;(with_reducible refine (spec_l01Src_n.calls g s0_0 s0_1 s0_2 6 t109 t110 t111 w0 _ ?side1 ?side2 A2.out).mono ?_);(case side1=>repeat (first|(with_reducible first|exact HI0.out|apply IsS171.alloc|apply IsS171.drewN|apply IsS171.set_1|apply IsS171.set_2|refine IsS171.far ?_ NB0_108.out _)|exact HI0.out));(case side2=>repeat (first|(with_reducible first|exact HB.out|apply below_alloc|apply pw_below_drewN|apply below_drew1|refine below_set ?_ (IsS171.ge HI0.out)|refine below_set ?_ GE108.out)|exact HB.out));rintro e w8 ⟨rfl,hi,hb,hk⟩;refine ⟨_,rfl,?_⟩;have n0_:=Aside0.mk (KeepBut.blk hk (g':=gb108) (o:=.cells #[.int .i64 0,.int .i64 0,.int .i64 0] 43 (0,0)) (by (with_reducible repeat first|refine blk_drewN ?_ _|refine blk_alloc ?_ _);exact BK108.out) NB108_0.out (by simp));have n1_:=Aside0.mk (KeepBut.trans (by repeat (first|(with_reducible first|exact HK.out|apply KeepBut.set_|apply keep_drewN|apply keep_alloc|refine keep_far ?_ GW108.out _)|exact HK.out)) hk (.inl rfl));have n2_:=Aside0.mk (hb);have n3_:=Aside0.mk (hi);clear BK108 HK HB HI0;have BK108:=n0_;have HK:=n1_;have HB:=n2_;have HI0:=n3_;clear n0_ n1_ n2_ n3_;(try clear hb);(try clear hb2);(try clear hk);(try clear hi))|((with_reducible refine gate_callee (f:=75) rfl ?_);refine goesL_ (some 8) rfl rfl Try.func75 (by kernel_rfl) rfl #[.pointer (some ⟨g,0,none⟩),.int .i64 4] rfl (by (try simp only [List.map_toArray,List.map_cons,List.map_nil]);first|done|rfl) ?_;(with_reducible refine (spec_l01Src_n.calls g s0_0 t110 t111 4 t112 t113 t114 w0 _ ?side1 ?side2 A3.out).mono ?_);(case side1=>repeat (first|(with_reducible first|exact HI0.out|apply IsS171.alloc|apply IsS171.drewN|apply IsS171.set_1|apply IsS171.set_2|refine IsS171.far ?_ NB0_108.out _)|exact HI0.out));(case side2=>repeat (first|(with_reducible first|exact HB.out|apply below_alloc|apply pw_below_drewN|apply below_drew1|refine below_set ?_ (IsS171.ge HI0.out)|refine below_set ?_ GE108.out)|exact HB.out));rintro e w9 ⟨rfl,hi,hb,hk⟩;refine ⟨_,rfl,?_⟩;have n0_:=Aside0.mk (KeepBut.blk hk (g':=gb108) (o:=.cells #[.int .i64 0,.int .i64 0,.int .i64 0] 43 (0,0)) (by (with_reducible repeat first|refine blk_drewN ?_ _|refine blk_alloc ?_ _);exact BK108.out) NB108_0.out (by simp));have n1_:=Aside0.mk (KeepBut.trans (by repeat (first|(with_reducible first|exact HK.out|apply KeepBut.set_|apply keep_drewN|apply keep_alloc|refine keep_far ?_ GW108.out _)|exact HK.out)) hk (.inl rfl));have n2_:=Aside0.mk (hb);have n3_:=Aside0.mk (hi);clear BK108 HK HB HI0;have BK108:=n0_;have HK:=n1_;have HB:=n2_;have HI0:=n3_;clear n0_ n1_ n2_ n3_;(try clear hb);(try clear hb2);(try clear hk);(try clear hi))|((with_reducible refine gate_dst (N:=3) rfl ?_);refine box_event ?hg (N:=3) ?hd (cs:=#[.int .i64 0,.int .i64 0,.int .i64 0]) (t:=43) ?hr ?_;(case hd=>rfl);(case hg=>rfl);(case hr=>first|(go_simp;done)|(go_simp;rfl));intro gb115 hg w10 hbox hb;have n0_:=Aside0.mk (IsS171.below (by repeat (first|(with_reducible first|exact HI0.out|apply IsS171.alloc|apply IsS171.drewN|apply IsS171.set_1|apply IsS171.set_2|refine IsS171.far ?_ NB0_108.out _)|exact HI0.out)) hb);have n1_:=Aside0.mk (blk_below (g:=gb108) (o:=.cells #[.int .i64 0,.int .i64 0,.int .i64 0] 43 (0,0)) (by (with_reducible repeat first|refine blk_drewN ?_ _|refine blk_alloc ?_ _);exact BK108.out) hb);have n2_:=Aside0.mk (KeepBut.trans (by repeat (first|(with_reducible first|exact HK.out|apply KeepBut.set_|apply keep_drewN|apply keep_alloc|refine keep_far ?_ GW108.out _)|exact HK.out)) (KeepBut.of_below hb g none) (.inl rfl));have n3_:=Aside0.mk (below_step (by repeat (first|(with_reducible first|exact HB.out|apply below_alloc|apply pw_below_drewN|apply below_drew1|refine below_set ?_ (IsS171.ge HI0.out)|refine below_set ?_ GE108.out)|exact HB.out)) hb);have n4_:=Aside0.mk (hbox);have n5_:=Aside0.mk ((by rw [hg];exact (keep_size (w:=w) (g:=g) (row:=none) (by repeat (first|(with_reducible first|exact HK.out|apply KeepBut.set_|apply keep_drewN|apply keep_alloc|refine keep_far ?_ GW108.out _)|exact HK.out))) : w.heap.size ≤ gb115));have n6_:=Aside0.mk ((Nat.le_trans HW0.out (by rw [hg];exact (keep_size (w:=w) (g:=g) (row:=none) (by repeat (first|(with_reducible first|exact HK.out|apply KeepBut.set_|apply keep_drewN|apply keep_alloc|refine keep_far ?_ GW108.out _)|exact HK.out))) : w.heap.size ≤ gb115) : w0.heap.size ≤ gb115));have n7_:=Aside0.mk ((by rw [hg];exact Nat.ne_of_lt (blk_lt (g:=gb108) (o:=.cells #[.int .i64 0,.int .i64 0,.int .i64 0] 43 (0,0)) (by (with_reducible repeat first|refine blk_drewN ?_ _|refine blk_alloc ?_ _);exact BK108.out)) : gb108 ≠ gb115));have n8_:=Aside0.mk ((by rw [hg];exact Nat.ne_of_gt (blk_lt (g:=gb108) (o:=.cells #[.int .i64 0,.int .i64 0,.int .i64 0] 43 (0,0)) (by (with_reducible repeat first|refine blk_drewN ?_ _|refine blk_alloc ?_ _);exact BK108.out)) : gb115 ≠ gb108));have n9_:=Aside0.mk ((by rw [hg];exact Nat.ne_of_lt (IsS171.lt (show IsS171 w0 _ g s0_0 t113 t114 from by repeat (first|(with_reducible first|exact HI0.out|apply IsS171.alloc|apply IsS171.drewN|apply IsS171.set_1|apply IsS171.set_2|refine IsS171.far ?_ NB0_108.out _)|exact HI0.out))) : g ≠ gb115));have n10_:=Aside0.mk ((by rw [hg];exact Nat.ne_of_gt (IsS171.lt (show IsS171 w0 _ g s0_0 t113 t114 from by repeat (first|(with_reducible first|exact HI0.out|apply IsS171.alloc|apply IsS171.drewN|apply IsS171.set_1|apply IsS171.set_2|refine IsS171.far ?_ NB0_108.out _)|exact HI0.out))) : gb115 ≠ g));clear HI0 BK108 HK HB;have HI0:=n0_;have BK108:=n1_;have HK:=n2_;have HB:=n3_;have BK115:=n4_;have GW115:=n5_;have GE115:=n6_;have NB108_115:=n7_;have NB115_108:=n8_;have NB0_115:=n9_;have NB115_0:=n10_;clear n0_ n1_ n2_ n3_ n4_ n5_ n6_ n7_ n8_ n9_ n10_ hb hbox hg;have hnb11:=NB115_108.out;have hnc11:=NB108_115.out;have hnb12:=NB115_0.out;have hnc12:=NB0_115.out;have hcz13_0 : w10.cell? ⟨gb115,0,none⟩ = some (.int .i64 0):=(blk_cell BK115.out 0).trans rfl;have hcz13_1 : w10.cell? ⟨gb115,1,none⟩ = some (.int .i64 0):=(blk_cell BK115.out 1).trans rfl;have hcz13_2 : w10.cell? ⟨gb115,2,none⟩ = some (.int .i64 0):=(blk_cell BK115.out 2).trans rfl;have hfz13_0:=blk_frozen BK115.out 0;have hfz13_1:=blk_frozen BK115.out 1;have hfz13_2:=blk_frozen BK115.out 2)|((with_reducible refine gate_callee (f:=77) rfl ?_);refine goesL_ (some 11) rfl rfl Try.func77 (by kernel_rfl) rfl #[.pointer (some ⟨g,0,none⟩),.int .i64 2] rfl (by (try simp only [List.map_toArray,List.map_cons,List.map_nil]);first|done|rfl) ?_;(with_reducible refine (spec_l01Src_one.calls g s0_0 t113 t114 2 true t117 t118 w0 _ ?side1 ?side2 A4.out).mono ?_);(case side1=>repeat (first|(with_reducible first|exact HI0.out|apply IsS171.alloc|apply IsS171.drewN|apply IsS171.set_1|apply IsS171.set_2|refine IsS171.far ?_ NB0_108.out _|refine IsS171.far ?_ NB0_115.out _)|exact HI0.out));(case side2=>repeat (first|(with_reducible first|exact HB.out|apply below_alloc|apply pw_below_drewN|apply below_drew1|refine below_set ?_ (IsS171.ge HI0.out)|refine below_set ?_ GE108.out|refine below_set ?_ GE115.out)|exact HB.out));rintro e w14 ⟨rfl,hi,hb,hk⟩;refine ⟨_,rfl,?_⟩;have n0_:=Aside0.mk (KeepBut.blk hk (g':=gb108) (o:=.cells #[.int .i64 0,.int .i64 0,.int .i64 0] 43 (0,0)) (by (with_reducible repeat first|refine blk_drewN ?_ _|refine blk_alloc ?_ _);refine blk_far ?_ NB108_115.out _;(with_reducible repeat first|refine blk_drewN ?_ _|refine blk_alloc ?_ _);refine blk_far ?_ NB108_115.out _;(with_reducible repeat first|refine blk_drewN ?_ _|refine blk_alloc ?_ _);refine blk_far ?_ NB108_115.out _;(with_reducible repeat first|refine blk_drewN ?_ _|refine blk_alloc ?_ _);exact BK108.out) NB108_0.out (by simp));have n1_:=Aside0.mk (KeepBut.blk hk (g':=gb115) (o:=.cells #[.int .i64 (wrap64 (1 + t109)),.int .i64 t112,.int .i64 0] 43 (0,0)) (by (with_reducible repeat first|refine blk_drewN ?_ _|refine blk_alloc ?_ _);refine blk_put (cs:=#[.int .i64 (wrap64 (1 + t109)),.int .i64 t112,.int .i64 0]) ?_ 2 _ rfl;(with_reducible repeat first|refine blk_drewN ?_ _|refine blk_alloc ?_ _);refine blk_put (cs:=#[.int .i64 (wrap64 (1 + t109)),.int .i64 0,.int .i64 0]) ?_ 1 _ rfl;(with_reducible repeat first|refine blk_drewN ?_ _|refine blk_alloc ?_ _);refine blk_put (cs:=#[.int .i64 0,.int .i64 0,.int .i64 0]) ?_ 0 _ rfl;(with_reducible repeat first|refine blk_drewN ?_ _|refine blk_alloc ?_ _);exact BK115.out) NB115_0.out (by simp));have n2_:=Aside0.mk (KeepBut.trans (by repeat (first|(with_reducible first|exact HK.out|apply KeepBut.set_|apply keep_drewN|apply keep_alloc|refine keep_far ?_ GW108.out _|refine keep_far ?_ GW115.out _)|exact HK.out)) hk (.inl rfl));have n3_:=Aside0.mk (hb);have n4_:=Aside0.mk (hi);clear BK108 BK115 HK HB HI0;have BK108:=n0_;have BK115:=n1_;have HK:=n2_;have HB:=n3_;have HI0:=n4_;clear n0_ n1_ n2_ n3_ n4_;(try clear hb);(try clear hb2);(try clear hk);(try clear hi);have hcz15_0 : w14.cell? ⟨gb115,0,none⟩ = some (.int .i64 (wrap64 (1 + t109))):=(blk_cell BK115.out 0).trans rfl;have hcz15_1 : w14.cell? ⟨gb115,1,none⟩ = some (.int .i64 t112):=(blk_cell BK115.out 1).trans rfl;have hcz15_2 : w14.cell? ⟨gb115,2,none⟩ = some (.int .i64 0):=(blk_cell BK115.out 2).trans rfl;have hfz15_0:=blk_frozen BK115.out 0;have hfz15_1:=blk_frozen BK115.out 1;have hfz15_2:=blk_frozen BK115.out 2)|((with_reducible refine gate_callee (f:=75) rfl ?_);refine goesL_ (some 16) rfl rfl Try.func75 (by kernel_rfl) rfl #[.pointer (some ⟨g,0,none⟩),.int .i64 (wrap64 ((wrap64 (1 + t109)) + 1))] rfl (by (try simp only [List.map_toArray,List.map_cons,List.map_nil]);first|done|rfl) ?_;(with_reducible refine (spec_l01Src_n.calls g s0_0 t117 t118 (wrap64 ((wrap64 (1 + t109)) + 1)) t119 t120 t121 w0 _ ?side1 ?side2 A6.out).mono ?_);(case side1=>repeat (first|(with_reducible first|exact HI0.out|apply IsS171.alloc|apply IsS171.drewN|apply IsS171.set_1|apply IsS171.set_2|refine IsS171.far ?_ NB0_108.out _|refine IsS171.far ?_ NB0_115.out _)|exact HI0.out));(case side2=>repeat (first|(with_reducible first|exact HB.out|apply below_alloc|apply pw_below_drewN|apply below_drew1|refine below_set ?_ (IsS171.ge HI0.out)|refine below_set ?_ GE108.out|refine below_set ?_ GE115.out)|exact HB.out));rintro e w16 ⟨rfl,hi,hb,hk⟩;refine ⟨_,rfl,?_⟩;have n0_:=Aside0.mk (KeepBut.blk hk (g':=gb108) (o:=.cells #[.int .i64 0,.int .i64 0,.int .i64 0] 43 (0,0)) (by (with_reducible repeat first|refine blk_drewN ?_ _|refine blk_alloc ?_ _);exact BK108.out) NB108_0.out (by simp));have n1_:=Aside0.mk (KeepBut.blk hk (g':=gb115) (o:=.cells #[.int .i64 (wrap64 (1 + t109)),.int .i64 t112,.int .i64 0] 43 (0,0)) (by (with_reducible repeat first|refine blk_drewN ?_ _|refine blk_alloc ?_ _);exact BK115.out) NB115_0.out (by simp));have n2_:=Aside0.mk (KeepBut.trans (by repeat (first|(with_reducible first|exact HK.out|apply KeepBut.set_|apply keep_drewN|apply keep_alloc|refine keep_far ?_ GW108.out _|refine keep_far ?_ GW115.out _)|exact HK.out)) hk (.inl rfl));have n3_:=Aside0.mk (hb);have n4_:=Aside0.mk (hi);clear BK108 BK115 HK HB HI0;have BK108:=n0_;have BK115:=n1_;have HK:=n2_;have HB:=n3_;have HI0:=n4_;clear n0_ n1_ n2_ n3_ n4_;(try clear hb);(try clear hb2);(try clear hk);(try clear hi);have hcz17_0 : w16.cell? ⟨gb115,0,none⟩ = some (.int .i64 (wrap64 (1 + t109))):=(blk_cell BK115.out 0).trans rfl;have hcz17_1 : w16.cell? ⟨gb115,1,none⟩ = some (.int .i64 t112):=(blk_cell BK115.out 1).trans rfl;have hcz17_2 : w16.cell? ⟨gb115,2,none⟩ = some (.int .i64 0):=(blk_cell BK115.out 2).trans rfl;have hfz17_0:=blk_frozen BK115.out 0;have hfz17_1:=blk_frozen BK115.out 1;have hfz17_2:=blk_frozen BK115.out 2;have hnb18:=NB108_0.out;have hnc18:=NB0_108.out;have hcz19_0 : w16.cell? ⟨gb108,0,none⟩ = some (.int .i64 0):=(blk_cell BK108.out 0).trans rfl;have hcz19_1 : w16.cell? ⟨gb108,1,none⟩ = some (.int .i64 0):=(blk_cell BK108.out 1).trans rfl;have hcz19_2 : w16.cell? ⟨gb108,2,none⟩ = some (.int .i64 0):=(blk_cell BK108.out 2).trans rfl;have hfz19_0:=blk_frozen BK108.out 0;have hfz19_1:=blk_frozen BK108.out 1;have hfz19_2:=blk_frozen BK108.out 2))
  refine bodyPost_ret (results_cell_row rfl _ _ gb108 43 #[.int .i64 (wrap64 (1 + t109)),.int .i64 t112,.int .i64 t119] (0,0) _ rfl (by (with_reducible repeat first|refine blk_drewN ?_ _|refine blk_alloc ?_ _);refine blk_put (cs:=#[.int .i64 (wrap64 (1 + t109)),.int .i64 t112,.int .i64 0]) ?_ 2 _ rfl;(with_reducible repeat first|refine blk_drewN ?_ _|refine blk_alloc ?_ _);refine blk_put (cs:=#[.int .i64 (wrap64 (1 + t109)),.int .i64 0,.int .i64 0]) ?_ 1 _ rfl;(with_reducible repeat first|refine blk_drewN ?_ _|refine blk_alloc ?_ _);refine blk_put (cs:=#[.int .i64 0,.int .i64 0,.int .i64 0]) ?_ 0 _ rfl;(with_reducible repeat first|refine blk_drewN ?_ _|refine blk_alloc ?_ _);refine blk_far ?_ NB108_115.out _;(with_reducible repeat first|refine blk_drewN ?_ _|refine blk_alloc ?_ _);exact BK108.out) Try.underlying43 rfl (by kernel_rfl)) rfl ?_
  exact ⟨by first|rfl|(simp [errW_none,errW_some] <;> rfl)|(simp [*,errW_none,errW_some] <;> rfl),by repeat (first|(with_reducible first|exact HI0.out|apply IsS171.alloc|apply IsS171.drewN|apply IsS171.set_1|apply IsS171.set_2|refine IsS171.far ?_ NB0_108.out _|refine IsS171.far ?_ NB0_115.out _)|exact HI0.out),by repeat (first|(with_reducible first|exact HB.out|apply below_alloc|apply pw_below_drewN|apply below_drew1|refine below_set ?_ (IsS171.ge HI0.out)|refine below_set ?_ GE108.out|refine below_set ?_ GE115.out)|exact HB.out),by repeat (first|(with_reducible first|exact HK.out|apply KeepBut.set_|apply keep_drewN|apply keep_alloc|refine keep_far ?_ GW108.out _|refine keep_far ?_ GW115.out _)|exact HK.out)⟩
 ·replace c5:=Bool.eq_false_iff.mpr c5
  subst c5
  have H1 : (some (wrap64 (1 + t109),t112,0,t117,t118)) = some (r1,r2,r3,r4,r5):=by rw [if_neg (show ¬ (false = true) by decide)] at H;exact H
  clear H
  have H:=H1
  clear H1
  simp only [Option.some.injEq,Prod.mk.injEq] at H
  obtain ⟨rfl,rfl,rfl,rfl,rfl⟩:=H
  go_enter Try.func81,Try.ntmps81
  go_wp2_with (first|((with_reducible refine gate_dst (N:=2) rfl ?_);refine box_event ?hg (N:=2) ?hd (cs:=#[.int .i64 0,.int .i64 0,.int .i64 0]) (t:=43) ?hr ?_;(case hd=>rfl);(case hg=>rfl);(case hr=>first|(go_simp;done)|(go_simp;rfl));intro gb108 hg w20 hbox hb;have n0_:=Aside0.mk (IsS171.below (by repeat (first|(with_reducible first|exact HI0.out|apply IsS171.alloc|apply IsS171.drewN|apply IsS171.set_1|apply IsS171.set_2)|exact HI0.out)) hb);have n1_:=Aside0.mk (KeepBut.trans (by repeat (first|(with_reducible first|exact HK.out|apply KeepBut.set_|apply keep_drewN|apply keep_alloc)|exact HK.out)) (KeepBut.of_below hb g none) (.inl rfl));have n2_:=Aside0.mk (below_step (by repeat (first|(with_reducible first|exact HB.out|apply below_alloc|apply pw_below_drewN|apply below_drew1|refine below_set ?_ (IsS171.ge HI0.out))|exact HB.out)) hb);have n3_:=Aside0.mk (hbox);have n4_:=Aside0.mk ((by rw [hg];exact (keep_size (w:=w) (g:=g) (row:=none) (by repeat (first|(with_reducible first|exact HK.out|apply KeepBut.set_|apply keep_drewN|apply keep_alloc)|exact HK.out))) : w.heap.size ≤ gb108));have n5_:=Aside0.mk ((Nat.le_trans HW0.out (by rw [hg];exact (keep_size (w:=w) (g:=g) (row:=none) (by repeat (first|(with_reducible first|exact HK.out|apply KeepBut.set_|apply keep_drewN|apply keep_alloc)|exact HK.out))) : w.heap.size ≤ gb108) : w0.heap.size ≤ gb108));have n6_:=Aside0.mk ((by rw [hg];exact Nat.ne_of_lt (IsS171.lt (show IsS171 w0 _ g s0_0 s0_1 s0_2 from by repeat (first|(with_reducible first|exact HI0.out|apply IsS171.alloc|apply IsS171.drewN|apply IsS171.set_1|apply IsS171.set_2)|exact HI0.out))) : g ≠ gb108));have n7_:=Aside0.mk ((by rw [hg];exact Nat.ne_of_gt (IsS171.lt (show IsS171 w0 _ g s0_0 s0_1 s0_2 from by repeat (first|(with_reducible first|exact HI0.out|apply IsS171.alloc|apply IsS171.drewN|apply IsS171.set_1|apply IsS171.set_2)|exact HI0.out))) : gb108 ≠ g));clear HI0 HK HB;have HI0:=n0_;have HK:=n1_;have HB:=n2_;have BK108:=n3_;have GW108:=n4_;have GE108:=n5_;have NB0_108:=n6_;have NB108_0:=n7_;clear n0_ n1_ n2_ n3_ n4_ n5_ n6_ n7_ hb hbox hg)|((with_reducible refine gate_callee (f:=75) rfl ?_);refine goesL_ (some 5) rfl rfl Try.func75 (by kernel_rfl) rfl #[.pointer (some ⟨g,0,none⟩),.int .i64 6] rfl (by (try simp only [List.map_toArray,List.map_cons,List.map_nil]);first|done|rfl) ?_;(with_reducible refine (spec_l01Src_n.calls g s0_0 s0_1 s0_2 6 t109 t110 t111 w0 _ ?side1 ?side2 A2.out).mono ?_);(case side1=>repeat (first|(with_reducible first|exact HI0.out|apply IsS171.alloc|apply IsS171.drewN|apply IsS171.set_1|apply IsS171.set_2|refine IsS171.far ?_ NB0_108.out _)|exact HI0.out));(case side2=>repeat (first|(with_reducible first|exact HB.out|apply below_alloc|apply pw_below_drewN|apply below_drew1|refine below_set ?_ (IsS171.ge HI0.out)|refine below_set ?_ GE108.out)|exact HB.out));rintro e w21 ⟨rfl,hi,hb,hk⟩;refine ⟨_,rfl,?_⟩;have n0_:=Aside0.mk (KeepBut.blk hk (g':=gb108) (o:=.cells #[.int .i64 0,.int .i64 0,.int .i64 0] 43 (0,0)) (by (with_reducible repeat first|refine blk_drewN ?_ _|refine blk_alloc ?_ _);exact BK108.out) NB108_0.out (by simp));have n1_:=Aside0.mk (KeepBut.trans (by repeat (first|(with_reducible first|exact HK.out|apply KeepBut.set_|apply keep_drewN|apply keep_alloc|refine keep_far ?_ GW108.out _)|exact HK.out)) hk (.inl rfl));have n2_:=Aside0.mk (hb);have n3_:=Aside0.mk (hi);clear BK108 HK HB HI0;have BK108:=n0_;have HK:=n1_;have HB:=n2_;have HI0:=n3_;clear n0_ n1_ n2_ n3_;(try clear hb);(try clear hb2);(try clear hk);(try clear hi))|((with_reducible refine gate_callee (f:=75) rfl ?_);refine goesL_ (some 8) rfl rfl Try.func75 (by kernel_rfl) rfl #[.pointer (some ⟨g,0,none⟩),.int .i64 4] rfl (by (try simp only [List.map_toArray,List.map_cons,List.map_nil]);first|done|rfl) ?_;(with_reducible refine (spec_l01Src_n.calls g s0_0 t110 t111 4 t112 t113 t114 w0 _ ?side1 ?side2 A3.out).mono ?_);(case side1=>repeat (first|(with_reducible first|exact HI0.out|apply IsS171.alloc|apply IsS171.drewN|apply IsS171.set_1|apply IsS171.set_2|refine IsS171.far ?_ NB0_108.out _)|exact HI0.out));(case side2=>repeat (first|(with_reducible first|exact HB.out|apply below_alloc|apply pw_below_drewN|apply below_drew1|refine below_set ?_ (IsS171.ge HI0.out)|refine below_set ?_ GE108.out)|exact HB.out));rintro e w22 ⟨rfl,hi,hb,hk⟩;refine ⟨_,rfl,?_⟩;have n0_:=Aside0.mk (KeepBut.blk hk (g':=gb108) (o:=.cells #[.int .i64 0,.int .i64 0,.int .i64 0] 43 (0,0)) (by (with_reducible repeat first|refine blk_drewN ?_ _|refine blk_alloc ?_ _);exact BK108.out) NB108_0.out (by simp));have n1_:=Aside0.mk (KeepBut.trans (by repeat (first|(with_reducible first|exact HK.out|apply KeepBut.set_|apply keep_drewN|apply keep_alloc|refine keep_far ?_ GW108.out _)|exact HK.out)) hk (.inl rfl));have n2_:=Aside0.mk (hb);have n3_:=Aside0.mk (hi);clear BK108 HK HB HI0;have BK108:=n0_;have HK:=n1_;have HB:=n2_;have HI0:=n3_;clear n0_ n1_ n2_ n3_;(try clear hb);(try clear hb2);(try clear hk);(try clear hi))|((with_reducible refine gate_dst (N:=3) rfl ?_);refine box_event ?hg (N:=3) ?hd (cs:=#[.int .i64 0,.int .i64 0,.int .i64 0]) (t:=43) ?hr ?_;(case hd=>rfl);(case hg=>rfl);(case hr=>first|(go_simp;done)|(go_simp;rfl));intro gb115 hg w23 hbox hb;have n0_:=Aside0.mk (IsS171.below (by repeat (first|(with_reducible first|exact HI0.out|apply IsS171.alloc|apply IsS171.drewN|apply IsS171.set_1|apply IsS171.set_2|refine IsS171.far ?_ NB0_108.out _)|exact HI0.out)) hb);have n1_:=Aside0.mk (blk_below (g:=gb108) (o:=.cells #[.int .i64 0,.int .i64 0,.int .i64 0] 43 (0,0)) (by (with_reducible repeat first|refine blk_drewN ?_ _|refine blk_alloc ?_ _);exact BK108.out) hb);have n2_:=Aside0.mk (KeepBut.trans (by repeat (first|(with_reducible first|exact HK.out|apply KeepBut.set_|apply keep_drewN|apply keep_alloc|refine keep_far ?_ GW108.out _)|exact HK.out)) (KeepBut.of_below hb g none) (.inl rfl));have n3_:=Aside0.mk (below_step (by repeat (first|(with_reducible first|exact HB.out|apply below_alloc|apply pw_below_drewN|apply below_drew1|refine below_set ?_ (IsS171.ge HI0.out)|refine below_set ?_ GE108.out)|exact HB.out)) hb);have n4_:=Aside0.mk (hbox);have n5_:=Aside0.mk ((by rw [hg];exact (keep_size (w:=w) (g:=g) (row:=none) (by repeat (first|(with_reducible first|exact HK.out|apply KeepBut.set_|apply keep_drewN|apply keep_alloc|refine keep_far ?_ GW108.out _)|exact HK.out))) : w.heap.size ≤ gb115));have n6_:=Aside0.mk ((Nat.le_trans HW0.out (by rw [hg];exact (keep_size (w:=w) (g:=g) (row:=none) (by repeat (first|(with_reducible first|exact HK.out|apply KeepBut.set_|apply keep_drewN|apply keep_alloc|refine keep_far ?_ GW108.out _)|exact HK.out))) : w.heap.size ≤ gb115) : w0.heap.size ≤ gb115));have n7_:=Aside0.mk ((by rw [hg];exact Nat.ne_of_lt (blk_lt (g:=gb108) (o:=.cells #[.int .i64 0,.int .i64 0,.int .i64 0] 43 (0,0)) (by (with_reducible repeat first|refine blk_drewN ?_ _|refine blk_alloc ?_ _);exact BK108.out)) : gb108 ≠ gb115));have n8_:=Aside0.mk ((by rw [hg];exact Nat.ne_of_gt (blk_lt (g:=gb108) (o:=.cells #[.int .i64 0,.int .i64 0,.int .i64 0] 43 (0,0)) (by (with_reducible repeat first|refine blk_drewN ?_ _|refine blk_alloc ?_ _);exact BK108.out)) : gb115 ≠ gb108));have n9_:=Aside0.mk ((by rw [hg];exact Nat.ne_of_lt (IsS171.lt (show IsS171 w0 _ g s0_0 t113 t114 from by repeat (first|(with_reducible first|exact HI0.out|apply IsS171.alloc|apply IsS171.drewN|apply IsS171.set_1|apply IsS171.set_2|refine IsS171.far ?_ NB0_108.out _)|exact HI0.out))) : g ≠ gb115));have n10_:=Aside0.mk ((by rw [hg];exact Nat.ne_of_gt (IsS171.lt (show IsS171 w0 _ g s0_0 t113 t114 from by repeat (first|(with_reducible first|exact HI0.out|apply IsS171.alloc|apply IsS171.drewN|apply IsS171.set_1|apply IsS171.set_2|refine IsS171.far ?_ NB0_108.out _)|exact HI0.out))) : gb115 ≠ g));clear HI0 BK108 HK HB;have HI0:=n0_;have BK108:=n1_;have HK:=n2_;have HB:=n3_;have BK115:=n4_;have GW115:=n5_;have GE115:=n6_;have NB108_115:=n7_;have NB115_108:=n8_;have NB0_115:=n9_;have NB115_0:=n10_;clear n0_ n1_ n2_ n3_ n4_ n5_ n6_ n7_ n8_ n9_ n10_ hb hbox hg;have hnb24:=NB115_108.out;have hnc24:=NB108_115.out;have hnb25:=NB115_0.out;have hnc25:=NB0_115.out;have hcz26_0 : w23.cell? ⟨gb115,0,none⟩ = some (.int .i64 0):=(blk_cell BK115.out 0).trans rfl;have hcz26_1 : w23.cell? ⟨gb115,1,none⟩ = some (.int .i64 0):=(blk_cell BK115.out 1).trans rfl;have hcz26_2 : w23.cell? ⟨gb115,2,none⟩ = some (.int .i64 0):=(blk_cell BK115.out 2).trans rfl;have hfz26_0:=blk_frozen BK115.out 0;have hfz26_1:=blk_frozen BK115.out 1;have hfz26_2:=blk_frozen BK115.out 2)|((with_reducible refine gate_callee (f:=77) rfl ?_);refine goesL_ (some 11) rfl rfl Try.func77 (by kernel_rfl) rfl #[.pointer (some ⟨g,0,none⟩),.int .i64 2] rfl (by (try simp only [List.map_toArray,List.map_cons,List.map_nil]);first|done|rfl) ?_;(with_reducible refine (spec_l01Src_one.calls g s0_0 t113 t114 2 false t117 t118 w0 _ ?side1 ?side2 A4.out).mono ?_);(case side1=>repeat (first|(with_reducible first|exact HI0.out|apply IsS171.alloc|apply IsS171.drewN|apply IsS171.set_1|apply IsS171.set_2|refine IsS171.far ?_ NB0_108.out _|refine IsS171.far ?_ NB0_115.out _)|exact HI0.out));(case side2=>repeat (first|(with_reducible first|exact HB.out|apply below_alloc|apply pw_below_drewN|apply below_drew1|refine below_set ?_ (IsS171.ge HI0.out)|refine below_set ?_ GE108.out|refine below_set ?_ GE115.out)|exact HB.out));rintro e w27 ⟨rfl,hi,hb,hk⟩;refine ⟨_,rfl,?_⟩;have n0_:=Aside0.mk (KeepBut.blk hk (g':=gb108) (o:=.cells #[.int .i64 0,.int .i64 0,.int .i64 0] 43 (0,0)) (by (with_reducible repeat first|refine blk_drewN ?_ _|refine blk_alloc ?_ _);refine blk_far ?_ NB108_115.out _;(with_reducible repeat first|refine blk_drewN ?_ _|refine blk_alloc ?_ _);refine blk_far ?_ NB108_115.out _;(with_reducible repeat first|refine blk_drewN ?_ _|refine blk_alloc ?_ _);refine blk_far ?_ NB108_115.out _;(with_reducible repeat first|refine blk_drewN ?_ _|refine blk_alloc ?_ _);exact BK108.out) NB108_0.out (by simp));have n1_:=Aside0.mk (KeepBut.blk hk (g':=gb115) (o:=.cells #[.int .i64 (wrap64 (1 + t109)),.int .i64 t112,.int .i64 0] 43 (0,0)) (by (with_reducible repeat first|refine blk_drewN ?_ _|refine blk_alloc ?_ _);refine blk_put (cs:=#[.int .i64 (wrap64 (1 + t109)),.int .i64 t112,.int .i64 0]) ?_ 2 _ rfl;(with_reducible repeat first|refine blk_drewN ?_ _|refine blk_alloc ?_ _);refine blk_put (cs:=#[.int .i64 (wrap64 (1 + t109)),.int .i64 0,.int .i64 0]) ?_ 1 _ rfl;(with_reducible repeat first|refine blk_drewN ?_ _|refine blk_alloc ?_ _);refine blk_put (cs:=#[.int .i64 0,.int .i64 0,.int .i64 0]) ?_ 0 _ rfl;(with_reducible repeat first|refine blk_drewN ?_ _|refine blk_alloc ?_ _);exact BK115.out) NB115_0.out (by simp));have n2_:=Aside0.mk (KeepBut.trans (by repeat (first|(with_reducible first|exact HK.out|apply KeepBut.set_|apply keep_drewN|apply keep_alloc|refine keep_far ?_ GW108.out _|refine keep_far ?_ GW115.out _)|exact HK.out)) hk (.inl rfl));have n3_:=Aside0.mk (hb);have n4_:=Aside0.mk (hi);clear BK108 BK115 HK HB HI0;have BK108:=n0_;have BK115:=n1_;have HK:=n2_;have HB:=n3_;have HI0:=n4_;clear n0_ n1_ n2_ n3_ n4_;(try clear hb);(try clear hb2);(try clear hk);(try clear hi);have hcz28_0 : w27.cell? ⟨gb115,0,none⟩ = some (.int .i64 (wrap64 (1 + t109))):=(blk_cell BK115.out 0).trans rfl;have hcz28_1 : w27.cell? ⟨gb115,1,none⟩ = some (.int .i64 t112):=(blk_cell BK115.out 1).trans rfl;have hcz28_2 : w27.cell? ⟨gb115,2,none⟩ = some (.int .i64 0):=(blk_cell BK115.out 2).trans rfl;have hfz28_0:=blk_frozen BK115.out 0;have hfz28_1:=blk_frozen BK115.out 1;have hfz28_2:=blk_frozen BK115.out 2;have hnb29:=NB108_0.out;have hnc29:=NB0_108.out;have hcz30_0 : w27.cell? ⟨gb108,0,none⟩ = some (.int .i64 0):=(blk_cell BK108.out 0).trans rfl;have hcz30_1 : w27.cell? ⟨gb108,1,none⟩ = some (.int .i64 0):=(blk_cell BK108.out 1).trans rfl;have hcz30_2 : w27.cell? ⟨gb108,2,none⟩ = some (.int .i64 0):=(blk_cell BK108.out 2).trans rfl;have hfz30_0:=blk_frozen BK108.out 0;have hfz30_1:=blk_frozen BK108.out 1;have hfz30_2:=blk_frozen BK108.out 2))
  refine bodyPost_ret (results_cell_row rfl _ _ gb108 43 #[.int .i64 (wrap64 (1 + t109)),.int .i64 t112,.int .i64 0] (0,0) _ rfl (by (with_reducible repeat first|refine blk_drewN ?_ _|refine blk_alloc ?_ _);refine blk_put (cs:=#[.int .i64 (wrap64 (1 + t109)),.int .i64 t112,.int .i64 0]) ?_ 2 _ rfl;(with_reducible repeat first|refine blk_drewN ?_ _|refine blk_alloc ?_ _);refine blk_put (cs:=#[.int .i64 (wrap64 (1 + t109)),.int .i64 0,.int .i64 0]) ?_ 1 _ rfl;(with_reducible repeat first|refine blk_drewN ?_ _|refine blk_alloc ?_ _);refine blk_put (cs:=#[.int .i64 0,.int .i64 0,.int .i64 0]) ?_ 0 _ rfl;(with_reducible repeat first|refine blk_drewN ?_ _|refine blk_alloc ?_ _);exact BK108.out) Try.underlying43 rfl (by kernel_rfl)) rfl ?_
  exact ⟨by first|rfl|(simp [errW_none,errW_some] <;> rfl)|(simp [*,errW_none,errW_some] <;> rfl),by repeat (first|(with_reducible first|exact HI0.out|apply IsS171.alloc|apply IsS171.drewN|apply IsS171.set_1|apply IsS171.set_2|refine IsS171.far ?_ NB0_108.out _|refine IsS171.far ?_ NB0_115.out _)|exact HI0.out),by repeat (first|(with_reducible first|exact HB.out|apply below_alloc|apply pw_below_drewN|apply below_drew1|refine below_set ?_ (IsS171.ge HI0.out)|refine below_set ?_ GE108.out|refine below_set ?_ GE115.out)|exact HB.out),by repeat (first|(with_reducible first|exact HK.out|apply KeepBut.set_|apply keep_drewN|apply keep_alloc|refine keep_far ?_ GW108.out _|refine keep_far ?_ GW115.out _)|exact HK.out)⟩

/-! ### spec_l01Src_unit: function 82 -/
def spec_l01Src_unit.f (s0_0 : List Int) (s0_1 : Int) (s0_2 : Int) : Option (Int × Int × Int):=(spec_l01Src_one.f s0_0 s0_1 s0_2 20).bind fun bt122=>(if bt122.1 = true then ((some (([0,4096,4097,(-1)] : List Int) : List Int)).bind fun y125=>((spec_l01Src_n.f s0_0 bt122.2.1 bt122.2.2 4).bind fun bt128=>(if 0 ≤ bt128.1 then (if bt128.1 < (y125.length : Int) then (some (rd y125 bt128.1,bt128.2.1,bt128.2.2)) else (none)) else (none)))) else ((spec_l01Src_n.f s0_0 bt122.2.1 bt122.2.2 6).bind fun bt132=>(some (wrap64 (1 + bt132.1),bt132.2.1,bt132.2.2))))
set_option maxHeartbeats 8000000 in
set_option maxRecDepth 100000 in
theorem spec_l01Src_unit.calls (g : Nat) (s0_0 : List Int) (s0_1 : Int) (s0_2 : Int) (r1 : Int) (r2 : Int) (r3 : Int) (w0 w : World) (hI : IsS171 w0 w g s0_0 s0_1 s0_2) (hB : Below w0.heap.size w0 w) (h : spec_l01Src_unit.f s0_0 s0_1 s0_2 = some (r1,r2,r3)) :
  Calls Try.prog 82 #[.pointer (some ⟨g,0,none⟩)] w fun e w'=>e = .returned (.int .i64 r1) ∧ IsS171 w0 w' g s0_0 r2 r3 ∧ Below w0.heap.size w0 w' ∧ KeepBut w w' g none:=by
 have HI0:=Aside0.mk hI
 have HK:=Aside0.mk (KeepBut.refl w g none)
 have HL:=Aside0.mk hB.size
 clear hI
 have HW0:=Aside0.mk hB.size
 have HB:=Aside0.mk hB
 clear hB
 have H : ((spec_l01Src_one.f s0_0 s0_1 s0_2 20).bind fun bt122=>(if bt122.1 = true then ((some (([0,4096,4097,(-1)] : List Int) : List Int)).bind fun y125=>((spec_l01Src_n.f s0_0 bt122.2.1 bt122.2.2 4).bind fun bt128=>(if 0 ≤ bt128.1 then (if bt128.1 < (y125.length : Int) then (some (rd y125 bt128.1,bt128.2.1,bt128.2.2)) else (none)) else (none)))) else ((spec_l01Src_n.f s0_0 bt122.2.1 bt122.2.2 6).bind fun bt132=>(some (wrap64 (1 + bt132.1),bt132.2.1,bt132.2.2))))) = some (r1,r2,r3):=h
 clear h
 replace H:=Option.bind_eq_some_iff.mp H
 obtain ⟨⟨t122,t123,t124⟩,A20,H⟩:=H
 replace H : (if t122 = true then ((some (([0,4096,4097,(-1)] : List Int) : List Int)).bind fun y125=>((spec_l01Src_n.f s0_0 t123 t124 4).bind fun bt128=>(if 0 ≤ bt128.1 then (if bt128.1 < (y125.length : Int) then (some (rd y125 bt128.1,bt128.2.1,bt128.2.2)) else (none)) else (none)))) else ((spec_l01Src_n.f s0_0 t123 t124 6).bind fun bt132=>(some (wrap64 (1 + bt132.1),bt132.2.1,bt132.2.2)))) = some (r1,r2,r3):=H
 have A2:=Aside0.mk A20
 clear A20
 by_cases c3 : t122 = true
 ·subst c3
  have H1 : ((some (([0,4096,4097,(-1)] : List Int) : List Int)).bind fun y125=>((spec_l01Src_n.f s0_0 t123 t124 4).bind fun bt128=>(if 0 ≤ bt128.1 then (if bt128.1 < (y125.length : Int) then (some (rd y125 bt128.1,bt128.2.1,bt128.2.2)) else (none)) else (none)))) = some (r1,r2,r3):=by rw [if_pos rfl] at H;exact H
  clear H
  have H:=H1
  clear H1
  obtain ⟨y125,hy125⟩ : ∃ y_ : List Int,y_ = (([0,4096,4097,(-1)] : List Int)):=⟨_,rfl⟩
  replace H : ((spec_l01Src_n.f s0_0 t123 t124 4).bind fun bt128=>(if 0 ≤ bt128.1 then (if bt128.1 < (y125.length : Int) then (some (rd y125 bt128.1,bt128.2.1,bt128.2.2)) else (none)) else (none))) = some (r1,r2,r3):=by first|(rw [hy125];with_reducible exact H)|(have H2_:=(Option.bind_some _ _).symm.trans H;rw [hy125];with_reducible exact H2_)|(have H2_:=(Option.bind_some _ _).symm.trans H;with_reducible exact H2_)|with_reducible exact H|(rw [hy125];exact H)|exact H
  have Ny125:=Aside0.mk hy125
  clear hy125
  replace H:=Option.bind_eq_some_iff.mp H
  obtain ⟨⟨t128,t129,t130⟩,A40,H⟩:=H
  replace H : (if 0 ≤ t128 then (if t128 < (y125.length : Int) then (some (rd y125 t128,t129,t130)) else (none)) else (none)) = some (r1,r2,r3):=H
  have A4:=Aside0.mk A40
  clear A40
  by_cases c5 : 0 ≤ t128
  ·rw [if_pos c5] at H
   have c5b0 : decide (0 ≤ t128) = true:=decide_eq_true c5
   clear c5
   by_cases c6 : t128 < (y125.length : Int)
   ·rw [if_pos c6] at H
    have c6b0 : decide (t128 < (y125.length : Int)) = true:=decide_eq_true c6
    clear c6
    simp only [Option.some.injEq,Prod.mk.injEq] at H
    obtain ⟨rfl,rfl,rfl⟩:=H
    go_enter Try.func82,Try.ntmps82
    go_wp2_with (first|((with_reducible refine gate_callee (f:=77) rfl ?_);refine goesL_ (some 4) rfl rfl Try.func77 (by kernel_rfl) rfl #[.pointer (some ⟨g,0,none⟩),.int .i64 20] rfl (by (try simp only [List.map_toArray,List.map_cons,List.map_nil]);first|done|rfl) ?_;(with_reducible refine (spec_l01Src_one.calls g s0_0 s0_1 s0_2 20 true t123 t124 w0 _ ?side1 ?side2 A2.out).mono ?_);(case side1=>repeat (first|(with_reducible first|exact HI0.out|apply IsS171.alloc|apply IsS171.drewN|apply IsS171.set_1|apply IsS171.set_2)|exact HI0.out));(case side2=>repeat (first|(with_reducible first|exact HB.out|apply below_alloc|apply pw_below_drewN|apply below_drew1|refine below_set ?_ (IsS171.ge HI0.out))|exact HB.out));rintro e w7 ⟨rfl,hi,hb,hk⟩;refine ⟨_,rfl,?_⟩;have n0_:=Aside0.mk (KeepBut.trans (by repeat (first|(with_reducible first|exact HK.out|apply KeepBut.set_|apply keep_drewN|apply keep_alloc)|exact HK.out)) hk (.inl rfl));have n1_:=Aside0.mk (hb);have n2_:=Aside0.mk (hi);clear HK HB HI0;have HK:=n0_;have HB:=n1_;have HI0:=n2_;clear n0_ n1_ n2_;(try clear hb);(try clear hb2);(try clear hk);(try clear hi))|((with_reducible refine gate_dst (N:=5) rfl ?_);refine Kd.R_lit (Kd.int .i64) _ 2 ?hg (N:=5) ?hd (xs:=([0,4096,4097,(-1)] : List Int)) (inner:=[.int .i64 0,.int .i64 4096,.int .i64 4097,.int .i64 (-1)]) (ok:=fun _=>True) (okp:=fun _=>True) ?hr ?hp (fun _ hk=>hk) trivial (Below.refl _ _) (Nat.le_refl _) (by simp) ?_;(case hd=>rfl);(case hg=>rfl);(case hr=>first|(go_simp;done)|(go_simp;rfl));(case hp=>exact (Reps.one (show Kd.M (Kd.int .i64) _ _ _ 0 [.int .i64 0] from rfl) (Reps.one (show Kd.M (Kd.int .i64) _ _ _ 4096 [.int .i64 4096] from rfl) (Reps.one (show Kd.M (Kd.int .i64) _ _ _ 4097 [.int .i64 4097] from rfl) (Reps.one (show Kd.M (Kd.int .i64) _ _ _ (-1) [.int .i64 (-1)] from rfl) (Reps.none _ _))))));intro v126 w8 ho9 hb hg_ hnew_;clear hg_ hnew_;(first|rw [← Ny125.out] at ho9|(simp only [Int.reduceToNat] at ho9;rw [← Ny125.out] at ho9));have n0_:=Aside0.mk (Kd.R_lower ho9 (keep_size (w:=w) (g:=g) (row:=none) (by repeat (first|(with_reducible first|exact HK.out|apply KeepBut.set_|apply keep_drewN|apply keep_alloc)|exact HK.out))));have n1_:=Aside0.mk (IsS171.below (by repeat (first|(with_reducible first|exact HI0.out|apply IsS171.alloc|apply IsS171.drewN|apply IsS171.set_1|apply IsS171.set_2)|exact HI0.out)) hb);have n2_:=Aside0.mk (KeepBut.trans (by repeat (first|(with_reducible first|exact HK.out|apply KeepBut.set_|apply keep_drewN|apply keep_alloc)|exact HK.out)) (KeepBut.of_below hb g none) (.inl rfl));have n3_:=Aside0.mk (below_step (by repeat (first|(with_reducible first|exact HB.out|apply below_alloc|apply pw_below_drewN|apply below_drew1|refine below_set ?_ (IsS171.ge HI0.out))|exact HB.out)) hb);clear HI0 HK HB;have HO127:=n0_;have HI0:=n1_;have HK:=n2_;have HB:=n3_;clear n0_ n1_ n2_ n3_ hb ho9)|((with_reducible refine gate_callee (f:=75) rfl ?_);refine goesL_ (some 7) rfl rfl Try.func75 (by kernel_rfl) rfl #[.pointer (some ⟨g,0,none⟩),.int .i64 4] rfl (by (try simp only [List.map_toArray,List.map_cons,List.map_nil]);first|done|rfl) ?_;(with_reducible refine (spec_l01Src_n.calls g s0_0 t123 t124 4 t128 t129 t130 w0 _ ?side1 ?side2 A4.out).mono ?_);(case side1=>repeat (first|(with_reducible first|exact HI0.out|apply IsS171.alloc|apply IsS171.drewN|apply IsS171.set_1|apply IsS171.set_2)|exact HI0.out));(case side2=>repeat (first|(with_reducible first|exact HB.out|apply below_alloc|apply pw_below_drewN|apply below_drew1|refine below_set ?_ (IsS171.ge HI0.out))|exact HB.out));rintro e w10 ⟨rfl,hi,hb,hk⟩;refine ⟨_,rfl,?_⟩;have n0_:=Aside0.mk (Kd.R_mono (Kd.R_keep (IsS171.apart (show IsS171 w0 _ g s0_0 t123 t124 from by repeat (first|(with_reducible first|exact HI0.out|apply IsS171.alloc|apply IsS171.drewN|apply IsS171.set_1|apply IsS171.set_2)|exact HI0.out)) (by (with_reducible repeat (first|apply Kd.R_alloc|apply Kd.R_drewN));exact HO127.out) (by decide)) hk (fun _ h=>h.2)) (fun _ h=>h.1));have n1_:=Aside0.mk (KeepBut.trans (by repeat (first|(with_reducible first|exact HK.out|apply KeepBut.set_|apply keep_drewN|apply keep_alloc)|exact HK.out)) hk (.inl rfl));have n2_:=Aside0.mk (hb);have n3_:=Aside0.mk (hi);clear HO127 HK HB HI0;have HO127:=n0_;have HK:=n1_;have HB:=n2_;have HI0:=n3_;clear n0_ n1_ n2_ n3_;(try clear hb);(try clear hb2);(try clear hk);(try clear hi);obtain ⟨Ao11,co11,eo11⟩:=Kd.R_slice HO127.out;subst eo11;have p131 : 0 ≤ (t128 : Int):=of_decide_eq_true (by first|(with_reducible assumption)|assumption);have q131 : t128 < (y125.length : Int):=of_decide_eq_true (by first|(with_reducible assumption)|assumption);obtain ⟨ad131,e131,hx131_0⟩:=Kd.at_int (Kd.R_reads' HO127.out).2.2 t128 p131 q131;cases e131;replace p131:=eq_true p131;replace q131:=eq_true q131))
    go_ret
    exact ⟨by first|rfl|(simp [errW_none,errW_some] <;> rfl)|(simp [*,errW_none,errW_some] <;> rfl),by repeat (first|(with_reducible first|exact HI0.out|apply IsS171.alloc|apply IsS171.drewN|apply IsS171.set_1|apply IsS171.set_2)|exact HI0.out),by repeat (first|(with_reducible first|exact HB.out|apply below_alloc|apply pw_below_drewN|apply below_drew1|refine below_set ?_ (IsS171.ge HI0.out))|exact HB.out),by repeat (first|(with_reducible first|exact HK.out|apply KeepBut.set_|apply keep_drewN|apply keep_alloc)|exact HK.out)⟩
   ·rw [if_neg c6] at H
    exact absurd H (by simp)
  ·rw [if_neg c5] at H
   exact absurd H (by simp)
 ·replace c3:=Bool.eq_false_iff.mpr c3
  subst c3
  have H1 : ((spec_l01Src_n.f s0_0 t123 t124 6).bind fun bt132=>(some (wrap64 (1 + bt132.1),bt132.2.1,bt132.2.2))) = some (r1,r2,r3):=by rw [if_neg (show ¬ (false = true) by decide)] at H;exact H
  clear H
  have H:=H1
  clear H1
  replace H:=Option.bind_eq_some_iff.mp H
  obtain ⟨⟨t132,t133,t134⟩,A120,H⟩:=H
  replace H : (some (wrap64 (1 + t132),t133,t134)) = some (r1,r2,r3):=H
  have A12:=Aside0.mk A120
  clear A120
  simp only [Option.some.injEq,Prod.mk.injEq] at H
  obtain ⟨rfl,rfl,rfl⟩:=H
  go_enter Try.func82,Try.ntmps82
  go_wp2_with (first|((with_reducible refine gate_callee (f:=77) rfl ?_);refine goesL_ (some 4) rfl rfl Try.func77 (by kernel_rfl) rfl #[.pointer (some ⟨g,0,none⟩),.int .i64 20] rfl (by (try simp only [List.map_toArray,List.map_cons,List.map_nil]);first|done|rfl) ?_;(with_reducible refine (spec_l01Src_one.calls g s0_0 s0_1 s0_2 20 false t123 t124 w0 _ ?side1 ?side2 A2.out).mono ?_);(case side1=>repeat (first|(with_reducible first|exact HI0.out|apply IsS171.alloc|apply IsS171.drewN|apply IsS171.set_1|apply IsS171.set_2)|exact HI0.out));(case side2=>repeat (first|(with_reducible first|exact HB.out|apply below_alloc|apply pw_below_drewN|apply below_drew1|refine below_set ?_ (IsS171.ge HI0.out))|exact HB.out));rintro e w13 ⟨rfl,hi,hb,hk⟩;refine ⟨_,rfl,?_⟩;have n0_:=Aside0.mk (KeepBut.trans (by repeat (first|(with_reducible first|exact HK.out|apply KeepBut.set_|apply keep_drewN|apply keep_alloc)|exact HK.out)) hk (.inl rfl));have n1_:=Aside0.mk (hb);have n2_:=Aside0.mk (hi);clear HK HB HI0;have HK:=n0_;have HB:=n1_;have HI0:=n2_;clear n0_ n1_ n2_;(try clear hb);(try clear hb2);(try clear hk);(try clear hi))|((with_reducible refine gate_callee (f:=75) rfl ?_);refine goesL_ (some 11) rfl rfl Try.func75 (by kernel_rfl) rfl #[.pointer (some ⟨g,0,none⟩),.int .i64 6] rfl (by (try simp only [List.map_toArray,List.map_cons,List.map_nil]);first|done|rfl) ?_;(with_reducible refine (spec_l01Src_n.calls g s0_0 t123 t124 6 t132 t133 t134 w0 _ ?side1 ?side2 A12.out).mono ?_);(case side1=>repeat (first|(with_reducible first|exact HI0.out|apply IsS171.alloc|apply IsS171.drewN|apply IsS171.set_1|apply IsS171.set_2)|exact HI0.out));(case side2=>repeat (first|(with_reducible first|exact HB.out|apply below_alloc|apply pw_below_drewN|apply below_drew1|refine below_set ?_ (IsS171.ge HI0.out))|exact HB.out));rintro e w14 ⟨rfl,hi,hb,hk⟩;refine ⟨_,rfl,?_⟩;have n0_:=Aside0.mk (KeepBut.trans (by repeat (first|(with_reducible first|exact HK.out|apply KeepBut.set_|apply keep_drewN|apply keep_alloc)|exact HK.out)) hk (.inl rfl));have n1_:=Aside0.mk (hb);have n2_:=Aside0.mk (hi);clear HK HB HI0;have HK:=n0_;have HB:=n1_;have HI0:=n2_;clear n0_ n1_ n2_;(try clear hb);(try clear hb2);(try clear hk);(try clear hi)))
  go_ret
  exact ⟨by first|rfl|(simp [errW_none,errW_some] <;> rfl)|(simp [*,errW_none,errW_some] <;> rfl),by repeat (first|(with_reducible first|exact HI0.out|apply IsS171.alloc|apply IsS171.drewN|apply IsS171.set_1|apply IsS171.set_2)|exact HI0.out),by repeat (first|(with_reducible first|exact HB.out|apply below_alloc|apply pw_below_drewN|apply below_drew1|refine below_set ?_ (IsS171.ge HI0.out))|exact HB.out),by repeat (first|(with_reducible first|exact HK.out|apply KeepBut.set_|apply keep_drewN|apply keep_alloc)|exact HK.out)⟩

/-! ### spec_l01Src_bytes: function 83 -/
def spec_l01Src_bytes.l0 : Nat → Int → List Int → Int → Int → List Int → Int → Int → Option (ByteArray × Int × Int)
 | 0,_,_,_,_,_,_,_=>none
 | k + 1,x1,x5,x6,x7,x1000,x1001,x1002=>if x7 < x1 then (if x6 = 0 then ((spec_l01Src_n.f x1000 x1001 x1002 256).bind fun bt144=>(if x5.length < 140737488355328 then (spec_l01Src_bytes.l0 k x1 (x5 ++ [(bt144.1) % 256]) x6 (wrap64 (x7 + 1)) x1000 bt144.2.1 bt144.2.2) else (none))) else (if x6 = 1 then ((spec_l01Src_n.f x1000 x1001 x1002 9).bind fun bt150=>(if 0 ≤ bt150.1 then (if bt150.1 < 9 then (if x5.length < 140737488355328 then (spec_l01Src_bytes.l0 k x1 (x5 ++ [bt (⟨#[32,9,61,46,13,10,45,97,95]⟩ : ByteArray) bt150.1]) x6 (wrap64 (x7 + 1)) x1000 bt150.2.1 bt150.2.2) else (none)) else (none)) else (none))) else (if x6 = 2 then ((spec_l01Src_one.f x1000 x1001 x1002 12).bind fun bt156=>(if bt156.1 = true then ((some (([13,10] : List Int) : List Int)).bind fun y159=>(if x5.length + y159.length < 140737488355328 then ((some (x5 ++ y159 : List Int)).bind fun y162=>((spec_l01Src_n.f x1000 bt156.2.1 bt156.2.2 95).bind fun bt165=>(if y162.length < 140737488355328 then (spec_l01Src_bytes.l0 k x1 (y162 ++ [(wrap64 (32 + bt165.1)) % 256]) x6 (wrap64 (x7 + 1)) x1000 bt165.2.1 bt165.2.2) else (none)))) else (none))) else ((spec_l01Src_n.f x1000 bt156.2.1 bt156.2.2 95).bind fun bt171=>(if x5.length < 140737488355328 then (spec_l01Src_bytes.l0 k x1 (x5 ++ [(wrap64 (32 + bt171.1)) % 256]) x6 (wrap64 (x7 + 1)) x1000 bt171.2.1 bt171.2.2) else (none))))) else ((spec_l01Src_n.f x1000 x1001 x1002 23).bind fun bt177=>(if 0 ≤ bt177.1 then (if bt177.1 < 23 then (if x5.length < 140737488355328 then (spec_l01Src_bytes.l0 k x1 (x5 ++ [bt (⟨#[97,98,99,100,101,102,103,104,32,105,106,107,108,109,110,111,112,46,32,101,116,97,111]⟩ : ByteArray) bt177.1]) x6 (wrap64 (x7 + 1)) x1000 bt177.2.1 bt177.2.2) else (none)) else (none)) else (none)))))) else (if (x5.length : Int) > x1 then (if x1 ≥ 0 then (if 0 ≤ x1 then (if x1 ≤ (x5.length : Int) then (some (strOfNums (x5.take (x1 : Int).toNat),x1001,x1002)) else (none)) else (none)) else (some (strOfNums x5,x1001,x1002))) else (some (strOfNums x5,x1001,x1002)))
def spec_l01Src_bytes.f (k : Nat) (s0_0 : List Int) (s0_1 : Int) (s0_2 : Int) (a1 : Int) : Option (ByteArray × Int × Int):=(spec_l01Src_n.f s0_0 s0_1 s0_2 6).bind fun bt138=>(spec_l01Src_bytes.l0 k a1 (([] : List Int)) bt138.1 0 s0_0 bt138.2.1 bt138.2.2)
theorem spec_l01Src_bytes.mono_l : ∀ k,(∀ y0 y1 y2 y3 y4 y5 y6,LeO (spec_l01Src_bytes.l0 k y0 y1 y2 y3 y4 y5 y6) (spec_l01Src_bytes.l0 (k + 1) y0 y1 y2 y3 y4 y5 y6))
 | 0=>fun _ _ _ _ _ _ _ r h=>by simp [spec_l01Src_bytes.l0] at h
 | k + 1=>by
  have ih0:=spec_l01Src_bytes.mono_l k
  ·intro y0 y1 y2 y3 y4 y5 y6
   unfold spec_l01Src_bytes.l0
   repeat' first
   | (with_reducible exact ih0 _ _ _ _ _ _ _)
   | (with_reducible exact LeO.refl _)
   | (with_reducible exact LeO.none _)
   | (with_reducible refine LeO.ite ?_ ?_)
   | (with_reducible refine LeO.bind ?_ (fun _=>?_))
   | exact ih0 _ _ _ _ _ _ _
   | exact LeO.none _
   | refine LeO.ite ?_ ?_
   | refine LeO.bind ?_ (fun _=>?_)
theorem spec_l01Src_bytes.mono : ∀ a0 a1 a2 a3 k,LeO (spec_l01Src_bytes.f k a0 a1 a2 a3) (spec_l01Src_bytes.f (k + 1) a0 a1 a2 a3):=by
 intro a0 a1 a2 a3 k
 have ih0:=spec_l01Src_bytes.mono_l k
 unfold spec_l01Src_bytes.f
 repeat' first
   | (with_reducible exact ih0 _ _ _ _ _ _ _)
   | (with_reducible exact LeO.refl _)
   | (with_reducible exact LeO.none _)
   | (with_reducible refine LeO.ite ?_ ?_)
   | (with_reducible refine LeO.bind ?_ (fun _=>?_))
   | exact ih0 _ _ _ _ _ _ _
   | exact LeO.none _
   | refine LeO.ite ?_ ?_
   | refine LeO.bind ?_ (fun _=>?_)
set_option maxHeartbeats 8000000 in
set_option maxRecDepth 100000 in
theorem spec_l01Src_bytes.calls (k : Nat) (g : Nat) (s0_0 : List Int) (s0_1 : Int) (s0_2 : Int) (a1 : Int) (r1 : ByteArray) (r2 : Int) (r3 : Int) (w0 w : World) (hI : IsS171 w0 w g s0_0 s0_1 s0_2) (hB : Below w0.heap.size w0 w) (h : spec_l01Src_bytes.f k s0_0 s0_1 s0_2 a1 = some (r1,r2,r3)) :
  Calls Try.prog 83 #[.pointer (some ⟨g,0,none⟩),.int .i64 a1] w fun e w'=>e = .returned (.string r1) ∧ IsS171 w0 w' g s0_0 r2 r3 ∧ Below w0.heap.size w0 w' ∧ KeepBut w w' g none:=by
 have HI0:=Aside0.mk hI
 have HK:=Aside0.mk (KeepBut.refl w g none)
 have HL:=Aside0.mk hB.size
 clear hI
 have HW0:=Aside0.mk hB.size
 have HB:=Aside0.mk hB
 clear hB
 have H : ((spec_l01Src_n.f s0_0 s0_1 s0_2 6).bind fun bt138=>(spec_l01Src_bytes.l0 k a1 (([] : List Int)) bt138.1 0 s0_0 bt138.2.1 bt138.2.2)) = some (r1,r2,r3):=h
 clear h
 obtain ⟨y135,hy135⟩ : ∃ y_ : List Int,y_ = (([] : List Int)):=⟨_,rfl⟩
 replace H : ((spec_l01Src_n.f s0_0 s0_1 s0_2 6).bind fun bt138=>(spec_l01Src_bytes.l0 k a1 y135 bt138.1 0 s0_0 bt138.2.1 bt138.2.2)) = some (r1,r2,r3):=by first|(rw [hy135];with_reducible exact H)|(have H2_:=(Option.bind_some _ _).symm.trans H;rw [hy135];with_reducible exact H2_)|(have H2_:=(Option.bind_some _ _).symm.trans H;with_reducible exact H2_)|with_reducible exact H|(rw [hy135];exact H)|exact H
 have Ny135:=Aside0.mk hy135
 clear hy135
 replace H:=Option.bind_eq_some_iff.mp H
 obtain ⟨⟨t138,t139,t140⟩,A30,H⟩:=H
 replace H : (spec_l01Src_bytes.l0 k a1 y135 t138 0 s0_0 t139 t140) = some (r1,r2,r3):=H
 have A3:=Aside0.mk A30
 clear A30
 have H':=Aside0.mk H
 clear H
 go_enter Try.func83,Try.ntmps83
 go_wp2_with (first|((with_reducible refine gate_dst (N:=8) rfl ?_);refine Kd.R_lit (Kd.int .u8) _ 5 ?hg (N:=8) ?hd (xs:=([] : List Int)) (inner:=[]) (ok:=fun _=>True) (okp:=fun _=>True) ?hr ?hp (fun _ hk=>hk) trivial (Below.refl _ _) (Nat.le_refl _) (by simp) ?_;(case hd=>rfl);(case hg=>rfl);(case hr=>first|(go_simp;done)|(go_simp;rfl));(case hp=>exact (Reps.none _ _));intro v136 w4 ho5 hb hg_ hnew_;clear hg_ hnew_;(first|rw [← Ny135.out] at ho5|(simp only [Int.reduceToNat] at ho5;rw [← Ny135.out] at ho5));have n0_:=Aside0.mk (Kd.R_lower ho5 (keep_size (w:=w) (g:=g) (row:=none) (by repeat (first|(with_reducible first|exact HK.out|apply KeepBut.set_|apply keep_drewN|apply keep_alloc)|exact HK.out))));have n1_:=Aside0.mk (IsS171.below (by repeat (first|(with_reducible first|exact HI0.out|apply IsS171.alloc|apply IsS171.drewN|apply IsS171.set_1|apply IsS171.set_2)|exact HI0.out)) hb);have n2_:=Aside0.mk (KeepBut.trans (by repeat (first|(with_reducible first|exact HK.out|apply KeepBut.set_|apply keep_drewN|apply keep_alloc)|exact HK.out)) (KeepBut.of_below hb g none) (.inl rfl));have n3_:=Aside0.mk (below_step (by repeat (first|(with_reducible first|exact HB.out|apply below_alloc|apply pw_below_drewN|apply below_drew1|refine below_set ?_ (IsS171.ge HI0.out))|exact HB.out)) hb);clear HI0 HK HB;have HO137:=n0_;have HI0:=n1_;have HK:=n2_;have HB:=n3_;clear n0_ n1_ n2_ n3_ hb ho5)|((with_reducible refine gate_callee (f:=75) rfl ?_);refine goesL_ (some 10) rfl rfl Try.func75 (by kernel_rfl) rfl #[.pointer (some ⟨g,0,none⟩),.int .i64 6] rfl (by (try simp only [List.map_toArray,List.map_cons,List.map_nil]);first|done|rfl) ?_;(with_reducible refine (spec_l01Src_n.calls g s0_0 s0_1 s0_2 6 t138 t139 t140 w0 _ ?side1 ?side2 A3.out).mono ?_);(case side1=>repeat (first|(with_reducible first|exact HI0.out|apply IsS171.alloc|apply IsS171.drewN|apply IsS171.set_1|apply IsS171.set_2)|exact HI0.out));(case side2=>repeat (first|(with_reducible first|exact HB.out|apply below_alloc|apply pw_below_drewN|apply below_drew1|refine below_set ?_ (IsS171.ge HI0.out))|exact HB.out));rintro e w6 ⟨rfl,hi,hb,hk⟩;refine ⟨_,rfl,?_⟩;have n0_:=Aside0.mk (Kd.R_mono (Kd.R_keep (IsS171.apart (show IsS171 w0 _ g s0_0 s0_1 s0_2 from by repeat (first|(with_reducible first|exact HI0.out|apply IsS171.alloc|apply IsS171.drewN|apply IsS171.set_1|apply IsS171.set_2)|exact HI0.out)) (by (with_reducible repeat (first|apply Kd.R_alloc|apply Kd.R_drewN));exact HO137.out) (by decide)) hk (fun _ h=>h.2)) (fun _ h=>h.1));have n1_:=Aside0.mk (KeepBut.trans (by repeat (first|(with_reducible first|exact HK.out|apply KeepBut.set_|apply keep_drewN|apply keep_alloc)|exact HK.out)) hk (.inl rfl));have n2_:=Aside0.mk (hb);have n3_:=Aside0.mk (hi);clear HO137 HK HB HI0;have HO137:=n0_;have HK:=n1_;have HB:=n2_;have HI0:=n3_;clear n0_ n1_ n2_ n3_;(try clear hb);(try clear hb2);(try clear hk);(try clear hi)))
 go_loopg [5,7] k (fun kq v5 v7 w'=>∃ (x5_1 : List Int) (x7_1 : Int) (x1001_1 : Int) (x1002_1 : Int),v7 = .int .i64 x7_1 ∧ Aside0 (spec_l01Src_bytes.l0 kq a1 x5_1 t138 x7_1 s0_0 x1001_1 x1002_1 = some (r1,r2,r3)) ∧ Aside0 (kq ≤ k) ∧ Aside0 (Kd.R (Kd.int .u8) 5 w' w.heap.size (fun _=>True) v5 x5_1) ∧ Aside0 (IsS171 w0 w' g s0_0 x1001_1 x1002_1) ∧ Aside0 (KeepBut w w' g none) ∧ Aside0 (Below w0.heap.size w0 w'))
 case atStart=>exact ⟨(y135),(0),(t139),(t140),(by first|rfl|(simp;done)|(simp [*];done)),H',⟨Nat.le_refl _⟩,⟨by (with_reducible repeat (first|apply Kd.R_alloc|apply Kd.R_drewN));exact HO137.out⟩,⟨by repeat (first|(with_reducible first|exact HI0.out|apply IsS171.alloc|apply IsS171.drewN|apply IsS171.set_1|apply IsS171.set_2)|exact HI0.out)⟩,⟨by repeat (first|(with_reducible first|exact HK.out|apply KeepBut.set_|apply keep_drewN|apply keep_alloc)|exact HK.out)⟩,⟨by repeat (first|(with_reducible first|exact HB.out|apply below_alloc|apply pw_below_drewN|apply below_drew1|refine below_set ?_ (IsS171.ge HI0.out))|exact HB.out)⟩⟩
 case round=>
  clear H'
  (try clear p2)
  obtain ⟨x5_1,x7_1,x1001_1,x1002_1,rfl,HA,HK1,HO_5,HI0,HK,HB⟩:=hrel
  cases gk with
  | zero=>exact absurd HA.out (by simp [spec_l01Src_bytes.l0])
  | succ k1=>
   have H:=HA.out
   clear HA
   simp only [spec_l01Src_bytes.l0] at H
   by_cases c7 : x7_1 < a1
   ·rw [if_pos c7] at H
    have c7b0 : decide (x7_1 < a1) = true:=decide_eq_true c7
    clear c7
    by_cases c8 : t138 = 0
    ·rw [if_pos c8] at H
     have c8b0 : (t138 == 0) = true:=beq_iff_eq.mpr c8
     have c8b1 : (t138 != 0) = false:=bne_eq_false_iff_eq.mpr c8
     clear c8
     replace H:=Option.bind_eq_some_iff.mp H
     obtain ⟨⟨t144,t145,t146⟩,A90,H⟩:=H
     replace H : (if x5_1.length < 140737488355328 then (spec_l01Src_bytes.l0 k1 a1 (x5_1 ++ [(t144) % 256]) t138 (wrap64 (x7_1 + 1)) s0_0 t145 t146) else (none)) = some (r1,r2,r3):=H
     have A9:=Aside0.mk A90
     clear A90
     by_cases c10 : x5_1.length < 140737488355328
     ·rw [if_pos c10] at H
      have LMc10:=Aside0.mk c10
      clear c10
      obtain ⟨y147,hy147⟩ : ∃ y_ : List Int,y_ = (x5_1 ++ [(t144) % 256]):=⟨_,rfl⟩
      replace H : (spec_l01Src_bytes.l0 k1 a1 y147 t138 (wrap64 (x7_1 + 1)) s0_0 t145 t146) = some (r1,r2,r3):=by first|(rw [hy147];with_reducible exact H)|(have H2_:=(Option.bind_some _ _).symm.trans H;rw [hy147];with_reducible exact H2_)|(have H2_:=(Option.bind_some _ _).symm.trans H;with_reducible exact H2_)|with_reducible exact H|(rw [hy147];exact H)|exact H
      have Ny147:=Aside0.mk hy147
      clear hy147
      have H':=Aside0.mk H
      clear H
      go_wp2_with (first|((with_reducible refine gate_callee (f:=75) rfl ?_);refine goesL_ (some 27) rfl rfl Try.func75 (by kernel_rfl) rfl #[.pointer (some ⟨g,0,none⟩),.int .i64 256] rfl (by (try simp only [List.map_toArray,List.map_cons,List.map_nil]);first|done|rfl) ?_;(with_reducible refine (spec_l01Src_n.calls g s0_0 x1001_1 x1002_1 256 t144 t145 t146 w0 _ ?side1 ?side2 A9.out).mono ?_);(case side1=>repeat (first|(with_reducible first|exact HI0.out|apply IsS171.alloc|apply IsS171.drewN|apply IsS171.set_1|apply IsS171.set_2)|exact HI0.out));(case side2=>repeat (first|(with_reducible first|exact HB.out|apply below_alloc|apply pw_below_drewN|apply below_drew1|refine below_set ?_ (IsS171.ge HI0.out))|exact HB.out));rintro e w11 ⟨rfl,hi,hb,hk⟩;refine ⟨_,rfl,?_⟩;have n0_:=Aside0.mk (Kd.R_mono (Kd.R_keep (IsS171.apart (show IsS171 w0 _ g s0_0 x1001_1 x1002_1 from by repeat (first|(with_reducible first|exact HI0.out|apply IsS171.alloc|apply IsS171.drewN|apply IsS171.set_1|apply IsS171.set_2)|exact HI0.out)) (by (with_reducible repeat (first|apply Kd.R_alloc|apply Kd.R_drewN));exact HO_5.out) (by decide)) hk (fun _ h=>h.2)) (fun _ h=>h.1));have n1_:=Aside0.mk (KeepBut.trans (by repeat (first|(with_reducible first|exact HK.out|apply KeepBut.set_|apply keep_drewN|apply keep_alloc)|exact HK.out)) hk (.inl rfl));have n2_:=Aside0.mk (hb);have n3_:=Aside0.mk (hi);clear HO_5 HK HB HI0;have HO_5:=n0_;have HK:=n1_;have HB:=n2_;have HI0:=n3_;clear n0_ n1_ n2_ n3_;(try clear hb);(try clear hb2);(try clear hk);(try clear hi))|((with_reducible refine gate_builtin (b:=.append) (xs:=#[.tmp 25,.tmp 29]) rfl ?_);at_builtin;refine Kd.R_append (Kd.int .u8) w.heap.size rfl (.tmp 25) (.tmp 29) 37 5 (.int .u8 0) 1 rfl Try.underlying37 info5 rfl (by decide) (by omega) u5 x5_1 ((t144) % 256) [.int .u8 ((t144) % 256)] (fun _=>True) (fun _=>False) rfl rfl ?aP (fun _ hk=>hk.elim) ?aF ?aO (Below.refl _ _) ?aS ?aL ?_;(case aP=>exact rfl);(case aF=>exact (fun _ _=>trivial));(case aO=>exact (by (with_reducible repeat (first|apply Kd.R_alloc|apply Kd.R_drewN));exact HO_5.out));(case aS=>exact (keep_size (w:=w) (g:=g) (row:=none) (by repeat (first|(with_reducible first|exact HK.out|apply KeepBut.set_|apply keep_drewN|apply keep_alloc)|exact HK.out))));(case aL=>have:=LMc10.out;omega);intro v148 w12 ho hb hg hat;rw [← Ny147.out] at ho;have n0_:=Aside0.mk (IsS171.grown (by repeat (first|(with_reducible first|exact HI0.out|apply IsS171.alloc|apply IsS171.drewN|apply IsS171.set_1|apply IsS171.set_2)|exact HI0.out)) hg (IsS171.own_ne HI0.out HO_5.out (by decide)));have n1_:=Aside0.mk (below_weaken (by repeat (first|(with_reducible first|exact HB.out|apply below_alloc|apply pw_below_drewN|apply below_drew1|refine below_set ?_ (IsS171.ge HI0.out))|exact HB.out)) HL.out hb);have n2_:=Aside0.mk (KeepBut.trans (by repeat (first|(with_reducible first|exact HK.out|apply KeepBut.set_|apply keep_drewN|apply keep_alloc)|exact HK.out)) (KeepBut.of_grown hg g) (Kd.R_base2 HO_5.out));have n3_:=Aside0.mk (ho);clear HI0 HB HK HO_5;have HI0:=n0_;have HB:=n1_;have HK:=n2_;have HO149:=n3_;clear n0_ n1_ n2_ n3_ ho hb hg hat))
      go_roundg k1
      case measure=>have:=HK1.out;omega
      case rel=>exact ⟨(y147),(wrap64 (x7_1 + 1)),(t145),(t146),(by first|rfl|(simp;done)|(simp [*];done)),H',⟨by have:=HK1.out;omega⟩,⟨by (with_reducible repeat (first|apply Kd.R_alloc|apply Kd.R_drewN));exact HO149.out⟩,⟨by repeat (first|(with_reducible first|exact HI0.out|apply IsS171.alloc|apply IsS171.drewN|apply IsS171.set_1|apply IsS171.set_2)|exact HI0.out)⟩,⟨by repeat (first|(with_reducible first|exact HK.out|apply KeepBut.set_|apply keep_drewN|apply keep_alloc)|exact HK.out)⟩,⟨by repeat (first|(with_reducible first|exact HB.out|apply below_alloc|apply pw_below_drewN|apply below_drew1|refine below_set ?_ (IsS171.ge HI0.out))|exact HB.out)⟩⟩
     ·rw [if_neg c10] at H
      exact absurd H (by simp)
    ·rw [if_neg c8] at H
     have c8b0 : (t138 == 0) = false:=beq_eq_false_iff_ne.mpr c8
     have c8b1 : (t138 != 0) = true:=bne_iff_ne.mpr c8
     by_cases c13 : t138 = 1
     ·rw [if_pos c13] at H
      have c13b0 : (t138 == 1) = true:=beq_iff_eq.mpr c13
      have c13b1 : (t138 != 1) = false:=bne_eq_false_iff_eq.mpr c13
      clear c13
      replace H:=Option.bind_eq_some_iff.mp H
      obtain ⟨⟨t150,t151,t152⟩,A140,H⟩:=H
      replace H : (if 0 ≤ t150 then (if t150 < 9 then (if x5_1.length < 140737488355328 then (spec_l01Src_bytes.l0 k1 a1 (x5_1 ++ [bt (⟨#[32,9,61,46,13,10,45,97,95]⟩ : ByteArray) t150]) t138 (wrap64 (x7_1 + 1)) s0_0 t151 t152) else (none)) else (none)) else (none)) = some (r1,r2,r3):=H
      have A14:=Aside0.mk A140
      clear A140
      by_cases c15 : 0 ≤ t150
      ·rw [if_pos c15] at H
       have c15b0 : decide (0 ≤ t150) = true:=decide_eq_true c15
       clear c15
       by_cases c16 : t150 < 9
       ·rw [if_pos c16] at H
        have c16b0 : decide (t150 < 9) = true:=decide_eq_true c16
        clear c16
        by_cases c18 : x5_1.length < 140737488355328
        ·rw [if_pos c18] at H
         have LMc18:=Aside0.mk c18
         clear c18
         obtain ⟨y153,hy153⟩ : ∃ y_ : List Int,y_ = (x5_1 ++ [bt (⟨#[32,9,61,46,13,10,45,97,95]⟩ : ByteArray) t150]):=⟨_,rfl⟩
         replace H : (spec_l01Src_bytes.l0 k1 a1 y153 t138 (wrap64 (x7_1 + 1)) s0_0 t151 t152) = some (r1,r2,r3):=by first|(rw [hy153];with_reducible exact H)|(have H2_:=(Option.bind_some _ _).symm.trans H;rw [hy153];with_reducible exact H2_)|(have H2_:=(Option.bind_some _ _).symm.trans H;with_reducible exact H2_)|with_reducible exact H|(rw [hy153];exact H)|exact H
         have Ny153:=Aside0.mk hy153
         clear hy153
         have H':=Aside0.mk H
         clear H
         go_wp2_with (first|((with_reducible refine gate_callee (f:=75) rfl ?_);refine goesL_ (some 35) rfl rfl Try.func75 (by kernel_rfl) rfl #[.pointer (some ⟨g,0,none⟩),.int .i64 9] rfl (by (try simp only [List.map_toArray,List.map_cons,List.map_nil]);first|done|rfl) ?_;(with_reducible refine (spec_l01Src_n.calls g s0_0 x1001_1 x1002_1 9 t150 t151 t152 w0 _ ?side1 ?side2 A14.out).mono ?_);(case side1=>repeat (first|(with_reducible first|exact HI0.out|apply IsS171.alloc|apply IsS171.drewN|apply IsS171.set_1|apply IsS171.set_2)|exact HI0.out));(case side2=>repeat (first|(with_reducible first|exact HB.out|apply below_alloc|apply pw_below_drewN|apply below_drew1|refine below_set ?_ (IsS171.ge HI0.out))|exact HB.out));rintro e w19 ⟨rfl,hi,hb,hk⟩;refine ⟨_,rfl,?_⟩;have n0_:=Aside0.mk (Kd.R_mono (Kd.R_keep (IsS171.apart (show IsS171 w0 _ g s0_0 x1001_1 x1002_1 from by repeat (first|(with_reducible first|exact HI0.out|apply IsS171.alloc|apply IsS171.drewN|apply IsS171.set_1|apply IsS171.set_2)|exact HI0.out)) (by (with_reducible repeat (first|apply Kd.R_alloc|apply Kd.R_drewN));exact HO_5.out) (by decide)) hk (fun _ h=>h.2)) (fun _ h=>h.1));have n1_:=Aside0.mk (KeepBut.trans (by repeat (first|(with_reducible first|exact HK.out|apply KeepBut.set_|apply keep_drewN|apply keep_alloc)|exact HK.out)) hk (.inl rfl));have n2_:=Aside0.mk (hb);have n3_:=Aside0.mk (hi);clear HO_5 HK HB HI0;have HO_5:=n0_;have HK:=n1_;have HB:=n2_;have HI0:=n3_;clear n0_ n1_ n2_ n3_;(try clear hb);(try clear hb2);(try clear hk);(try clear hi);have p17 : 0 ≤ (t150 : Int):=of_decide_eq_true (by first|(with_reducible assumption)|assumption);have q17 : t150 < (9 : Int):=of_decide_eq_true (by first|(with_reducible assumption)|assumption);have hx17:=bt_at (⟨#[32,9,61,46,13,10,45,97,95]⟩ : ByteArray) t150;replace p17:=eq_true p17;replace q17:=eq_true q17)|((with_reducible refine gate_builtin (b:=.append) (xs:=#[.tmp 33,.tmp 37]) rfl ?_);at_builtin;refine Kd.R_append (Kd.int .u8) w.heap.size rfl (.tmp 33) (.tmp 37) 37 5 (.int .u8 0) 1 rfl Try.underlying37 info5 rfl (by decide) (by omega) u5 x5_1 (bt (⟨#[32,9,61,46,13,10,45,97,95]⟩ : ByteArray) t150) [.int .u8 (bt (⟨#[32,9,61,46,13,10,45,97,95]⟩ : ByteArray) t150)] (fun _=>True) (fun _=>False) rfl rfl ?aP (fun _ hk=>hk.elim) ?aF ?aO (Below.refl _ _) ?aS ?aL ?_;(case aP=>exact rfl);(case aF=>exact (fun _ _=>trivial));(case aO=>exact (by (with_reducible repeat (first|apply Kd.R_alloc|apply Kd.R_drewN));exact HO_5.out));(case aS=>exact (keep_size (w:=w) (g:=g) (row:=none) (by repeat (first|(with_reducible first|exact HK.out|apply KeepBut.set_|apply keep_drewN|apply keep_alloc)|exact HK.out))));(case aL=>have:=LMc18.out;omega);intro v154 w20 ho hb hg hat;rw [← Ny153.out] at ho;have n0_:=Aside0.mk (IsS171.grown (by repeat (first|(with_reducible first|exact HI0.out|apply IsS171.alloc|apply IsS171.drewN|apply IsS171.set_1|apply IsS171.set_2)|exact HI0.out)) hg (IsS171.own_ne HI0.out HO_5.out (by decide)));have n1_:=Aside0.mk (below_weaken (by repeat (first|(with_reducible first|exact HB.out|apply below_alloc|apply pw_below_drewN|apply below_drew1|refine below_set ?_ (IsS171.ge HI0.out))|exact HB.out)) HL.out hb);have n2_:=Aside0.mk (KeepBut.trans (by repeat (first|(with_reducible first|exact HK.out|apply KeepBut.set_|apply keep_drewN|apply keep_alloc)|exact HK.out)) (KeepBut.of_grown hg g) (Kd.R_base2 HO_5.out));have n3_:=Aside0.mk (ho);clear HI0 HB HK HO_5;have HI0:=n0_;have HB:=n1_;have HK:=n2_;have HO155:=n3_;clear n0_ n1_ n2_ n3_ ho hb hg hat))
         go_roundg k1
         case measure=>have:=HK1.out;omega
         case rel=>exact ⟨(y153),(wrap64 (x7_1 + 1)),(t151),(t152),(by first|rfl|(simp;done)|(simp [*];done)),H',⟨by have:=HK1.out;omega⟩,⟨by (with_reducible repeat (first|apply Kd.R_alloc|apply Kd.R_drewN));exact HO155.out⟩,⟨by repeat (first|(with_reducible first|exact HI0.out|apply IsS171.alloc|apply IsS171.drewN|apply IsS171.set_1|apply IsS171.set_2)|exact HI0.out)⟩,⟨by repeat (first|(with_reducible first|exact HK.out|apply KeepBut.set_|apply keep_drewN|apply keep_alloc)|exact HK.out)⟩,⟨by repeat (first|(with_reducible first|exact HB.out|apply below_alloc|apply pw_below_drewN|apply below_drew1|refine below_set ?_ (IsS171.ge HI0.out))|exact HB.out)⟩⟩
        ·rw [if_neg c18] at H
         exact absurd H (by simp)
       ·rw [if_neg c16] at H
        exact absurd H (by simp)
      ·rw [if_neg c15] at H
       exact absurd H (by simp)
     ·rw [if_neg c13] at H
      have c13b0 : (t138 == 1) = false:=beq_eq_false_iff_ne.mpr c13
      have c13b1 : (t138 != 1) = true:=bne_iff_ne.mpr c13
      by_cases c21 : t138 = 2
      ·rw [if_pos c21] at H
       have c21b0 : (t138 == 2) = true:=beq_iff_eq.mpr c21
       have c21b1 : (t138 != 2) = false:=bne_eq_false_iff_eq.mpr c21
       clear c21
       replace H:=Option.bind_eq_some_iff.mp H
       obtain ⟨⟨t156,t157,t158⟩,A220,H⟩:=H
       replace H : (if t156 = true then ((some (([13,10] : List Int) : List Int)).bind fun y159=>(if x5_1.length + y159.length < 140737488355328 then ((some (x5_1 ++ y159 : List Int)).bind fun y162=>((spec_l01Src_n.f s0_0 t157 t158 95).bind fun bt165=>(if y162.length < 140737488355328 then (spec_l01Src_bytes.l0 k1 a1 (y162 ++ [(wrap64 (32 + bt165.1)) % 256]) t138 (wrap64 (x7_1 + 1)) s0_0 bt165.2.1 bt165.2.2) else (none)))) else (none))) else ((spec_l01Src_n.f s0_0 t157 t158 95).bind fun bt171=>(if x5_1.length < 140737488355328 then (spec_l01Src_bytes.l0 k1 a1 (x5_1 ++ [(wrap64 (32 + bt171.1)) % 256]) t138 (wrap64 (x7_1 + 1)) s0_0 bt171.2.1 bt171.2.2) else (none)))) = some (r1,r2,r3):=H
       have A22:=Aside0.mk A220
       clear A220
       by_cases c23 : t156 = true
       ·subst c23
        have H1 : ((some (([13,10] : List Int) : List Int)).bind fun y159=>(if x5_1.length + y159.length < 140737488355328 then ((some (x5_1 ++ y159 : List Int)).bind fun y162=>((spec_l01Src_n.f s0_0 t157 t158 95).bind fun bt165=>(if y162.length < 140737488355328 then (spec_l01Src_bytes.l0 k1 a1 (y162 ++ [(wrap64 (32 + bt165.1)) % 256]) t138 (wrap64 (x7_1 + 1)) s0_0 bt165.2.1 bt165.2.2) else (none)))) else (none))) = some (r1,r2,r3):=by rw [if_pos rfl] at H;exact H
        clear H
        have H:=H1
        clear H1
        obtain ⟨y159,hy159⟩ : ∃ y_ : List Int,y_ = (([13,10] : List Int)):=⟨_,rfl⟩
        replace H : (if x5_1.length + y159.length < 140737488355328 then ((some (x5_1 ++ y159 : List Int)).bind fun y162=>((spec_l01Src_n.f s0_0 t157 t158 95).bind fun bt165=>(if y162.length < 140737488355328 then (spec_l01Src_bytes.l0 k1 a1 (y162 ++ [(wrap64 (32 + bt165.1)) % 256]) t138 (wrap64 (x7_1 + 1)) s0_0 bt165.2.1 bt165.2.2) else (none)))) else (none)) = some (r1,r2,r3):=by first|(rw [hy159];with_reducible exact H)|(have H2_:=(Option.bind_some _ _).symm.trans H;rw [hy159];with_reducible exact H2_)|(have H2_:=(Option.bind_some _ _).symm.trans H;with_reducible exact H2_)|with_reducible exact H|(rw [hy159];exact H)|exact H
        have Ny159:=Aside0.mk hy159
        clear hy159
        by_cases c24 : x5_1.length + y159.length < 140737488355328
        ·rw [if_pos c24] at H
         have LMc24:=Aside0.mk c24
         clear c24
         obtain ⟨y162,hy162⟩ : ∃ y_ : List Int,y_ = (x5_1 ++ y159):=⟨_,rfl⟩
         replace H : ((spec_l01Src_n.f s0_0 t157 t158 95).bind fun bt165=>(if y162.length < 140737488355328 then (spec_l01Src_bytes.l0 k1 a1 (y162 ++ [(wrap64 (32 + bt165.1)) % 256]) t138 (wrap64 (x7_1 + 1)) s0_0 bt165.2.1 bt165.2.2) else (none))) = some (r1,r2,r3):=by first|(rw [hy162];with_reducible exact H)|(have H2_:=(Option.bind_some _ _).symm.trans H;rw [hy162];with_reducible exact H2_)|(have H2_:=(Option.bind_some _ _).symm.trans H;with_reducible exact H2_)|with_reducible exact H|(rw [hy162];exact H)|exact H
         have Ny162:=Aside0.mk hy162
         clear hy162
         replace H:=Option.bind_eq_some_iff.mp H
         obtain ⟨⟨t165,t166,t167⟩,A250,H⟩:=H
         replace H : (if y162.length < 140737488355328 then (spec_l01Src_bytes.l0 k1 a1 (y162 ++ [(wrap64 (32 + t165)) % 256]) t138 (wrap64 (x7_1 + 1)) s0_0 t166 t167) else (none)) = some (r1,r2,r3):=H
         have A25:=Aside0.mk A250
         clear A250
         by_cases c26 : y162.length < 140737488355328
         ·rw [if_pos c26] at H
          have LMc26:=Aside0.mk c26
          clear c26
          obtain ⟨y168,hy168⟩ : ∃ y_ : List Int,y_ = (y162 ++ [(wrap64 (32 + t165)) % 256]):=⟨_,rfl⟩
          replace H : (spec_l01Src_bytes.l0 k1 a1 y168 t138 (wrap64 (x7_1 + 1)) s0_0 t166 t167) = some (r1,r2,r3):=by first|(rw [hy168];with_reducible exact H)|(have H2_:=(Option.bind_some _ _).symm.trans H;rw [hy168];with_reducible exact H2_)|(have H2_:=(Option.bind_some _ _).symm.trans H;with_reducible exact H2_)|with_reducible exact H|(rw [hy168];exact H)|exact H
          have Ny168:=Aside0.mk hy168
          clear hy168
          have H':=Aside0.mk H
          clear H
          go_wp2_with (first|((with_reducible refine gate_callee (f:=77) rfl ?_);refine goesL_ (some 42) rfl rfl Try.func77 (by kernel_rfl) rfl #[.pointer (some ⟨g,0,none⟩),.int .i64 12] rfl (by (try simp only [List.map_toArray,List.map_cons,List.map_nil]);first|done|rfl) ?_;(with_reducible refine (spec_l01Src_one.calls g s0_0 x1001_1 x1002_1 12 true t157 t158 w0 _ ?side1 ?side2 A22.out).mono ?_);(case side1=>repeat (first|(with_reducible first|exact HI0.out|apply IsS171.alloc|apply IsS171.drewN|apply IsS171.set_1|apply IsS171.set_2)|exact HI0.out));(case side2=>repeat (first|(with_reducible first|exact HB.out|apply below_alloc|apply pw_below_drewN|apply below_drew1|refine below_set ?_ (IsS171.ge HI0.out))|exact HB.out));rintro e w27 ⟨rfl,hi,hb,hk⟩;refine ⟨_,rfl,?_⟩;have n0_:=Aside0.mk (Kd.R_mono (Kd.R_keep (IsS171.apart (show IsS171 w0 _ g s0_0 x1001_1 x1002_1 from by repeat (first|(with_reducible first|exact HI0.out|apply IsS171.alloc|apply IsS171.drewN|apply IsS171.set_1|apply IsS171.set_2)|exact HI0.out)) (by (with_reducible repeat (first|apply Kd.R_alloc|apply Kd.R_drewN));exact HO_5.out) (by decide)) hk (fun _ h=>h.2)) (fun _ h=>h.1));have n1_:=Aside0.mk (KeepBut.trans (by repeat (first|(with_reducible first|exact HK.out|apply KeepBut.set_|apply keep_drewN|apply keep_alloc)|exact HK.out)) hk (.inl rfl));have n2_:=Aside0.mk (hb);have n3_:=Aside0.mk (hi);clear HO_5 HK HB HI0;have HO_5:=n0_;have HK:=n1_;have HB:=n2_;have HI0:=n3_;clear n0_ n1_ n2_ n3_;(try clear hb);(try clear hb2);(try clear hk);(try clear hi))|((with_reducible refine gate_dst (N:=44) rfl ?_);refine Kd.R_lit (Kd.int .u8) _ 5 ?hg (N:=44) ?hd (xs:=([13,10] : List Int)) (inner:=[.int .u8 13,.int .u8 10]) (ok:=fun _=>True) (okp:=fun _=>True) ?hr ?hp (fun _ hk=>hk) trivial (Below.refl _ _) (Nat.le_refl _) (by simp) ?_;(case hd=>rfl);(case hg=>rfl);(case hr=>first|(go_simp;done)|(go_simp;rfl));(case hp=>exact (Reps.one (show Kd.M (Kd.int .u8) _ _ _ 13 [.int .u8 13] from rfl) (Reps.one (show Kd.M (Kd.int .u8) _ _ _ 10 [.int .u8 10] from rfl) (Reps.none _ _))));intro v160 w28 ho29 hb hg_ hnew_;clear hg_ hnew_;(first|rw [← Ny159.out] at ho29|(simp only [Int.reduceToNat] at ho29;rw [← Ny159.out] at ho29));have n0_:=Aside0.mk (Kd.R_elder' (by (with_reducible repeat (first|apply Kd.R_alloc|apply Kd.R_drewN));exact HO_5.out) (Kd.R_base ho29) hb);have n1_:=Aside0.mk (Kd.R_lower (Kd.R_new' ho29 (Kd.R_lt (by (with_reducible repeat (first|apply Kd.R_alloc|apply Kd.R_drewN));exact HO_5.out))) (keep_size (w:=w) (g:=g) (row:=none) (by repeat (first|(with_reducible first|exact HK.out|apply KeepBut.set_|apply keep_drewN|apply keep_alloc)|exact HK.out))));have n2_:=Aside0.mk (IsS171.below (by repeat (first|(with_reducible first|exact HI0.out|apply IsS171.alloc|apply IsS171.drewN|apply IsS171.set_1|apply IsS171.set_2)|exact HI0.out)) hb);have n3_:=Aside0.mk (KeepBut.trans (by repeat (first|(with_reducible first|exact HK.out|apply KeepBut.set_|apply keep_drewN|apply keep_alloc)|exact HK.out)) (KeepBut.of_below hb g none) (.inl rfl));have n4_:=Aside0.mk (below_step (by repeat (first|(with_reducible first|exact HB.out|apply below_alloc|apply pw_below_drewN|apply below_drew1|refine below_set ?_ (IsS171.ge HI0.out))|exact HB.out)) hb);clear HO_5 HI0 HK HB;have HO_5:=n0_;have HO161:=n1_;have HI0:=n2_;have HK:=n3_;have HB:=n4_;clear n0_ n1_ n2_ n3_ n4_ hb ho29;obtain ⟨Ao31,co31,eo31⟩:=Kd.R_slice HO161.out;subst eo31)|((with_reducible refine gate_builtin (b:=.append) (xs:=#[.tmp 43,.tmp 44]) rfl ?_);at_builtin;refine Kd.R_append_rows (Kd.int .u8) w.heap.size rfl (.tmp 43) (.tmp 44) 37 5 (.int .u8 0) 1 rfl Try.underlying37 info5 rfl (by decide) (by omega) u5 x5_1 y159 _ _ _ (fun k_=>some k_ ≠ (.slice Ao31 y159.length co31 : Value).ownBlock) (fun _=>False) rfl rfl ?aO ?aR (fun _ _ h=>h) (fun _ h=>h.elim) ?aF (Below.refl _ _) ?aS ?aL ?_;(case aR=>repeat (first|exact (Kd.R_reads' HO161.out).2.2|(with_reducible refine Kd.C_alloc ?_ _)|(with_reducible refine Kd.C_drewN ?_ _)|(with_reducible refine Kd.C_drew ?_)));(case aF=>exact (fun k_ hk=>Kd.fresh' (Kd.R_lt (by (with_reducible repeat (first|apply Kd.R_alloc|apply Kd.R_drewN));exact HO161.out)) k_ hk));(case aO=>exact (by (with_reducible repeat (first|apply Kd.R_alloc|apply Kd.R_drewN));exact Kd.R_mono HO_5.out (fun _ hk=>hk.2)));(case aS=>exact (keep_size (w:=w) (g:=g) (row:=none) (by repeat (first|(with_reducible first|exact HK.out|apply KeepBut.set_|apply keep_drewN|apply keep_alloc)|exact HK.out))));(case aL=>have:=LMc24.out;omega);intro v163 w30 ho hb hg hat;rw [← Ny162.out] at ho;have n0_:=Aside0.mk (IsS171.grown (by repeat (first|(with_reducible first|exact HI0.out|apply IsS171.alloc|apply IsS171.drewN|apply IsS171.set_1|apply IsS171.set_2)|exact HI0.out)) hg (IsS171.own_ne HI0.out HO_5.out (by decide)));have n1_:=Aside0.mk (Kd.R_after (ok:=(fun _=>True)) (by (with_reducible repeat (first|apply Kd.R_alloc|apply Kd.R_drewN));exact HO161.out) hg hat);have n2_:=Aside0.mk (below_weaken (by repeat (first|(with_reducible first|exact HB.out|apply below_alloc|apply pw_below_drewN|apply below_drew1|refine below_set ?_ (IsS171.ge HI0.out))|exact HB.out)) HL.out hb);have n3_:=Aside0.mk (KeepBut.trans (by repeat (first|(with_reducible first|exact HK.out|apply KeepBut.set_|apply keep_drewN|apply keep_alloc)|exact HK.out)) (KeepBut.of_grown hg g) (Kd.R_base2 HO_5.out));have n4_:=Aside0.mk (ho);clear HI0 HO161 HB HK HO_5;have HI0:=n0_;have HO161:=n1_;have HB:=n2_;have HK:=n3_;have HO164:=n4_;clear n0_ n1_ n2_ n3_ n4_ ho hb hg hat)|((with_reducible refine gate_callee (f:=75) rfl ?_);refine goesL_ (some 48) rfl rfl Try.func75 (by kernel_rfl) rfl #[.pointer (some ⟨g,0,none⟩),.int .i64 95] rfl (by (try simp only [List.map_toArray,List.map_cons,List.map_nil]);first|done|rfl) ?_;(with_reducible refine (spec_l01Src_n.calls g s0_0 t157 t158 95 t165 t166 t167 w0 _ ?side1 ?side2 A25.out).mono ?_);(case side1=>repeat (first|(with_reducible first|exact HI0.out|apply IsS171.alloc|apply IsS171.drewN|apply IsS171.set_1|apply IsS171.set_2)|exact HI0.out));(case side2=>repeat (first|(with_reducible first|exact HB.out|apply below_alloc|apply pw_below_drewN|apply below_drew1|refine below_set ?_ (IsS171.ge HI0.out))|exact HB.out));rintro e w32 ⟨rfl,hi,hb,hk⟩;refine ⟨_,rfl,?_⟩;have n0_:=Aside0.mk (Kd.R_mono (Kd.R_keep (IsS171.apart (show IsS171 w0 _ g s0_0 t157 t158 from by repeat (first|(with_reducible first|exact HI0.out|apply IsS171.alloc|apply IsS171.drewN|apply IsS171.set_1|apply IsS171.set_2)|exact HI0.out)) (by (with_reducible repeat (first|apply Kd.R_alloc|apply Kd.R_drewN));exact HO161.out) (by decide)) hk (fun _ h=>h.2)) (fun _ h=>h.1));have n1_:=Aside0.mk (Kd.R_mono (Kd.R_keep (IsS171.apart (show IsS171 w0 _ g s0_0 t157 t158 from by repeat (first|(with_reducible first|exact HI0.out|apply IsS171.alloc|apply IsS171.drewN|apply IsS171.set_1|apply IsS171.set_2)|exact HI0.out)) (by (with_reducible repeat (first|apply Kd.R_alloc|apply Kd.R_drewN));exact HO164.out) (by decide)) hk (fun _ h=>h.2)) (fun _ h=>h.1));have n2_:=Aside0.mk (KeepBut.trans (by repeat (first|(with_reducible first|exact HK.out|apply KeepBut.set_|apply keep_drewN|apply keep_alloc)|exact HK.out)) hk (.inl rfl));have n3_:=Aside0.mk (hb);have n4_:=Aside0.mk (hi);clear HO161 HO164 HK HB HI0;have HO161:=n0_;have HO164:=n1_;have HK:=n2_;have HB:=n3_;have HI0:=n4_;clear n0_ n1_ n2_ n3_ n4_;(try clear hb);(try clear hb2);(try clear hk);(try clear hi))|((with_reducible refine gate_builtin (b:=.append) (xs:=#[.tmp 46,.tmp 51]) rfl ?_);at_builtin;refine Kd.R_append (Kd.int .u8) w.heap.size rfl (.tmp 46) (.tmp 51) 37 5 (.int .u8 0) 1 rfl Try.underlying37 info5 rfl (by decide) (by omega) v163 y162 ((wrap64 (32 + t165)) % 256) [.int .u8 ((wrap64 (32 + t165)) % 256)] (fun k_=>some k_ ≠ (.slice Ao31 y159.length co31 : Value).ownBlock) (fun _=>False) rfl rfl ?aP (fun _ hk=>hk.elim) ?aF ?aO (Below.refl _ _) ?aS ?aL ?_;(case aP=>exact rfl);(case aF=>exact (fun k_ hk=>Kd.fresh' (Kd.R_lt (by (with_reducible repeat (first|apply Kd.R_alloc|apply Kd.R_drewN));exact HO161.out)) k_ hk));(case aO=>exact (by (with_reducible repeat (first|apply Kd.R_alloc|apply Kd.R_drewN));exact HO164.out));(case aS=>exact (keep_size (w:=w) (g:=g) (row:=none) (by repeat (first|(with_reducible first|exact HK.out|apply KeepBut.set_|apply keep_drewN|apply keep_alloc)|exact HK.out))));(case aL=>have:=LMc26.out;omega);intro v169 w33 ho hb hg hat;rw [← Ny168.out] at ho;have n0_:=Aside0.mk (IsS171.grown (by repeat (first|(with_reducible first|exact HI0.out|apply IsS171.alloc|apply IsS171.drewN|apply IsS171.set_1|apply IsS171.set_2)|exact HI0.out)) hg (IsS171.own_ne HI0.out HO164.out (by decide)));have n1_:=Aside0.mk (Kd.R_after (ok:=(fun _=>True)) (by (with_reducible repeat (first|apply Kd.R_alloc|apply Kd.R_drewN));exact HO161.out) hg hat);have n2_:=Aside0.mk (below_weaken (by repeat (first|(with_reducible first|exact HB.out|apply below_alloc|apply pw_below_drewN|apply below_drew1|refine below_set ?_ (IsS171.ge HI0.out))|exact HB.out)) HL.out hb);have n3_:=Aside0.mk (KeepBut.trans (by repeat (first|(with_reducible first|exact HK.out|apply KeepBut.set_|apply keep_drewN|apply keep_alloc)|exact HK.out)) (KeepBut.of_grown hg g) (Kd.R_base2 HO164.out));have n4_:=Aside0.mk (ho);clear HI0 HO161 HB HK HO164;have HI0:=n0_;have HO161:=n1_;have HB:=n2_;have HK:=n3_;have HO170:=n4_;clear n0_ n1_ n2_ n3_ n4_ ho hb hg hat))
          go_roundg k1
          case measure=>have:=HK1.out;omega
          case rel=>exact ⟨(y168),(wrap64 (x7_1 + 1)),(t166),(t167),(by first|rfl|(simp;done)|(simp [*];done)),H',⟨by have:=HK1.out;omega⟩,⟨by (with_reducible repeat (first|apply Kd.R_alloc|apply Kd.R_drewN));exact Kd.R_mono HO170.out (fun _ hk=>trivial)⟩,⟨by repeat (first|(with_reducible first|exact HI0.out|apply IsS171.alloc|apply IsS171.drewN|apply IsS171.set_1|apply IsS171.set_2)|exact HI0.out)⟩,⟨by repeat (first|(with_reducible first|exact HK.out|apply KeepBut.set_|apply keep_drewN|apply keep_alloc)|exact HK.out)⟩,⟨by repeat (first|(with_reducible first|exact HB.out|apply below_alloc|apply pw_below_drewN|apply below_drew1|refine below_set ?_ (IsS171.ge HI0.out))|exact HB.out)⟩⟩
         ·rw [if_neg c26] at H
          exact absurd H (by simp)
        ·rw [if_neg c24] at H
         exact absurd H (by simp)
       ·replace c23:=Bool.eq_false_iff.mpr c23
        subst c23
        have H1 : ((spec_l01Src_n.f s0_0 t157 t158 95).bind fun bt171=>(if x5_1.length < 140737488355328 then (spec_l01Src_bytes.l0 k1 a1 (x5_1 ++ [(wrap64 (32 + bt171.1)) % 256]) t138 (wrap64 (x7_1 + 1)) s0_0 bt171.2.1 bt171.2.2) else (none))) = some (r1,r2,r3):=by rw [if_neg (show ¬ (false = true) by decide)] at H;exact H
        clear H
        have H:=H1
        clear H1
        replace H:=Option.bind_eq_some_iff.mp H
        obtain ⟨⟨t171,t172,t173⟩,A340,H⟩:=H
        replace H : (if x5_1.length < 140737488355328 then (spec_l01Src_bytes.l0 k1 a1 (x5_1 ++ [(wrap64 (32 + t171)) % 256]) t138 (wrap64 (x7_1 + 1)) s0_0 t172 t173) else (none)) = some (r1,r2,r3):=H
        have A34:=Aside0.mk A340
        clear A340
        by_cases c35 : x5_1.length < 140737488355328
        ·rw [if_pos c35] at H
         have LMc35:=Aside0.mk c35
         clear c35
         obtain ⟨y174,hy174⟩ : ∃ y_ : List Int,y_ = (x5_1 ++ [(wrap64 (32 + t171)) % 256]):=⟨_,rfl⟩
         replace H : (spec_l01Src_bytes.l0 k1 a1 y174 t138 (wrap64 (x7_1 + 1)) s0_0 t172 t173) = some (r1,r2,r3):=by first|(rw [hy174];with_reducible exact H)|(have H2_:=(Option.bind_some _ _).symm.trans H;rw [hy174];with_reducible exact H2_)|(have H2_:=(Option.bind_some _ _).symm.trans H;with_reducible exact H2_)|with_reducible exact H|(rw [hy174];exact H)|exact H
         have Ny174:=Aside0.mk hy174
         clear hy174
         have H':=Aside0.mk H
         clear H
         go_wp2_with (first|((with_reducible refine gate_callee (f:=77) rfl ?_);refine goesL_ (some 42) rfl rfl Try.func77 (by kernel_rfl) rfl #[.pointer (some ⟨g,0,none⟩),.int .i64 12] rfl (by (try simp only [List.map_toArray,List.map_cons,List.map_nil]);first|done|rfl) ?_;(with_reducible refine (spec_l01Src_one.calls g s0_0 x1001_1 x1002_1 12 false t157 t158 w0 _ ?side1 ?side2 A22.out).mono ?_);(case side1=>repeat (first|(with_reducible first|exact HI0.out|apply IsS171.alloc|apply IsS171.drewN|apply IsS171.set_1|apply IsS171.set_2)|exact HI0.out));(case side2=>repeat (first|(with_reducible first|exact HB.out|apply below_alloc|apply pw_below_drewN|apply below_drew1|refine below_set ?_ (IsS171.ge HI0.out))|exact HB.out));rintro e w36 ⟨rfl,hi,hb,hk⟩;refine ⟨_,rfl,?_⟩;have n0_:=Aside0.mk (Kd.R_mono (Kd.R_keep (IsS171.apart (show IsS171 w0 _ g s0_0 x1001_1 x1002_1 from by repeat (first|(with_reducible first|exact HI0.out|apply IsS171.alloc|apply IsS171.drewN|apply IsS171.set_1|apply IsS171.set_2)|exact HI0.out)) (by (with_reducible repeat (first|apply Kd.R_alloc|apply Kd.R_drewN));exact HO_5.out) (by decide)) hk (fun _ h=>h.2)) (fun _ h=>h.1));have n1_:=Aside0.mk (KeepBut.trans (by repeat (first|(with_reducible first|exact HK.out|apply KeepBut.set_|apply keep_drewN|apply keep_alloc)|exact HK.out)) hk (.inl rfl));have n2_:=Aside0.mk (hb);have n3_:=Aside0.mk (hi);clear HO_5 HK HB HI0;have HO_5:=n0_;have HK:=n1_;have HB:=n2_;have HI0:=n3_;clear n0_ n1_ n2_ n3_;(try clear hb);(try clear hb2);(try clear hk);(try clear hi))|((with_reducible refine gate_callee (f:=75) rfl ?_);refine goesL_ (some 48) rfl rfl Try.func75 (by kernel_rfl) rfl #[.pointer (some ⟨g,0,none⟩),.int .i64 95] rfl (by (try simp only [List.map_toArray,List.map_cons,List.map_nil]);first|done|rfl) ?_;(with_reducible refine (spec_l01Src_n.calls g s0_0 t157 t158 95 t171 t172 t173 w0 _ ?side1 ?side2 A34.out).mono ?_);(case side1=>repeat (first|(with_reducible first|exact HI0.out|apply IsS171.alloc|apply IsS171.drewN|apply IsS171.set_1|apply IsS171.set_2)|exact HI0.out));(case side2=>repeat (first|(with_reducible first|exact HB.out|apply below_alloc|apply pw_below_drewN|apply below_drew1|refine below_set ?_ (IsS171.ge HI0.out))|exact HB.out));rintro e w37 ⟨rfl,hi,hb,hk⟩;refine ⟨_,rfl,?_⟩;have n0_:=Aside0.mk (Kd.R_mono (Kd.R_keep (IsS171.apart (show IsS171 w0 _ g s0_0 t157 t158 from by repeat (first|(with_reducible first|exact HI0.out|apply IsS171.alloc|apply IsS171.drewN|apply IsS171.set_1|apply IsS171.set_2)|exact HI0.out)) (by (with_reducible repeat (first|apply Kd.R_alloc|apply Kd.R_drewN));exact HO_5.out) (by decide)) hk (fun _ h=>h.2)) (fun _ h=>h.1));have n1_:=Aside0.mk (KeepBut.trans (by repeat (first|(with_reducible first|exact HK.out|apply KeepBut.set_|apply keep_drewN|apply keep_alloc)|exact HK.out)) hk (.inl rfl));have n2_:=Aside0.mk (hb);have n3_:=Aside0.mk (hi);clear HO_5 HK HB HI0;have HO_5:=n0_;have HK:=n1_;have HB:=n2_;have HI0:=n3_;clear n0_ n1_ n2_ n3_;(try clear hb);(try clear hb2);(try clear hk);(try clear hi))|((with_reducible refine gate_builtin (b:=.append) (xs:=#[.tmp 46,.tmp 51]) rfl ?_);at_builtin;refine Kd.R_append (Kd.int .u8) w.heap.size rfl (.tmp 46) (.tmp 51) 37 5 (.int .u8 0) 1 rfl Try.underlying37 info5 rfl (by decide) (by omega) u5 x5_1 ((wrap64 (32 + t171)) % 256) [.int .u8 ((wrap64 (32 + t171)) % 256)] (fun _=>True) (fun _=>False) rfl rfl ?aP (fun _ hk=>hk.elim) ?aF ?aO (Below.refl _ _) ?aS ?aL ?_;(case aP=>exact rfl);(case aF=>exact (fun _ _=>trivial));(case aO=>exact (by (with_reducible repeat (first|apply Kd.R_alloc|apply Kd.R_drewN));exact HO_5.out));(case aS=>exact (keep_size (w:=w) (g:=g) (row:=none) (by repeat (first|(with_reducible first|exact HK.out|apply KeepBut.set_|apply keep_drewN|apply keep_alloc)|exact HK.out))));(case aL=>have:=LMc35.out;omega);intro v175 w38 ho hb hg hat;rw [← Ny174.out] at ho;have n0_:=Aside0.mk (IsS171.grown (by repeat (first|(with_reducible first|exact HI0.out|apply IsS171.alloc|apply IsS171.drewN|apply IsS171.set_1|apply IsS171.set_2)|exact HI0.out)) hg (IsS171.own_ne HI0.out HO_5.out (by decide)));have n1_:=Aside0.mk (below_weaken (by repeat (first|(with_reducible first|exact HB.out|apply below_alloc|apply pw_below_drewN|apply below_drew1|refine below_set ?_ (IsS171.ge HI0.out))|exact HB.out)) HL.out hb);have n2_:=Aside0.mk (KeepBut.trans (by repeat (first|(with_reducible first|exact HK.out|apply KeepBut.set_|apply keep_drewN|apply keep_alloc)|exact HK.out)) (KeepBut.of_grown hg g) (Kd.R_base2 HO_5.out));have n3_:=Aside0.mk (ho);clear HI0 HB HK HO_5;have HI0:=n0_;have HB:=n1_;have HK:=n2_;have HO176:=n3_;clear n0_ n1_ n2_ n3_ ho hb hg hat))
         go_roundg k1
         case measure=>have:=HK1.out;omega
         case rel=>exact ⟨(y174),(wrap64 (x7_1 + 1)),(t172),(t173),(by first|rfl|(simp;done)|(simp [*];done)),H',⟨by have:=HK1.out;omega⟩,⟨by (with_reducible repeat (first|apply Kd.R_alloc|apply Kd.R_drewN));exact HO176.out⟩,⟨by repeat (first|(with_reducible first|exact HI0.out|apply IsS171.alloc|apply IsS171.drewN|apply IsS171.set_1|apply IsS171.set_2)|exact HI0.out)⟩,⟨by repeat (first|(with_reducible first|exact HK.out|apply KeepBut.set_|apply keep_drewN|apply keep_alloc)|exact HK.out)⟩,⟨by repeat (first|(with_reducible first|exact HB.out|apply below_alloc|apply pw_below_drewN|apply below_drew1|refine below_set ?_ (IsS171.ge HI0.out))|exact HB.out)⟩⟩
        ·rw [if_neg c35] at H
         exact absurd H (by simp)
      ·rw [if_neg c21] at H
       have c21b0 : (t138 == 2) = false:=beq_eq_false_iff_ne.mpr c21
       have c21b1 : (t138 != 2) = true:=bne_iff_ne.mpr c21
       replace H:=Option.bind_eq_some_iff.mp H
       obtain ⟨⟨t177,t178,t179⟩,A390,H⟩:=H
       replace H : (if 0 ≤ t177 then (if t177 < 23 then (if x5_1.length < 140737488355328 then (spec_l01Src_bytes.l0 k1 a1 (x5_1 ++ [bt (⟨#[97,98,99,100,101,102,103,104,32,105,106,107,108,109,110,111,112,46,32,101,116,97,111]⟩ : ByteArray) t177]) t138 (wrap64 (x7_1 + 1)) s0_0 t178 t179) else (none)) else (none)) else (none)) = some (r1,r2,r3):=H
       have A39:=Aside0.mk A390
       clear A390
       by_cases c40 : 0 ≤ t177
       ·rw [if_pos c40] at H
        have c40b0 : decide (0 ≤ t177) = true:=decide_eq_true c40
        clear c40
        by_cases c41 : t177 < 23
        ·rw [if_pos c41] at H
         have c41b0 : decide (t177 < 23) = true:=decide_eq_true c41
         clear c41
         by_cases c43 : x5_1.length < 140737488355328
         ·rw [if_pos c43] at H
          have LMc43:=Aside0.mk c43
          clear c43
          obtain ⟨y180,hy180⟩ : ∃ y_ : List Int,y_ = (x5_1 ++ [bt (⟨#[97,98,99,100,101,102,103,104,32,105,106,107,108,109,110,111,112,46,32,101,116,97,111]⟩ : ByteArray) t177]):=⟨_,rfl⟩
          replace H : (spec_l01Src_bytes.l0 k1 a1 y180 t138 (wrap64 (x7_1 + 1)) s0_0 t178 t179) = some (r1,r2,r3):=by first|(rw [hy180];with_reducible exact H)|(have H2_:=(Option.bind_some _ _).symm.trans H;rw [hy180];with_reducible exact H2_)|(have H2_:=(Option.bind_some _ _).symm.trans H;with_reducible exact H2_)|with_reducible exact H|(rw [hy180];exact H)|exact H
          have Ny180:=Aside0.mk hy180
          clear hy180
          have H':=Aside0.mk H
          clear H
          go_wp2_with (first|((with_reducible refine gate_callee (f:=75) rfl ?_);refine goesL_ (some 19) rfl rfl Try.func75 (by kernel_rfl) rfl #[.pointer (some ⟨g,0,none⟩),.int .i64 23] rfl (by (try simp only [List.map_toArray,List.map_cons,List.map_nil]);first|done|rfl) ?_;(with_reducible refine (spec_l01Src_n.calls g s0_0 x1001_1 x1002_1 23 t177 t178 t179 w0 _ ?side1 ?side2 A39.out).mono ?_);(case side1=>repeat (first|(with_reducible first|exact HI0.out|apply IsS171.alloc|apply IsS171.drewN|apply IsS171.set_1|apply IsS171.set_2)|exact HI0.out));(case side2=>repeat (first|(with_reducible first|exact HB.out|apply below_alloc|apply pw_below_drewN|apply below_drew1|refine below_set ?_ (IsS171.ge HI0.out))|exact HB.out));rintro e w44 ⟨rfl,hi,hb,hk⟩;refine ⟨_,rfl,?_⟩;have n0_:=Aside0.mk (Kd.R_mono (Kd.R_keep (IsS171.apart (show IsS171 w0 _ g s0_0 x1001_1 x1002_1 from by repeat (first|(with_reducible first|exact HI0.out|apply IsS171.alloc|apply IsS171.drewN|apply IsS171.set_1|apply IsS171.set_2)|exact HI0.out)) (by (with_reducible repeat (first|apply Kd.R_alloc|apply Kd.R_drewN));exact HO_5.out) (by decide)) hk (fun _ h=>h.2)) (fun _ h=>h.1));have n1_:=Aside0.mk (KeepBut.trans (by repeat (first|(with_reducible first|exact HK.out|apply KeepBut.set_|apply keep_drewN|apply keep_alloc)|exact HK.out)) hk (.inl rfl));have n2_:=Aside0.mk (hb);have n3_:=Aside0.mk (hi);clear HO_5 HK HB HI0;have HO_5:=n0_;have HK:=n1_;have HB:=n2_;have HI0:=n3_;clear n0_ n1_ n2_ n3_;(try clear hb);(try clear hb2);(try clear hk);(try clear hi);have p42 : 0 ≤ (t177 : Int):=of_decide_eq_true (by first|(with_reducible assumption)|assumption);have q42 : t177 < (23 : Int):=of_decide_eq_true (by first|(with_reducible assumption)|assumption);have hx42:=bt_at (⟨#[97,98,99,100,101,102,103,104,32,105,106,107,108,109,110,111,112,46,32,101,116,97,111]⟩ : ByteArray) t177;replace p42:=eq_true p42;replace q42:=eq_true q42)|((with_reducible refine gate_builtin (b:=.append) (xs:=#[.tmp 17,.tmp 21]) rfl ?_);at_builtin;refine Kd.R_append (Kd.int .u8) w.heap.size rfl (.tmp 17) (.tmp 21) 37 5 (.int .u8 0) 1 rfl Try.underlying37 info5 rfl (by decide) (by omega) u5 x5_1 (bt (⟨#[97,98,99,100,101,102,103,104,32,105,106,107,108,109,110,111,112,46,32,101,116,97,111]⟩ : ByteArray) t177) [.int .u8 (bt (⟨#[97,98,99,100,101,102,103,104,32,105,106,107,108,109,110,111,112,46,32,101,116,97,111]⟩ : ByteArray) t177)] (fun _=>True) (fun _=>False) rfl rfl ?aP (fun _ hk=>hk.elim) ?aF ?aO (Below.refl _ _) ?aS ?aL ?_;(case aP=>exact rfl);(case aF=>exact (fun _ _=>trivial));(case aO=>exact (by (with_reducible repeat (first|apply Kd.R_alloc|apply Kd.R_drewN));exact HO_5.out));(case aS=>exact (keep_size (w:=w) (g:=g) (row:=none) (by repeat (first|(with_reducible first|exact HK.out|apply KeepBut.set_|apply keep_drewN|apply keep_alloc)|exact HK.out))));(case aL=>have:=LMc43.out;omega);intro v181 w45 ho hb hg hat;rw [← Ny180.out] at ho;have n0_:=Aside0.mk (IsS171.grown (by repeat (first|(with_reducible first|exact HI0.out|apply IsS171.alloc|apply IsS171.drewN|apply IsS171.set_1|apply IsS171.set_2)|exact HI0.out)) hg (IsS171.own_ne HI0.out HO_5.out (by decide)));have n1_:=Aside0.mk (below_weaken (by repeat (first|(with_reducible first|exact HB.out|apply below_alloc|apply pw_below_drewN|apply below_drew1|refine below_set ?_ (IsS171.ge HI0.out))|exact HB.out)) HL.out hb);have n2_:=Aside0.mk (KeepBut.trans (by repeat (first|(with_reducible first|exact HK.out|apply KeepBut.set_|apply keep_drewN|apply keep_alloc)|exact HK.out)) (KeepBut.of_grown hg g) (Kd.R_base2 HO_5.out));have n3_:=Aside0.mk (ho);clear HI0 HB HK HO_5;have HI0:=n0_;have HB:=n1_;have HK:=n2_;have HO182:=n3_;clear n0_ n1_ n2_ n3_ ho hb hg hat))
          go_roundg k1
          case measure=>have:=HK1.out;omega
          case rel=>exact ⟨(y180),(wrap64 (x7_1 + 1)),(t178),(t179),(by first|rfl|(simp;done)|(simp [*];done)),H',⟨by have:=HK1.out;omega⟩,⟨by (with_reducible repeat (first|apply Kd.R_alloc|apply Kd.R_drewN));exact HO182.out⟩,⟨by repeat (first|(with_reducible first|exact HI0.out|apply IsS171.alloc|apply IsS171.drewN|apply IsS171.set_1|apply IsS171.set_2)|exact HI0.out)⟩,⟨by repeat (first|(with_reducible first|exact HK.out|apply KeepBut.set_|apply keep_drewN|apply keep_alloc)|exact HK.out)⟩,⟨by repeat (first|(with_reducible first|exact HB.out|apply below_alloc|apply pw_below_drewN|apply below_drew1|refine below_set ?_ (IsS171.ge HI0.out))|exact HB.out)⟩⟩
         ·rw [if_neg c43] at H
          exact absurd H (by simp)
        ·rw [if_neg c41] at H
         exact absurd H (by simp)
       ·rw [if_neg c40] at H
        exact absurd H (by simp)
   ·rw [if_neg c7] at H
    have c7b0 : decide (x7_1 < a1) = false:=decide_eq_false c7
    clear c7
    by_cases c46 : (x5_1.length : Int) > a1
    ·rw [if_pos c46] at H
     have c46b0 : decide (a1 < (x5_1.length : Int)) = true:=decide_eq_true c46
     clear c46
     by_cases c47 : a1 ≥ 0
     ·rw [if_pos c47] at H
      have c47b0 : decide (0 ≤ a1) = true:=decide_eq_true c47
      clear c47
      by_cases c48 : 0 ≤ a1
      ·rw [if_pos c48] at H
       have c48b0:=eq_true c48
       have c48b1 : decide (0 ≤ a1) = true:=decide_eq_true c48
       clear c48
       by_cases c49 : a1 ≤ (x5_1.length : Int)
       ·rw [if_pos c49] at H
        have c49b0:=eq_true c49
        have c49b1 : decide (a1 ≤ (x5_1.length : Int)) = true:=decide_eq_true c49
        clear c49
        obtain ⟨y141,hy141⟩ : ∃ y_ : List Int,y_ = (x5_1.take (a1 : Int).toNat):=⟨_,rfl⟩
        replace H : (some (strOfNums y141,x1001_1,x1002_1)) = some (r1,r2,r3):=by first|(rw [hy141];with_reducible exact H)|(have H2_:=(Option.bind_some _ _).symm.trans H;rw [hy141];with_reducible exact H2_)|(have H2_:=(Option.bind_some _ _).symm.trans H;with_reducible exact H2_)|with_reducible exact H|(rw [hy141];exact H)|exact H
        have Ny141:=Aside0.mk hy141
        clear hy141
        simp only [Option.some.injEq,Prod.mk.injEq] at H
        obtain ⟨rfl,rfl,rfl⟩:=H
        obtain ⟨Ao50,co50,eo50⟩:=Kd.R_slice HO_5.out
        subst eo50
        have q51 : (a1 : Int) ≤ ((x5_1.length : Int) : Int):=of_decide_eq_true (by first|(with_reducible assumption)|assumption)
        obtain ⟨i051,hi051,_,hsz51,_⟩:=info_parts info5
        have hcut51:=cut_to (P:=Try.prog) 37 5 .i64 Try.underlying37 hi051 Ao50 x5_1.length co50 a1 (of_decide_eq_true (by first|(with_reducible assumption)|assumption)) q51 (Kd.R_reads' HO_5.out).2.1
        have hr51:=Kd.R_take (m:=(a1 : Int).toNat) HO_5.out (by omega)
        have hy51 : y141.length = (a1 : Int).toNat:=(by rw [Ny141.out,List.length_take];omega)
        rw [← Ny141.out] at hr51
        rw [← hy51] at hr51 hcut51
        clear hy51 hi051 hsz51 HO_5
        have HO143:=Aside0.mk hr51
        clear hr51
        replace q51:=eq_true q51
        have hcv52:=own_string (P:=Try.prog) Try.underlying37 Try.underlying5 Try.underlying9 (Kd.own_of_R HO143.out)
        go_wp2
        go_ret
        exact ⟨by first|rfl|(simp [errW_none,errW_some] <;> rfl)|(simp [*,errW_none,errW_some] <;> rfl),by repeat (first|(with_reducible first|exact HI0.out|apply IsS171.alloc|apply IsS171.drewN|apply IsS171.set_1|apply IsS171.set_2)|exact HI0.out),by repeat (first|(with_reducible first|exact HB.out|apply below_alloc|apply pw_below_drewN|apply below_drew1|refine below_set ?_ (IsS171.ge HI0.out))|exact HB.out),by repeat (first|(with_reducible first|exact HK.out|apply KeepBut.set_|apply keep_drewN|apply keep_alloc)|exact HK.out)⟩
       ·rw [if_neg c49] at H
        exact absurd H (by simp)
      ·rw [if_neg c48] at H
       exact absurd H (by simp)
     ·rw [if_neg c47] at H
      have c47b0 : decide (0 ≤ a1) = false:=decide_eq_false c47
      clear c47
      simp only [Option.some.injEq,Prod.mk.injEq] at H
      obtain ⟨rfl,rfl,rfl⟩:=H
      obtain ⟨Ao53,co53,eo53⟩:=Kd.R_slice HO_5.out
      subst eo53
      have hcv54:=own_string (P:=Try.prog) Try.underlying37 Try.underlying5 Try.underlying9 (Kd.own_of_R HO_5.out)
      go_wp2
      go_ret
      exact ⟨by first|rfl|(simp [errW_none,errW_some] <;> rfl)|(simp [*,errW_none,errW_some] <;> rfl),by repeat (first|(with_reducible first|exact HI0.out|apply IsS171.alloc|apply IsS171.drewN|apply IsS171.set_1|apply IsS171.set_2)|exact HI0.out),by repeat (first|(with_reducible first|exact HB.out|apply below_alloc|apply pw_below_drewN|apply below_drew1|refine below_set ?_ (IsS171.ge HI0.out))|exact HB.out),by repeat (first|(with_reducible first|exact HK.out|apply KeepBut.set_|apply keep_drewN|apply keep_alloc)|exact HK.out)⟩
    ·rw [if_neg c46] at H
     have c46b0 : decide (a1 < (x5_1.length : Int)) = false:=decide_eq_false c46
     clear c46
     simp only [Option.some.injEq,Prod.mk.injEq] at H
     obtain ⟨rfl,rfl,rfl⟩:=H
     obtain ⟨Ao55,co55,eo55⟩:=Kd.R_slice HO_5.out
     subst eo55
     have hcv56:=own_string (P:=Try.prog) Try.underlying37 Try.underlying5 Try.underlying9 (Kd.own_of_R HO_5.out)
     go_wp2
     go_ret
     exact ⟨by first|rfl|(simp [errW_none,errW_some] <;> rfl)|(simp [*,errW_none,errW_some] <;> rfl),by repeat (first|(with_reducible first|exact HI0.out|apply IsS171.alloc|apply IsS171.drewN|apply IsS171.set_1|apply IsS171.set_2)|exact HI0.out),by repeat (first|(with_reducible first|exact HB.out|apply below_alloc|apply pw_below_drewN|apply below_drew1|refine below_set ?_ (IsS171.ge HI0.out))|exact HB.out),by repeat (first|(with_reducible first|exact HK.out|apply KeepBut.set_|apply keep_drewN|apply keep_alloc)|exact HK.out)⟩

/-! ### spec_DrawSplitObject: function 28 -/
def spec_DrawSplitObject.f (k : Nat) (l0 : List Int) : Option (Int × Int × Int × Int × ByteArray):=(spec_l01Source.f l0).bind fun bt184=>((spec_l01Src_code2.f bt184.1 bt184.2.1 bt184.2.2).bind fun bt188=>((spec_l01Src_unit.f bt184.1 bt188.2.2.2.1 bt188.2.2.2.2).bind fun bt193=>((spec_l01Src_n.f bt184.1 bt193.2.1 bt193.2.2 60).bind fun bt196=>((spec_l01Src_bytes.f k bt184.1 bt196.2.1 bt196.2.2 bt196.1).bind fun bt199=>(some (bt188.1,bt188.2.1,bt188.2.2.1,bt193.1,bt199.1))))))
theorem spec_DrawSplitObject.mono : ∀ a0 k,LeO (spec_DrawSplitObject.f k a0) (spec_DrawSplitObject.f (k + 1) a0):=by
 intro a0 k
 unfold spec_DrawSplitObject.f
 repeat' first
   | (with_reducible exact spec_l01Src_bytes.mono _ _ _ _ _)
   | (with_reducible exact LeO.refl _)
   | (with_reducible exact LeO.none _)
   | (with_reducible refine LeO.ite ?_ ?_)
   | (with_reducible refine LeO.bind ?_ (fun _=>?_))
   | exact spec_l01Src_bytes.mono _ _ _ _ _
   | exact LeO.none _
   | refine LeO.ite ?_ ?_
   | refine LeO.bind ?_ (fun _=>?_)
set_option maxHeartbeats 8000000 in
set_option maxRecDepth 100000 in
theorem spec_DrawSplitObject.calls (k : Nat) (A0 : Option Addr) (c0 : Nat) (l0 : List Int) (r1 : Int) (r2 : Int) (r3 : Int) (r4 : Int) (r5 : ByteArray) (w : World) (hr0 : Kd.C (Kd.int .u8) w A0 l0.length l0) (hc0 : l0.length ≤ c0) (h : spec_DrawSplitObject.f k l0 = some (r1,r2,r3,r4,r5)) :
  Calls Try.prog 28 #[.slice A0 l0.length c0] w fun e w'=>e = .returned (.tuple #[.agg #[.int .i64 r1,.int .i64 r2,.int .i64 r3],.int .i64 r4,.string r5]) ∧ Below w.heap.size w w':=by
 have hu43:=Try.underlying43
 have HR0:=Aside0.mk hr0
 have HC0:=Aside0.mk hc0
 clear hr0 hc0
 have HB:=Aside0.mk (Below.refl w.heap.size w)
 have H : ((spec_l01Source.f l0).bind fun bt184=>((spec_l01Src_code2.f bt184.1 bt184.2.1 bt184.2.2).bind fun bt188=>((spec_l01Src_unit.f bt184.1 bt188.2.2.2.1 bt188.2.2.2.2).bind fun bt193=>((spec_l01Src_n.f bt184.1 bt193.2.1 bt193.2.2 60).bind fun bt196=>((spec_l01Src_bytes.f k bt184.1 bt196.2.1 bt196.2.2 bt196.1).bind fun bt199=>(some (bt188.1,bt188.2.1,bt188.2.2.1,bt193.1,bt199.1))))))) = some (r1,r2,r3,r4,r5):=h
 clear h
 replace H:=Option.bind_eq_some_iff.mp H
 obtain ⟨⟨t184,t185,t186⟩,A20,H⟩:=H
 replace H : ((spec_l01Src_code2.f t184 t185 t186).bind fun bt188=>((spec_l01Src_unit.f t184 bt188.2.2.2.1 bt188.2.2.2.2).bind fun bt193=>((spec_l01Src_n.f t184 bt193.2.1 bt193.2.2 60).bind fun bt196=>((spec_l01Src_bytes.f k t184 bt196.2.1 bt196.2.2 bt196.1).bind fun bt199=>(some (bt188.1,bt188.2.1,bt188.2.2.1,bt193.1,bt199.1)))))) = some (r1,r2,r3,r4,r5):=H
 have A2:=Aside0.mk A20
 clear A20
 replace H:=Option.bind_eq_some_iff.mp H
 obtain ⟨⟨t188,t189,t190,t191,t192⟩,A30,H⟩:=H
 replace H : ((spec_l01Src_unit.f t184 t191 t192).bind fun bt193=>((spec_l01Src_n.f t184 bt193.2.1 bt193.2.2 60).bind fun bt196=>((spec_l01Src_bytes.f k t184 bt196.2.1 bt196.2.2 bt196.1).bind fun bt199=>(some (t188,t189,t190,bt193.1,bt199.1))))) = some (r1,r2,r3,r4,r5):=H
 have A3:=Aside0.mk A30
 clear A30
 replace H:=Option.bind_eq_some_iff.mp H
 obtain ⟨⟨t193,t194,t195⟩,A40,H⟩:=H
 replace H : ((spec_l01Src_n.f t184 t194 t195 60).bind fun bt196=>((spec_l01Src_bytes.f k t184 bt196.2.1 bt196.2.2 bt196.1).bind fun bt199=>(some (t188,t189,t190,t193,bt199.1)))) = some (r1,r2,r3,r4,r5):=H
 have A4:=Aside0.mk A40
 clear A40
 replace H:=Option.bind_eq_some_iff.mp H
 obtain ⟨⟨t196,t197,t198⟩,A50,H⟩:=H
 replace H : ((spec_l01Src_bytes.f k t184 t197 t198 t196).bind fun bt199=>(some (t188,t189,t190,t193,bt199.1))) = some (r1,r2,r3,r4,r5):=H
 have A5:=Aside0.mk A50
 clear A50
 replace H:=Option.bind_eq_some_iff.mp H
 obtain ⟨⟨t199,t200,t201⟩,A60,H⟩:=H
 replace H : (some (t188,t189,t190,t193,t199)) = some (r1,r2,r3,r4,r5):=H
 have A6:=Aside0.mk A60
 clear A60
 simp only [Option.some.injEq,Prod.mk.injEq] at H
 obtain ⟨rfl,rfl,rfl,rfl,rfl⟩:=H
 go_enter Try.func28,Try.ntmps28
 go_wp2_with (first|((with_reducible refine gate_dst (N:=2) rfl ?_);refine box_event ?hg (N:=2) ?hd (cs:=#[.int .i64 0,.int .i64 0,.int .i64 0]) (t:=43) ?hr ?_;(case hd=>rfl);(case hg=>rfl);(case hr=>first|(go_simp;done)|(go_simp;rfl));intro gb183 hg w7 hbox hb;have n0_:=Aside0.mk (below_step (by repeat (first|(with_reducible first|exact HB.out|apply below_alloc|apply pw_below_drewN|apply below_drew1)|exact HB.out)) hb);have n1_:=Aside0.mk (hbox);have n2_:=Aside0.mk ((by rw [hg];exact (below_size (by repeat (first|(with_reducible first|exact HB.out|apply below_alloc|apply pw_below_drewN|apply below_drew1)|exact HB.out))) : w.heap.size ≤ gb183));have n3_:=Aside0.mk ((by rw [hg];exact (below_size (by repeat (first|(with_reducible first|exact HB.out|apply below_alloc|apply pw_below_drewN|apply below_drew1)|exact HB.out))) : w.heap.size ≤ gb183));clear HB;have HB:=n0_;have BK183:=n1_;have GW183:=n2_;have GE183:=n3_;clear n0_ n1_ n2_ n3_ hb hbox hg)|((with_reducible refine gate_callee (f:=74) rfl ?_);refine goesL_ (some 7) rfl rfl Try.func74 (by kernel_rfl) rfl #[.slice A0 l0.length c0] rfl (by (try simp only [List.map_toArray,List.map_cons,List.map_nil]);first|done|rfl) ?_;(with_reducible refine (spec_l01Source.calls _ _ l0 t184 t185 t186 w _ ?side1 ?side2 ?side3 A2.out).mono ?_);(case side1=>repeat (first|(with_reducible first|exact HB.out|apply below_alloc|apply pw_below_drewN|apply below_drew1|refine below_set ?_ GE183.out)|exact HB.out));(case side2=>exact HR0.out);(case side3=>exact HC0.out);rintro e w8 ⟨g187,rfl,hi,hb,hb2⟩;refine ⟨_,rfl,?_⟩;have n0_:=Aside0.mk (blk_below (g:=gb183) (o:=.cells #[.int .i64 0,.int .i64 0,.int .i64 0] 43 (0,0)) (by (with_reducible repeat first|refine blk_drewN ?_ _|refine blk_alloc ?_ _);exact BK183.out) hb2);have n1_:=Aside0.mk (hb);have n2_:=Aside0.mk (hi);have n3_:=Aside0.mk (IsS171.ne_blk hi (blk_below (g:=gb183) (o:=.cells #[.int .i64 0,.int .i64 0,.int .i64 0] 43 (0,0)) (by (with_reducible repeat first|refine blk_drewN ?_ _|refine blk_alloc ?_ _);exact BK183.out) hb2) (by decide));have n4_:=Aside0.mk (Ne.symm (IsS171.ne_blk hi (blk_below (g:=gb183) (o:=.cells #[.int .i64 0,.int .i64 0,.int .i64 0] 43 (0,0)) (by (with_reducible repeat first|refine blk_drewN ?_ _|refine blk_alloc ?_ _);exact BK183.out) hb2) (by decide)));clear BK183 HB;have BK183:=n0_;have HB:=n1_;have HI187:=n2_;have NB187_183:=n3_;have NB183_187:=n4_;clear n0_ n1_ n2_ n3_ n4_;(try clear hb);(try clear hb2);(try clear hk);(try clear hi))|((with_reducible refine gate_callee (f:=81) rfl ?_);refine goesL_ (some 9) rfl rfl Try.func81 (by kernel_rfl) rfl #[.pointer (some ⟨g187,0,none⟩)] rfl (by (try simp only [List.map_toArray,List.map_cons,List.map_nil]);first|done|rfl) ?_;(with_reducible refine (spec_l01Src_code2.calls g187 t184 t185 t186 t188 t189 t190 t191 t192 w _ ?side1 ?side2 A3.out).mono ?_);(case side1=>repeat (first|(with_reducible first|exact HI187.out|apply IsS171.alloc|apply IsS171.drewN|apply IsS171.set_1|apply IsS171.set_2|refine IsS171.far ?_ NB187_183.out _)|exact HI187.out));(case side2=>repeat (first|(with_reducible first|exact HB.out|apply below_alloc|apply pw_below_drewN|apply below_drew1|refine below_set ?_ (IsS171.ge HI187.out)|refine below_set ?_ GE183.out)|exact HB.out));rintro e w9 ⟨rfl,hi,hb,hk⟩;refine ⟨_,rfl,?_⟩;have n0_:=Aside0.mk (KeepBut.blk hk (g':=gb183) (o:=.cells #[.int .i64 0,.int .i64 0,.int .i64 0] 43 (0,0)) (by (with_reducible repeat first|refine blk_drewN ?_ _|refine blk_alloc ?_ _);exact BK183.out) NB183_187.out (by simp));have n1_:=Aside0.mk (hb);have n2_:=Aside0.mk (hi);clear BK183 HB HI187;have BK183:=n0_;have HB:=n1_;have HI187:=n2_;clear n0_ n1_ n2_;(try clear hb);(try clear hb2);(try clear hk);(try clear hi))|((with_reducible refine gate_callee (f:=82) rfl ?_);refine goesL_ (some 11) rfl rfl Try.func82 (by kernel_rfl) rfl #[.pointer (some ⟨g187,0,none⟩)] rfl (by (try simp only [List.map_toArray,List.map_cons,List.map_nil]);first|done|rfl) ?_;(with_reducible refine (spec_l01Src_unit.calls g187 t184 t191 t192 t193 t194 t195 w _ ?side1 ?side2 A4.out).mono ?_);(case side1=>repeat (first|(with_reducible first|exact HI187.out|apply IsS171.alloc|apply IsS171.drewN|apply IsS171.set_1|apply IsS171.set_2|refine IsS171.far ?_ NB187_183.out _)|exact HI187.out));(case side2=>repeat (first|(with_reducible first|exact HB.out|apply below_alloc|apply pw_below_drewN|apply below_drew1|refine below_set ?_ (IsS171.ge HI187.out)|refine below_set ?_ GE183.out)|exact HB.out));rintro e w10 ⟨rfl,hi,hb,hk⟩;refine ⟨_,rfl,?_⟩;have n0_:=Aside0.mk (KeepBut.blk hk (g':=gb183) (o:=.cells #[.int .i64 0,.int .i64 0,.int .i64 0] 43 (0,0)) (by (with_reducible repeat first|refine blk_drewN ?_ _|refine blk_alloc ?_ _);exact BK183.out) NB183_187.out (by simp));have n1_:=Aside0.mk (hb);have n2_:=Aside0.mk (hi);clear BK183 HB HI187;have BK183:=n0_;have HB:=n1_;have HI187:=n2_;clear n0_ n1_ n2_;(try clear hb);(try clear hb2);(try clear hk);(try clear hi))|((with_reducible refine gate_callee (f:=75) rfl ?_);refine goesL_ (some 14) rfl rfl Try.func75 (by kernel_rfl) rfl #[.pointer (some ⟨g187,0,none⟩),.int .i64 60] rfl (by (try simp only [List.map_toArray,List.map_cons,List.map_nil]);first|done|rfl) ?_;(with_reducible refine (spec_l01Src_n.calls g187 t184 t194 t195 60 t196 t197 t198 w _ ?side1 ?side2 A5.out).mono ?_);(case side1=>repeat (first|(with_reducible first|exact HI187.out|apply IsS171.alloc|apply IsS171.drewN|apply IsS171.set_1|apply IsS171.set_2|refine IsS171.far ?_ NB187_183.out _)|exact HI187.out));(case side2=>repeat (first|(with_reducible first|exact HB.out|apply below_alloc|apply pw_below_drewN|apply below_drew1|refine below_set ?_ (IsS171.ge HI187.out)|refine below_set ?_ GE183.out)|exact HB.out));rintro e w11 ⟨rfl,hi,hb,hk⟩;refine ⟨_,rfl,?_⟩;have n0_:=Aside0.mk (KeepBut.blk hk (g':=gb183) (o:=.cells #[.int .i64 0,.int .i64 0,.int .i64 0] 43 (0,0)) (by (with_reducible repeat first|refine blk_drewN ?_ _|refine blk_alloc ?_ _);exact BK183.out) NB183_187.out (by simp));have n1_:=Aside0.mk (hb);have n2_:=Aside0.mk (hi);clear BK183 HB HI187;have BK183:=n0_;have HB:=n1_;have HI187:=n2_;clear n0_ n1_ n2_;(try clear hb);(try clear hb2);(try clear hk);(try clear hi))|((with_reducible refine gate_callee (f:=83) rfl ?_);refine goesL_ (some 15) rfl rfl Try.func83 (by kernel_rfl) rfl #[.pointer (some ⟨g187,0,none⟩),.int .i64 t196] rfl (by (try simp only [List.map_toArray,List.map_cons,List.map_nil]);first|done|rfl) ?_;(with_reducible refine (spec_l01Src_bytes.calls k g187 t184 t197 t198 t196 t199 t200 t201 w _ ?side1 ?side2 A6.out).mono ?_);(case side1=>repeat (first|(with_reducible first|exact HI187.out|apply IsS171.alloc|apply IsS171.drewN|apply IsS171.set_1|apply IsS171.set_2|refine IsS171.far ?_ NB187_183.out _)|exact HI187.out));(case side2=>repeat (first|(with_reducible first|exact HB.out|apply below_alloc|apply pw_below_drewN|apply below_drew1|refine below_set ?_ (IsS171.ge HI187.out)|refine below_set ?_ GE183.out)|exact HB.out));rintro e w12 ⟨rfl,hi,hb,hk⟩;refine ⟨_,rfl,?_⟩;have n0_:=Aside0.mk (KeepBut.blk hk (g':=gb183) (o:=.cells #[.int .i64 0,.int .i64 0,.int .i64 0] 43 (0,0)) (by (with_reducible repeat first|refine blk_drewN ?_ _|refine blk_alloc ?_ _);exact BK183.out) NB183_187.out (by simp));have n1_:=Aside0.mk (hb);have n2_:=Aside0.mk (hi);clear BK183 HB HI187;have BK183:=n0_;have HB:=n1_;have HI187:=n2_;clear n0_ n1_ n2_;(try clear hb);(try clear hb2);(try clear hk);(try clear hi);have hnb13:=NB183_187.out;have hnc13:=NB187_183.out;have hcz14_0 : w12.cell? ⟨gb183,0,none⟩ = some (.int .i64 0):=(blk_cell BK183.out 0).trans rfl;have hcz14_1 : w12.cell? ⟨gb183,1,none⟩ = some (.int .i64 0):=(blk_cell BK183.out 1).trans rfl;have hcz14_2 : w12.cell? ⟨gb183,2,none⟩ = some (.int .i64 0):=(blk_cell BK183.out 2).trans rfl;have hfz14_0:=blk_frozen BK183.out 0;have hfz14_1:=blk_frozen BK183.out 1;have hfz14_2:=blk_frozen BK183.out 2))
 refine bodyPost_ret (results_ctt rfl _ _ gb183 43 #[.int .i64 t188,.int .i64 t189,.int .i64 t190] (0,0) _ rfl (by (with_reducible repeat first|refine blk_drewN ?_ _|refine blk_alloc ?_ _);refine blk_put (cs:=#[.int .i64 t188,.int .i64 t189,.int .i64 0]) ?_ 2 _ rfl;(with_reducible repeat first|refine blk_drewN ?_ _|refine blk_alloc ?_ _);refine blk_put (cs:=#[.int .i64 t188,.int .i64 0,.int .i64 0]) ?_ 1 _ rfl;(with_reducible repeat first|refine blk_drewN ?_ _|refine blk_alloc ?_ _);refine blk_put (cs:=#[.int .i64 0,.int .i64 0,.int .i64 0]) ?_ 0 _ rfl;(with_reducible repeat first|refine blk_drewN ?_ _|refine blk_alloc ?_ _);exact BK183.out) Try.underlying43 rfl (by kernel_rfl)) rfl ?_
 exact ⟨by first|rfl|(simp [errW_none,errW_some] <;> rfl)|(simp [*,errW_none,errW_some] <;> rfl),by repeat (first|(with_reducible first|exact HB.out|apply below_alloc|apply pw_below_drewN|apply below_drew1|refine below_set ?_ (IsS171.ge HI187.out)|refine below_set ?_ GE183.out)|exact HB.out)⟩

/-! ### laws_lwAt: function 29 -/
def laws_lwAt.f (l0 : List Int) (a1 : Int) : Option (Int):=if a1 < (l0.length : Int) then (if 0 ≤ a1 then (some (wrap64 (rd l0 a1))) else (none)) else (some (Int.tmod (wrap64 ((wrap64 (a1 * 61)) + 29)) 256))
set_option maxHeartbeats 8000000 in
set_option maxRecDepth 100000 in
theorem laws_lwAt.calls (A0 : Option Addr) (c0 : Nat) (l0 : List Int) (a1 : Int) (r : Int) (w : World) (hr0 : Kd.C (Kd.int .u8) w A0 l0.length l0) (hc0 : l0.length ≤ c0) (h : laws_lwAt.f l0 a1 = some r) :
  Calls Try.prog 29 #[.slice A0 l0.length c0,.int .i64 a1] w fun e w'=>e = .returned (.int .i64 r) ∧ Drawn0 w w':=by
 have HR0:=Aside0.mk hr0
 have HC0:=Aside0.mk hc0
 clear hr0 hc0
 have H : (if a1 < (l0.length : Int) then (if 0 ≤ a1 then (some (wrap64 (rd l0 a1))) else (none)) else (some (Int.tmod (wrap64 ((wrap64 (a1 * 61)) + 29)) 256))) = some r:=h
 clear h
 by_cases c3 : a1 < (l0.length : Int)
 ·rw [if_pos c3] at H
  have c3b0 : decide (a1 < (l0.length : Int)) = true:=decide_eq_true c3
  clear c3
  by_cases c4 : 0 ≤ a1
  ·rw [if_pos c4] at H
   have c4b0 : decide (0 ≤ a1) = true:=decide_eq_true c4
   clear c4
   obtain rfl:=Option.some.inj H
   have p202 : 0 ≤ (a1 : Int):=of_decide_eq_true (by first|(with_reducible assumption)|assumption)
   have q202 : a1 < (l0.length : Int):=of_decide_eq_true (by first|(with_reducible assumption)|assumption)
   obtain ⟨ad202,e202,hx202_0⟩:=Kd.at_int HR0.out a1 p202 q202
   cases e202
   replace p202:=eq_true p202
   replace q202:=eq_true q202
   go_enter Try.func29,Try.ntmps29
   go_wp2
   go_ret
   exact ⟨by first|rfl|(simp;done)|(simp [*];done),by repeat (first|exact Drawn0.refl _|apply Drawn0.step)⟩
  ·rw [if_neg c4] at H
   exact absurd H (by simp)
 ·rw [if_neg c3] at H
  have c3b0 : decide (a1 < (l0.length : Int)) = false:=decide_eq_false c3
  clear c3
  obtain rfl:=Option.some.inj H
  go_enter Try.func29,Try.ntmps29
  go_wp2
  go_ret
  exact ⟨by first|rfl|(simp;done)|(simp [*];done),by repeat (first|exact Drawn0.refl _|apply Drawn0.step)⟩

end Go.Proofs.Ytffhbpepppodeaa.PFnJoined
