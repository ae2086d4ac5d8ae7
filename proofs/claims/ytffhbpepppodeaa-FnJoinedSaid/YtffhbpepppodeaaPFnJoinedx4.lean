import Derived.Test.YtffhbpepppodeaaPFnJoinedx0
import Derived.Test.YtffhbpepppodeaaPFnJoinedx2
namespace Go.Proofs.Ytffhbpepppodeaa.PFnJoined
open Go.RowKit Go.Proofs.YtffhbpepppodeaaW.PrintWords Go.Proofs.YtffhbpepppodeaaW.PrintLast Go.Proofs.YtffhbpepppodeaaW.PrintMore
attribute [local go_sem] max2_int min2_int max_two min_two max_three min_three max_four min_four   -- for this text's walks alone
set_option linter.unusedVariables false
set_option linter.unusedSimpArgs false

/-! ### laws_lwHas: function 32 -/
def laws_lwHas.l0 : Nat → List Int → Int → Int → Option (Bool)
 | 0,_,_,_=>none
 | k + 1,x0,x1,x5=>if x5 < (x0.length : Int) then (if 0 ≤ x5 then (if (rd x0 x5) = x1 then (some true) else (laws_lwHas.l0 k x0 x1 (wrap64 (x5 + 1)))) else (none)) else (some false)
def laws_lwHas.f (k : Nat) (l0 : List Int) (a1 : Int) : Option (Bool):=laws_lwHas.l0 k l0 a1 0
theorem laws_lwHas.mono_l : ∀ k,(∀ y0 y1 y2,LeO (laws_lwHas.l0 k y0 y1 y2) (laws_lwHas.l0 (k + 1) y0 y1 y2))
 | 0=>fun _ _ _ r h=>by simp [laws_lwHas.l0] at h
 | k + 1=>by
  have ih0:=laws_lwHas.mono_l k
  ·intro y0 y1 y2
   unfold laws_lwHas.l0
   repeat' first
   | (with_reducible exact ih0 _ _ _)
   | (with_reducible exact LeO.refl _)
   | (with_reducible exact LeO.none _)
   | (with_reducible refine LeO.ite ?_ ?_)
   | (with_reducible refine LeO.bind ?_ (fun _=>?_))
   | exact ih0 _ _ _
   | exact LeO.none _
   | refine LeO.ite ?_ ?_
   | refine LeO.bind ?_ (fun _=>?_)
theorem laws_lwHas.mono : ∀ a0 a1 k,LeO (laws_lwHas.f k a0 a1) (laws_lwHas.f (k + 1) a0 a1):=by
 intro a0 a1 k
 have ih0:=laws_lwHas.mono_l k
 unfold laws_lwHas.f
 repeat' first
   | (with_reducible exact ih0 _ _ _)
   | (with_reducible exact LeO.refl _)
   | (with_reducible exact LeO.none _)
   | (with_reducible refine LeO.ite ?_ ?_)
   | (with_reducible refine LeO.bind ?_ (fun _=>?_))
   | exact ih0 _ _ _
   | exact LeO.none _
   | refine LeO.ite ?_ ?_
   | refine LeO.bind ?_ (fun _=>?_)
set_option maxHeartbeats 8000000 in
set_option maxRecDepth 100000 in
theorem laws_lwHas.calls (k : Nat) (A0 : Option Addr) (c0 : Nat) (l0 : List Int) (a1 : Int) (r : Bool) (w : World) (hr0 : Kd.C (Kd.int .i64) w A0 l0.length l0) (hc0 : l0.length ≤ c0) (h : laws_lwHas.f k l0 a1 = some r) :
  Calls Try.prog 32 #[.slice A0 l0.length c0,.int .i64 a1] w fun e w'=>e = .returned (.bool r) ∧ Drawn0 w w':=by
 have HR0:=Aside0.mk hr0
 have HC0:=Aside0.mk hc0
 clear hr0 hc0
 have H : (laws_lwHas.l0 k l0 a1 0) = some r:=h
 clear h
 have H':=Aside0.mk H
 clear H
 go_enter Try.func32,Try.ntmps32
 go_wp2
 go_loopg [5] k (fun kq v5 w'=>∃ (x5_1 : Int),v5 = .int .i64 x5_1 ∧ Aside0 (laws_lwHas.l0 kq l0 a1 x5_1 = some r) ∧ Aside0 (kq ≤ k) ∧ Drawn0 w w')
 case atStart=>exact ⟨(0),(by first|rfl|(simp;done)|(simp [*];done)),H',⟨Nat.le_refl _⟩,by repeat (first|exact Drawn0.refl _|apply Drawn0.step)⟩
 case round=>
  clear H'
  (try clear p2)
  obtain ⟨x5_1,rfl,HA,HK1,⟨m1,rfl⟩⟩:=hrel
  cases gk with
  | zero=>exact absurd HA.out (by simp [laws_lwHas.l0])
  | succ k1=>
   have H:=HA.out
   clear HA
   simp only [laws_lwHas.l0] at H
   by_cases c3 : x5_1 < (l0.length : Int)
   ·rw [if_pos c3] at H
    have c3b0 : decide (x5_1 < (l0.length : Int)) = true:=decide_eq_true c3
    clear c3
    by_cases c4 : 0 ≤ x5_1
    ·rw [if_pos c4] at H
     have c4b0 : decide (0 ≤ x5_1) = true:=decide_eq_true c4
     clear c4
     by_cases c5 : (rd l0 x5_1) = a1
     ·rw [if_pos c5] at H
      have c5b0 : ((rd l0 x5_1) == a1) = true:=beq_iff_eq.mpr c5
      have c5b1 : ((rd l0 x5_1) != a1) = false:=bne_eq_false_iff_eq.mpr c5
      clear c5
      obtain rfl:=Option.some.inj H
      have p212 : 0 ≤ (x5_1 : Int):=of_decide_eq_true (by first|(with_reducible assumption)|assumption)
      have q212 : x5_1 < (l0.length : Int):=of_decide_eq_true (by first|(with_reducible assumption)|assumption)
      obtain ⟨ad212,e212,hx212_0⟩:=Kd.at_int HR0.out x5_1 p212 q212
      cases e212
      replace p212:=eq_true p212
      replace q212:=eq_true q212
      go_wp2
      go_ret
      exact ⟨by first|rfl|(simp;done)|(simp [*];done),by repeat (first|exact Drawn0.refl _|apply Drawn0.step)⟩
     ·rw [if_neg c5] at H
      have c5b0 : ((rd l0 x5_1) == a1) = false:=beq_eq_false_iff_ne.mpr c5
      have c5b1 : ((rd l0 x5_1) != a1) = true:=bne_iff_ne.mpr c5
      have H':=Aside0.mk H
      clear H
      have p212 : 0 ≤ (x5_1 : Int):=of_decide_eq_true (by first|(with_reducible assumption)|assumption)
      have q212 : x5_1 < (l0.length : Int):=of_decide_eq_true (by first|(with_reducible assumption)|assumption)
      obtain ⟨ad212,e212,hx212_0⟩:=Kd.at_int HR0.out x5_1 p212 q212
      cases e212
      replace p212:=eq_true p212
      replace q212:=eq_true q212
      go_wp2
      go_roundg k1
      case measure=>have:=HK1.out;omega
      case rel=>exact ⟨(wrap64 (x5_1 + 1)),(by first|rfl|(simp;done)|(simp [*];done)),H',⟨by have:=HK1.out;omega⟩,by repeat (first|exact Drawn0.refl _|apply Drawn0.step)⟩
    ·rw [if_neg c4] at H
     exact absurd H (by simp)
   ·rw [if_neg c3] at H
    have c3b0 : decide (x5_1 < (l0.length : Int)) = false:=decide_eq_false c3
    clear c3
    obtain rfl:=Option.some.inj H
    go_wp2
    go_ret
    exact ⟨by first|rfl|(simp;done)|(simp [*];done),by repeat (first|exact Drawn0.refl _|apply Drawn0.step)⟩

/-! ### impl_oneLength: function 88 -/
def impl_oneLength.l0 : Nat → List ByteArray → List ByteArray → Int → Int → Option (Bool)
 | 0,_,_,_,_=>none
 | k + 1,x0,x5,x6,x7=>if x7 < x6 then (if 0 ≤ x7 then (if x7 < (x5.length : Int) then (if ((rdOf ByteArray.empty x5 x7).size : Int) < 1 then (some false) else (if ((rdOf ByteArray.empty x5 x7).size : Int) > 4096 then (some false) else (if 0 < (x0.length : Int) then (if ((rdOf ByteArray.empty x5 x7).size : Int) = ((rdOf ByteArray.empty x0 0).size : Int) then (impl_oneLength.l0 k x0 x5 x6 (wrap64 (x7 + 1))) else (some false)) else (none)))) else (none)) else (none)) else (some true)
def impl_oneLength.f (k : Nat) (l0 : List ByteArray) : Option (Bool):=impl_oneLength.l0 k l0 l0 (l0.length : Int) 0
theorem impl_oneLength.mono_l : ∀ k,(∀ y0 y1 y2 y3,LeO (impl_oneLength.l0 k y0 y1 y2 y3) (impl_oneLength.l0 (k + 1) y0 y1 y2 y3))
 | 0=>fun _ _ _ _ r h=>by simp [impl_oneLength.l0] at h
 | k + 1=>by
  have ih0:=impl_oneLength.mono_l k
  ·intro y0 y1 y2 y3
   unfold impl_oneLength.l0
   repeat' first
   | (with_reducible exact ih0 _ _ _ _)
   | (with_reducible exact LeO.refl _)
   | (with_reducible exact LeO.none _)
   | (with_reducible refine LeO.ite ?_ ?_)
   | (with_reducible refine LeO.bind ?_ (fun _=>?_))
   | exact ih0 _ _ _ _
   | exact LeO.none _
   | refine LeO.ite ?_ ?_
   | refine LeO.bind ?_ (fun _=>?_)
theorem impl_oneLength.mono : ∀ a0 k,LeO (impl_oneLength.f k a0) (impl_oneLength.f (k + 1) a0):=by
 intro a0 k
 have ih0:=impl_oneLength.mono_l k
 unfold impl_oneLength.f
 repeat' first
   | (with_reducible exact ih0 _ _ _ _)
   | (with_reducible exact LeO.refl _)
   | (with_reducible exact LeO.none _)
   | (with_reducible refine LeO.ite ?_ ?_)
   | (with_reducible refine LeO.bind ?_ (fun _=>?_))
   | exact ih0 _ _ _ _
   | exact LeO.none _
   | refine LeO.ite ?_ ?_
   | refine LeO.bind ?_ (fun _=>?_)
set_option maxHeartbeats 8000000 in
set_option maxRecDepth 100000 in
theorem impl_oneLength.calls (k : Nat) (A0 : Option Addr) (c0 : Nat) (l0 : List ByteArray) (r : Bool) (w : World) (hr0 : Kd.C Kd.string w A0 l0.length l0) (hc0 : l0.length ≤ c0) (h : impl_oneLength.f k l0 = some r) :
  Calls Try.prog 88 #[.slice A0 l0.length c0] w fun e w'=>e = .returned (.bool r) ∧ Drawn0 w w':=by
 have HR0:=Aside0.mk hr0
 have HC0:=Aside0.mk hc0
 clear hr0 hc0
 have H : (impl_oneLength.l0 k l0 l0 (l0.length : Int) 0) = some r:=h
 clear h
 have H':=Aside0.mk H
 clear H
 go_enter Try.func88,Try.ntmps88
 go_wp2
 go_loopg [7] k (fun kq v7 w'=>∃ (x7_1 : Int),v7 = .int .i64 x7_1 ∧ Aside0 (impl_oneLength.l0 kq l0 l0 (l0.length : Int) x7_1 = some r) ∧ Aside0 (kq ≤ k) ∧ Drawn0 w w')
 case atStart=>exact ⟨(0),(by first|rfl|(simp;done)|(simp [*];done)),H',⟨Nat.le_refl _⟩,by repeat (first|exact Drawn0.refl _|apply Drawn0.step)⟩
 case round=>
  clear H'
  obtain ⟨x7_1,rfl,HA,HK1,⟨m1,rfl⟩⟩:=hrel
  cases gk with
  | zero=>exact absurd HA.out (by simp [impl_oneLength.l0])
  | succ k1=>
   have H:=HA.out
   clear HA
   simp only [impl_oneLength.l0] at H
   by_cases c2 : x7_1 < (l0.length : Int)
   ·rw [if_pos c2] at H
    have c2b0 : decide (x7_1 < (l0.length : Int)) = true:=decide_eq_true c2
    clear c2
    by_cases c3 : 0 ≤ x7_1
    ·rw [if_pos c3] at H
     have c3b0 : decide (0 ≤ x7_1) = true:=decide_eq_true c3
     clear c3
     by_cases c4 : x7_1 < (l0.length : Int)
     ·rw [if_pos c4] at H
      have c4b0 : decide (x7_1 < (l0.length : Int)) = true:=decide_eq_true c4
      clear c4
      by_cases c5 : ((rdOf ByteArray.empty l0 x7_1).size : Int) < 1
      ·rw [if_pos c5] at H
       have c5b0 : decide (((rdOf ByteArray.empty l0 x7_1).size : Int) < 1) = true:=decide_eq_true c5
       have c5b1 : decide ((rdOf ByteArray.empty l0 x7_1).size < 1) = true:=decide_eq_true (by omega)
       clear c5
       obtain rfl:=Option.some.inj H
       have p213 : 0 ≤ (x7_1 : Int):=of_decide_eq_true (by first|(with_reducible assumption)|assumption)
       have q213 : x7_1 < (l0.length : Int):=of_decide_eq_true (by first|(with_reducible assumption)|assumption)
       obtain ⟨ad213,e213,hx213_0⟩:=Kd.at_string HR0.out x7_1 p213 q213
       cases e213
       replace p213:=eq_true p213
       replace q213:=eq_true q213
       go_wp2
       go_ret
       exact ⟨by first|rfl|(simp;done)|(simp [*];done),by repeat (first|exact Drawn0.refl _|apply Drawn0.step)⟩
      ·rw [if_neg c5] at H
       have c5b0 : decide (((rdOf ByteArray.empty l0 x7_1).size : Int) < 1) = false:=decide_eq_false c5
       have c5b1 : decide ((rdOf ByteArray.empty l0 x7_1).size < 1) = false:=decide_eq_false (by omega)
       clear c5
       by_cases c6 : ((rdOf ByteArray.empty l0 x7_1).size : Int) > 4096
       ·rw [if_pos c6] at H
        have c6b0 : decide (4096 < ((rdOf ByteArray.empty l0 x7_1).size : Int)) = true:=decide_eq_true c6
        have c6b1 : decide (4096 < (rdOf ByteArray.empty l0 x7_1).size) = true:=decide_eq_true (by omega)
        clear c6
        obtain rfl:=Option.some.inj H
        have p213 : 0 ≤ (x7_1 : Int):=of_decide_eq_true (by first|(with_reducible assumption)|assumption)
        have q213 : x7_1 < (l0.length : Int):=of_decide_eq_true (by first|(with_reducible assumption)|assumption)
        obtain ⟨ad213,e213,hx213_0⟩:=Kd.at_string HR0.out x7_1 p213 q213
        cases e213
        replace p213:=eq_true p213
        replace q213:=eq_true q213
        go_wp2
        go_ret
        exact ⟨by first|rfl|(simp;done)|(simp [*];done),by repeat (first|exact Drawn0.refl _|apply Drawn0.step)⟩
       ·rw [if_neg c6] at H
        have c6b0 : decide (4096 < ((rdOf ByteArray.empty l0 x7_1).size : Int)) = false:=decide_eq_false c6
        have c6b1 : decide (4096 < (rdOf ByteArray.empty l0 x7_1).size) = false:=decide_eq_false (by omega)
        clear c6
        by_cases c7 : 0 < (l0.length : Int)
        ·rw [if_pos c7] at H
         have c7b0 : decide (0 < (l0.length : Int)) = true:=decide_eq_true c7
         have c7b1 : decide (0 < l0.length) = true:=decide_eq_true (by omega)
         clear c7
         by_cases c8 : ((rdOf ByteArray.empty l0 x7_1).size : Int) = ((rdOf ByteArray.empty l0 0).size : Int)
         ·rw [if_pos c8] at H
          have c8b0 : (((rdOf ByteArray.empty l0 x7_1).size : Int) == ((rdOf ByteArray.empty l0 0).size : Int)) = true:=beq_iff_eq.mpr c8
          have c8b1 : (((rdOf ByteArray.empty l0 x7_1).size : Int) != ((rdOf ByteArray.empty l0 0).size : Int)) = false:=bne_eq_false_iff_eq.mpr c8
          have c8b2 : ((rdOf ByteArray.empty l0 x7_1).size == (rdOf ByteArray.empty l0 0).size) = true:=by first|simpa using c8|(simp at c8 ⊢;omega)
          clear c8
          have H':=Aside0.mk H
          clear H
          have p213 : 0 ≤ (x7_1 : Int):=of_decide_eq_true (by first|(with_reducible assumption)|assumption)
          have q213 : x7_1 < (l0.length : Int):=of_decide_eq_true (by first|(with_reducible assumption)|assumption)
          obtain ⟨ad213,e213,hx213_0⟩:=Kd.at_string HR0.out x7_1 p213 q213
          cases e213
          replace p213:=eq_true p213
          replace q213:=eq_true q213
          have p214 : 0 ≤ (0 : Int):=(by omega)
          have q214 : 0 < (l0.length : Int):=of_decide_eq_true (by first|(with_reducible assumption)|assumption)
          obtain ⟨ad214,e214,hx214_0⟩:=Kd.at_string HR0.out 0 p214 q214
          obtain rfl : ad213 = ad214:=(by injection e214)
          have qi214 : (0 < l0.length) = True:=eq_true (by omega)
          (try rw [show ((0 : Int)).toNat = 0 from rfl] at hx214_0)
          (try rw [Addr.add_zero'] at hx214_0)
          replace p214:=eq_true p214
          replace q214:=eq_true q214
          go_wp2
          go_roundg k1
          case measure=>have:=HK1.out;omega
          case rel=>exact ⟨(wrap64 (x7_1 + 1)),(by first|rfl|(simp;done)|(simp [*];done)),H',⟨by have:=HK1.out;omega⟩,by repeat (first|exact Drawn0.refl _|apply Drawn0.step)⟩
         ·rw [if_neg c8] at H
          have c8b0 : (((rdOf ByteArray.empty l0 x7_1).size : Int) == ((rdOf ByteArray.empty l0 0).size : Int)) = false:=beq_eq_false_iff_ne.mpr c8
          have c8b1 : (((rdOf ByteArray.empty l0 x7_1).size : Int) != ((rdOf ByteArray.empty l0 0).size : Int)) = true:=bne_iff_ne.mpr c8
          have c8b2 : ((rdOf ByteArray.empty l0 x7_1).size == (rdOf ByteArray.empty l0 0).size) = false:=by first|simpa using c8|(simp at c8 ⊢;omega)
          obtain rfl:=Option.some.inj H
          have p213 : 0 ≤ (x7_1 : Int):=of_decide_eq_true (by first|(with_reducible assumption)|assumption)
          have q213 : x7_1 < (l0.length : Int):=of_decide_eq_true (by first|(with_reducible assumption)|assumption)
          obtain ⟨ad213,e213,hx213_0⟩:=Kd.at_string HR0.out x7_1 p213 q213
          cases e213
          replace p213:=eq_true p213
          replace q213:=eq_true q213
          have p214 : 0 ≤ (0 : Int):=(by omega)
          have q214 : 0 < (l0.length : Int):=of_decide_eq_true (by first|(with_reducible assumption)|assumption)
          obtain ⟨ad214,e214,hx214_0⟩:=Kd.at_string HR0.out 0 p214 q214
          obtain rfl : ad213 = ad214:=(by injection e214)
          have qi214 : (0 < l0.length) = True:=eq_true (by omega)
          (try rw [show ((0 : Int)).toNat = 0 from rfl] at hx214_0)
          (try rw [Addr.add_zero'] at hx214_0)
          replace p214:=eq_true p214
          replace q214:=eq_true q214
          go_wp2
          go_ret
          exact ⟨by first|rfl|(simp;done)|(simp [*];done),by repeat (first|exact Drawn0.refl _|apply Drawn0.step)⟩
        ·rw [if_neg c7] at H
         exact absurd H (by simp)
     ·rw [if_neg c4] at H
      exact absurd H (by simp)
    ·rw [if_neg c3] at H
     exact absurd H (by simp)
   ·rw [if_neg c2] at H
    have c2b0 : decide (x7_1 < (l0.length : Int)) = false:=decide_eq_false c2
    clear c2
    obtain rfl:=Option.some.inj H
    go_wp2
    go_ret
    exact ⟨by first|rfl|(simp;done)|(simp [*];done),by repeat (first|exact Drawn0.refl _|apply Drawn0.step)⟩

/-! ### impl_CodeSize: function 92 -/
def impl_CodeSize.f (a0_0 : Int) (a0_1 : Int) (a0_2 : Int) : Option (Int):=(impl_CodeFault.f a0_0 a0_1 a0_2).bind fun t216=>(if t216 = 0 then (some (wrap64 ((wrap64 (a0_0 + a0_1)) + a0_2))) else (some 0))
set_option maxHeartbeats 8000000 in
set_option maxRecDepth 100000 in
theorem impl_CodeSize.calls (a0_0 : Int) (a0_1 : Int) (a0_2 : Int) (r : Int) (w : World) (h : impl_CodeSize.f a0_0 a0_1 a0_2 = some r) :
  Calls Try.prog 92 #[.agg #[.int .i64 a0_0,.int .i64 a0_1,.int .i64 a0_2]] w fun e w'=>e = .returned (.int .i64 r) ∧ Below w.heap.size w w':=by
 have hu43:=Try.underlying43
 have HB:=Aside0.mk (Below.refl w.heap.size w)
 have H : ((impl_CodeFault.f a0_0 a0_1 a0_2).bind fun t216=>(if t216 = 0 then (some (wrap64 ((wrap64 (a0_0 + a0_1)) + a0_2))) else (some 0))) = some r:=h
 clear h
 replace H:=Option.bind_eq_some_iff.mp H
 obtain ⟨t216,A20,H⟩:=H
 replace H : (if t216 = 0 then (some (wrap64 ((wrap64 (a0_0 + a0_1)) + a0_2))) else (some 0)) = some r:=H
 have A2:=Aside0.mk A20
 clear A20
 by_cases c3 : t216 = 0
 ·rw [if_pos c3] at H
  have c3b0 : (t216 == 0) = true:=beq_iff_eq.mpr c3
  have c3b1 : (t216 != 0) = false:=bne_eq_false_iff_eq.mpr c3
  clear c3
  obtain rfl:=Option.some.inj H
  go_enter Try.func92,Try.ntmps92
  go_wp2_with (first|((with_reducible refine gate_dst (N:=1) rfl ?_);refine box_event ?hg (N:=1) ?hd (cs:=#[.int .i64 a0_0,.int .i64 a0_1,.int .i64 a0_2]) (t:=43) ?hr ?_;(case hd=>rfl);(case hg=>rfl);(case hr=>first|(go_simp;done)|(go_simp;rfl));intro gb215 hg w4 hbox hb;have n0_:=Aside0.mk (below_step (by repeat (first|(with_reducible first|exact HB.out|apply below_alloc|apply pw_below_drewN|apply below_drew1)|exact HB.out)) hb);have n1_:=Aside0.mk (hbox);have n2_:=Aside0.mk ((by rw [hg];exact (below_size (by repeat (first|(with_reducible first|exact HB.out|apply below_alloc|apply pw_below_drewN|apply below_drew1)|exact HB.out))) : w.heap.size ≤ gb215));have n3_:=Aside0.mk ((by rw [hg];exact (below_size (by repeat (first|(with_reducible first|exact HB.out|apply below_alloc|apply pw_below_drewN|apply below_drew1)|exact HB.out))) : w.heap.size ≤ gb215));clear HB;have HB:=n0_;have BK215:=n1_;have GW215:=n2_;have GE215:=n3_;clear n0_ n1_ n2_ n3_ hb hbox hg;have hcz5_0 : w4.cell? ⟨gb215,0,none⟩ = some (.int .i64 a0_0):=(blk_cell BK215.out 0).trans rfl;have hcz5_1 : w4.cell? ⟨gb215,1,none⟩ = some (.int .i64 a0_1):=(blk_cell BK215.out 1).trans rfl;have hcz5_2 : w4.cell? ⟨gb215,2,none⟩ = some (.int .i64 a0_2):=(blk_cell BK215.out 2).trans rfl;have hfz5_0:=blk_frozen BK215.out 0;have hfz5_1:=blk_frozen BK215.out 1;have hfz5_2:=blk_frozen BK215.out 2)|((with_reducible refine gate_callee (f:=87) rfl ?_);refine goesL_ (some 4) rfl rfl Try.func87 (by kernel_rfl) rfl #[.agg #[.int .i64 a0_0,.int .i64 a0_1,.int .i64 a0_2]] rfl (by (try simp only [List.map_toArray,List.map_cons,List.map_nil]);first|done|rfl) ?_;(with_reducible refine (impl_CodeFault.calls a0_0 a0_1 a0_2 t216 _ A2.out).mono ?_);rintro e w6 ⟨rfl,hb⟩;refine ⟨_,rfl,?_⟩;have n0_:=Aside0.mk (blk_below (g:=gb215) (o:=.cells #[.int .i64 a0_0,.int .i64 a0_1,.int .i64 a0_2] 43 (0,0)) (by (with_reducible repeat first|refine blk_drewN ?_ _|refine blk_alloc ?_ _);exact BK215.out) hb);have n1_:=Aside0.mk (below_step (by repeat (first|(with_reducible first|exact HB.out|apply below_alloc|apply pw_below_drewN|apply below_drew1|refine below_set ?_ GE215.out)|exact HB.out)) hb);clear BK215 HB;have BK215:=n0_;have HB:=n1_;clear n0_ n1_;(try clear hb);(try clear hb2);(try clear hk);(try clear hi);have hcz7_0 : w6.cell? ⟨gb215,0,none⟩ = some (.int .i64 a0_0):=(blk_cell BK215.out 0).trans rfl;have hcz7_1 : w6.cell? ⟨gb215,1,none⟩ = some (.int .i64 a0_1):=(blk_cell BK215.out 1).trans rfl;have hcz7_2 : w6.cell? ⟨gb215,2,none⟩ = some (.int .i64 a0_2):=(blk_cell BK215.out 2).trans rfl;have hfz7_0:=blk_frozen BK215.out 0;have hfz7_1:=blk_frozen BK215.out 1;have hfz7_2:=blk_frozen BK215.out 2))
  go_ret
  exact ⟨by first|rfl|(simp [errW_none,errW_some] <;> rfl)|(simp [*,errW_none,errW_some] <;> rfl),by repeat (first|(with_reducible first|exact HB.out|apply below_alloc|apply pw_below_drewN|apply below_drew1|refine below_set ?_ GE215.out)|exact HB.out)⟩
 ·rw [if_neg c3] at H
  have c3b0 : (t216 == 0) = false:=beq_eq_false_iff_ne.mpr c3
  have c3b1 : (t216 != 0) = true:=bne_iff_ne.mpr c3
  obtain rfl:=Option.some.inj H
  go_enter Try.func92,Try.ntmps92
  go_wp2_with (first|((with_reducible refine gate_dst (N:=1) rfl ?_);refine box_event ?hg (N:=1) ?hd (cs:=#[.int .i64 a0_0,.int .i64 a0_1,.int .i64 a0_2]) (t:=43) ?hr ?_;(case hd=>rfl);(case hg=>rfl);(case hr=>first|(go_simp;done)|(go_simp;rfl));intro gb215 hg w8 hbox hb;have n0_:=Aside0.mk (below_step (by repeat (first|(with_reducible first|exact HB.out|apply below_alloc|apply pw_below_drewN|apply below_drew1)|exact HB.out)) hb);have n1_:=Aside0.mk (hbox);have n2_:=Aside0.mk ((by rw [hg];exact (below_size (by repeat (first|(with_reducible first|exact HB.out|apply below_alloc|apply pw_below_drewN|apply below_drew1)|exact HB.out))) : w.heap.size ≤ gb215));have n3_:=Aside0.mk ((by rw [hg];exact (below_size (by repeat (first|(with_reducible first|exact HB.out|apply below_alloc|apply pw_below_drewN|apply below_drew1)|exact HB.out))) : w.heap.size ≤ gb215));clear HB;have HB:=n0_;have BK215:=n1_;have GW215:=n2_;have GE215:=n3_;clear n0_ n1_ n2_ n3_ hb hbox hg;have hcz9_0 : w8.cell? ⟨gb215,0,none⟩ = some (.int .i64 a0_0):=(blk_cell BK215.out 0).trans rfl;have hcz9_1 : w8.cell? ⟨gb215,1,none⟩ = some (.int .i64 a0_1):=(blk_cell BK215.out 1).trans rfl;have hcz9_2 : w8.cell? ⟨gb215,2,none⟩ = some (.int .i64 a0_2):=(blk_cell BK215.out 2).trans rfl;have hfz9_0:=blk_frozen BK215.out 0;have hfz9_1:=blk_frozen BK215.out 1;have hfz9_2:=blk_frozen BK215.out 2)|((with_reducible refine gate_callee (f:=87) rfl ?_);refine goesL_ (some 4) rfl rfl Try.func87 (by kernel_rfl) rfl #[.agg #[.int .i64 a0_0,.int .i64 a0_1,.int .i64 a0_2]] rfl (by (try simp only [List.map_toArray,List.map_cons,List.map_nil]);first|done|rfl) ?_;(with_reducible refine (impl_CodeFault.calls a0_0 a0_1 a0_2 t216 _ A2.out).mono ?_);rintro e w10 ⟨rfl,hb⟩;refine ⟨_,rfl,?_⟩;have n0_:=Aside0.mk (blk_below (g:=gb215) (o:=.cells #[.int .i64 a0_0,.int .i64 a0_1,.int .i64 a0_2] 43 (0,0)) (by (with_reducible repeat first|refine blk_drewN ?_ _|refine blk_alloc ?_ _);exact BK215.out) hb);have n1_:=Aside0.mk (below_step (by repeat (first|(with_reducible first|exact HB.out|apply below_alloc|apply pw_below_drewN|apply below_drew1|refine below_set ?_ GE215.out)|exact HB.out)) hb);clear BK215 HB;have BK215:=n0_;have HB:=n1_;clear n0_ n1_;(try clear hb);(try clear hb2);(try clear hk);(try clear hi)))
  go_ret
  exact ⟨by first|rfl|(simp [errW_none,errW_some] <;> rfl)|(simp [*,errW_none,errW_some] <;> rfl),by repeat (first|(with_reducible first|exact HB.out|apply below_alloc|apply pw_below_drewN|apply below_drew1|refine below_set ?_ GE215.out)|exact HB.out)⟩

/-! ### impl_heldOf: function 93 -/
def impl_heldOf.l0 : Nat → List Bool → List ByteArray → List ByteArray → List (S61) → Int → Int → Option (List Bool × List ByteArray × List ByteArray)
 | 0,_,_,_,_,_,_=>none
 | k + 1,x5,x6,x7,x17,x18,x19=>if x19 < x18 then (if 0 ≤ x19 then (if x19 < (x17.length : Int) then (if x19 < (x5.length : Int) then ((some (x5.set (x19 : Int).toNat ((rd_T61 x17 x19).f0) : List Bool)).bind fun y228=>(if (rd_T61 x17 x19).f0 = true then (if x19 < (x6.length : Int) then (if x7.length < 8796093022208 then (impl_heldOf.l0 k y228 (x6.set (x19 : Int).toNat ((rd_T61 x17 x19).f1)) (x7 ++ [(rd_T61 x17 x19).f1]) x17 x18 (wrap64 (x19 + 1))) else (none)) else (none)) else (impl_heldOf.l0 k y228 x6 x7 x17 x18 (wrap64 (x19 + 1))))) else (none)) else (none)) else (none)) else (some (x5,x6,x7))
def impl_heldOf.f (k : Nat) (l0 : List (S61)) : Option (List Bool × List ByteArray × List ByteArray):=if 0 ≤ (l0.length : Int) then (if ((l0.length : Int) : Int).toNat ≤ 281474976710656 then (if ((l0.length : Int) : Int).toNat ≤ 17592186044416 then (impl_heldOf.l0 k (List.replicate ((l0.length : Int) : Int).toNat false) (List.replicate ((l0.length : Int) : Int).toNat (⟨#[]⟩ : ByteArray)) (([] : List ByteArray)) l0 (l0.length : Int) 0) else (none)) else (none)) else (none)
theorem impl_heldOf.mono_l : ∀ k,(∀ y0 y1 y2 y3 y4 y5,LeO (impl_heldOf.l0 k y0 y1 y2 y3 y4 y5) (impl_heldOf.l0 (k + 1) y0 y1 y2 y3 y4 y5))
 | 0=>fun _ _ _ _ _ _ r h=>by simp [impl_heldOf.l0] at h
 | k + 1=>by
  have ih0:=impl_heldOf.mono_l k
  ·intro y0 y1 y2 y3 y4 y5
   unfold impl_heldOf.l0
   repeat' first
   | (with_reducible exact ih0 _ _ _ _ _ _)
   | (with_reducible exact LeO.refl _)
   | (with_reducible exact LeO.none _)
   | (with_reducible refine LeO.ite ?_ ?_)
   | (with_reducible refine LeO.bind ?_ (fun _=>?_))
   | exact ih0 _ _ _ _ _ _
   | exact LeO.none _
   | refine LeO.ite ?_ ?_
   | refine LeO.bind ?_ (fun _=>?_)
theorem impl_heldOf.mono : ∀ a0 k,LeO (impl_heldOf.f k a0) (impl_heldOf.f (k + 1) a0):=by
 intro a0 k
 have ih0:=impl_heldOf.mono_l k
 unfold impl_heldOf.f
 repeat' first
   | (with_reducible exact ih0 _ _ _ _ _ _)
   | (with_reducible exact LeO.refl _)
   | (with_reducible exact LeO.none _)
   | (with_reducible refine LeO.ite ?_ ?_)
   | (with_reducible refine LeO.bind ?_ (fun _=>?_))
   | exact ih0 _ _ _ _ _ _
   | exact LeO.none _
   | refine LeO.ite ?_ ?_
   | refine LeO.bind ?_ (fun _=>?_)
set_option maxHeartbeats 8000000 in
set_option maxRecDepth 100000 in
theorem impl_heldOf.calls (k : Nat) (A0 : Option Addr) (c0 : Nat) (l0 : List (S61)) (r1 : List Bool) (r2 : List ByteArray) (r3 : List ByteArray) (w : World) (hr0 : Kd.C k61 w A0 l0.length l0) (hc0 : l0.length ≤ c0) (h : impl_heldOf.f k l0 = some (r1,r2,r3)) :
  Calls Try.prog 93 #[.slice A0 l0.length c0] w fun e w'=>∃ v0_ v1_ v2_ : Value,e = .returned (.tuple #[v0_,v1_,v2_]) ∧ Kd.R Kd.bool 4 w' w.heap.size (fun _=>True) v0_ r1 ∧ Kd.R Kd.string 9 w' w.heap.size (fun k_=>some k_ ≠ (v2_ : Value).ownBlock) v1_ r2 ∧ Kd.R Kd.string 9 w' w.heap.size (fun k_=>some k_ ≠ (v1_ : Value).ownBlock) v2_ r3 ∧ Below w.heap.size w w':=by
 have hu61:=Try.underlying61
 have HR0:=Aside0.mk hr0
 have HC0:=Aside0.mk hc0
 clear hr0 hc0
 have HB:=Aside0.mk (Below.refl w.heap.size w)
 have H : (if 0 ≤ (l0.length : Int) then (if ((l0.length : Int) : Int).toNat ≤ 281474976710656 then (if ((l0.length : Int) : Int).toNat ≤ 17592186044416 then (impl_heldOf.l0 k (List.replicate ((l0.length : Int) : Int).toNat false) (List.replicate ((l0.length : Int) : Int).toNat (⟨#[]⟩ : ByteArray)) (([] : List ByteArray)) l0 (l0.length : Int) 0) else (none)) else (none)) else (none)) = some (r1,r2,r3):=h
 clear h
 by_cases c2 : 0 ≤ (l0.length : Int)
 ·rw [if_pos c2] at H
  have c2b0:=eq_true c2
  have c2b1 : decide (0 ≤ (l0.length : Int)) = true:=decide_eq_true c2
  clear c2
  by_cases c3 : ((l0.length : Int) : Int).toNat ≤ 281474976710656
  ·rw [if_pos c3] at H
   have c3b0:=eq_true c3
   have c3b1 : decide (((l0.length : Int) : Int).toNat ≤ 281474976710656) = true:=decide_eq_true c3
   clear c3
   obtain ⟨y217,hy217⟩ : ∃ y_ : List Bool,y_ = (List.replicate ((l0.length : Int) : Int).toNat false):=⟨_,rfl⟩
   replace H : (if ((l0.length : Int) : Int).toNat ≤ 17592186044416 then (impl_heldOf.l0 k y217 (List.replicate ((l0.length : Int) : Int).toNat (⟨#[]⟩ : ByteArray)) (([] : List ByteArray)) l0 (l0.length : Int) 0) else (none)) = some (r1,r2,r3):=by first|(rw [hy217];with_reducible exact H)|(have H2_:=(Option.bind_some _ _).symm.trans H;rw [hy217];with_reducible exact H2_)|(have H2_:=(Option.bind_some _ _).symm.trans H;with_reducible exact H2_)|with_reducible exact H|(rw [hy217];exact H)|exact H
   have Ny217:=Aside0.mk hy217
   clear hy217
   by_cases c4 : ((l0.length : Int) : Int).toNat ≤ 17592186044416
   ·rw [if_pos c4] at H
    have c4b0:=eq_true c4
    have c4b1 : decide (((l0.length : Int) : Int).toNat ≤ 17592186044416) = true:=decide_eq_true c4
    clear c4
    obtain ⟨y220,hy220⟩ : ∃ y_ : List ByteArray,y_ = (List.replicate ((l0.length : Int) : Int).toNat (⟨#[]⟩ : ByteArray)):=⟨_,rfl⟩
    replace H : (impl_heldOf.l0 k y217 y220 (([] : List ByteArray)) l0 (l0.length : Int) 0) = some (r1,r2,r3):=by first|(rw [hy220];with_reducible exact H)|(have H2_:=(Option.bind_some _ _).symm.trans H;rw [hy220];with_reducible exact H2_)|(have H2_:=(Option.bind_some _ _).symm.trans H;with_reducible exact H2_)|with_reducible exact H|(rw [hy220];exact H)|exact H
    have Ny220:=Aside0.mk hy220
    clear hy220
    obtain ⟨y223,hy223⟩ : ∃ y_ : List ByteArray,y_ = (([] : List ByteArray)):=⟨_,rfl⟩
    replace H : (impl_heldOf.l0 k y217 y220 y223 l0 (l0.length : Int) 0) = some (r1,r2,r3):=by first|(rw [hy223];with_reducible exact H)|(have H2_:=(Option.bind_some _ _).symm.trans H;rw [hy223];with_reducible exact H2_)|(have H2_:=(Option.bind_some _ _).symm.trans H;with_reducible exact H2_)|with_reducible exact H|(rw [hy223];exact H)|exact H
    have Ny223:=Aside0.mk hy223
    clear hy223
    have H':=Aside0.mk H
    clear H
    go_enter Try.func93,Try.ntmps93
    go_wp2_with (first|((with_reducible refine gate_dst (N:=12) rfl ?_);refine Kd.R_make Kd.bool _ 4 rfl (N:=12) rfl 72 _ _ rfl (l0.length : Int) rfl rfl Try.underlying72 (.bool false) 1 info4 rfl (by decide) (by omega) false (ok:=fun _=>True) (okp:=fun _=>True) rfl (fun _ hk=>hk) trivial (of_decide_eq_true (by first|(with_reducible assumption)|assumption)) (Nat.le_trans (Nat.mul_le_mul_right _ (of_decide_eq_true (by first|(with_reducible assumption)|assumption) : (l0.length : Int).toNat ≤ 281474976710656)) (by omega)) (Below.refl _ _) (Nat.le_refl _) ?_;intro v218 w5 ho6 hb hg_ hnew_;clear hg_ hnew_;(first|rw [← Ny217.out] at ho6|(simp only [Int.reduceToNat] at ho6;rw [← Ny217.out] at ho6));have n0_:=Aside0.mk (Kd.R_lower ho6 (below_size (by repeat (first|(with_reducible first|exact HB.out|apply below_alloc|apply pw_below_drewN|apply below_drew1)|exact HB.out))));have n1_:=Aside0.mk (below_step (by repeat (first|(with_reducible first|exact HB.out|apply below_alloc|apply pw_below_drewN|apply below_drew1)|exact HB.out)) hb);clear HB;have HO219:=n0_;have HB:=n1_;clear n0_ n1_ hb ho6)|((with_reducible refine gate_dst (N:=15) rfl ?_);refine Kd.R_make Kd.string _ 9 rfl (N:=15) rfl 56 _ _ rfl (l0.length : Int) rfl rfl Try.underlying56 (.string ⟨#[]⟩) 16 info9 rfl (by decide) (by omega) (⟨#[]⟩ : ByteArray) (ok:=fun _=>True) (okp:=fun _=>True) rfl (fun _ hk=>hk) trivial (of_decide_eq_true (by first|(with_reducible assumption)|assumption)) (Nat.le_trans (Nat.mul_le_mul_right _ (of_decide_eq_true (by first|(with_reducible assumption)|assumption) : (l0.length : Int).toNat ≤ 17592186044416)) (by omega)) (Below.refl _ _) (Nat.le_refl _) ?_;intro v221 w7 ho8 hb hg_ hnew_;clear hg_ hnew_;(first|rw [← Ny220.out] at ho8|(simp only [Int.reduceToNat] at ho8;rw [← Ny220.out] at ho8));have n0_:=Aside0.mk (Kd.R_below (by (with_reducible repeat (first|apply Kd.R_alloc|apply Kd.R_drewN));exact HO219.out) hb);have n1_:=Aside0.mk (Kd.R_lower ho8 (below_size (by repeat (first|(with_reducible first|exact HB.out|apply below_alloc|apply pw_below_drewN|apply below_drew1)|exact HB.out))));have n2_:=Aside0.mk (below_step (by repeat (first|(with_reducible first|exact HB.out|apply below_alloc|apply pw_below_drewN|apply below_drew1)|exact HB.out)) hb);clear HO219 HB;have HO219:=n0_;have HO222:=n1_;have HB:=n2_;clear n0_ n1_ n2_ hb ho8)|((with_reducible refine gate_dst (N:=16) rfl ?_);refine Kd.R_lit Kd.string _ 9 ?hg (N:=16) ?hd (xs:=([] : List ByteArray)) (inner:=[]) (ok:=fun _=>True) (okp:=fun _=>True) ?hr ?hp (fun _ hk=>hk) trivial (Below.refl _ _) (Nat.le_refl _) (by simp) ?_;(case hd=>rfl);(case hg=>rfl);(case hr=>first|(go_simp;done)|(go_simp;rfl));(case hp=>exact (Reps.none _ _));intro v224 w9 ho10 hb hg_ hnew_;clear hg_ hnew_;(first|rw [← Ny223.out] at ho10|(simp only [Int.reduceToNat] at ho10;rw [← Ny223.out] at ho10));have n0_:=Aside0.mk (Kd.R_below (by (with_reducible repeat (first|apply Kd.R_alloc|apply Kd.R_drewN));exact HO219.out) hb);have n1_:=Aside0.mk (Kd.R_elder' (by (with_reducible repeat (first|apply Kd.R_alloc|apply Kd.R_drewN));exact HO222.out) (Kd.R_base ho10) hb);have n2_:=Aside0.mk (Kd.R_lower (Kd.R_new' ho10 (Kd.R_lt (by (with_reducible repeat (first|apply Kd.R_alloc|apply Kd.R_drewN));exact HO222.out))) (below_size (by repeat (first|(with_reducible first|exact HB.out|apply below_alloc|apply pw_below_drewN|apply below_drew1)|exact HB.out))));have n3_:=Aside0.mk (below_step (by repeat (first|(with_reducible first|exact HB.out|apply below_alloc|apply pw_below_drewN|apply below_drew1)|exact HB.out)) hb);clear HO219 HO222 HB;have HO219:=n0_;have HO222:=n1_;have HO225:=n2_;have HB:=n3_;clear n0_ n1_ n2_ n3_ hb ho10))
    go_loopg [7,19] k (fun kq v7 v19 w'=>∃ (x5_1 : List Bool) (x6_1 : List ByteArray) (x7_1 : List ByteArray) (x19_1 : Int),v19 = .int .i64 x19_1 ∧ Aside0 (impl_heldOf.l0 kq x5_1 x6_1 x7_1 l0 (l0.length : Int) x19_1 = some (r1,r2,r3)) ∧ Aside0 (kq ≤ k) ∧ Aside0 (Kd.R Kd.bool 4 w' w.heap.size (fun _=>True) v218 x5_1) ∧ Aside0 (Kd.R Kd.string 9 w' w.heap.size (fun k_=>some k_ ≠ (v7 : Value).ownBlock) v221 x6_1) ∧ Aside0 (Kd.R Kd.string 9 w' w.heap.size (fun k_=>some k_ ≠ (v221 : Value).ownBlock) v7 x7_1) ∧ Aside0 (Below w.heap.size w w'))
    case atStart=>exact ⟨(y217),(y220),(y223),(0),(by first|rfl|(simp;done)|(simp [*];done)),H',⟨Nat.le_refl _⟩,⟨by (with_reducible repeat (first|apply Kd.R_alloc|apply Kd.R_drewN));exact HO219.out⟩,⟨by (with_reducible repeat (first|apply Kd.R_alloc|apply Kd.R_drewN));exact Kd.R_mono HO222.out (fun _ hk=>hk.2)⟩,⟨by (with_reducible repeat (first|apply Kd.R_alloc|apply Kd.R_drewN));exact Kd.R_mono HO225.out (fun _ hk=>hk.2)⟩,⟨by repeat (first|(with_reducible first|exact HB.out|apply below_alloc|apply pw_below_drewN|apply below_drew1)|exact HB.out)⟩⟩
    case round=>
     clear H'
     (try clear c2);(try clear c2b0);(try clear c2b1);(try clear p2);(try clear c3);(try clear c3b0);(try clear c3b1);(try clear c4);(try clear c4b0);(try clear c4b1);(try clear c9)
     obtain ⟨x5_1,x6_1,x7_1,x19_1,rfl,HA,HK1,HO_5,HO_6,HO_7,HB⟩:=hrel
     cases gk with
     | zero=>exact absurd HA.out (by simp [impl_heldOf.l0])
     | succ k1=>
      have H:=HA.out
      clear HA
      simp only [impl_heldOf.l0] at H
      by_cases c11 : x19_1 < (l0.length : Int)
      ·rw [if_pos c11] at H
       have c11b0 : decide (x19_1 < (l0.length : Int)) = true:=decide_eq_true c11
       clear c11
       by_cases c12 : 0 ≤ x19_1
       ·rw [if_pos c12] at H
        have c12b0 : decide (0 ≤ x19_1) = true:=decide_eq_true c12
        clear c12
        by_cases c13 : x19_1 < (l0.length : Int)
        ·rw [if_pos c13] at H
         have c13b0 : decide (x19_1 < (l0.length : Int)) = true:=decide_eq_true c13
         clear c13
         by_cases c14 : x19_1 < (x5_1.length : Int)
         ·rw [if_pos c14] at H
          have c14b0 : decide (x19_1 < (x5_1.length : Int)) = true:=decide_eq_true c14
          clear c14
          obtain ⟨y228,hy228⟩ : ∃ y_ : List Bool,y_ = (x5_1.set (x19_1 : Int).toNat ((rd_T61 l0 x19_1).f0)):=⟨_,rfl⟩
          replace H : (if (rd_T61 l0 x19_1).f0 = true then (if x19_1 < (x6_1.length : Int) then (if x7_1.length < 8796093022208 then (impl_heldOf.l0 k1 y228 (x6_1.set (x19_1 : Int).toNat ((rd_T61 l0 x19_1).f1)) (x7_1 ++ [(rd_T61 l0 x19_1).f1]) l0 (l0.length : Int) (wrap64 (x19_1 + 1))) else (none)) else (none)) else (impl_heldOf.l0 k1 y228 x6_1 x7_1 l0 (l0.length : Int) (wrap64 (x19_1 + 1)))) = some (r1,r2,r3):=by first|(rw [hy228];with_reducible exact H)|(have H2_:=(Option.bind_some _ _).symm.trans H;rw [hy228];with_reducible exact H2_)|(have H2_:=(Option.bind_some _ _).symm.trans H;with_reducible exact H2_)|with_reducible exact H|(rw [hy228];exact H)|exact H
          have Ny228:=Aside0.mk hy228
          clear hy228
          obtain ⟨bq16,hbq16⟩ : ∃ b_ : Bool,b_ = ((rd_T61 l0 x19_1).f0):=⟨_,rfl⟩
          replace H : (if bq16 = true then (if x19_1 < (x6_1.length : Int) then (if x7_1.length < 8796093022208 then (impl_heldOf.l0 k1 y228 (x6_1.set (x19_1 : Int).toNat ((rd_T61 l0 x19_1).f1)) (x7_1 ++ [(rd_T61 l0 x19_1).f1]) l0 (l0.length : Int) (wrap64 (x19_1 + 1))) else (none)) else (none)) else (impl_heldOf.l0 k1 y228 x6_1 x7_1 l0 (l0.length : Int) (wrap64 (x19_1 + 1)))) = some (r1,r2,r3):=by rw [← hbq16] at H;exact H
          have Nbq16:=Aside0.mk hbq16
          clear hbq16
          by_cases c17 : bq16 = true
          ·subst c17
           have H1 : (if x19_1 < (x6_1.length : Int) then (if x7_1.length < 8796093022208 then (impl_heldOf.l0 k1 y228 (x6_1.set (x19_1 : Int).toNat ((rd_T61 l0 x19_1).f1)) (x7_1 ++ [(rd_T61 l0 x19_1).f1]) l0 (l0.length : Int) (wrap64 (x19_1 + 1))) else (none)) else (none)) = some (r1,r2,r3):=by rw [if_pos rfl] at H;exact H
           clear H
           have H:=H1
           clear H1
           by_cases c18 : x19_1 < (x6_1.length : Int)
           ·rw [if_pos c18] at H
            have c18b0 : decide (x19_1 < (x6_1.length : Int)) = true:=decide_eq_true c18
            clear c18
            obtain ⟨y229,hy229⟩ : ∃ y_ : List ByteArray,y_ = (x6_1.set (x19_1 : Int).toNat ((rd_T61 l0 x19_1).f1)):=⟨_,rfl⟩
            replace H : (if x7_1.length < 8796093022208 then (impl_heldOf.l0 k1 y228 y229 (x7_1 ++ [(rd_T61 l0 x19_1).f1]) l0 (l0.length : Int) (wrap64 (x19_1 + 1))) else (none)) = some (r1,r2,r3):=by first|(rw [hy229];with_reducible exact H)|(have H2_:=(Option.bind_some _ _).symm.trans H;rw [hy229];with_reducible exact H2_)|(have H2_:=(Option.bind_some _ _).symm.trans H;with_reducible exact H2_)|with_reducible exact H|(rw [hy229];exact H)|exact H
            have Ny229:=Aside0.mk hy229
            clear hy229
            by_cases c20 : x7_1.length < 8796093022208
            ·rw [if_pos c20] at H
             have LMc20:=Aside0.mk c20
             clear c20
             obtain ⟨y230,hy230⟩ : ∃ y_ : List ByteArray,y_ = (x7_1 ++ [(rd_T61 l0 x19_1).f1]):=⟨_,rfl⟩
             replace H : (impl_heldOf.l0 k1 y228 y229 y230 l0 (l0.length : Int) (wrap64 (x19_1 + 1))) = some (r1,r2,r3):=by first|(rw [hy230];with_reducible exact H)|(have H2_:=(Option.bind_some _ _).symm.trans H;rw [hy230];with_reducible exact H2_)|(have H2_:=(Option.bind_some _ _).symm.trans H;with_reducible exact H2_)|with_reducible exact H|(rw [hy230];exact H)|exact H
             have Ny230:=Aside0.mk hy230
             clear hy230
             have H':=Aside0.mk H
             clear H
             have p226 : 0 ≤ (x19_1 : Int):=of_decide_eq_true (by first|(with_reducible assumption)|assumption)
             have q226 : x19_1 < (l0.length : Int):=of_decide_eq_true (by first|(with_reducible assumption)|assumption)
             obtain ⟨ad226,e226,hx226_0,hx226_1⟩:=at_T61 HR0.out x19_1 p226 q226
             (try rw [← Nbq16.out] at hx226_0)
             cases e226
             replace hx226_0:=(HB.out.cell (World.block_lt_of_cell? w _ hx226_0)).trans hx226_0
             replace hx226_1:=(HB.out.cell (World.block_lt_of_cell? w _ hx226_1)).trans hx226_1
             replace p226:=eq_true p226
             replace q226:=eq_true q226
             go_wp2_with (first|((with_reducible refine gate_dst (N:=9) rfl ?_);refine box_event ?hg (N:=9) ?hd (cs:=#[.bool false,.string (⟨#[]⟩ : ByteArray)]) (t:=61) ?hr ?_;(case hd=>rfl);(case hg=>rfl);(case hr=>first|(go_simp;done)|(go_simp;rfl));intro gb227 hg w21 hbox hb;have n0_:=Aside0.mk (Kd.R_below (by (with_reducible repeat (first|apply Kd.R_alloc|apply Kd.R_drewN));exact HO_5.out) hb);have n1_:=Aside0.mk (Kd.R_below (by (with_reducible repeat (first|apply Kd.R_alloc|apply Kd.R_drewN));exact HO_6.out) hb);have n2_:=Aside0.mk (Kd.R_below (by (with_reducible repeat (first|apply Kd.R_alloc|apply Kd.R_drewN));exact HO_7.out) hb);have n3_:=Aside0.mk (below_step (by repeat (first|(with_reducible first|exact HB.out|apply below_alloc|apply pw_below_drewN|apply below_drew1)|exact HB.out)) hb);have n4_:=Aside0.mk (hbox);have n5_:=Aside0.mk ((by rw [hg];exact (below_size (by repeat (first|(with_reducible first|exact HB.out|apply below_alloc|apply pw_below_drewN|apply below_drew1)|exact HB.out))) : w.heap.size ≤ gb227));have n6_:=Aside0.mk ((by rw [hg];exact (below_size (by repeat (first|(with_reducible first|exact HB.out|apply below_alloc|apply pw_below_drewN|apply below_drew1)|exact HB.out))) : w.heap.size ≤ gb227));clear HO_5 HO_6 HO_7 HB;have HO_5:=n0_;have HO_6:=n1_;have HO_7:=n2_;have HB:=n3_;have BK227:=n4_;have GW227:=n5_;have GE227:=n6_;clear n0_ n1_ n2_ n3_ n4_ n5_ n6_ hb hbox hg;have hcz22_0 : w21.cell? ⟨gb227,0,none⟩ = some (.bool false):=(blk_cell BK227.out 0).trans rfl;have hcz22_1 : w21.cell? ⟨gb227,1,none⟩ = some (.string (⟨#[]⟩ : ByteArray)):=(blk_cell BK227.out 1).trans rfl;have hfz22_0:=blk_frozen BK227.out 0;have hfz22_1:=blk_frozen BK227.out 1)|((with_reducible refine gate_store (t:=61) (p:=9) rfl ?_);refine store_event (t:=61) (p:=9) (v:=?vo_w23) (w1:=((w21.setCell ⟨gb227,0,none⟩ (.bool true)).setCell ⟨gb227,1,none⟩ (.string ((rd_T61 l0 x19_1).f1)))) ?hg ?ho ?hn ?hr ?_;(case ho=>rfl);(case hg=>rfl);(case hn=>rfl);(case hr=>first|(go_simp;done)|(go_simp;rfl));intro w23 hw;have n0_ : Aside0 (Kd.R Kd.bool 4 w23 w.heap.size (fun _=>True) v218 x5_1):=⟨(by rw [hw];exact (by (with_reducible repeat (first|apply Kd.R_alloc|apply Kd.R_drewN));exact Kd.R_mono (Kd.R_far (p:=⟨gb227,1,none⟩) (Kd.R_far (p:=⟨gb227,0,none⟩) (Kd.R_types HO_5.out BK227.out (by decide)) (fun _ hk=>hk.2) (.bool true)) (fun _ hk=>hk.2) (.string ((rd_T61 l0 x19_1).f1))) (fun _ hk=>trivial)))⟩;have n1_ : Aside0 (Kd.R Kd.string 9 w23 w.heap.size (fun k_=>some k_ ≠ (u7 : Value).ownBlock) v221 x6_1):=⟨(by rw [hw];exact (by (with_reducible repeat (first|apply Kd.R_alloc|apply Kd.R_drewN));exact Kd.R_mono (Kd.R_far (p:=⟨gb227,1,none⟩) (Kd.R_far (p:=⟨gb227,0,none⟩) (Kd.R_types HO_6.out BK227.out (by decide)) (fun _ hk=>hk.2) (.bool true)) (fun _ hk=>hk.2) (.string ((rd_T61 l0 x19_1).f1))) (fun _ hk=>hk.1)))⟩;have n2_ : Aside0 (Kd.R Kd.string 9 w23 w.heap.size (fun k_=>some k_ ≠ (v221 : Value).ownBlock) u7 x7_1):=⟨(by rw [hw];exact (by (with_reducible repeat (first|apply Kd.R_alloc|apply Kd.R_drewN));exact Kd.R_mono (Kd.R_far (p:=⟨gb227,1,none⟩) (Kd.R_far (p:=⟨gb227,0,none⟩) (Kd.R_types HO_7.out BK227.out (by decide)) (fun _ hk=>hk.2) (.bool true)) (fun _ hk=>hk.2) (.string ((rd_T61 l0 x19_1).f1))) (fun _ hk=>hk.1)))⟩;have n3_ : Aside0 (w23.heap[gb227]? = some (.cells #[.bool true,.string ((rd_T61 l0 x19_1).f1)] 61 (0,0))):=⟨(by rw [hw];exact (by (with_reducible repeat first|refine blk_drewN ?_ _|refine blk_alloc ?_ _);refine blk_put (cs:=#[.bool true,.string (⟨#[]⟩ : ByteArray)]) ?_ 1 _ rfl;(with_reducible repeat first|refine blk_drewN ?_ _|refine blk_alloc ?_ _);refine blk_put (cs:=#[.bool false,.string (⟨#[]⟩ : ByteArray)]) ?_ 0 _ rfl;(with_reducible repeat first|refine blk_drewN ?_ _|refine blk_alloc ?_ _);exact BK227.out))⟩;have n4_ : Aside0 (Below w.heap.size w w23):=⟨(by rw [hw];exact (by repeat (first|(with_reducible first|exact HB.out|apply below_alloc|apply pw_below_drewN|apply below_drew1|refine below_set ?_ GE227.out)|exact HB.out)))⟩;clear hw HO_5 HO_6 HO_7 BK227 HB;have HO_5:=n0_;have HO_6:=n1_;have HO_7:=n2_;have BK227:=n3_;have HB:=n4_;clear n0_ n1_ n2_ n3_ n4_;have hcz24_0 : w23.cell? ⟨gb227,0,none⟩ = some (.bool true):=(blk_cell BK227.out 0).trans rfl;have hcz24_1 : w23.cell? ⟨gb227,1,none⟩ = some (.string ((rd_T61 l0 x19_1).f1)):=(blk_cell BK227.out 1).trans rfl;have hfz24_0:=blk_frozen BK227.out 0;have hfz24_1:=blk_frozen BK227.out 1;have p15 : 0 ≤ (x19_1 : Int):=of_decide_eq_true (by first|(with_reducible assumption)|assumption);have q15 : (x19_1 : Int) < ((x5_1.length : Int) : Int):=of_decide_eq_true (by first|(with_reducible assumption)|assumption);obtain ⟨go15,co15,eo15,gb15,gl15,cl15,HG15⟩:=Kd.R_form HO_5.out (by omega);(first|cases eo15|(injection eo15 with ea_ en_ ec_;(first|subst ea_|(injection ea_ with ea_;subst ea_));subst ec_;clear en_));have GB15:=Aside0.mk gb15;have GG15:=Aside0.mk HG15;clear gb15 gl15 HG15;obtain ⟨hx15_0,hf15_0⟩:=Kd.R_celln false HO_5.out (x19_1 : Int) p15 q15;replace p15:=eq_true p15;replace q15:=eq_true q15;obtain ⟨hy25_,hz25_⟩:=Kd.R_celln false HO_5.out (x19_1 : Int) (of_decide_eq_true (by first|(with_reducible assumption)|assumption)) (of_decide_eq_true (by first|(with_reducible assumption)|assumption));have HP25:=Kd.R_putg HO_5.out (x19_1 : Int) true)|((with_reducible refine gate_store (t:=4) (p:=28) rfl ?_);refine store_event (t:=4) (p:=28) (v:=?vo_w26) (w1:=(w23.setCell ⟨go15,(x19_1 : Int).toNat,none⟩ (.bool true))) ?hg ?ho ?hn ?hr ?_;(case ho=>rfl);(case hg=>rfl);(case hn=>rfl);(case hr=>first|(go_simp;done)|(go_simp;rfl));intro w26 hw;have hg : w23.grownBy w26 (some go15):=(by rw [hw];exact HP25.2);have hp_ : Kd.R Kd.bool 4 w26 w.heap.size (fun _=>True) (.slice (some ⟨go15,0,none⟩) x5_1.length co15) y228:=(by rw [hw,Ny228.out];(try rw [← Nbq16.out]);exact HP25.1);clear HP25;have n0_:=Aside0.mk (hp_);have n1_:=Aside0.mk (Kd.R_over' (v:=(.slice (some ⟨go15,0,none⟩) x5_1.length co15)) (by (with_reducible repeat (first|apply Kd.R_alloc|apply Kd.R_drewN));exact HO_6.out) (Kd.R_typed HO_5.out) (by decide) hg);have n2_:=Aside0.mk (Kd.R_over' (v:=(.slice (some ⟨go15,0,none⟩) x5_1.length co15)) (by (with_reducible repeat (first|apply Kd.R_alloc|apply Kd.R_drewN));exact HO_7.out) (Kd.R_typed HO_5.out) (by decide) hg);have n3_:=Aside0.mk (blk_grown (g:=gb227) (o:=.cells #[.bool true,.string ((rd_T61 l0 x19_1).f1)] 61 (0,0)) (by (with_reducible repeat first|refine blk_drewN ?_ _|refine blk_alloc ?_ _);exact BK227.out) hg (Kd.R_ne HO_5.out BK227.out (by decide)));have n4_:=Aside0.mk ((by rw [hw];exact below_set (HB.out) GB15.out : Below w.heap.size w w26));clear HO_5 HO_6 HO_7 BK227 HB;have HO_5:=n0_;have HO_6:=n1_;have HO_7:=n2_;have BK227:=n3_;have HB:=n4_;clear n0_ n1_ n2_ n3_ n4_ hg hw hp_;have hcz27_0 : w26.cell? ⟨gb227,0,none⟩ = some (.bool true):=(blk_cell BK227.out 0).trans rfl;have hcz27_1 : w26.cell? ⟨gb227,1,none⟩ = some (.string ((rd_T61 l0 x19_1).f1)):=(blk_cell BK227.out 1).trans rfl;have hfz27_0:=blk_frozen BK227.out 0;have hfz27_1:=blk_frozen BK227.out 1;have p19 : 0 ≤ (x19_1 : Int):=of_decide_eq_true (by first|(with_reducible assumption)|assumption);have q19 : (x19_1 : Int) < ((x6_1.length : Int) : Int):=of_decide_eq_true (by first|(with_reducible assumption)|assumption);obtain ⟨go19,co19,eo19,gb19,gl19,cl19,HG19⟩:=Kd.R_form HO_6.out (by omega);(first|cases eo19|(injection eo19 with ea_ en_ ec_;(first|subst ea_|(injection ea_ with ea_;subst ea_));subst ec_;clear en_));have GB19:=Aside0.mk gb19;have GG19:=Aside0.mk HG19;clear gb19 gl19 HG19;obtain ⟨hx19_0,hf19_0⟩:=Kd.R_celln (⟨#[]⟩ : ByteArray) HO_6.out (x19_1 : Int) p19 q19;replace p19:=eq_true p19;replace q19:=eq_true q19;obtain ⟨hy28_,hz28_⟩:=Kd.R_celln (⟨#[]⟩ : ByteArray) HO_6.out (x19_1 : Int) (of_decide_eq_true (by first|(with_reducible assumption)|assumption)) (of_decide_eq_true (by first|(with_reducible assumption)|assumption));have HP28:=Kd.R_putg HO_6.out (x19_1 : Int) ((rd_T61 l0 x19_1).f1))|((with_reducible refine gate_store (t:=9) (p:=35) rfl ?_);refine store_event (t:=9) (p:=35) (v:=?vo_w29) (w1:=(w26.setCell ⟨go19,(x19_1 : Int).toNat,none⟩ (.string ((rd_T61 l0 x19_1).f1)))) ?hg ?ho ?hn ?hr ?_;(case ho=>rfl);(case hg=>rfl);(case hn=>rfl);(case hr=>first|(go_simp;done)|(go_simp;rfl));intro w29 hw;have hg : w26.grownBy w29 (some go19):=(by rw [hw];exact HP28.2);have hp_ : Kd.R Kd.string 9 w29 w.heap.size (fun k_=>some k_ ≠ (u7 : Value).ownBlock) (.slice (some ⟨go19,0,none⟩) x6_1.length co19) y229:=(by rw [hw,Ny229.out];(try rw [← Nbq16.out]);exact HP28.1);clear HP28;have n0_:=Aside0.mk (Kd.R_over' (v:=(.slice (some ⟨go19,0,none⟩) x6_1.length co19)) (by (with_reducible repeat (first|apply Kd.R_alloc|apply Kd.R_drewN));exact HO_5.out) (Kd.R_typed HO_6.out) (by decide) hg);have n1_:=Aside0.mk (hp_);have n2_:=Aside0.mk (Kd.R_after (v:=(.slice (some ⟨go19,0,none⟩) x6_1.length co19)) (v1:=(.slice (some ⟨go19,0,none⟩) x6_1.length co19)) (ok:=(fun _=>True)) (by (with_reducible repeat (first|apply Kd.R_alloc|apply Kd.R_drewN));exact Kd.R_mono HO_7.out (fun _ hk=>⟨trivial,hk⟩)) hg (.inl rfl));have n3_:=Aside0.mk (blk_grown (g:=gb227) (o:=.cells #[.bool true,.string ((rd_T61 l0 x19_1).f1)] 61 (0,0)) (by (with_reducible repeat first|refine blk_drewN ?_ _|refine blk_alloc ?_ _);exact BK227.out) hg (Kd.R_ne HO_6.out BK227.out (by decide)));have n4_:=Aside0.mk ((by rw [hw];exact below_set (HB.out) GB19.out : Below w.heap.size w w29));clear HO_5 HO_6 HO_7 BK227 HB;have HO_5:=n0_;have HO_6:=n1_;have HO_7:=n2_;have BK227:=n3_;have HB:=n4_;clear n0_ n1_ n2_ n3_ n4_ hg hw hp_;have hcz30_0 : w29.cell? ⟨gb227,0,none⟩ = some (.bool true):=(blk_cell BK227.out 0).trans rfl;have hcz30_1 : w29.cell? ⟨gb227,1,none⟩ = some (.string ((rd_T61 l0 x19_1).f1)):=(blk_cell BK227.out 1).trans rfl;have hfz30_0:=blk_frozen BK227.out 0;have hfz30_1:=blk_frozen BK227.out 1)|((with_reducible refine gate_builtin (b:=.append) (xs:=#[.tmp 36,.tmp 39]) rfl ?_);at_builtin;refine Kd.R_append Kd.string (w0:=w) w.heap.size rfl (.tmp 36) (.tmp 39) 56 9 (.string ⟨#[]⟩) 16 rfl Try.underlying56 info9 rfl (by decide) (by omega) u7 x7_1 ((rd_T61 l0 x19_1).f1) [.string ((rd_T61 l0 x19_1).f1)] (fun k_=>some k_ ≠ (.slice (some ⟨go19,0,none⟩) x6_1.length co19 : Value).ownBlock) (fun _=>False) rfl rfl ?aP (fun _ hk=>hk.elim) ?aF ?aO ?aB ?aS ?aL ?_;(case aP=>exact rfl);(case aB=>exact (by repeat (first|(with_reducible first|exact HB.out|apply below_alloc|apply pw_below_drewN|apply below_drew1|refine below_set ?_ GE227.out)|exact HB.out)));(case aF=>exact (fun k_ hk=>Kd.fresh' (Kd.R_lt (by (with_reducible repeat (first|apply Kd.R_alloc|apply Kd.R_drewN));exact HO_6.out)) k_ hk));(case aO=>exact (by (with_reducible repeat (first|apply Kd.R_alloc|apply Kd.R_drewN));exact Kd.R_mono HO_7.out (fun _ hk=>hk.2)));(case aS=>exact (below_size (by repeat (first|(with_reducible first|exact HB.out|apply below_alloc|apply pw_below_drewN|apply below_drew1|refine below_set ?_ GE227.out)|exact HB.out))));(case aL=>have:=LMc20.out;omega);intro v231 w31 ho hb hg hat;rw [← Ny230.out] at ho;have n0_:=Aside0.mk (Kd.R_over' (by (with_reducible repeat (first|apply Kd.R_alloc|apply Kd.R_drewN));exact HO_5.out) (Kd.R_typed (by (with_reducible repeat (first|apply Kd.R_alloc|apply Kd.R_drewN));exact HO_7.out)) (by decide) hg);have n1_:=Aside0.mk (Kd.R_after (ok:=(fun _=>True)) (by (with_reducible repeat (first|apply Kd.R_alloc|apply Kd.R_drewN));exact Kd.R_mono HO_6.out (fun _ hk=>⟨trivial,hk⟩)) hg hat);have n2_:=Aside0.mk (blk_grown (g:=gb227) (o:=.cells #[.bool true,.string ((rd_T61 l0 x19_1).f1)] 61 (0,0)) (by (with_reducible repeat first|refine blk_drewN ?_ _|refine blk_alloc ?_ _);exact BK227.out) hg (Kd.R_ne HO_7.out BK227.out (by decide)));have n3_:=Aside0.mk (hb);have n4_:=Aside0.mk (ho);clear HO_5 HO_6 BK227 HB HO_7;have HO_5:=n0_;have HO_6:=n1_;have BK227:=n2_;have HB:=n3_;have HO232:=n4_;clear n0_ n1_ n2_ n3_ n4_ ho hb hg hat))
             go_roundg k1
             case measure=>have:=HK1.out;omega
             case rel=>exact ⟨(y228),(y229),(y230),(wrap64 (x19_1 + 1)),(by first|rfl|(simp;done)|(simp [*];done)),H',⟨by have:=HK1.out;omega⟩,⟨by (with_reducible repeat (first|apply Kd.R_alloc|apply Kd.R_drewN));exact HO_5.out⟩,⟨by (with_reducible repeat (first|apply Kd.R_alloc|apply Kd.R_drewN));exact Kd.R_mono HO_6.out (fun _ hk=>hk.2)⟩,⟨by (with_reducible repeat (first|apply Kd.R_alloc|apply Kd.R_drewN));exact HO232.out⟩,⟨by repeat (first|(with_reducible first|exact HB.out|apply below_alloc|apply pw_below_drewN|apply below_drew1|refine below_set ?_ GE227.out)|exact HB.out)⟩⟩
            ·rw [if_neg c20] at H
             exact absurd H (by simp)
           ·rw [if_neg c18] at H
            exact absurd H (by simp)
          ·replace c17:=Bool.eq_false_iff.mpr c17
           subst c17
           have H1 : (impl_heldOf.l0 k1 y228 x6_1 x7_1 l0 (l0.length : Int) (wrap64 (x19_1 + 1))) = some (r1,r2,r3):=by rw [if_neg (show ¬ (false = true) by decide)] at H;exact H
           clear H
           have H:=H1
           clear H1
           have H':=Aside0.mk H
           clear H
           have p226 : 0 ≤ (x19_1 : Int):=of_decide_eq_true (by first|(with_reducible assumption)|assumption)
           have q226 : x19_1 < (l0.length : Int):=of_decide_eq_true (by first|(with_reducible assumption)|assumption)
           obtain ⟨ad226,e226,hx226_0,hx226_1⟩:=at_T61 HR0.out x19_1 p226 q226
           (try rw [← Nbq16.out] at hx226_0)
           cases e226
           replace hx226_0:=(HB.out.cell (World.block_lt_of_cell? w _ hx226_0)).trans hx226_0
           replace hx226_1:=(HB.out.cell (World.block_lt_of_cell? w _ hx226_1)).trans hx226_1
           replace p226:=eq_true p226
           replace q226:=eq_true q226
           go_wp2_with (first|((with_reducible refine gate_dst (N:=9) rfl ?_);refine box_event ?hg (N:=9) ?hd (cs:=#[.bool false,.string (⟨#[]⟩ : ByteArray)]) (t:=61) ?hr ?_;(case hd=>rfl);(case hg=>rfl);(case hr=>first|(go_simp;done)|(go_simp;rfl));intro gb227 hg w32 hbox hb;have n0_:=Aside0.mk (Kd.R_below (by (with_reducible repeat (first|apply Kd.R_alloc|apply Kd.R_drewN));exact HO_5.out) hb);have n1_:=Aside0.mk (Kd.R_below (by (with_reducible repeat (first|apply Kd.R_alloc|apply Kd.R_drewN));exact HO_6.out) hb);have n2_:=Aside0.mk (Kd.R_below (by (with_reducible repeat (first|apply Kd.R_alloc|apply Kd.R_drewN));exact HO_7.out) hb);have n3_:=Aside0.mk (below_step (by repeat (first|(with_reducible first|exact HB.out|apply below_alloc|apply pw_below_drewN|apply below_drew1)|exact HB.out)) hb);have n4_:=Aside0.mk (hbox);have n5_:=Aside0.mk ((by rw [hg];exact (below_size (by repeat (first|(with_reducible first|exact HB.out|apply below_alloc|apply pw_below_drewN|apply below_drew1)|exact HB.out))) : w.heap.size ≤ gb227));have n6_:=Aside0.mk ((by rw [hg];exact (below_size (by repeat (first|(with_reducible first|exact HB.out|apply below_alloc|apply pw_below_drewN|apply below_drew1)|exact HB.out))) : w.heap.size ≤ gb227));clear HO_5 HO_6 HO_7 HB;have HO_5:=n0_;have HO_6:=n1_;have HO_7:=n2_;have HB:=n3_;have BK227:=n4_;have GW227:=n5_;have GE227:=n6_;clear n0_ n1_ n2_ n3_ n4_ n5_ n6_ hb hbox hg;have hcz33_0 : w32.cell? ⟨gb227,0,none⟩ = some (.bool false):=(blk_cell BK227.out 0).trans rfl;have hcz33_1 : w32.cell? ⟨gb227,1,none⟩ = some (.string (⟨#[]⟩ : ByteArray)):=(blk_cell BK227.out 1).trans rfl;have hfz33_0:=blk_frozen BK227.out 0;have hfz33_1:=blk_frozen BK227.out 1)|((with_reducible refine gate_store (t:=61) (p:=9) rfl ?_);refine store_event (t:=61) (p:=9) (v:=?vo_w34) (w1:=((w32.setCell ⟨gb227,0,none⟩ (.bool false)).setCell ⟨gb227,1,none⟩ (.string ((rd_T61 l0 x19_1).f1)))) ?hg ?ho ?hn ?hr ?_;(case ho=>rfl);(case hg=>rfl);(case hn=>rfl);(case hr=>first|(go_simp;done)|(go_simp;rfl));intro w34 hw;have n0_ : Aside0 (Kd.R Kd.bool 4 w34 w.heap.size (fun _=>True) v218 x5_1):=⟨(by rw [hw];exact (by (with_reducible repeat (first|apply Kd.R_alloc|apply Kd.R_drewN));exact Kd.R_mono (Kd.R_far (p:=⟨gb227,1,none⟩) (Kd.R_far (p:=⟨gb227,0,none⟩) (Kd.R_types HO_5.out BK227.out (by decide)) (fun _ hk=>hk.2) (.bool false)) (fun _ hk=>hk.2) (.string ((rd_T61 l0 x19_1).f1))) (fun _ hk=>trivial)))⟩;have n1_ : Aside0 (Kd.R Kd.string 9 w34 w.heap.size (fun k_=>some k_ ≠ (u7 : Value).ownBlock) v221 x6_1):=⟨(by rw [hw];exact (by (with_reducible repeat (first|apply Kd.R_alloc|apply Kd.R_drewN));exact Kd.R_mono (Kd.R_far (p:=⟨gb227,1,none⟩) (Kd.R_far (p:=⟨gb227,0,none⟩) (Kd.R_types HO_6.out BK227.out (by decide)) (fun _ hk=>hk.2) (.bool false)) (fun _ hk=>hk.2) (.string ((rd_T61 l0 x19_1).f1))) (fun _ hk=>hk.1)))⟩;have n2_ : Aside0 (Kd.R Kd.string 9 w34 w.heap.size (fun k_=>some k_ ≠ (v221 : Value).ownBlock) u7 x7_1):=⟨(by rw [hw];exact (by (with_reducible repeat (first|apply Kd.R_alloc|apply Kd.R_drewN));exact Kd.R_mono (Kd.R_far (p:=⟨gb227,1,none⟩) (Kd.R_far (p:=⟨gb227,0,none⟩) (Kd.R_types HO_7.out BK227.out (by decide)) (fun _ hk=>hk.2) (.bool false)) (fun _ hk=>hk.2) (.string ((rd_T61 l0 x19_1).f1))) (fun _ hk=>hk.1)))⟩;have n3_ : Aside0 (w34.heap[gb227]? = some (.cells #[.bool false,.string ((rd_T61 l0 x19_1).f1)] 61 (0,0))):=⟨(by rw [hw];exact (by (with_reducible repeat first|refine blk_drewN ?_ _|refine blk_alloc ?_ _);refine blk_put (cs:=#[.bool false,.string (⟨#[]⟩ : ByteArray)]) ?_ 1 _ rfl;(with_reducible repeat first|refine blk_drewN ?_ _|refine blk_alloc ?_ _);refine blk_put (cs:=#[.bool false,.string (⟨#[]⟩ : ByteArray)]) ?_ 0 _ rfl;(with_reducible repeat first|refine blk_drewN ?_ _|refine blk_alloc ?_ _);exact BK227.out))⟩;have n4_ : Aside0 (Below w.heap.size w w34):=⟨(by rw [hw];exact (by repeat (first|(with_reducible first|exact HB.out|apply below_alloc|apply pw_below_drewN|apply below_drew1|refine below_set ?_ GE227.out)|exact HB.out)))⟩;clear hw HO_5 HO_6 HO_7 BK227 HB;have HO_5:=n0_;have HO_6:=n1_;have HO_7:=n2_;have BK227:=n3_;have HB:=n4_;clear n0_ n1_ n2_ n3_ n4_;have hcz35_0 : w34.cell? ⟨gb227,0,none⟩ = some (.bool false):=(blk_cell BK227.out 0).trans rfl;have hcz35_1 : w34.cell? ⟨gb227,1,none⟩ = some (.string ((rd_T61 l0 x19_1).f1)):=(blk_cell BK227.out 1).trans rfl;have hfz35_0:=blk_frozen BK227.out 0;have hfz35_1:=blk_frozen BK227.out 1;have p15 : 0 ≤ (x19_1 : Int):=of_decide_eq_true (by first|(with_reducible assumption)|assumption);have q15 : (x19_1 : Int) < ((x5_1.length : Int) : Int):=of_decide_eq_true (by first|(with_reducible assumption)|assumption);obtain ⟨go15,co15,eo15,gb15,gl15,cl15,HG15⟩:=Kd.R_form HO_5.out (by omega);(first|cases eo15|(injection eo15 with ea_ en_ ec_;(first|subst ea_|(injection ea_ with ea_;subst ea_));subst ec_;clear en_));have GB15:=Aside0.mk gb15;have GG15:=Aside0.mk HG15;clear gb15 gl15 HG15;obtain ⟨hx15_0,hf15_0⟩:=Kd.R_celln false HO_5.out (x19_1 : Int) p15 q15;replace p15:=eq_true p15;replace q15:=eq_true q15;obtain ⟨hy36_,hz36_⟩:=Kd.R_celln false HO_5.out (x19_1 : Int) (of_decide_eq_true (by first|(with_reducible assumption)|assumption)) (of_decide_eq_true (by first|(with_reducible assumption)|assumption));have HP36:=Kd.R_putg HO_5.out (x19_1 : Int) false)|((with_reducible refine gate_store (t:=4) (p:=28) rfl ?_);refine store_event (t:=4) (p:=28) (v:=?vo_w37) (w1:=(w34.setCell ⟨go15,(x19_1 : Int).toNat,none⟩ (.bool false))) ?hg ?ho ?hn ?hr ?_;(case ho=>rfl);(case hg=>rfl);(case hn=>rfl);(case hr=>first|(go_simp;done)|(go_simp;rfl));intro w37 hw;have hg : w34.grownBy w37 (some go15):=(by rw [hw];exact HP36.2);have hp_ : Kd.R Kd.bool 4 w37 w.heap.size (fun _=>True) (.slice (some ⟨go15,0,none⟩) x5_1.length co15) y228:=(by rw [hw,Ny228.out];(try rw [← Nbq16.out]);exact HP36.1);clear HP36;have n0_:=Aside0.mk (hp_);have n1_:=Aside0.mk (Kd.R_over' (v:=(.slice (some ⟨go15,0,none⟩) x5_1.length co15)) (by (with_reducible repeat (first|apply Kd.R_alloc|apply Kd.R_drewN));exact HO_6.out) (Kd.R_typed HO_5.out) (by decide) hg);have n2_:=Aside0.mk (Kd.R_over' (v:=(.slice (some ⟨go15,0,none⟩) x5_1.length co15)) (by (with_reducible repeat (first|apply Kd.R_alloc|apply Kd.R_drewN));exact HO_7.out) (Kd.R_typed HO_5.out) (by decide) hg);have n3_:=Aside0.mk (blk_grown (g:=gb227) (o:=.cells #[.bool false,.string ((rd_T61 l0 x19_1).f1)] 61 (0,0)) (by (with_reducible repeat first|refine blk_drewN ?_ _|refine blk_alloc ?_ _);exact BK227.out) hg (Kd.R_ne HO_5.out BK227.out (by decide)));have n4_:=Aside0.mk ((by rw [hw];exact below_set (HB.out) GB15.out : Below w.heap.size w w37));clear HO_5 HO_6 HO_7 BK227 HB;have HO_5:=n0_;have HO_6:=n1_;have HO_7:=n2_;have BK227:=n3_;have HB:=n4_;clear n0_ n1_ n2_ n3_ n4_ hg hw hp_;have hcz38_0 : w37.cell? ⟨gb227,0,none⟩ = some (.bool false):=(blk_cell BK227.out 0).trans rfl;have hcz38_1 : w37.cell? ⟨gb227,1,none⟩ = some (.string ((rd_T61 l0 x19_1).f1)):=(blk_cell BK227.out 1).trans rfl;have hfz38_0:=blk_frozen BK227.out 0;have hfz38_1:=blk_frozen BK227.out 1))
           go_roundg k1
           case measure=>have:=HK1.out;omega
           case rel=>exact ⟨(y228),(x6_1),(x7_1),(wrap64 (x19_1 + 1)),(by first|rfl|(simp;done)|(simp [*];done)),H',⟨by have:=HK1.out;omega⟩,⟨by (with_reducible repeat (first|apply Kd.R_alloc|apply Kd.R_drewN));exact HO_5.out⟩,⟨by (with_reducible repeat (first|apply Kd.R_alloc|apply Kd.R_drewN));exact HO_6.out⟩,⟨by (with_reducible repeat (first|apply Kd.R_alloc|apply Kd.R_drewN));exact HO_7.out⟩,⟨by repeat (first|(with_reducible first|exact HB.out|apply below_alloc|apply pw_below_drewN|apply below_drew1|refine below_set ?_ GE227.out)|exact HB.out)⟩⟩
         ·rw [if_neg c14] at H
          exact absurd H (by simp)
        ·rw [if_neg c13] at H
         exact absurd H (by simp)
       ·rw [if_neg c12] at H
        exact absurd H (by simp)
      ·rw [if_neg c11] at H
       have c11b0 : decide (x19_1 < (l0.length : Int)) = false:=decide_eq_false c11
       clear c11
       simp only [Option.some.injEq,Prod.mk.injEq] at H
       obtain ⟨rfl,rfl,rfl⟩:=H
       go_wp2
       go_ret3
       exact ⟨_,_,_,by first|rfl|(simp [errW_none,errW_some] <;> rfl)|(simp [*,errW_none,errW_some] <;> rfl),by (with_reducible repeat (first|apply Kd.R_alloc|apply Kd.R_drewN));exact HO_5.out,by (with_reducible repeat (first|apply Kd.R_alloc|apply Kd.R_drewN));exact HO_6.out,by (with_reducible repeat (first|apply Kd.R_alloc|apply Kd.R_drewN));exact HO_7.out,by repeat (first|(with_reducible first|exact HB.out|apply below_alloc|apply pw_below_drewN|apply below_drew1)|exact HB.out)⟩
   ·rw [if_neg c4] at H
    exact absurd H (by simp)
  ·rw [if_neg c3] at H
   exact absurd H (by simp)
 ·rw [if_neg c2] at H
  exact absurd H (by simp)

/-! ### impl_leadOf: function 129 -/
def impl_leadOf.l0 : Nat → List Int → Int → Int → Option (Int)
 | 0,_,_,_=>none
 | k + 1,x5,x6,x7=>if x7 < x6 then (if 0 ≤ x7 then (if x7 < (x5.length : Int) then (if (rd x5 x7) = 0 then (impl_leadOf.l0 k x5 x6 (wrap64 (x7 + 1))) else (some x7)) else (none)) else (none)) else (some (-1))
def impl_leadOf.f (k : Nat) (l0 : List Int) : Option (Int):=impl_leadOf.l0 k l0 (l0.length : Int) 0
theorem impl_leadOf.mono_l : ∀ k,(∀ y0 y1 y2,LeO (impl_leadOf.l0 k y0 y1 y2) (impl_leadOf.l0 (k + 1) y0 y1 y2))
 | 0=>fun _ _ _ r h=>by simp [impl_leadOf.l0] at h
 | k + 1=>by
  have ih0:=impl_leadOf.mono_l k
  ·intro y0 y1 y2
   unfold impl_leadOf.l0
   repeat' first
   | (with_reducible exact ih0 _ _ _)
   | (with_reducible exact LeO.refl _)
   | (with_reducible exact LeO.none _)
   | (with_reducible refine LeO.ite ?_ ?_)
   | (with_reducible refine LeO.bind ?_ (fun _=>?_))
   | exact ih0 _ _ _
   | exact LeO.none _
   | refine LeO.ite ?_ ?_
   | refine LeO.bind ?_ (fun _=>?_)
theorem impl_leadOf.mono : ∀ a0 k,LeO (impl_leadOf.f k a0) (impl_leadOf.f (k + 1) a0):=by
 intro a0 k
 have ih0:=impl_leadOf.mono_l k
 unfold impl_leadOf.f
 repeat' first
   | (with_reducible exact ih0 _ _ _)
   | (with_reducible exact LeO.refl _)
   | (with_reducible exact LeO.none _)
   | (with_reducible refine LeO.ite ?_ ?_)
   | (with_reducible refine LeO.bind ?_ (fun _=>?_))
   | exact ih0 _ _ _
   | exact LeO.none _
   | refine LeO.ite ?_ ?_
   | refine LeO.bind ?_ (fun _=>?_)
set_option maxHeartbeats 8000000 in
set_option maxRecDepth 100000 in
theorem impl_leadOf.calls (k : Nat) (A0 : Option Addr) (c0 : Nat) (l0 : List Int) (r : Int) (w : World) (hr0 : Kd.C (Kd.int .u8) w A0 l0.length l0) (hc0 : l0.length ≤ c0) (h : impl_leadOf.f k l0 = some r) :
  Calls Try.prog 129 #[.slice A0 l0.length c0] w fun e w'=>e = .returned (.int .i64 r) ∧ Drawn0 w w':=by
 have HR0:=Aside0.mk hr0
 have HC0:=Aside0.mk hc0
 clear hr0 hc0
 have H : (impl_leadOf.l0 k l0 (l0.length : Int) 0) = some r:=h
 clear h
 have H':=Aside0.mk H
 clear H
 go_enter Try.func129,Try.ntmps129
 go_wp2
 go_loopg [7] k (fun kq v7 w'=>∃ (x7_1 : Int),v7 = .int .i64 x7_1 ∧ Aside0 (impl_leadOf.l0 kq l0 (l0.length : Int) x7_1 = some r) ∧ Aside0 (kq ≤ k) ∧ Drawn0 w w')
 case atStart=>exact ⟨(0),(by first|rfl|(simp;done)|(simp [*];done)),H',⟨Nat.le_refl _⟩,by repeat (first|exact Drawn0.refl _|apply Drawn0.step)⟩
 case round=>
  clear H'
  (try clear c1)
  obtain ⟨x7_1,rfl,HA,HK1,⟨m1,rfl⟩⟩:=hrel
  cases gk with
  | zero=>exact absurd HA.out (by simp [impl_leadOf.l0])
  | succ k1=>
   have H:=HA.out
   clear HA
   simp only [impl_leadOf.l0] at H
   by_cases c2 : x7_1 < (l0.length : Int)
   ·rw [if_pos c2] at H
    have c2b0 : decide (x7_1 < (l0.length : Int)) = true:=decide_eq_true c2
    clear c2
    by_cases c3 : 0 ≤ x7_1
    ·rw [if_pos c3] at H
     have c3b0 : decide (0 ≤ x7_1) = true:=decide_eq_true c3
     clear c3
     by_cases c4 : x7_1 < (l0.length : Int)
     ·rw [if_pos c4] at H
      have c4b0 : decide (x7_1 < (l0.length : Int)) = true:=decide_eq_true c4
      clear c4
      by_cases c5 : (rd l0 x7_1) = 0
      ·rw [if_pos c5] at H
       have c5b0 : ((rd l0 x7_1) == 0) = true:=beq_iff_eq.mpr c5
       have c5b1 : ((rd l0 x7_1) != 0) = false:=bne_eq_false_iff_eq.mpr c5
       clear c5
       have H':=Aside0.mk H
       clear H
       have p233 : 0 ≤ (x7_1 : Int):=of_decide_eq_true (by first|(with_reducible assumption)|assumption)
       have q233 : x7_1 < (l0.length : Int):=of_decide_eq_true (by first|(with_reducible assumption)|assumption)
       obtain ⟨ad233,e233,hx233_0⟩:=Kd.at_int HR0.out x7_1 p233 q233
       cases e233
       replace p233:=eq_true p233
       replace q233:=eq_true q233
       go_wp2
       go_roundg k1
       case measure=>have:=HK1.out;omega
       case rel=>exact ⟨(wrap64 (x7_1 + 1)),(by first|rfl|(simp;done)|(simp [*];done)),H',⟨by have:=HK1.out;omega⟩,by repeat (first|exact Drawn0.refl _|apply Drawn0.step)⟩
      ·rw [if_neg c5] at H
       have c5b0 : ((rd l0 x7_1) == 0) = false:=beq_eq_false_iff_ne.mpr c5
       have c5b1 : ((rd l0 x7_1) != 0) = true:=bne_iff_ne.mpr c5
       obtain rfl:=Option.some.inj H
       have p233 : 0 ≤ (x7_1 : Int):=of_decide_eq_true (by first|(with_reducible assumption)|assumption)
       have q233 : x7_1 < (l0.length : Int):=of_decide_eq_true (by first|(with_reducible assumption)|assumption)
       obtain ⟨ad233,e233,hx233_0⟩:=Kd.at_int HR0.out x7_1 p233 q233
       cases e233
       replace p233:=eq_true p233
       replace q233:=eq_true q233
       go_wp2
       go_ret
       exact ⟨by first|rfl|(simp;done)|(simp [*];done),by repeat (first|exact Drawn0.refl _|apply Drawn0.step)⟩
     ·rw [if_neg c4] at H
      exact absurd H (by simp)
    ·rw [if_neg c3] at H
     exact absurd H (by simp)
   ·rw [if_neg c2] at H
    have c2b0 : decide (x7_1 < (l0.length : Int)) = false:=decide_eq_false c2
    clear c2
    obtain rfl:=Option.some.inj H
    go_wp2
    go_ret
    exact ⟨by first|rfl|(simp;done)|(simp [*];done),by repeat (first|exact Drawn0.refl _|apply Drawn0.step)⟩







end Go.Proofs.Ytffhbpepppodeaa.PFnJoined
