import Derived.Test.YtffhbpepppodeaaPFnDecodedx0
import Derived.Test.YtffhbpepppodeaaPFnDecodedx15
namespace Go.Proofs.Ytffhbpepppodeaa.PFnDecoded
private theorem nn {α : Type} {c : Prop} [Decidable c] {a : Option α} {r : α} (h : (if c then a else none) = some r) : c ∧ a = some r:=by
 split at h
 ·exact ⟨‹c›,h⟩
 ·cases h
open Go.RowKit Go.Proofs.YtffhbpepppodeaaW.PrintWords Go.Proofs.YtffhbpepppodeaaW.PrintLast Go.Proofs.YtffhbpepppodeaaW.PrintMore
attribute [local go_sem] cJ cL dn dp cw cy cM cN   -- for this text's walks alone
set_option linter.unusedVariables false
set_option linter.unusedSimpArgs false

/-! ### ax: function 75 -/
def ax.f (s0_0 : List Int) (s0_1 : Int) (s0_2 : Int) (a1 : Int) : Option (Int × Int × Int):=if a1 < 1 then (some (0,wrap64 (s0_1 + 1),s0_2)) else (if (s0_0.length : Int) = 0 then (if a1 = 0 then (none) else (some (Int.tmod (wrap64 ((wrap64 ((wrap64 (s0_1 + 1)) - 1)) * 7)) a1,wrap64 (s0_1 + 1),s0_2))) else (if 0 ≤ (Int.tmod (wrap64 ((wrap64 (s0_1 + 1)) - 1)) (s0_0.length : Int)) then (if (Int.tmod (wrap64 ((wrap64 (s0_1 + 1)) - 1)) (s0_0.length : Int)) < (s0_0.length : Int) then (if a1 > 200 then (if 0 ≤ (Int.tmod (wrap64 ((wrap64 ((wrap64 (s0_1 + 1)) - 1)) + 1)) (s0_0.length : Int)) then (if (Int.tmod (wrap64 ((wrap64 ((wrap64 (s0_1 + 1)) - 1)) + 1)) (s0_0.length : Int)) < (s0_0.length : Int) then (if a1 = 0 then (none) else (some (Int.tmod (wrap64 ((wrap64 ((wrap64 ((wrap64 ((wrap64 (rd s0_0 (Int.tmod (wrap64 ((wrap64 (s0_1 + 1)) - 1)) (s0_0.length : Int)))) + (wrap64 ((wrap64 (Int.tdiv (wrap64 ((wrap64 (s0_1 + 1)) - 1)) (s0_0.length : Int))) * 37)))) * 251)) + (wrap64 ((wrap64 (rd s0_0 (Int.tmod (wrap64 ((wrap64 ((wrap64 (s0_1 + 1)) - 1)) + 1)) (s0_0.length : Int)))) * 13)))) + (wrap64 ((wrap64 (s0_1 + 1)) - 1)))) a1,wrap64 (s0_1 + 1),s0_2))) else (none)) else (none)) else (if a1 = 0 then (none) else (some (Int.tmod (wrap64 ((wrap64 (rd s0_0 (Int.tmod (wrap64 ((wrap64 (s0_1 + 1)) - 1)) (s0_0.length : Int)))) + (wrap64 ((wrap64 (Int.tdiv (wrap64 ((wrap64 (s0_1 + 1)) - 1)) (s0_0.length : Int))) * 37)))) a1,wrap64 (s0_1 + 1),s0_2)))) else (none)) else (none)))
set_option maxHeartbeats 8000000 in
set_option maxRecDepth 100000 in
theorem ax.calls (g : Nat) (s0_0 : List Int) (s0_1 : Int) (s0_2 : Int) (a1 : Int) (r1 : Int) (r2 : Int) (r3 : Int) (w0 w : World) (hI : ak w0 w g s0_0 s0_1 s0_2) (hB : Below w0.heap.size w0 w) (h : ax.f s0_0 s0_1 s0_2 a1 = some (r1,r2,r3)) :
  Calls Try.prog 75 #[.pointer (some ⟨g,0,none⟩),.int .i64 a1] w fun e w'=>e = .returned (.int .i64 r1) ∧ ak w0 w' g s0_0 r2 r3 ∧ Below w0.heap.size w0 w' ∧ aj w w' g none:=by
 have HI0:=M0 hI
 have HK:=M0 (aj.refl w g none)
 clear hI
 have HB:=M0 hB
 clear hB
 have H : (if a1 < 1 then (some (0,wrap64 (s0_1 + 1),s0_2)) else (if (s0_0.length : Int) = 0 then (if a1 = 0 then (none) else (some (Int.tmod (wrap64 ((wrap64 ((wrap64 (s0_1 + 1)) - 1)) * 7)) a1,wrap64 (s0_1 + 1),s0_2))) else (if 0 ≤ (Int.tmod (wrap64 ((wrap64 (s0_1 + 1)) - 1)) (s0_0.length : Int)) then (if (Int.tmod (wrap64 ((wrap64 (s0_1 + 1)) - 1)) (s0_0.length : Int)) < (s0_0.length : Int) then (if a1 > 200 then (if 0 ≤ (Int.tmod (wrap64 ((wrap64 ((wrap64 (s0_1 + 1)) - 1)) + 1)) (s0_0.length : Int)) then (if (Int.tmod (wrap64 ((wrap64 ((wrap64 (s0_1 + 1)) - 1)) + 1)) (s0_0.length : Int)) < (s0_0.length : Int) then (if a1 = 0 then (none) else (some (Int.tmod (wrap64 ((wrap64 ((wrap64 ((wrap64 ((wrap64 (rd s0_0 (Int.tmod (wrap64 ((wrap64 (s0_1 + 1)) - 1)) (s0_0.length : Int)))) + (wrap64 ((wrap64 (Int.tdiv (wrap64 ((wrap64 (s0_1 + 1)) - 1)) (s0_0.length : Int))) * 37)))) * 251)) + (wrap64 ((wrap64 (rd s0_0 (Int.tmod (wrap64 ((wrap64 ((wrap64 (s0_1 + 1)) - 1)) + 1)) (s0_0.length : Int)))) * 13)))) + (wrap64 ((wrap64 (s0_1 + 1)) - 1)))) a1,wrap64 (s0_1 + 1),s0_2))) else (none)) else (none)) else (if a1 = 0 then (none) else (some (Int.tmod (wrap64 ((wrap64 (rd s0_0 (Int.tmod (wrap64 ((wrap64 (s0_1 + 1)) - 1)) (s0_0.length : Int)))) + (wrap64 ((wrap64 (Int.tdiv (wrap64 ((wrap64 (s0_1 + 1)) - 1)) (s0_0.length : Int))) * 37)))) a1,wrap64 (s0_1 + 1),s0_2)))) else (none)) else (none)))) = some (r1,r2,r3):=h
 clear h
 by_cases c3 : a1 < 1
 ·rw [if_pos c3] at H
  have c3b0:=decide_eq_true c3
  clear c3
  simp only [Option.some.injEq,Prod.mk.injEq] at H
  obtain ⟨rfl,rfl,rfl⟩:=H
  obtain ⟨ASz4_0,cSz4_0,HGz4,hgz4,HSz4_0⟩:=HI0.out
  have hcz4_1:=cellS171_1 HGz4
  have hfz4_1:=aa HGz4 1
  clear HGz4 hgz4
  go_enter Try.func75,Try.ntmps75
  go_wp2
  repeat (go_quiet (fail);try go_wp2)
  go_ret
  exact ⟨by rfl,by repeat ((with_reducible first|exact HI0.out|apply ak.set_1)),by repeat ((with_reducible first|exact HB.out|refine ay ?_ (ak.ge HI0.out))),by repeat ((with_reducible first|exact HK.out|apply aj.set_))⟩
 ·rw [if_neg c3] at H
  have c3b0:=decide_eq_false c3
  clear c3
  by_cases c5 : (s0_0.length : Int) = 0
  ·rw [if_pos c5] at H
   have c5b0 : ((s0_0.length : Int) == 0) = true:=beq_iff_eq.mpr c5
   have c5b1 : ((s0_0.length : Int) != 0) = false:=bne_eq_false_iff_eq.mpr c5
   clear c5
   by_cases c6 : a1 = 0
   ·rw [if_pos c6] at H
    exact absurd H (by simp)
   ·rw [if_neg c6] at H
    simp only [Option.some.injEq,Prod.mk.injEq] at H
    obtain ⟨rfl,rfl,rfl⟩:=H
    obtain ⟨ASz7_0,cSz7_0,HGz7,hgz7,HSz7_0⟩:=HI0.out
    have hcz7_0:=cellS171_0 HGz7
    have hcz7_1:=cellS171_1 HGz7
    have hfz7_1:=aa HGz7 1
    clear HGz7 hgz7
    go_enter Try.func75,Try.ntmps75
    go_wp2
    repeat (go_quiet (fail);try go_wp2)
    go_ret
    exact ⟨by rfl,by repeat ((with_reducible first|exact HI0.out|apply ak.set_1)),by repeat ((with_reducible first|exact HB.out|refine ay ?_ (ak.ge HI0.out))),by repeat ((with_reducible first|exact HK.out|apply aj.set_))⟩
  ·rw [if_neg c5] at H
   have c5b0 : ((s0_0.length : Int) == 0) = false:=beq_eq_false_iff_ne.mpr c5
   have c5b2 : ¬ (s0_0 = []):=fun h_=>c5 (by rw [h_];rfl)
   obtain ⟨ji8,hji8⟩ : ∃ j_ : Int,(Int.tmod (wrap64 ((wrap64 (s0_1 + 1)) - 1)) (s0_0.length : Int)) = j_:=⟨_,rfl⟩
   replace H : (if 0 ≤ (ji8) then (if (ji8) < (s0_0.length : Int) then (if a1 > 200 then (if 0 ≤ (Int.tmod (wrap64 ((wrap64 ((wrap64 (s0_1 + 1)) - 1)) + 1)) (s0_0.length : Int)) then (if (Int.tmod (wrap64 ((wrap64 ((wrap64 (s0_1 + 1)) - 1)) + 1)) (s0_0.length : Int)) < (s0_0.length : Int) then (if a1 = 0 then (none) else (some (Int.tmod (wrap64 ((wrap64 ((wrap64 ((wrap64 ((wrap64 (rd s0_0 (ji8))) + (wrap64 ((wrap64 (Int.tdiv (wrap64 ((wrap64 (s0_1 + 1)) - 1)) (s0_0.length : Int))) * 37)))) * 251)) + (wrap64 ((wrap64 (rd s0_0 (Int.tmod (wrap64 ((wrap64 ((wrap64 (s0_1 + 1)) - 1)) + 1)) (s0_0.length : Int)))) * 13)))) + (wrap64 ((wrap64 (s0_1 + 1)) - 1)))) a1,wrap64 (s0_1 + 1),s0_2))) else (none)) else (none)) else (if a1 = 0 then (none) else (some (Int.tmod (wrap64 ((wrap64 (rd s0_0 (ji8))) + (wrap64 ((wrap64 (Int.tdiv (wrap64 ((wrap64 (s0_1 + 1)) - 1)) (s0_0.length : Int))) * 37)))) a1,wrap64 (s0_1 + 1),s0_2)))) else (none)) else (none)) = some (r1,r2,r3):=by (rw [hji8] at H;exact H)
   obtain ⟨c9,H⟩:=nn H
   have c9b0:=decide_eq_true c9
   clear c9
   obtain ⟨c10,H⟩:=nn H
   have c10b0:=decide_eq_true c10
   clear c10
   by_cases c11 : a1 > 200
   ·rw [if_pos c11] at H
    have c11b0:=decide_eq_true c11
    clear c11
    obtain ⟨ji12,hji12⟩ : ∃ j_ : Int,(Int.tmod (wrap64 ((wrap64 ((wrap64 (s0_1 + 1)) - 1)) + 1)) (s0_0.length : Int)) = j_:=⟨_,rfl⟩
    replace H : (if 0 ≤ (ji12) then (if (ji12) < (s0_0.length : Int) then (if a1 = 0 then (none) else (some (Int.tmod (wrap64 ((wrap64 ((wrap64 ((wrap64 ((wrap64 (rd s0_0 (ji8))) + (wrap64 ((wrap64 (Int.tdiv (wrap64 ((wrap64 (s0_1 + 1)) - 1)) (s0_0.length : Int))) * 37)))) * 251)) + (wrap64 ((wrap64 (rd s0_0 (ji12))) * 13)))) + (wrap64 ((wrap64 (s0_1 + 1)) - 1)))) a1,wrap64 (s0_1 + 1),s0_2))) else (none)) else (none)) = some (r1,r2,r3):=by (rw [hji12] at H;exact H)
    obtain ⟨c13,H⟩:=nn H
    have c13b0:=decide_eq_true c13
    clear c13
    obtain ⟨c14,H⟩:=nn H
    have c14b0:=decide_eq_true c14
    clear c14
    by_cases c15 : a1 = 0
    ·rw [if_pos c15] at H
     exact absurd H (by simp)
    ·rw [if_neg c15] at H
     simp only [Option.some.injEq,Prod.mk.injEq] at H
     obtain ⟨rfl,rfl,rfl⟩:=H
     obtain ⟨ASz16_0,cSz16_0,HGz16,hgz16,HSz16_0⟩:=HI0.out
     have hcz16_0:=cellS171_0 HGz16
     have hcz16_1:=cellS171_1 HGz16
     have hfz16_1:=aa HGz16 1
     clear HGz16 hgz16
     have p338 : 0 ≤ ((ji8) : Int):=of_decide_eq_true (by with_reducible assumption)
     have q338 : (ji8) < (s0_0.length : Int):=of_decide_eq_true (by with_reducible assumption)
     obtain ⟨ad338,e338,hx338_0⟩:=Kd.dB HSz16_0 (ji8) p338 q338
     cases e338
     have hn338_0 : ad338.block ≠ g:=Nat.ne_of_lt (Nat.lt_of_lt_of_le (by have:=World.block_lt_of_cell? _ _ hx338_0;rwa [add_block] at this) (ak.ge HI0.out))
     replace hx338_0:=dF HB.out hx338_0
     replace hx338_0:=(cell_far (p:=⟨g,1,none⟩) (by rw [add_block];exact hn338_0) (.int .i64 (wrap64 (s0_1 + 1)))).trans hx338_0
     (try have hy338_0:=fun (n_ : Nat)=>(show (((w.drewN n_).setCell ⟨g,1,none⟩ (.int .i64 (wrap64 (s0_1 + 1))))).cell? _ = some _ from hx338_0))
     clear hn338_0
     replace p338:=eq_true p338
     replace q338:=eq_true q338
     have p339 : 0 ≤ ((ji12) : Int):=of_decide_eq_true (by with_reducible assumption)
     have q339 : (ji12) < (s0_0.length : Int):=of_decide_eq_true (by with_reducible assumption)
     obtain ⟨ad339,e339,hx339_0⟩:=Kd.dB HSz16_0 (ji12) p339 q339
     obtain rfl : ad338 = ad339:=(by injection e339)
     have hn339_0 : ad338.block ≠ g:=Nat.ne_of_lt (Nat.lt_of_lt_of_le (by have:=World.block_lt_of_cell? _ _ hx339_0;rwa [add_block] at this) (ak.ge HI0.out))
     replace hx339_0:=dF HB.out hx339_0
     replace hx339_0:=(cell_far (p:=⟨g,1,none⟩) (by rw [add_block];exact hn339_0) (.int .i64 (wrap64 (s0_1 + 1)))).trans hx339_0
     (try have hy339_0:=fun (n_ : Nat)=>(show (((w.drewN n_).setCell ⟨g,1,none⟩ (.int .i64 (wrap64 (s0_1 + 1))))).cell? _ = some _ from hx339_0))
     clear hn339_0
     replace p339:=eq_true p339
     replace q339:=eq_true q339
     go_enter Try.func75,Try.ntmps75
     go_wp2
     repeat (go_quiet (fail);try go_wp2)
     go_ret
     exact ⟨by rfl,by repeat ((with_reducible first|exact HI0.out|apply ak.drewN|apply ak.set_1)),by repeat ((with_reducible first|exact HB.out|apply aK|refine ay ?_ (ak.ge HI0.out))),by repeat ((with_reducible first|exact HK.out|apply aj.set_|apply keep_drewN))⟩
   ·rw [if_neg c11] at H
    have c11b0:=decide_eq_false c11
    clear c11
    by_cases c17 : a1 = 0
    ·rw [if_pos c17] at H
     exact absurd H (by simp)
    ·rw [if_neg c17] at H
     simp only [Option.some.injEq,Prod.mk.injEq] at H
     obtain ⟨rfl,rfl,rfl⟩:=H
     obtain ⟨ASz18_0,cSz18_0,HGz18,hgz18,HSz18_0⟩:=HI0.out
     have hcz18_0:=cellS171_0 HGz18
     have hcz18_1:=cellS171_1 HGz18
     have hfz18_1:=aa HGz18 1
     clear HGz18 hgz18
     have p338 : 0 ≤ ((ji8) : Int):=of_decide_eq_true (by with_reducible assumption)
     have q338 : (ji8) < (s0_0.length : Int):=of_decide_eq_true (by with_reducible assumption)
     obtain ⟨ad338,e338,hx338_0⟩:=Kd.dB HSz18_0 (ji8) p338 q338
     cases e338
     have hn338_0 : ad338.block ≠ g:=Nat.ne_of_lt (Nat.lt_of_lt_of_le (by have:=World.block_lt_of_cell? _ _ hx338_0;rwa [add_block] at this) (ak.ge HI0.out))
     replace hx338_0:=dF HB.out hx338_0
     replace hx338_0:=(cell_far (p:=⟨g,1,none⟩) (by rw [add_block];exact hn338_0) (.int .i64 (wrap64 (s0_1 + 1)))).trans hx338_0
     (try have hy338_0:=fun (n_ : Nat)=>(show (((w.drewN n_).setCell ⟨g,1,none⟩ (.int .i64 (wrap64 (s0_1 + 1))))).cell? _ = some _ from hx338_0))
     clear hn338_0
     replace p338:=eq_true p338
     replace q338:=eq_true q338
     go_enter Try.func75,Try.ntmps75
     go_wp2
     repeat (go_quiet (fail);try go_wp2)
     go_ret
     exact ⟨by rfl,by repeat ((with_reducible first|exact HI0.out|apply ak.drewN|apply ak.set_1)),by repeat ((with_reducible first|exact HB.out|apply aK|refine ay ?_ (ak.ge HI0.out))),by repeat ((with_reducible first|exact HK.out|apply aj.set_|apply keep_drewN))⟩

/-! ### bw: function 77 -/
def bw.f (s0_0 : List Int) (s0_1 : Int) (s0_2 : Int) (a1 : Int) : Option (Bool × Int × Int):=(ax.f s0_0 s0_1 s0_2 a1).bind fun bt340=>(some ((bt340.1 == 0),bt340.2.1,bt340.2.2))
set_option maxHeartbeats 8000000 in
set_option maxRecDepth 100000 in
theorem bw.calls (g : Nat) (s0_0 : List Int) (s0_1 : Int) (s0_2 : Int) (a1 : Int) (r1 : Bool) (r2 : Int) (r3 : Int) (w0 w : World) (hI : ak w0 w g s0_0 s0_1 s0_2) (hB : Below w0.heap.size w0 w) (h : bw.f s0_0 s0_1 s0_2 a1 = some (r1,r2,r3)) :
  Calls Try.prog 77 #[.pointer (some ⟨g,0,none⟩),.int .i64 a1] w fun e w'=>e = .returned (.bool r1) ∧ ak w0 w' g s0_0 r2 r3 ∧ Below w0.heap.size w0 w' ∧ aj w w' g none:=by
 have HI0:=M0 hI
 have HK:=M0 (aj.refl w g none)
 clear hI
 have HB:=M0 hB
 clear hB
 have H : ((ax.f s0_0 s0_1 s0_2 a1).bind fun bt340=>(some ((bt340.1 == 0),bt340.2.1,bt340.2.2))) = some (r1,r2,r3):=h
 clear h
 replace H:=Option.bind_eq_some_iff.mp H
 obtain ⟨⟨t340,t341,t342⟩,A30,H⟩:=H
 dsimp only at H
 have A3:=M0 A30
 clear A30
 simp only [Option.some.injEq,Prod.mk.injEq] at H
 obtain ⟨rfl,rfl,rfl⟩:=H
 go_enter Try.func77,Try.ntmps77
 go_wp2_with (((with_reducible refine ah (f:=75) rfl ?_);refine aG (some 7) rfl rfl Try.func75 (by kernel_rfl) rfl #[.pointer (some ⟨g,0,none⟩),.int .i64 a1] rfl (by (try simp only [List.map_toArray,List.map_cons,List.map_nil]);rfl) ?_;(with_reducible refine (ax.calls g s0_0 s0_1 s0_2 a1 t340 t341 t342 w0 _ HI0.out HB.out A3.out).mono ?_);rintro e w4 ⟨rfl,hi,hb,hk⟩;refine ⟨_,rfl,?_⟩;replace HK:=M0 (aj.trans HK.out hk (.inl rfl));replace HB:=M0 (hb);replace HI0:=M0 (hi);clear hb hk hi))
 go_ret
 exact ⟨by rfl,HI0.out,HB.out,HK.out⟩

/-! ### bo: function 81 -/
def bo.f (s0_0 : List Int) (s0_1 : Int) (s0_2 : Int) : Option (Int × Int × Int × Int × Int):=(ax.f s0_0 s0_1 s0_2 6).bind fun bt344=>((ax.f s0_0 bt344.2.1 bt344.2.2 4).bind fun bt347=>((bw.f s0_0 bt347.2.1 bt347.2.2 2).bind fun bt351=>(if bt351.1 = true then ((ax.f s0_0 bt351.2.1 bt351.2.2 (wrap64 ((wrap64 (1 + bt344.1)) + 1))).bind fun bt354=>(some (wrap64 (1 + bt344.1),bt347.1,bt354.1,bt354.2.1,bt354.2.2))) else (some (wrap64 (1 + bt344.1),bt347.1,0,bt351.2.1,bt351.2.2)))))
set_option maxHeartbeats 8000000 in
set_option maxRecDepth 100000 in
theorem bo.calls (g : Nat) (s0_0 : List Int) (s0_1 : Int) (s0_2 : Int) (r1 : Int) (r2 : Int) (r3 : Int) (r4 : Int) (r5 : Int) (w0 w : World) (hI : ak w0 w g s0_0 s0_1 s0_2) (hB : Below w0.heap.size w0 w) (h : bo.f s0_0 s0_1 s0_2 = some (r1,r2,r3,r4,r5)) :
  Calls Try.prog 81 #[.pointer (some ⟨g,0,none⟩)] w fun e w'=>e = .returned (.agg #[.int .i64 r1,.int .i64 r2,.int .i64 r3]) ∧ ak w0 w' g s0_0 r4 r5 ∧ Below w0.heap.size w0 w' ∧ aj w w' g none:=by
 have HI0:=M0 hI
 have HK:=M0 (aj.refl w g none)
 clear hI
 have HW0:=M0 hB.size
 have HB:=M0 hB
 clear hB
 have H : ((ax.f s0_0 s0_1 s0_2 6).bind fun bt344=>((ax.f s0_0 bt344.2.1 bt344.2.2 4).bind fun bt347=>((bw.f s0_0 bt347.2.1 bt347.2.2 2).bind fun bt351=>(if bt351.1 = true then ((ax.f s0_0 bt351.2.1 bt351.2.2 (wrap64 ((wrap64 (1 + bt344.1)) + 1))).bind fun bt354=>(some (wrap64 (1 + bt344.1),bt347.1,bt354.1,bt354.2.1,bt354.2.2))) else (some (wrap64 (1 + bt344.1),bt347.1,0,bt351.2.1,bt351.2.2)))))) = some (r1,r2,r3,r4,r5):=h
 clear h
 replace H:=Option.bind_eq_some_iff.mp H
 obtain ⟨⟨t344,t345,t346⟩,A20,H⟩:=H
 dsimp only at H
 have A2:=M0 A20
 clear A20
 replace H:=Option.bind_eq_some_iff.mp H
 obtain ⟨⟨t347,t348,t349⟩,A30,H⟩:=H
 dsimp only at H
 have A3:=M0 A30
 clear A30
 replace H:=Option.bind_eq_some_iff.mp H
 obtain ⟨⟨t351,t352,t353⟩,A40,H⟩:=H
 dsimp only at H
 have A4:=M0 A40
 clear A40
 by_cases c5 : t351 = true
 ·subst c5
  have H1 : ((ax.f s0_0 t352 t353 (wrap64 ((wrap64 (1 + t344)) + 1))).bind fun bt354=>(some (wrap64 (1 + t344),t347,bt354.1,bt354.2.1,bt354.2.2))) = some (r1,r2,r3,r4,r5):=by rw [if_pos rfl] at H;exact H
  clear H
  have H:=H1
  clear H1
  replace H:=Option.bind_eq_some_iff.mp H
  obtain ⟨⟨t354,t355,t356⟩,A60,H⟩:=H
  dsimp only at H
  have A6:=M0 A60
  clear A60
  simp only [Option.some.injEq,Prod.mk.injEq] at H
  obtain ⟨rfl,rfl,rfl,rfl,rfl⟩:=H
  go_enter Try.func81,Try.ntmps81
  go_wp2_with (first|((with_reducible refine aw (N:=2) rfl ?_);refine az rfl (N:=2) rfl (cs:=#[.int .i64 0,.int .i64 0,.int .i64 0]) (t:=43) (by go_simp) ?_;intro gb343 hg w7 hbox hb;replace HB:=M0 (ab HB.out hb);have BK343:=M0 (hbox);have GW343:=M0 ((by rw [hg];exact (ba (w:=w) (g:=g) (row:=none) HK.out) : w.heap.size ≤ gb343));have GE343:=M0 ((Nat.le_trans HW0.out (by rw [hg];exact (ba (w:=w) (g:=g) (row:=none) HK.out) : w.heap.size ≤ gb343) : w0.heap.size ≤ gb343));replace HK:=M0 (aj.trans HK.out (aj.bT hb g none) (.inl rfl));have NB0_343:=M0 ((by rw [hg];exact Nat.ne_of_lt (ak.lt (show ak w0 _ g s0_0 s0_1 s0_2 from HI0.out)) : g ≠ gb343));have NB343_0:=M0 NB0_343.out.symm;replace HI0:=M0 (ak.below HI0.out hb);clear hb hbox hg)|((with_reducible refine ah (f:=75) rfl ?_);refine aG (some 5) rfl rfl Try.func75 (by kernel_rfl) rfl #[.pointer (some ⟨g,0,none⟩),.int .i64 6] rfl (by (try simp only [List.map_toArray,List.map_cons,List.map_nil]);rfl) ?_;(with_reducible refine (ax.calls g s0_0 s0_1 s0_2 6 t344 t345 t346 w0 _ HI0.out HB.out A2.out).mono ?_);rintro e w8 ⟨rfl,hi,hb,hk⟩;refine ⟨_,rfl,?_⟩;replace BK343:=M0 (aj.blk hk BK343.out NB343_0.out (by simp));replace HK:=M0 (aj.trans HK.out hk (.inl rfl));replace HB:=M0 (hb);replace HI0:=M0 (hi);clear hb hk hi)|((with_reducible refine ah (f:=75) rfl ?_);refine aG (some 8) rfl rfl Try.func75 (by kernel_rfl) rfl #[.pointer (some ⟨g,0,none⟩),.int .i64 4] rfl (by (try simp only [List.map_toArray,List.map_cons,List.map_nil]);rfl) ?_;(with_reducible refine (ax.calls g s0_0 t345 t346 4 t347 t348 t349 w0 _ HI0.out HB.out A3.out).mono ?_);rintro e w9 ⟨rfl,hi,hb,hk⟩;refine ⟨_,rfl,?_⟩;replace BK343:=M0 (aj.blk hk BK343.out NB343_0.out (by simp));replace HK:=M0 (aj.trans HK.out hk (.inl rfl));replace HB:=M0 (hb);replace HI0:=M0 (hi);clear hb hk hi)|((with_reducible refine aw (N:=3) rfl ?_);refine az rfl (N:=3) rfl (cs:=#[.int .i64 0,.int .i64 0,.int .i64 0]) (t:=43) (by go_simp) ?_;intro gb350 hg w10 hbox hb;replace HB:=M0 (ab HB.out hb);have BK350:=M0 (hbox);have GW350:=M0 ((by rw [hg];exact (ba (w:=w) (g:=g) (row:=none) HK.out) : w.heap.size ≤ gb350));have GE350:=M0 ((Nat.le_trans HW0.out (by rw [hg];exact (ba (w:=w) (g:=g) (row:=none) HK.out) : w.heap.size ≤ gb350) : w0.heap.size ≤ gb350));replace HK:=M0 (aj.trans HK.out (aj.bT hb g none) (.inl rfl));have NB343_350:=M0 ((by rw [hg];exact Nat.ne_of_lt (bS BK343.out) : gb343 ≠ gb350));replace BK343:=M0 (ag BK343.out hb);have NB0_350:=M0 ((by rw [hg];exact Nat.ne_of_lt (ak.lt (show ak w0 _ g s0_0 t348 t349 from HI0.out)) : g ≠ gb350));have NB350_0:=M0 NB0_350.out.symm;replace HI0:=M0 (ak.below HI0.out hb);clear hb hbox hg;have hnc11:=NB343_350.out;have hnb12:=NB350_0.out;have hnc12:=NB0_350.out;have hcz13_0:=bcv (v:=.int .i64 0) BK350.out 0 rfl;have hcz13_1:=bcv (v:=.int .i64 0) BK350.out 1 rfl;have hcz13_2:=bcv (v:=.int .i64 0) BK350.out 2 rfl;have hfz13_0:=aa BK350.out 0;have hfz13_1:=aa BK350.out 1;have hfz13_2:=aa BK350.out 2)|((with_reducible refine ah (f:=77) rfl ?_);refine aG (some 11) rfl rfl Try.func77 (by kernel_rfl) rfl #[.pointer (some ⟨g,0,none⟩),.int .i64 2] rfl (by (try simp only [List.map_toArray,List.map_cons,List.map_nil]);rfl) ?_;(with_reducible refine (bw.calls g s0_0 t348 t349 2 true t352 t353 w0 _ ?side1 ?side2 A4.out).mono ?_);(case side1=>repeat ((with_reducible first|exact HI0.out|refine ak.far ?_ NB0_350.out _)));(case side2=>repeat ((with_reducible first|exact HB.out|refine ay ?_ GE350.out)));rintro e w14 ⟨rfl,hi,hb,hk⟩;refine ⟨_,rfl,?_⟩;replace BK343:=M0 (aj.blk hk (g':=gb343) (o:=.cells #[.int .i64 0,.int .i64 0,.int .i64 0] 43 (0,0)) (by refine aU ?_ NB343_350.out _;refine aU ?_ NB343_350.out _;refine aU ?_ NB343_350.out _;exact BK343.out) NB343_0.out (by simp));replace BK350:=M0 (aj.blk hk (g':=gb350) (o:=.cells #[.int .i64 (wrap64 (1 + t344)),.int .i64 t347,.int .i64 0] 43 (0,0)) (by refine aC (cs:=#[.int .i64 (wrap64 (1 + t344)),.int .i64 t347,.int .i64 0]) ?_ 2 _ rfl;refine aC (cs:=#[.int .i64 (wrap64 (1 + t344)),.int .i64 0,.int .i64 0]) ?_ 1 _ rfl;refine aC (cs:=#[.int .i64 0,.int .i64 0,.int .i64 0]) ?_ 0 _ rfl;exact BK350.out) NB350_0.out (by simp));replace HK:=M0 (aj.trans (by repeat ((with_reducible first|exact HK.out|refine b8 ?_ GW350.out _))) hk (.inl rfl));replace HB:=M0 (hb);replace HI0:=M0 (hi);clear hb hk hi;have hcz15_0:=bcv (v:=.int .i64 (wrap64 (1 + t344))) BK350.out 0 rfl)|((with_reducible refine ah (f:=75) rfl ?_);refine aG (some 16) rfl rfl Try.func75 (by kernel_rfl) rfl #[.pointer (some ⟨g,0,none⟩),.int .i64 (wrap64 ((wrap64 (1 + t344)) + 1))] rfl (by (try simp only [List.map_toArray,List.map_cons,List.map_nil]);rfl) ?_;(with_reducible refine (ax.calls g s0_0 t352 t353 (wrap64 ((wrap64 (1 + t344)) + 1)) t354 t355 t356 w0 _ HI0.out HB.out A6.out).mono ?_);rintro e w16 ⟨rfl,hi,hb,hk⟩;refine ⟨_,rfl,?_⟩;replace BK343:=M0 (aj.blk hk BK343.out NB343_0.out (by simp));replace BK350:=M0 (aj.blk hk BK350.out NB350_0.out (by simp));replace HK:=M0 (aj.trans HK.out hk (.inl rfl));replace HB:=M0 (hb);replace HI0:=M0 (hi);clear hb hk hi;have hcz17_0:=bcv (v:=.int .i64 (wrap64 (1 + t344))) BK350.out 0 rfl;have hcz17_1:=bcv (v:=.int .i64 t347) BK350.out 1 rfl;have hcz17_2:=bcv (v:=.int .i64 0) BK350.out 2 rfl;have hfz17_2:=aa BK350.out 2;have hnb18:=NB343_0.out;have hnc18:=NB0_343.out;have hcz19_0:=bcv (v:=.int .i64 0) BK343.out 0 rfl;have hcz19_1:=bcv (v:=.int .i64 0) BK343.out 1 rfl;have hcz19_2:=bcv (v:=.int .i64 0) BK343.out 2 rfl;have hfz19_0:=aa BK343.out 0;have hfz19_1:=aa BK343.out 1;have hfz19_2:=aa BK343.out 2))
  refine bodyPost_ret (results_cell_row rfl _ _ gb343 43 #[.int .i64 (wrap64 (1 + t344)),.int .i64 t347,.int .i64 t354] (0,0) _ rfl (by refine aC (cs:=#[.int .i64 (wrap64 (1 + t344)),.int .i64 t347,.int .i64 0]) ?_ 2 _ rfl;refine aC (cs:=#[.int .i64 (wrap64 (1 + t344)),.int .i64 0,.int .i64 0]) ?_ 1 _ rfl;refine aC (cs:=#[.int .i64 0,.int .i64 0,.int .i64 0]) ?_ 0 _ rfl;refine aU ?_ NB343_350.out _;exact BK343.out) Try.underlying43 rfl (by kernel_rfl)) rfl ?_
  exact ⟨by rfl,by repeat ((with_reducible first|exact HI0.out|refine ak.far ?_ NB0_343.out _|refine ak.far ?_ NB0_350.out _)),by repeat ((with_reducible first|exact HB.out|refine ay ?_ GE343.out|refine ay ?_ GE350.out)),by repeat ((with_reducible first|exact HK.out|refine b8 ?_ GW343.out _|refine b8 ?_ GW350.out _))⟩
 ·replace c5:=Bool.eq_false_iff.mpr c5
  subst c5
  have H1 : (some (wrap64 (1 + t344),t347,0,t352,t353)) = some (r1,r2,r3,r4,r5):=by rw [if_neg (show ¬ (false = true) by decide)] at H;exact H
  clear H
  have H:=H1
  clear H1
  simp only [Option.some.injEq,Prod.mk.injEq] at H
  obtain ⟨rfl,rfl,rfl,rfl,rfl⟩:=H
  go_enter Try.func81,Try.ntmps81
  go_wp2_with (first|((with_reducible refine aw (N:=2) rfl ?_);refine az rfl (N:=2) rfl (cs:=#[.int .i64 0,.int .i64 0,.int .i64 0]) (t:=43) (by go_simp) ?_;intro gb343 hg w20 hbox hb;replace HB:=M0 (ab HB.out hb);have BK343:=M0 (hbox);have GW343:=M0 ((by rw [hg];exact (ba (w:=w) (g:=g) (row:=none) HK.out) : w.heap.size ≤ gb343));have GE343:=M0 ((Nat.le_trans HW0.out (by rw [hg];exact (ba (w:=w) (g:=g) (row:=none) HK.out) : w.heap.size ≤ gb343) : w0.heap.size ≤ gb343));replace HK:=M0 (aj.trans HK.out (aj.bT hb g none) (.inl rfl));have NB0_343:=M0 ((by rw [hg];exact Nat.ne_of_lt (ak.lt (show ak w0 _ g s0_0 s0_1 s0_2 from HI0.out)) : g ≠ gb343));have NB343_0:=M0 NB0_343.out.symm;replace HI0:=M0 (ak.below HI0.out hb);clear hb hbox hg)|((with_reducible refine ah (f:=75) rfl ?_);refine aG (some 5) rfl rfl Try.func75 (by kernel_rfl) rfl #[.pointer (some ⟨g,0,none⟩),.int .i64 6] rfl (by (try simp only [List.map_toArray,List.map_cons,List.map_nil]);rfl) ?_;(with_reducible refine (ax.calls g s0_0 s0_1 s0_2 6 t344 t345 t346 w0 _ HI0.out HB.out A2.out).mono ?_);rintro e w21 ⟨rfl,hi,hb,hk⟩;refine ⟨_,rfl,?_⟩;replace BK343:=M0 (aj.blk hk BK343.out NB343_0.out (by simp));replace HK:=M0 (aj.trans HK.out hk (.inl rfl));replace HB:=M0 (hb);replace HI0:=M0 (hi);clear hb hk hi)|((with_reducible refine ah (f:=75) rfl ?_);refine aG (some 8) rfl rfl Try.func75 (by kernel_rfl) rfl #[.pointer (some ⟨g,0,none⟩),.int .i64 4] rfl (by (try simp only [List.map_toArray,List.map_cons,List.map_nil]);rfl) ?_;(with_reducible refine (ax.calls g s0_0 t345 t346 4 t347 t348 t349 w0 _ HI0.out HB.out A3.out).mono ?_);rintro e w22 ⟨rfl,hi,hb,hk⟩;refine ⟨_,rfl,?_⟩;replace BK343:=M0 (aj.blk hk BK343.out NB343_0.out (by simp));replace HK:=M0 (aj.trans HK.out hk (.inl rfl));replace HB:=M0 (hb);replace HI0:=M0 (hi);clear hb hk hi)|((with_reducible refine aw (N:=3) rfl ?_);refine az rfl (N:=3) rfl (cs:=#[.int .i64 0,.int .i64 0,.int .i64 0]) (t:=43) (by go_simp) ?_;intro gb350 hg w23 hbox hb;replace HB:=M0 (ab HB.out hb);have BK350:=M0 (hbox);have GW350:=M0 ((by rw [hg];exact (ba (w:=w) (g:=g) (row:=none) HK.out) : w.heap.size ≤ gb350));have GE350:=M0 ((Nat.le_trans HW0.out (by rw [hg];exact (ba (w:=w) (g:=g) (row:=none) HK.out) : w.heap.size ≤ gb350) : w0.heap.size ≤ gb350));replace HK:=M0 (aj.trans HK.out (aj.bT hb g none) (.inl rfl));have NB343_350:=M0 ((by rw [hg];exact Nat.ne_of_lt (bS BK343.out) : gb343 ≠ gb350));replace BK343:=M0 (ag BK343.out hb);have NB0_350:=M0 ((by rw [hg];exact Nat.ne_of_lt (ak.lt (show ak w0 _ g s0_0 t348 t349 from HI0.out)) : g ≠ gb350));have NB350_0:=M0 NB0_350.out.symm;replace HI0:=M0 (ak.below HI0.out hb);clear hb hbox hg;have hcz26_0:=bcv (v:=.int .i64 0) BK350.out 0 rfl;have hcz26_1:=bcv (v:=.int .i64 0) BK350.out 1 rfl;have hcz26_2:=bcv (v:=.int .i64 0) BK350.out 2 rfl;have hfz26_0:=aa BK350.out 0;have hfz26_1:=aa BK350.out 1;have hfz26_2:=aa BK350.out 2)|((with_reducible refine ah (f:=77) rfl ?_);refine aG (some 11) rfl rfl Try.func77 (by kernel_rfl) rfl #[.pointer (some ⟨g,0,none⟩),.int .i64 2] rfl (by (try simp only [List.map_toArray,List.map_cons,List.map_nil]);rfl) ?_;(with_reducible refine (bw.calls g s0_0 t348 t349 2 false t352 t353 w0 _ ?side1 ?side2 A4.out).mono ?_);(case side1=>repeat ((with_reducible first|exact HI0.out|refine ak.far ?_ NB0_350.out _)));(case side2=>repeat ((with_reducible first|exact HB.out|refine ay ?_ GE350.out)));rintro e w27 ⟨rfl,hi,hb,hk⟩;refine ⟨_,rfl,?_⟩;replace BK343:=M0 (aj.blk hk (g':=gb343) (o:=.cells #[.int .i64 0,.int .i64 0,.int .i64 0] 43 (0,0)) (by refine aU ?_ NB343_350.out _;refine aU ?_ NB343_350.out _;refine aU ?_ NB343_350.out _;exact BK343.out) NB343_0.out (by simp));replace BK350:=M0 (aj.blk hk (g':=gb350) (o:=.cells #[.int .i64 (wrap64 (1 + t344)),.int .i64 t347,.int .i64 0] 43 (0,0)) (by refine aC (cs:=#[.int .i64 (wrap64 (1 + t344)),.int .i64 t347,.int .i64 0]) ?_ 2 _ rfl;refine aC (cs:=#[.int .i64 (wrap64 (1 + t344)),.int .i64 0,.int .i64 0]) ?_ 1 _ rfl;refine aC (cs:=#[.int .i64 0,.int .i64 0,.int .i64 0]) ?_ 0 _ rfl;exact BK350.out) NB350_0.out (by simp));replace HK:=M0 (aj.trans (by repeat ((with_reducible first|exact HK.out|refine b8 ?_ GW350.out _))) hk (.inl rfl));replace HB:=M0 (hb);replace HI0:=M0 (hi);clear hb hk hi;have hcz28_0:=bcv (v:=.int .i64 (wrap64 (1 + t344))) BK350.out 0 rfl;have hcz28_1:=bcv (v:=.int .i64 t347) BK350.out 1 rfl;have hcz28_2:=bcv (v:=.int .i64 0) BK350.out 2 rfl;have hcz30_0:=bcv (v:=.int .i64 0) BK343.out 0 rfl;have hcz30_1:=bcv (v:=.int .i64 0) BK343.out 1 rfl;have hcz30_2:=bcv (v:=.int .i64 0) BK343.out 2 rfl;have hfz30_0:=aa BK343.out 0;have hfz30_1:=aa BK343.out 1;have hfz30_2:=aa BK343.out 2))
  refine bodyPost_ret (results_cell_row rfl _ _ gb343 43 #[.int .i64 (wrap64 (1 + t344)),.int .i64 t347,.int .i64 0] (0,0) _ rfl (by refine aC (cs:=#[.int .i64 (wrap64 (1 + t344)),.int .i64 t347,.int .i64 0]) ?_ 2 _ rfl;refine aC (cs:=#[.int .i64 (wrap64 (1 + t344)),.int .i64 0,.int .i64 0]) ?_ 1 _ rfl;refine aC (cs:=#[.int .i64 0,.int .i64 0,.int .i64 0]) ?_ 0 _ rfl;exact BK343.out) Try.underlying43 rfl (by kernel_rfl)) rfl ?_
  exact ⟨by rfl,by repeat ((with_reducible first|exact HI0.out|refine ak.far ?_ NB0_343.out _)),by repeat ((with_reducible first|exact HB.out|refine ay ?_ GE343.out)),by repeat ((with_reducible first|exact HK.out|refine b8 ?_ GW343.out _))⟩

/-! ### aN: function 83 -/
def aN.l0 : Nat → Int → List Int → Int → Int → List Int → Int → Int → Option (ByteArray × Int × Int)
 | 0,_,_,_,_,_,_,_=>none
 | k + 1,x1,x5,x6,x7,x1000,x1001,x1002=>if x7 < x1 then (if x6 = 0 then ((ax.f x1000 x1001 x1002 256).bind fun bt366=>(if x5.length < 140737488355328 then (aN.l0 k x1 (x5 ++ [(bt366.1) % 256]) x6 (wrap64 (x7 + 1)) x1000 bt366.2.1 bt366.2.2) else (none))) else (if x6 = 1 then ((ax.f x1000 x1001 x1002 9).bind fun bt372=>(if 0 ≤ bt372.1 then (if bt372.1 < 9 then (if x5.length < 140737488355328 then (aN.l0 k x1 (x5 ++ [bt (⟨#[32,9,61,46,13,10,45,97,95]⟩ : ByteArray) bt372.1]) x6 (wrap64 (x7 + 1)) x1000 bt372.2.1 bt372.2.2) else (none)) else (none)) else (none))) else (if x6 = 2 then ((bw.f x1000 x1001 x1002 12).bind fun bt378=>(if bt378.1 = true then ((some (([13,10] : List Int) : List Int)).bind fun y381=>(if x5.length + y381.length < 140737488355328 then ((some (x5 ++ y381 : List Int)).bind fun y384=>((ax.f x1000 bt378.2.1 bt378.2.2 95).bind fun bt387=>(if y384.length < 140737488355328 then (aN.l0 k x1 (y384 ++ [(wrap64 (32 + bt387.1)) % 256]) x6 (wrap64 (x7 + 1)) x1000 bt387.2.1 bt387.2.2) else (none)))) else (none))) else ((ax.f x1000 bt378.2.1 bt378.2.2 95).bind fun bt393=>(if x5.length < 140737488355328 then (aN.l0 k x1 (x5 ++ [(wrap64 (32 + bt393.1)) % 256]) x6 (wrap64 (x7 + 1)) x1000 bt393.2.1 bt393.2.2) else (none))))) else ((ax.f x1000 x1001 x1002 23).bind fun bt399=>(if 0 ≤ bt399.1 then (if bt399.1 < 23 then (if x5.length < 140737488355328 then (aN.l0 k x1 (x5 ++ [bt (⟨#[97,98,99,100,101,102,103,104,32,105,106,107,108,109,110,111,112,46,32,101,116,97,111]⟩ : ByteArray) bt399.1]) x6 (wrap64 (x7 + 1)) x1000 bt399.2.1 bt399.2.2) else (none)) else (none)) else (none)))))) else (if (x5.length : Int) > x1 then (if x1 ≥ 0 then (if 0 ≤ x1 then (if x1 ≤ (x5.length : Int) then (some (strOfNums (x5.take (x1 : Int).toNat),x1001,x1002)) else (none)) else (none)) else (some (strOfNums x5,x1001,x1002))) else (some (strOfNums x5,x1001,x1002)))
def aN.f (k : Nat) (s0_0 : List Int) (s0_1 : Int) (s0_2 : Int) (a1 : Int) : Option (ByteArray × Int × Int):=(ax.f s0_0 s0_1 s0_2 6).bind fun bt360=>(aN.l0 k a1 (([] : List Int)) bt360.1 0 s0_0 bt360.2.1 bt360.2.2)
set_option maxHeartbeats 8000000 in
set_option maxRecDepth 100000 in
theorem aN.calls (k : Nat) (g : Nat) (s0_0 : List Int) (s0_1 : Int) (s0_2 : Int) (a1 : Int) (r1 : ByteArray) (r2 : Int) (r3 : Int) (w0 w : World) (hI : ak w0 w g s0_0 s0_1 s0_2) (hB : Below w0.heap.size w0 w) (h : aN.f k s0_0 s0_1 s0_2 a1 = some (r1,r2,r3)) :
  Calls Try.prog 83 #[.pointer (some ⟨g,0,none⟩),.int .i64 a1] w fun e w'=>e = .returned (.string r1) ∧ ak w0 w' g s0_0 r2 r3 ∧ Below w0.heap.size w0 w' ∧ aj w w' g none:=by
 have HI0:=M0 hI
 have HK:=M0 (aj.refl w g none)
 have HL:=M0 hB.size
 clear hI
 have HB:=M0 hB
 clear hB
 have H : ((ax.f s0_0 s0_1 s0_2 6).bind fun bt360=>(aN.l0 k a1 (([] : List Int)) bt360.1 0 s0_0 bt360.2.1 bt360.2.2)) = some (r1,r2,r3):=h
 clear h
 obtain ⟨y357,hy357⟩ : ∃ y_ : List Int,y_ = (([] : List Int)):=⟨_,rfl⟩
 rw [← hy357] at H
 have Ny357:=M0 hy357
 clear hy357
 replace H:=Option.bind_eq_some_iff.mp H
 obtain ⟨⟨t360,t361,t362⟩,A30,H⟩:=H
 dsimp only at H
 have A3:=M0 A30
 clear A30
 have H':=M0 H
 clear H
 go_enter Try.func83,Try.ntmps83
 go_wp2_with (first|((with_reducible refine aw (N:=8) rfl ?_);refine Kd.dR (Kd.int .u8) _ 5 ?hg (N:=8) ?hd (xs:=([] : List Int)) (inner:=[]) (ok:=fun _=>True) (okp:=fun _=>True) ?hr ?hp (fun _ hk=>hk) trivial (Below.refl _ _) (Nat.le_refl _) (by simp) ?_;(case hd=>rfl);(case hg=>rfl);(case hr=>(go_simp;done));(case hp=>exact (Reps.none _ _));intro v358 w4 ho5 hb hg_ hnew_;clear hg_ hnew_;(rw [← Ny357.out] at ho5);have HO359:=M0 (Kd.bh ho5 (ba (w:=w) (g:=g) (row:=none) HK.out));replace HI0:=M0 (ak.below HI0.out hb);replace HK:=M0 (aj.trans HK.out (aj.bT hb g none) (.inl rfl));replace HB:=M0 (ab HB.out hb);clear hb ho5)|((with_reducible refine ah (f:=75) rfl ?_);refine aG (some 10) rfl rfl Try.func75 (by kernel_rfl) rfl #[.pointer (some ⟨g,0,none⟩),.int .i64 6] rfl (by (try simp only [List.map_toArray,List.map_cons,List.map_nil]);rfl) ?_;(with_reducible refine (ax.calls g s0_0 s0_1 s0_2 6 t360 t361 t362 w0 _ HI0.out HB.out A3.out).mono ?_);rintro e w6 ⟨rfl,hi,hb,hk⟩;refine ⟨_,rfl,?_⟩;replace HO359:=M0 (Kd.aI (Kd.cp (ak.apart (show ak w0 _ g s0_0 s0_1 s0_2 from HI0.out) HO359.out (by decide)) hk (fun _ h=>h.2)) (fun _ h=>h.1));replace HK:=M0 (aj.trans HK.out hk (.inl rfl));replace HB:=M0 (hb);replace HI0:=M0 (hi);clear hb hk hi))
 go_loopg [5,7] k (fun kq v5 v7 w'=>∃ (x5_1 : List Int) (x7_1 : Int) (x1001_1 : Int) (x1002_1 : Int),v7 = .int .i64 x7_1 ∧ Aside0 (aN.l0 kq a1 x5_1 t360 x7_1 s0_0 x1001_1 x1002_1 = some (r1,r2,r3)) ∧ Aside0 (kq ≤ k) ∧ Aside0 (Kd.R (Kd.int .u8) 5 w' w.heap.size (fun _=>True) v5 x5_1) ∧ Aside0 (ak w0 w' g s0_0 x1001_1 x1002_1) ∧ Aside0 (aj w w' g none) ∧ Aside0 (Below w0.heap.size w0 w'))
 case atStart=>exact ⟨(y357),(0),(t361),(t362),(by rfl),H',⟨Nat.le_refl _⟩,⟨by exact HO359.out⟩,⟨HI0.out⟩,⟨HK.out⟩,⟨HB.out⟩⟩
 case round=>
  clear H'
  obtain ⟨x5_1,x7_1,x1001_1,x1002_1,rfl,HA,HK1,HO_5,HI0,HK,HB⟩:=hrel
  cases gk with
  | zero=>exact absurd HA.out (by simp [aN.l0])
  | succ k1=>
   have H:=HA.out
   clear HA
   simp only [aN.l0] at H
   by_cases c7 : x7_1 < a1
   ·rw [if_pos c7] at H
    have c7b0:=decide_eq_true c7
    clear c7
    by_cases c8 : t360 = 0
    ·rw [if_pos c8] at H
     have c8b0 : (t360 == 0) = true:=beq_iff_eq.mpr c8
     clear c8
     replace H:=Option.bind_eq_some_iff.mp H
     obtain ⟨⟨t366,t367,t368⟩,A90,H⟩:=H
     dsimp only at H
     have A9:=M0 A90
     clear A90
     obtain ⟨c10,H⟩:=nn H
     have LMc10:=M0 c10
     clear c10
     obtain ⟨y369,hy369⟩ : ∃ y_ : List Int,y_ = (x5_1 ++ [(t366) % 256]):=⟨_,rfl⟩
     rw [← hy369] at H
     have Ny369:=M0 hy369
     clear hy369
     have H':=M0 H
     clear H
     go_wp2_with (first|((with_reducible refine ah (f:=75) rfl ?_);refine aG (some 27) rfl rfl Try.func75 (by kernel_rfl) rfl #[.pointer (some ⟨g,0,none⟩),.int .i64 256] rfl (by (try simp only [List.map_toArray,List.map_cons,List.map_nil]);rfl) ?_;(with_reducible refine (ax.calls g s0_0 x1001_1 x1002_1 256 t366 t367 t368 w0 _ HI0.out HB.out A9.out).mono ?_);rintro e w11 ⟨rfl,hi,hb,hk⟩;refine ⟨_,rfl,?_⟩;replace HO_5:=M0 (Kd.aI (Kd.cp (ak.apart (show ak w0 _ g s0_0 x1001_1 x1002_1 from HI0.out) HO_5.out (by decide)) hk (fun _ h=>h.2)) (fun _ h=>h.1));replace HK:=M0 (aj.trans HK.out hk (.inl rfl));replace HB:=M0 (hb);replace HI0:=M0 (hi);clear hb hk hi)|((with_reducible refine bV (b:=.append) (xs:=#[.tmp 25,.tmp 29]) rfl ?_);at_builtin;refine Kd.cQ (Kd.int .u8) w.heap.size rfl (.tmp 25) (.tmp 29) 37 5 (.int .u8 0) 1 rfl Try.underlying37 info5 rfl (by decide) (by omega) u5 x5_1 ((t366) % 256) [.int .u8 ((t366) % 256)] (fun _=>True) (fun _=>False) rfl rfl ?aP (fun _ hk=>hk.elim) ?aF ?aO (Below.refl _ _) ?aS ?aL ?_;(case aP=>exact rfl);(case aF=>exact (fun _ _=>trivial));(case aO=>exact HO_5.out);(case aS=>exact (ba (w:=w) (g:=g) (row:=none) HK.out));(case aL=>have:=LMc10.out;omega);intro v370 w12 ho hb hg hat;rw [← Ny369.out] at ho;have n0_:=M0 (ak.grown HI0.out hg (ak.dZ HI0.out HO_5.out (by decide)));have n1_:=M0 (cP HB.out HL.out hb);have n2_:=M0 (aj.trans HK.out (aj.dz hg g) (Kd.R_base2 HO_5.out));have n3_:=M0 (ho);clear HI0 HB HK HO_5;have HI0:=n0_;have HB:=n1_;have HK:=n2_;have HO371:=n3_;clear n0_ n1_ n2_ n3_ ho hb hg hat))
     go_roundg k1
     case measure=>have:=HK1.out;omega
     case rel=>exact ⟨(y369),(wrap64 (x7_1 + 1)),(t367),(t368),(by rfl),H',⟨by have:=HK1.out;omega⟩,⟨by exact HO371.out⟩,⟨HI0.out⟩,⟨HK.out⟩,⟨HB.out⟩⟩
    ·rw [if_neg c8] at H
     have c8b0 : (t360 == 0) = false:=beq_eq_false_iff_ne.mpr c8
     have c8b1 : (t360 != 0) = true:=bne_iff_ne.mpr c8
     by_cases c13 : t360 = 1
     ·rw [if_pos c13] at H
      have c13b0 : (t360 == 1) = true:=beq_iff_eq.mpr c13
      clear c13
      replace H:=Option.bind_eq_some_iff.mp H
      obtain ⟨⟨t372,t373,t374⟩,A140,H⟩:=H
      dsimp only at H
      have A14:=M0 A140
      clear A140
      obtain ⟨c15,H⟩:=nn H
      have c15b0:=decide_eq_true c15
      clear c15
      obtain ⟨c16,H⟩:=nn H
      have c16b0:=decide_eq_true c16
      clear c16
      obtain ⟨c18,H⟩:=nn H
      have LMc18:=M0 c18
      clear c18
      obtain ⟨y375,hy375⟩ : ∃ y_ : List Int,y_ = (x5_1 ++ [bt (⟨#[32,9,61,46,13,10,45,97,95]⟩ : ByteArray) t372]):=⟨_,rfl⟩
      rw [← hy375] at H
      have Ny375:=M0 hy375
      clear hy375
      have H':=M0 H
      clear H
      go_wp2_with (first|((with_reducible refine ah (f:=75) rfl ?_);refine aG (some 35) rfl rfl Try.func75 (by kernel_rfl) rfl #[.pointer (some ⟨g,0,none⟩),.int .i64 9] rfl (by (try simp only [List.map_toArray,List.map_cons,List.map_nil]);rfl) ?_;(with_reducible refine (ax.calls g s0_0 x1001_1 x1002_1 9 t372 t373 t374 w0 _ HI0.out HB.out A14.out).mono ?_);rintro e w19 ⟨rfl,hi,hb,hk⟩;refine ⟨_,rfl,?_⟩;replace HO_5:=M0 (Kd.aI (Kd.cp (ak.apart (show ak w0 _ g s0_0 x1001_1 x1002_1 from HI0.out) HO_5.out (by decide)) hk (fun _ h=>h.2)) (fun _ h=>h.1));replace HK:=M0 (aj.trans HK.out hk (.inl rfl));replace HB:=M0 (hb);replace HI0:=M0 (hi);clear hb hk hi;have p17 : 0 ≤ (t372 : Int):=of_decide_eq_true (by with_reducible assumption);have q17 : t372 < (9 : Int):=of_decide_eq_true (by with_reducible assumption);have hx17:=bt_at (⟨#[32,9,61,46,13,10,45,97,95]⟩ : ByteArray) t372;replace p17:=eq_true p17;replace q17:=eq_true q17)|((with_reducible refine bV (b:=.append) (xs:=#[.tmp 33,.tmp 37]) rfl ?_);at_builtin;refine Kd.cQ (Kd.int .u8) w.heap.size rfl (.tmp 33) (.tmp 37) 37 5 (.int .u8 0) 1 rfl Try.underlying37 info5 rfl (by decide) (by omega) u5 x5_1 (bt (⟨#[32,9,61,46,13,10,45,97,95]⟩ : ByteArray) t372) [.int .u8 (bt (⟨#[32,9,61,46,13,10,45,97,95]⟩ : ByteArray) t372)] (fun _=>True) (fun _=>False) rfl rfl ?aP (fun _ hk=>hk.elim) ?aF ?aO (Below.refl _ _) ?aS ?aL ?_;(case aP=>exact rfl);(case aF=>exact (fun _ _=>trivial));(case aO=>exact HO_5.out);(case aS=>exact (ba (w:=w) (g:=g) (row:=none) HK.out));(case aL=>have:=LMc18.out;omega);intro v376 w20 ho hb hg hat;rw [← Ny375.out] at ho;have n0_:=M0 (ak.grown HI0.out hg (ak.dZ HI0.out HO_5.out (by decide)));have n1_:=M0 (cP HB.out HL.out hb);have n2_:=M0 (aj.trans HK.out (aj.dz hg g) (Kd.R_base2 HO_5.out));have n3_:=M0 (ho);clear HI0 HB HK HO_5;have HI0:=n0_;have HB:=n1_;have HK:=n2_;have HO377:=n3_;clear n0_ n1_ n2_ n3_ ho hb hg hat))
      go_roundg k1
      case measure=>have:=HK1.out;omega
      case rel=>exact ⟨(y375),(wrap64 (x7_1 + 1)),(t373),(t374),(by rfl),H',⟨by have:=HK1.out;omega⟩,⟨by exact HO377.out⟩,⟨HI0.out⟩,⟨HK.out⟩,⟨HB.out⟩⟩
     ·rw [if_neg c13] at H
      have c13b0 : (t360 == 1) = false:=beq_eq_false_iff_ne.mpr c13
      have c13b1 : (t360 != 1) = true:=bne_iff_ne.mpr c13
      by_cases c21 : t360 = 2
      ·rw [if_pos c21] at H
       have c21b0 : (t360 == 2) = true:=beq_iff_eq.mpr c21
       clear c21
       replace H:=Option.bind_eq_some_iff.mp H
       obtain ⟨⟨t378,t379,t380⟩,A220,H⟩:=H
       dsimp only at H
       have A22:=M0 A220
       clear A220
       by_cases c23 : t378 = true
       ·subst c23
        have H1 : ((some (([13,10] : List Int) : List Int)).bind fun y381=>(if x5_1.length + y381.length < 140737488355328 then ((some (x5_1 ++ y381 : List Int)).bind fun y384=>((ax.f s0_0 t379 t380 95).bind fun bt387=>(if y384.length < 140737488355328 then (aN.l0 k1 a1 (y384 ++ [(wrap64 (32 + bt387.1)) % 256]) t360 (wrap64 (x7_1 + 1)) s0_0 bt387.2.1 bt387.2.2) else (none)))) else (none))) = some (r1,r2,r3):=by rw [if_pos rfl] at H;exact H
        clear H
        have H:=H1
        clear H1
        obtain ⟨y381,hy381⟩ : ∃ y_ : List Int,y_ = (([13,10] : List Int)):=⟨_,rfl⟩
        replace H : (if x5_1.length + y381.length < 140737488355328 then ((some (x5_1 ++ y381 : List Int)).bind fun y384=>((ax.f s0_0 t379 t380 95).bind fun bt387=>(if y384.length < 140737488355328 then (aN.l0 k1 a1 (y384 ++ [(wrap64 (32 + bt387.1)) % 256]) t360 (wrap64 (x7_1 + 1)) s0_0 bt387.2.1 bt387.2.2) else (none)))) else (none)) = some (r1,r2,r3):=by (have H2_:=(Option.bind_some _ _).symm.trans H;rw [hy381];with_reducible exact H2_)
        have Ny381:=M0 hy381
        clear hy381
        obtain ⟨c24,H⟩:=nn H
        have LMc24:=M0 c24
        clear c24
        obtain ⟨y384,hy384⟩ : ∃ y_ : List Int,y_ = (x5_1 ++ y381):=⟨_,rfl⟩
        replace H : ((ax.f s0_0 t379 t380 95).bind fun bt387=>(if y384.length < 140737488355328 then (aN.l0 k1 a1 (y384 ++ [(wrap64 (32 + bt387.1)) % 256]) t360 (wrap64 (x7_1 + 1)) s0_0 bt387.2.1 bt387.2.2) else (none))) = some (r1,r2,r3):=by (have H2_:=(Option.bind_some _ _).symm.trans H;rw [hy384];with_reducible exact H2_)
        have Ny384:=M0 hy384
        clear hy384
        replace H:=Option.bind_eq_some_iff.mp H
        obtain ⟨⟨t387,t388,t389⟩,A250,H⟩:=H
        dsimp only at H
        have A25:=M0 A250
        clear A250
        obtain ⟨c26,H⟩:=nn H
        have LMc26:=M0 c26
        clear c26
        obtain ⟨y390,hy390⟩ : ∃ y_ : List Int,y_ = (y384 ++ [(wrap64 (32 + t387)) % 256]):=⟨_,rfl⟩
        rw [← hy390] at H
        have Ny390:=M0 hy390
        clear hy390
        have H':=M0 H
        clear H
        go_wp2_with (first|((with_reducible refine ah (f:=77) rfl ?_);refine aG (some 42) rfl rfl Try.func77 (by kernel_rfl) rfl #[.pointer (some ⟨g,0,none⟩),.int .i64 12] rfl (by (try simp only [List.map_toArray,List.map_cons,List.map_nil]);rfl) ?_;(with_reducible refine (bw.calls g s0_0 x1001_1 x1002_1 12 true t379 t380 w0 _ HI0.out HB.out A22.out).mono ?_);rintro e w27 ⟨rfl,hi,hb,hk⟩;refine ⟨_,rfl,?_⟩;replace HO_5:=M0 (Kd.aI (Kd.cp (ak.apart (show ak w0 _ g s0_0 x1001_1 x1002_1 from HI0.out) HO_5.out (by decide)) hk (fun _ h=>h.2)) (fun _ h=>h.1));replace HK:=M0 (aj.trans HK.out hk (.inl rfl));replace HB:=M0 (hb);replace HI0:=M0 (hi);clear hb hk hi)|((with_reducible refine aw (N:=44) rfl ?_);refine Kd.dR (Kd.int .u8) _ 5 ?hg (N:=44) ?hd (xs:=([13,10] : List Int)) (inner:=[.int .u8 13,.int .u8 10]) (ok:=fun _=>True) (okp:=fun _=>True) ?hr ?hp (fun _ hk=>hk) trivial (Below.refl _ _) (Nat.le_refl _) (by simp) ?_;(case hd=>rfl);(case hg=>rfl);(case hr=>(go_simp;done));(case hp=>exact (Reps.one (show Kd.M (Kd.int .u8) _ _ _ 13 [.int .u8 13] from rfl) (Reps.one (show Kd.M (Kd.int .u8) _ _ _ 10 [.int .u8 10] from rfl) (Reps.none _ _))));intro v382 w28 ho29 hb hg_ hnew_;clear hg_ hnew_;(rw [← Ny381.out] at ho29);have HO383:=M0 (Kd.bh (Kd.cE ho29 (Kd.R_lt HO_5.out)) (ba (w:=w) (g:=g) (row:=none) HK.out));replace HO_5:=M0 (Kd.bU HO_5.out (Kd.cD ho29) hb);replace HI0:=M0 (ak.below HI0.out hb);replace HK:=M0 (aj.trans HK.out (aj.bT hb g none) (.inl rfl));replace HB:=M0 (ab HB.out hb);clear hb ho29;obtain ⟨Ao31,co31,eo31⟩:=Kd.a9 HO383.out;subst eo31)|((with_reducible refine bV (b:=.append) (xs:=#[.tmp 43,.tmp 44]) rfl ?_);at_builtin;refine Kd.R_append_rows (Kd.int .u8) w.heap.size rfl (.tmp 43) (.tmp 44) 37 5 (.int .u8 0) 1 rfl Try.underlying37 info5 rfl (by decide) (by omega) u5 x5_1 y381 _ _ _ (fun k_=>some k_ ≠ (.slice Ao31 y381.length co31 : Value).ownBlock) (fun _=>False) rfl rfl ?aO ?aR (fun _ _ h=>h) (fun _ h=>h.elim) ?aF (Below.refl _ _) ?aS ?aL ?_;(case aR=>exact (Kd.aA HO383.out).2.2);(case aF=>exact (fun k_ hk=>Kd.dH (Kd.R_lt HO383.out) k_ hk));(case aO=>exact (by exact Kd.aI HO_5.out (fun _ hk=>hk.2)));(case aS=>exact (ba (w:=w) (g:=g) (row:=none) HK.out));(case aL=>have:=LMc24.out;omega);intro v385 w30 ho hb hg hat;rw [← Ny384.out] at ho;have n0_:=M0 (ak.grown HI0.out hg (ak.dZ HI0.out HO_5.out (by decide)));have n1_:=M0 (Kd.db (ok:=(fun _=>True)) HO383.out hg hat);have n2_:=M0 (cP HB.out HL.out hb);have n3_:=M0 (aj.trans HK.out (aj.dz hg g) (Kd.R_base2 HO_5.out));have n4_:=M0 (ho);clear HI0 HO383 HB HK HO_5;have HI0:=n0_;have HO383:=n1_;have HB:=n2_;have HK:=n3_;have HO386:=n4_;clear n0_ n1_ n2_ n3_ n4_ ho hb hg hat)|((with_reducible refine ah (f:=75) rfl ?_);refine aG (some 48) rfl rfl Try.func75 (by kernel_rfl) rfl #[.pointer (some ⟨g,0,none⟩),.int .i64 95] rfl (by (try simp only [List.map_toArray,List.map_cons,List.map_nil]);rfl) ?_;(with_reducible refine (ax.calls g s0_0 t379 t380 95 t387 t388 t389 w0 _ HI0.out HB.out A25.out).mono ?_);rintro e w32 ⟨rfl,hi,hb,hk⟩;refine ⟨_,rfl,?_⟩;replace HO383:=M0 (Kd.aI (Kd.cp (ak.apart (show ak w0 _ g s0_0 t379 t380 from HI0.out) HO383.out (by decide)) hk (fun _ h=>h.2)) (fun _ h=>h.1));replace HO386:=M0 (Kd.aI (Kd.cp (ak.apart (show ak w0 _ g s0_0 t379 t380 from HI0.out) HO386.out (by decide)) hk (fun _ h=>h.2)) (fun _ h=>h.1));replace HK:=M0 (aj.trans HK.out hk (.inl rfl));replace HB:=M0 (hb);replace HI0:=M0 (hi);clear hb hk hi)|((with_reducible refine bV (b:=.append) (xs:=#[.tmp 46,.tmp 51]) rfl ?_);at_builtin;refine Kd.cQ (Kd.int .u8) w.heap.size rfl (.tmp 46) (.tmp 51) 37 5 (.int .u8 0) 1 rfl Try.underlying37 info5 rfl (by decide) (by omega) v385 y384 ((wrap64 (32 + t387)) % 256) [.int .u8 ((wrap64 (32 + t387)) % 256)] (fun k_=>some k_ ≠ (.slice Ao31 y381.length co31 : Value).ownBlock) (fun _=>False) rfl rfl ?aP (fun _ hk=>hk.elim) ?aF ?aO (Below.refl _ _) ?aS ?aL ?_;(case aP=>exact rfl);(case aF=>exact (fun k_ hk=>Kd.dH (Kd.R_lt HO383.out) k_ hk));(case aO=>exact HO386.out);(case aS=>exact (ba (w:=w) (g:=g) (row:=none) HK.out));(case aL=>have:=LMc26.out;omega);intro v391 w33 ho hb hg hat;rw [← Ny390.out] at ho;have n0_:=M0 (ak.grown HI0.out hg (ak.dZ HI0.out HO386.out (by decide)));have n1_:=M0 (Kd.db (ok:=(fun _=>True)) HO383.out hg hat);have n2_:=M0 (cP HB.out HL.out hb);have n3_:=M0 (aj.trans HK.out (aj.dz hg g) (Kd.R_base2 HO386.out));have n4_:=M0 (ho);clear HI0 HO383 HB HK HO386;have HI0:=n0_;have HO383:=n1_;have HB:=n2_;have HK:=n3_;have HO392:=n4_;clear n0_ n1_ n2_ n3_ n4_ ho hb hg hat))
        go_roundg k1
        case measure=>have:=HK1.out;omega
        case rel=>exact ⟨(y390),(wrap64 (x7_1 + 1)),(t388),(t389),(by rfl),H',⟨by have:=HK1.out;omega⟩,⟨by exact Kd.aI HO392.out (fun _ hk=>trivial)⟩,⟨HI0.out⟩,⟨HK.out⟩,⟨HB.out⟩⟩
       ·replace c23:=Bool.eq_false_iff.mpr c23
        subst c23
        have H1 : ((ax.f s0_0 t379 t380 95).bind fun bt393=>(if x5_1.length < 140737488355328 then (aN.l0 k1 a1 (x5_1 ++ [(wrap64 (32 + bt393.1)) % 256]) t360 (wrap64 (x7_1 + 1)) s0_0 bt393.2.1 bt393.2.2) else (none))) = some (r1,r2,r3):=by rw [if_neg (show ¬ (false = true) by decide)] at H;exact H
        clear H
        have H:=H1
        clear H1
        replace H:=Option.bind_eq_some_iff.mp H
        obtain ⟨⟨t393,t394,t395⟩,A340,H⟩:=H
        dsimp only at H
        have A34:=M0 A340
        clear A340
        obtain ⟨c35,H⟩:=nn H
        have LMc35:=M0 c35
        clear c35
        obtain ⟨y396,hy396⟩ : ∃ y_ : List Int,y_ = (x5_1 ++ [(wrap64 (32 + t393)) % 256]):=⟨_,rfl⟩
        rw [← hy396] at H
        have Ny396:=M0 hy396
        clear hy396
        have H':=M0 H
        clear H
        go_wp2_with (first|((with_reducible refine ah (f:=77) rfl ?_);refine aG (some 42) rfl rfl Try.func77 (by kernel_rfl) rfl #[.pointer (some ⟨g,0,none⟩),.int .i64 12] rfl (by (try simp only [List.map_toArray,List.map_cons,List.map_nil]);rfl) ?_;(with_reducible refine (bw.calls g s0_0 x1001_1 x1002_1 12 false t379 t380 w0 _ HI0.out HB.out A22.out).mono ?_);rintro e w36 ⟨rfl,hi,hb,hk⟩;refine ⟨_,rfl,?_⟩;replace HO_5:=M0 (Kd.aI (Kd.cp (ak.apart (show ak w0 _ g s0_0 x1001_1 x1002_1 from HI0.out) HO_5.out (by decide)) hk (fun _ h=>h.2)) (fun _ h=>h.1));replace HK:=M0 (aj.trans HK.out hk (.inl rfl));replace HB:=M0 (hb);replace HI0:=M0 (hi);clear hb hk hi)|((with_reducible refine ah (f:=75) rfl ?_);refine aG (some 48) rfl rfl Try.func75 (by kernel_rfl) rfl #[.pointer (some ⟨g,0,none⟩),.int .i64 95] rfl (by (try simp only [List.map_toArray,List.map_cons,List.map_nil]);rfl) ?_;(with_reducible refine (ax.calls g s0_0 t379 t380 95 t393 t394 t395 w0 _ HI0.out HB.out A34.out).mono ?_);rintro e w37 ⟨rfl,hi,hb,hk⟩;refine ⟨_,rfl,?_⟩;replace HO_5:=M0 (Kd.aI (Kd.cp (ak.apart (show ak w0 _ g s0_0 t379 t380 from HI0.out) HO_5.out (by decide)) hk (fun _ h=>h.2)) (fun _ h=>h.1));replace HK:=M0 (aj.trans HK.out hk (.inl rfl));replace HB:=M0 (hb);replace HI0:=M0 (hi);clear hb hk hi)|((with_reducible refine bV (b:=.append) (xs:=#[.tmp 46,.tmp 51]) rfl ?_);at_builtin;refine Kd.cQ (Kd.int .u8) w.heap.size rfl (.tmp 46) (.tmp 51) 37 5 (.int .u8 0) 1 rfl Try.underlying37 info5 rfl (by decide) (by omega) u5 x5_1 ((wrap64 (32 + t393)) % 256) [.int .u8 ((wrap64 (32 + t393)) % 256)] (fun _=>True) (fun _=>False) rfl rfl ?aP (fun _ hk=>hk.elim) ?aF ?aO (Below.refl _ _) ?aS ?aL ?_;(case aP=>exact rfl);(case aF=>exact (fun _ _=>trivial));(case aO=>exact HO_5.out);(case aS=>exact (ba (w:=w) (g:=g) (row:=none) HK.out));(case aL=>have:=LMc35.out;omega);intro v397 w38 ho hb hg hat;rw [← Ny396.out] at ho;have n0_:=M0 (ak.grown HI0.out hg (ak.dZ HI0.out HO_5.out (by decide)));have n1_:=M0 (cP HB.out HL.out hb);have n2_:=M0 (aj.trans HK.out (aj.dz hg g) (Kd.R_base2 HO_5.out));have n3_:=M0 (ho);clear HI0 HB HK HO_5;have HI0:=n0_;have HB:=n1_;have HK:=n2_;have HO398:=n3_;clear n0_ n1_ n2_ n3_ ho hb hg hat))
        go_roundg k1
        case measure=>have:=HK1.out;omega
        case rel=>exact ⟨(y396),(wrap64 (x7_1 + 1)),(t394),(t395),(by rfl),H',⟨by have:=HK1.out;omega⟩,⟨by exact HO398.out⟩,⟨HI0.out⟩,⟨HK.out⟩,⟨HB.out⟩⟩
      ·rw [if_neg c21] at H
       have c21b0 : (t360 == 2) = false:=beq_eq_false_iff_ne.mpr c21
       replace H:=Option.bind_eq_some_iff.mp H
       obtain ⟨⟨t399,t400,t401⟩,A390,H⟩:=H
       dsimp only at H
       have A39:=M0 A390
       clear A390
       obtain ⟨c40,H⟩:=nn H
       have c40b0:=decide_eq_true c40
       clear c40
       obtain ⟨c41,H⟩:=nn H
       have c41b0:=decide_eq_true c41
       clear c41
       obtain ⟨c43,H⟩:=nn H
       have LMc43:=M0 c43
       clear c43
       obtain ⟨y402,hy402⟩ : ∃ y_ : List Int,y_ = (x5_1 ++ [bt (⟨#[97,98,99,100,101,102,103,104,32,105,106,107,108,109,110,111,112,46,32,101,116,97,111]⟩ : ByteArray) t399]):=⟨_,rfl⟩
       rw [← hy402] at H
       have Ny402:=M0 hy402
       clear hy402
       have H':=M0 H
       clear H
       go_wp2_with (first|((with_reducible refine ah (f:=75) rfl ?_);refine aG (some 19) rfl rfl Try.func75 (by kernel_rfl) rfl #[.pointer (some ⟨g,0,none⟩),.int .i64 23] rfl (by (try simp only [List.map_toArray,List.map_cons,List.map_nil]);rfl) ?_;(with_reducible refine (ax.calls g s0_0 x1001_1 x1002_1 23 t399 t400 t401 w0 _ HI0.out HB.out A39.out).mono ?_);rintro e w44 ⟨rfl,hi,hb,hk⟩;refine ⟨_,rfl,?_⟩;replace HO_5:=M0 (Kd.aI (Kd.cp (ak.apart (show ak w0 _ g s0_0 x1001_1 x1002_1 from HI0.out) HO_5.out (by decide)) hk (fun _ h=>h.2)) (fun _ h=>h.1));replace HK:=M0 (aj.trans HK.out hk (.inl rfl));replace HB:=M0 (hb);replace HI0:=M0 (hi);clear hb hk hi;have p42 : 0 ≤ (t399 : Int):=of_decide_eq_true (by with_reducible assumption);have q42 : t399 < (23 : Int):=of_decide_eq_true (by with_reducible assumption);have hx42:=bt_at (⟨#[97,98,99,100,101,102,103,104,32,105,106,107,108,109,110,111,112,46,32,101,116,97,111]⟩ : ByteArray) t399;replace p42:=eq_true p42;replace q42:=eq_true q42)|((with_reducible refine bV (b:=.append) (xs:=#[.tmp 17,.tmp 21]) rfl ?_);at_builtin;refine Kd.cQ (Kd.int .u8) w.heap.size rfl (.tmp 17) (.tmp 21) 37 5 (.int .u8 0) 1 rfl Try.underlying37 info5 rfl (by decide) (by omega) u5 x5_1 (bt (⟨#[97,98,99,100,101,102,103,104,32,105,106,107,108,109,110,111,112,46,32,101,116,97,111]⟩ : ByteArray) t399) [.int .u8 (bt (⟨#[97,98,99,100,101,102,103,104,32,105,106,107,108,109,110,111,112,46,32,101,116,97,111]⟩ : ByteArray) t399)] (fun _=>True) (fun _=>False) rfl rfl ?aP (fun _ hk=>hk.elim) ?aF ?aO (Below.refl _ _) ?aS ?aL ?_;(case aP=>exact rfl);(case aF=>exact (fun _ _=>trivial));(case aO=>exact HO_5.out);(case aS=>exact (ba (w:=w) (g:=g) (row:=none) HK.out));(case aL=>have:=LMc43.out;omega);intro v403 w45 ho hb hg hat;rw [← Ny402.out] at ho;have n0_:=M0 (ak.grown HI0.out hg (ak.dZ HI0.out HO_5.out (by decide)));have n1_:=M0 (cP HB.out HL.out hb);have n2_:=M0 (aj.trans HK.out (aj.dz hg g) (Kd.R_base2 HO_5.out));have n3_:=M0 (ho);clear HI0 HB HK HO_5;have HI0:=n0_;have HB:=n1_;have HK:=n2_;have HO404:=n3_;clear n0_ n1_ n2_ n3_ ho hb hg hat))
       go_roundg k1
       case measure=>have:=HK1.out;omega
       case rel=>exact ⟨(y402),(wrap64 (x7_1 + 1)),(t400),(t401),(by rfl),H',⟨by have:=HK1.out;omega⟩,⟨by exact HO404.out⟩,⟨HI0.out⟩,⟨HK.out⟩,⟨HB.out⟩⟩
   ·rw [if_neg c7] at H
    have c7b0:=decide_eq_false c7
    clear c7
    by_cases c46 : (x5_1.length : Int) > a1
    ·rw [if_pos c46] at H
     have c46b0:=decide_eq_true c46
     clear c46
     by_cases c47 : a1 ≥ 0
     ·rw [if_pos c47] at H
      clear c47
      obtain ⟨c48,H⟩:=nn H
      have c48b0:=eq_true c48
      have c48b1:=decide_eq_true c48
      clear c48
      obtain ⟨c49,H⟩:=nn H
      have c49b1:=decide_eq_true c49
      clear c49
      obtain ⟨y363,hy363⟩ : ∃ y_ : List Int,y_ = (x5_1.take (a1 : Int).toNat):=⟨_,rfl⟩
      rw [← hy363] at H
      have Ny363:=M0 hy363
      clear hy363
      simp only [Option.some.injEq,Prod.mk.injEq] at H
      obtain ⟨rfl,rfl,rfl⟩:=H
      obtain ⟨Ao50,co50,eo50⟩:=Kd.a9 HO_5.out
      subst eo50
      have q51 : (a1 : Int) ≤ ((x5_1.length : Int) : Int):=of_decide_eq_true (by with_reducible assumption)
      obtain ⟨i051,hi051,_,hsz51,_⟩:=info_parts info5
      have hcut51:=cut_to (P:=Try.prog) 37 5 .i64 Try.underlying37 hi051 Ao50 x5_1.length co50 a1 (of_decide_eq_true (by with_reducible assumption)) q51 (Kd.aA HO_5.out).2.1
      have hr51:=Kd.R_take (m:=(a1 : Int).toNat) HO_5.out (by omega)
      have hy51 : y363.length = (a1 : Int).toNat:=(by rw [Ny363.out,List.length_take];omega)
      rw [← Ny363.out] at hr51
      rw [← hy51] at hr51 hcut51
      clear hy51 hi051 hsz51 HO_5
      have HO365:=M0 hr51
      clear hr51
      replace q51:=eq_true q51
      have hcv52:=own_string (P:=Try.prog) Try.underlying37 Try.underlying5 Try.underlying9 (Kd.own_of_R HO365.out)
      go_wp2
      go_ret
      exact ⟨by rfl,HI0.out,HB.out,HK.out⟩
     ·rw [if_neg c47] at H
      have c47b0:=decide_eq_false c47
      clear c47
      simp only [Option.some.injEq,Prod.mk.injEq] at H
      obtain ⟨rfl,rfl,rfl⟩:=H
      obtain ⟨Ao53,co53,eo53⟩:=Kd.a9 HO_5.out
      subst eo53
      have hcv54:=own_string (P:=Try.prog) Try.underlying37 Try.underlying5 Try.underlying9 (Kd.own_of_R HO_5.out)
      go_wp2
      go_ret
      exact ⟨by rfl,HI0.out,HB.out,HK.out⟩
    ·rw [if_neg c46] at H
     have c46b0:=decide_eq_false c46
     clear c46
     simp only [Option.some.injEq,Prod.mk.injEq] at H
     obtain ⟨rfl,rfl,rfl⟩:=H
     obtain ⟨Ao55,co55,eo55⟩:=Kd.a9 HO_5.out
     subst eo55
     have hcv56:=own_string (P:=Try.prog) Try.underlying37 Try.underlying5 Try.underlying9 (Kd.own_of_R HO_5.out)
     go_wp2
     go_ret
     exact ⟨by rfl,HI0.out,HB.out,HK.out⟩

end Go.Proofs.Ytffhbpepppodeaa.PFnDecoded
