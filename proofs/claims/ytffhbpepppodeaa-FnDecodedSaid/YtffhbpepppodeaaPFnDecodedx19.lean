import Derived.Test.YtffhbpepppodeaaPFnDecodedx0
import Derived.Test.YtffhbpepppodeaaPFnDecodedx2
import Derived.Test.YtffhbpepppodeaaPFnDecodedx3
import Derived.Test.YtffhbpepppodeaaPFnDecodedx4
import Derived.Test.YtffhbpepppodeaaPFnDecodedx15
import Derived.Test.YtffhbpepppodeaaPFnDecodedx18
namespace Go.Proofs.Ytffhbpepppodeaa.PFnDecoded
private theorem nn {α : Type} {c : Prop} [Decidable c] {a : Option α} {r : α} (h : (if c then a else none) = some r) : c ∧ a = some r:=by
 split at h
 ·exact ⟨‹c›,h⟩
 ·cases h
open Go.RowKit Go.Proofs.YtffhbpepppodeaaW.PrintWords Go.Proofs.YtffhbpepppodeaaW.PrintLast Go.Proofs.YtffhbpepppodeaaW.PrintMore
attribute [local go_sem] cJ cL dn dp cw cy cM cN   -- for this text's walks alone
set_option linter.unusedVariables false
set_option linter.unusedSimpArgs false

/-! ### aV: function 10 -/
mutual
def aV.j0 : Nat → Bool → Int → Int → Int → Int → List ByteArray → Int → List ByteArray → Option (Bool)
 | 0,_,_,_,_,_,_,_,_=>none
 | k + 1,x35,x539000,x539001,x539002,x544000,x544001,x549000,x549001=>if x35 = true then (some false) else (if x549000 = 0 then (aV.l0 k (([] : List (S61))) 0 x539000 x539001 x539002 x544000 x544001) else (some true))
def aV.l0 : Nat → List (S61) → Int → Int → Int → Int → Int → List ByteArray → Option (Bool)
 | 0,_,_,_,_,_,_,_=>none
 | k + 1,x7,x8,x539000,x539001,x539002,x544000,x544001=>if x8 < (x544001.length : Int) then (if 0 ≤ x8 then (if x7.length < 5864062014805 then (aV.l0 k (x7 ++ [(⟨true,rdOf ByteArray.empty x544001 x8⟩ : S61)]) (wrap64 (x8 + 1)) x539000 x539001 x539002 x544000 x544001) else (none)) else (none)) else ((bH.f k x539000 x539001 x539002 x7).bind fun bt557=>((bB.f k bt557.2 x544001).bind fun t561=>(if t561 = true then (if 0 ≤ x539000 then (if x539000 ≤ (x544001.length : Int) then ((bZ.f k x539000 x539001 x539002 (x544001.take (x539000 : Int).toNat)).bind fun bt566=>((bB.f k bt566.2 x544001).bind fun t570=>(some t570))) else (none)) else (none)) else (some false))))
end
def aV.f (k : Nat) (l0 : List Int) : Option (Bool):=if (l0.length : Int) > 1048576 then (some true) else ((bW.f k l0).bind fun bt532=>((bH.f k bt532.1 bt532.2.1 bt532.2.2.1 bt532.2.2.2).bind fun bt539=>((aq.f k bt532.1 bt532.2.1 bt532.2.2.1 bt532.2.2.2).bind fun bt544=>(if bt539.1 = bt544.1 then ((bB.f k bt539.2 bt544.2).bind fun t549=>(aV.j0 k (!t549) bt532.1 bt532.2.1 bt532.2.2.1 bt539.1 bt539.2 bt544.1 bt544.2)) else (aV.j0 k true bt532.1 bt532.2.1 bt532.2.2.1 bt539.1 bt539.2 bt544.1 bt544.2)))))
def aV.T15 : Bool × List (List Nat × List Nat):=(true,[([],[]),([],[]),([0,1],[0,1]),([2],[2]),([],[]),([4],[4]),([3,5,2],[3,5]),([6,6],[6]),([7],[7]),([7],[7]),([9,7],[7,9]),([7],[7]),([11,7],[7,11]),([10,12,7],[7,10,12]),([8,13,7,7],[7,8,13]),([14,7],[7,14]),([7],[7]),([16,7],[7,16]),([15,17,14,7],[7,15,17]),([7,18],[7,18]),([19,18,0,1,2,3,4,5,6,7,8,9,10,11,12,13,14,15,16,17,18,19],[19])])
def aV.B15 : List Nat:=[0,0,3,7,0,16,63,127,255,255,767,255,2303,7935,16383,32767,255,65791,262143,524287,1048575]
theorem aV.tab15 : rtab .any (opsOf Try.f10 15) = aV.T15:=by kernel_rfl
theorem aV.bits15 : de aV.T15.2 aV.B15 = true:=by kernel_rfl
set_option maxHeartbeats 8000000 in
set_option maxRecDepth 100000 in
theorem aV.calls (k : Nat) (A0 : Option Addr) (c0 : Nat) (l0 : List Int) (_r : Bool) (w : World) (hr0 : Kd.C (Kd.int .u8) w A0 l0.length l0) (hc0 : l0.length ≤ c0) (h : aV.f k l0 = some true) :
  Calls Try.prog 10 #[.slice A0 l0.length c0] w fun e w'=>e = .returned (.bool true) ∧ Below w.heap.size w w':=by
 have hfd0 : ∀ (a : Int) (v : Value) (w : World),(Instr.field 68 (.agg #[.int .i64 a,v]) 1).run Try.prog w = .ok v w:=fun _ _ _=>by kernel_rfl
 have HR0:=M0 hr0
 have HC0:=M0 hc0
 clear hr0 hc0
 have HB:=M0 (Below.refl w.heap.size w)
 have H : (if (l0.length : Int) > 1048576 then (some true) else ((bW.f k l0).bind fun bt532=>((bH.f k bt532.1 bt532.2.1 bt532.2.2.1 bt532.2.2.2).bind fun bt539=>((aq.f k bt532.1 bt532.2.1 bt532.2.2.1 bt532.2.2.2).bind fun bt544=>(if bt539.1 = bt544.1 then ((bB.f k bt539.2 bt544.2).bind fun t549=>(aV.j0 k (!t549) bt532.1 bt532.2.1 bt532.2.2.1 bt539.1 bt539.2 bt544.1 bt544.2)) else (aV.j0 k true bt532.1 bt532.2.1 bt532.2.2.1 bt539.1 bt539.2 bt544.1 bt544.2)))))) = some true:=h
 clear h
 by_cases c2 : (l0.length : Int) > 1048576
 ·rw [if_pos c2] at H
  have c2b0:=decide_eq_true c2
  clear c2 H
  go_enter Try.func10,Try.ntmps10
  go_wp2
  go_ret
  exact ⟨by rfl,by repeat ((with_reducible exact HB.out))⟩
 ·rw [if_neg c2] at H
  have c2b0:=decide_eq_false c2
  have c2b1 : decide (1048576 < l0.length) = false:=decide_eq_false (by omega)
  clear c2
  replace H:=Option.bind_eq_some_iff.mp H
  obtain ⟨⟨t532,t533,t534,t535⟩,A30,H⟩:=H
  dsimp only at H
  have A3:=M0 A30
  clear A30
  replace H:=Option.bind_eq_some_iff.mp H
  obtain ⟨⟨t539,t540⟩,A40,H⟩:=H
  dsimp only at H
  have A4:=M0 A40
  clear A40
  replace H:=Option.bind_eq_some_iff.mp H
  obtain ⟨⟨t544,t545⟩,A50,H⟩:=H
  dsimp only at H
  have A5:=M0 A50
  clear A50
  have HC6:=M0 H
  clear H
  go_enter Try.func10,Try.ntmps10
  go_upto_region 6 with (first|((with_reducible refine ah (f:=52) rfl ?_);refine aG (some 14) rfl rfl Try.func52 (by kernel_rfl) rfl #[.slice A0 l0.length c0] rfl (by (try simp only [List.map_toArray,List.map_cons,List.map_nil]);rfl) ?_;(with_reducible refine (bW.calls k _ _ l0 t532 t533 t534 t535 _ HR0.out HC0.out A3.out).mono ?_);rintro e w7 ⟨v536,rfl,ho0,hb⟩;refine ⟨_,rfl,?_⟩;have HO537:=M0 (Kd.Q_lower ho0 (av (by repeat ((with_reducible exact HB.out)))));replace HB:=M0 (ab (by repeat ((with_reducible exact HB.out))) hb);clear hb ho0)|((with_reducible refine aw (N:=3) rfl ?_);refine az rfl (N:=3) rfl (cs:=#[.int .i64 0,.int .i64 0,.int .i64 0]) (t:=43) (by go_simp) ?_;intro gb538 hg w8 hbox hb;replace HO537:=M0 (Kd.Q_below HO537.out hb);have BK538:=M0 (hbox);have GE538:=M0 ((by rw [hg];exact (av (by repeat ((with_reducible exact HB.out)))) : w.heap.size ≤ gb538));replace HB:=M0 (ab (by repeat ((with_reducible exact HB.out))) hb);clear hb hbox hg;have hcz9_0:=bcv (v:=.int .i64 0) BK538.out 0 rfl;have hcz9_1:=bcv (v:=.int .i64 0) BK538.out 1 rfl;have hcz9_2:=bcv (v:=.int .i64 0) BK538.out 2 rfl;have hfz9_0:=aa BK538.out 0;have hfz9_1:=aa BK538.out 1;have hfz9_2:=aa BK538.out 2;obtain ⟨Ao10,co10,eo10,_⟩:=Kd.Q_slice HO537.out;subst eo10)|((with_reducible refine ah (f:=38) rfl ?_);refine aG (some 19) rfl rfl Try.func38 (by kernel_rfl) rfl #[.agg #[.int .i64 t532,.int .i64 t533,.int .i64 t534],.slice Ao10 t535.length co10] rfl (by (try simp only [List.map_toArray,List.map_cons,List.map_nil]);rfl) ?_;(with_reducible refine (bH.calls k t532 t533 t534 _ _ t535 t539 t540 _ ?side1 ?side2 A4.out).mono ?_);(case side1=>refine (Kd.Q_reads' (e:=61) (base:=w.heap.size) (ok:=fun k_=>True) (n:=t535.length) (c:=co10) ?_).2.2;exact (by exact (Kd.Q_mono (Kd.Q_far (p:=⟨gb538,2,none⟩) (Kd.Q_far (p:=⟨gb538,1,none⟩) (Kd.Q_far (p:=⟨gb538,0,none⟩) (Kd.Q_types HO537.out BK538.out (by decide)) (fun _ hk=>hk.2) (.int .i64 t532)) (fun _ hk=>hk.2) (.int .i64 t533)) (fun _ hk=>hk.2) (.int .i64 t534)) (fun _ h_=>h_.1))));(case side2=>exact (Kd.Q_reads' HO537.out).2.1);rintro e w11 ⟨v541,rfl,ho0,hb⟩;refine ⟨_,rfl,?_⟩;replace HO537:=M0 (Kd.Q_below (by exact (Kd.Q_mono (Kd.Q_far (p:=⟨gb538,2,none⟩) (Kd.Q_far (p:=⟨gb538,1,none⟩) (Kd.Q_far (p:=⟨gb538,0,none⟩) (Kd.Q_types HO537.out BK538.out (by decide)) (fun _ hk=>hk.2) (.int .i64 t532)) (fun _ hk=>hk.2) (.int .i64 t533)) (fun _ hk=>hk.2) (.int .i64 t534)) (fun _ h_=>h_.1))) hb);have HO542:=M0 (Kd.bh ho0 (av (by repeat ((with_reducible first|exact HB.out|refine ay ?_ GE538.out)))));replace BK538:=M0 (ag (g:=gb538) (o:=.cells #[.int .i64 t532,.int .i64 t533,.int .i64 t534] 43 (0,0)) (by refine aC (cs:=#[.int .i64 t532,.int .i64 t533,.int .i64 0]) ?_ 2 _ rfl;refine aC (cs:=#[.int .i64 t532,.int .i64 0,.int .i64 0]) ?_ 1 _ rfl;refine aC (cs:=#[.int .i64 0,.int .i64 0,.int .i64 0]) ?_ 0 _ rfl;exact BK538.out) hb);replace HB:=M0 (ab (by repeat ((with_reducible first|exact HB.out|refine ay ?_ GE538.out))) hb);clear hb ho0)|((with_reducible refine aw (N:=5) rfl ?_);refine az rfl (N:=5) rfl (cs:=#[.int .i64 0,.slice none 0 0]) (t:=68) (by go_simp) ?_;intro gb543 hg w12 hbox hb;replace HO537:=M0 (Kd.Q_below HO537.out hb);replace HO542:=M0 (Kd.aX HO542.out hb);have BK543:=M0 (hbox);have GE543:=M0 ((by rw [hg];exact (av (by repeat ((with_reducible exact HB.out)))) : w.heap.size ≤ gb543));replace HB:=M0 (ab (by repeat ((with_reducible exact HB.out))) hb);have NB538_543:=M0 ((by rw [hg];exact Nat.ne_of_lt (bS BK538.out) : gb538 ≠ gb543));replace BK538:=M0 (ag BK538.out hb);clear hb hbox hg;have hnc13:=NB538_543.out;have hcz14_0:=bcv (v:=.int .i64 0) BK543.out 0 rfl;have hcz14_1:=bcv (v:=.slice none 0 0) BK543.out 1 rfl;have hfz14_0:=aa BK543.out 0;have hfz14_1:=aa BK543.out 1;obtain ⟨Ao15,co15,eo15⟩:=Kd.a9 HO542.out;subst eo15;have hcz16_0:=bcv (v:=.int .i64 t532) BK538.out 0 rfl;have hcz16_1:=bcv (v:=.int .i64 t533) BK538.out 1 rfl;have hcz16_2:=bcv (v:=.int .i64 t534) BK538.out 2 rfl;have hfz16_0:=aa BK538.out 0;have hfz16_1:=aa BK538.out 1;have hfz16_2:=aa BK538.out 2)|((with_reducible refine ah (f:=44) rfl ?_);refine aG (some 22) rfl rfl Try.func44 (by kernel_rfl) rfl #[.agg #[.int .i64 t532,.int .i64 t533,.int .i64 t534],.slice Ao10 t535.length co10] rfl (by (try simp only [List.map_toArray,List.map_cons,List.map_nil]);rfl) ?_;(with_reducible refine (aq.calls k t532 t533 t534 _ _ t535 t544 t545 _ ?side1 ?side2 A5.out).mono ?_);(case side1=>refine (Kd.Q_reads' (e:=61) (base:=w.heap.size) (ok:=fun k_=>True) (n:=t535.length) (c:=co10) ?_).2.2;exact (by exact (Kd.Q_mono (Kd.Q_far (p:=⟨gb543,1,none⟩) (Kd.Q_far (p:=⟨gb543,0,none⟩) (Kd.Q_types HO537.out BK543.out (by decide)) (fun _ hk=>hk.2) (.int .i64 t539)) (fun _ hk=>hk.2) (.slice Ao15 t540.length co15)) (fun _ h_=>h_.1))));(case side2=>exact (Kd.Q_reads' HO537.out).2.1);rintro e w17 ⟨v546,rfl,ho0,hb⟩;refine ⟨_,rfl,?_⟩;replace HO537:=M0 (Kd.Q_below (by exact (Kd.Q_mono (Kd.Q_far (p:=⟨gb543,1,none⟩) (Kd.Q_far (p:=⟨gb543,0,none⟩) (Kd.Q_types HO537.out BK543.out (by decide)) (fun _ hk=>hk.2) (.int .i64 t539)) (fun _ hk=>hk.2) (.slice Ao15 t540.length co15)) (fun _ h_=>h_.1))) hb);have HO547:=M0 (Kd.bh (Kd.cE ho0 (Kd.R_lt (by exact (Kd.aI (Kd.bb (p:=⟨gb543,1,none⟩) (Kd.bb (p:=⟨gb543,0,none⟩) (Kd.bE HO542.out BK543.out (by decide)) (fun _ hk=>hk.2) (.int .i64 t539)) (fun _ hk=>hk.2) (.slice Ao15 t540.length co15)) (fun _ h_=>h_.1))))) (av (by repeat ((with_reducible first|exact HB.out|refine ay ?_ GE543.out)))));replace HO542:=M0 (Kd.bU (by exact (Kd.aI (Kd.bb (p:=⟨gb543,1,none⟩) (Kd.bb (p:=⟨gb543,0,none⟩) (Kd.bE HO542.out BK543.out (by decide)) (fun _ hk=>hk.2) (.int .i64 t539)) (fun _ hk=>hk.2) (.slice Ao15 t540.length co15)) (fun _ h_=>h_.1))) (Kd.cD ho0) hb);replace BK538:=M0 (ag (g:=gb538) (o:=.cells #[.int .i64 t532,.int .i64 t533,.int .i64 t534] 43 (0,0)) (by refine aU ?_ NB538_543.out _;refine aU ?_ NB538_543.out _;exact BK538.out) hb);replace BK543:=M0 (ag (g:=gb543) (o:=.cells #[.int .i64 t539,.slice Ao15 t540.length co15] 68 (0,0)) (by refine aC (cs:=#[.int .i64 t539,.slice none 0 0]) ?_ 1 _ rfl;refine aC (cs:=#[.int .i64 0,.slice none 0 0]) ?_ 0 _ rfl;exact BK543.out) hb);replace HB:=M0 (ab (by repeat ((with_reducible first|exact HB.out|refine ay ?_ GE543.out))) hb);clear hb ho0)|((with_reducible refine aw (N:=6) rfl ?_);refine az rfl (N:=6) rfl (cs:=#[.int .i64 0,.slice none 0 0]) (t:=68) (by go_simp) ?_;intro gb548 hg w18 hbox hb;replace HO537:=M0 (Kd.Q_below HO537.out hb);replace HO542:=M0 (Kd.aX HO542.out hb);replace HO547:=M0 (Kd.aX HO547.out hb);have BK548:=M0 (hbox);have GE548:=M0 ((by rw [hg];exact (av (by repeat ((with_reducible exact HB.out)))) : w.heap.size ≤ gb548));replace HB:=M0 (ab (by repeat ((with_reducible exact HB.out))) hb);have NB538_548:=M0 ((by rw [hg];exact Nat.ne_of_lt (bS BK538.out) : gb538 ≠ gb548));have NB548_538:=M0 NB538_548.out.symm;replace BK538:=M0 (ag BK538.out hb);have NB543_548:=M0 ((by rw [hg];exact Nat.ne_of_lt (bS BK543.out) : gb543 ≠ gb548));have NB548_543:=M0 NB543_548.out.symm;replace BK543:=M0 (ag BK543.out hb);clear hb hbox hg;have hcz21_0:=bcv (v:=.int .i64 0) BK548.out 0 rfl;have hcz21_1:=bcv (v:=.slice none 0 0) BK548.out 1 rfl;have hfz21_0:=aa BK548.out 0;have hfz21_1:=aa BK548.out 1;obtain ⟨Ao22,co22,eo22⟩:=Kd.a9 HO547.out;subst eo22))
  go_cut [35] (fun v35 wc=>∃ (kq : Nat) (x35_5 : Bool),v35 = .bool x35_5 ∧ Aside0 (aV.j0 kq x35_5 t532 t533 t534 t539 t540 t544 t545 = some true) ∧ Aside0 (kq ≤ k) ∧ Aside0 (Kd.R Kd.string 9 wc w.heap.size (fun k_=>some k_ ≠ ((.slice Ao22 t545.length co22) : Value).ownBlock) (.slice Ao15 t540.length co15) t540) ∧ Aside0 (Kd.R Kd.string 9 wc w.heap.size (fun k_=>some k_ ≠ ((.slice Ao15 t540.length co15) : Value).ownBlock) (.slice Ao22 t545.length co22) t545) ∧ Aside0 (wc.heap[gb538]? = some (.cells #[.int .i64 t532,.int .i64 t533,.int .i64 t534] 43 (0,0))) ∧ Aside0 (wc.heap[gb543]? = some (.cells #[.int .i64 t539,(.slice Ao15 t540.length co15)] 68 (0,0))) ∧ Aside0 (wc.heap[gb548]? = some (.cells #[.int .i64 t544,(.slice Ao22 t545.length co22)] 68 (0,0))) ∧ Aside0 (Below w.heap.size w wc))
  case first=>
   have H:=HC6.out
   clear HC6
   by_cases c23 : t539 = t544
   ·rw [if_pos c23] at H
    have c23b1 : (t539 != t544) = false:=bne_eq_false_iff_eq.mpr c23
    clear c23
    (skip)
    replace H:=Option.bind_eq_some_iff.mp H
    obtain ⟨t549,A240,H⟩:=H
    replace H : (aV.j0 k (!t549) t532 t533 t534 t539 t540 t544 t545) = some true:=H
    have A24:=M0 A240
    clear A240
    have H':=M0 H
    clear H
    have hnc26:=NB548_543.out
    have hcz27_0:=bcv (v:=.int .i64 t539) BK543.out 0 rfl
    have hcz27_1:=bcv (v:=.slice Ao15 t540.length co15) BK543.out 1 rfl
    have hnb28:=NB548_538.out
    have hnc28:=NB538_548.out
    go_wp2_with ((go_at_call 36;(with_reducible refine (bB.calls k _ _ t540 _ _ t545 t549 _ ?side1 ?side2 ?side3 ?side4 A24.out).mono ?_);(case side1=>refine (Kd.aA (e:=9) (base:=w.heap.size) (ok:=fun k_=>(True ∧ some k_ ≠ (.slice Ao22 t545.length co22 : Value).ownBlock)) (n:=t540.length) (c:=co15) ?_).2.2;exact (by exact (Kd.aI (Kd.bb (p:=⟨gb548,1,none⟩) (Kd.bb (p:=⟨gb548,0,none⟩) (Kd.bE HO542.out BK548.out (by decide)) (fun _ hk=>hk.2) (.int .i64 t544)) (fun _ hk=>hk.2) (.slice Ao22 t545.length co22)) (fun _ h_=>h_.1))));(case side2=>exact (Kd.aA HO542.out).2.1);(case side3=>refine (Kd.aA (e:=9) (base:=w.heap.size) (ok:=fun k_=>(True ∧ some k_ ≠ (.slice Ao15 t540.length co15 : Value).ownBlock)) (n:=t545.length) (c:=co22) ?_).2.2;exact (by exact (Kd.aI (Kd.bb (p:=⟨gb548,1,none⟩) (Kd.bb (p:=⟨gb548,0,none⟩) (Kd.bE HO547.out BK548.out (by decide)) (fun _ hk=>hk.2) (.int .i64 t544)) (fun _ hk=>hk.2) (.slice Ao22 t545.length co22)) (fun _ h_=>h_.1))));(case side4=>exact (Kd.aA HO547.out).2.1);rintro e w' ⟨rfl,⟨nd,rfl⟩⟩))
    go_meet
    case rel=>exact ⟨_,(!t549),(by rfl),H',⟨by omega⟩,⟨by (with_reducible repeat (apply Kd.dx));exact Kd.aI (Kd.bb (p:=⟨gb548,1,none⟩) (Kd.bb (p:=⟨gb548,0,none⟩) (Kd.bE HO542.out BK548.out (by decide)) (fun _ hk=>hk.2) (.int .i64 t544)) (fun _ hk=>hk.2) (.slice Ao22 t545.length co22)) (fun _ hk=>hk.1.2)⟩,⟨by (with_reducible repeat (apply Kd.dx));exact Kd.aI (Kd.bb (p:=⟨gb548,1,none⟩) (Kd.bb (p:=⟨gb548,0,none⟩) (Kd.bE HO547.out BK548.out (by decide)) (fun _ hk=>hk.2) (.int .i64 t544)) (fun _ hk=>hk.2) (.slice Ao22 t545.length co22)) (fun _ hk=>hk.1.2)⟩,⟨by (with_reducible repeat (refine bx ?_ _));refine aU ?_ NB538_548.out _;refine aU ?_ NB538_548.out _;exact BK538.out⟩,⟨by (with_reducible repeat (refine bx ?_ _));refine aU ?_ NB543_548.out _;refine aU ?_ NB543_548.out _;exact BK543.out⟩,⟨by (with_reducible repeat (refine bx ?_ _));refine aC (cs:=#[.int .i64 t544,.slice none 0 0]) ?_ 1 _ rfl;refine aC (cs:=#[.int .i64 0,.slice none 0 0]) ?_ 0 _ rfl;exact BK548.out⟩,⟨by repeat ((with_reducible first|exact HB.out|apply aK|refine ay ?_ GE548.out))⟩⟩
   ·rw [if_neg c23] at H
    have c23b1 : (t539 != t544) = true:=bne_iff_ne.mpr c23
    (skip)
    have H':=M0 H
    clear H
    have hnc31:=NB548_543.out
    have hcz32_0:=bcv (v:=.int .i64 t539) BK543.out 0 rfl
    have hnb33:=NB548_538.out
    have hnc33:=NB538_548.out
    go_wp2
    go_meet
    case rel=>exact ⟨_,(true),(by rfl),H',⟨by omega⟩,⟨by exact Kd.aI (Kd.bb (p:=⟨gb548,1,none⟩) (Kd.bb (p:=⟨gb548,0,none⟩) (Kd.bE HO542.out BK548.out (by decide)) (fun _ hk=>hk.2) (.int .i64 t544)) (fun _ hk=>hk.2) (.slice Ao22 t545.length co22)) (fun _ hk=>hk.1.2)⟩,⟨by exact Kd.aI (Kd.bb (p:=⟨gb548,1,none⟩) (Kd.bb (p:=⟨gb548,0,none⟩) (Kd.bE HO547.out BK548.out (by decide)) (fun _ hk=>hk.2) (.int .i64 t544)) (fun _ hk=>hk.2) (.slice Ao22 t545.length co22)) (fun _ hk=>hk.1.2)⟩,⟨by refine aU ?_ NB538_548.out _;refine aU ?_ NB538_548.out _;exact BK538.out⟩,⟨by refine aU ?_ NB543_548.out _;refine aU ?_ NB543_548.out _;exact BK543.out⟩,⟨by refine aC (cs:=#[.int .i64 t544,.slice none 0 0]) ?_ 1 _ rfl;refine aC (cs:=#[.int .i64 0,.slice none 0 0]) ?_ 0 _ rfl;exact BK548.out⟩,⟨by repeat ((with_reducible first|exact HB.out|refine ay ?_ GE548.out))⟩⟩
  case rest=>
   clear HC6
   (try clear c2b0);(try clear c2b1);(try clear hcz14_0);(try clear hcz14_1);(try clear hcz16_0);(try clear hcz16_1);(try clear hcz16_2);(try clear hcz21_0);(try clear hcz21_1);(try clear hcz9_0);(try clear hcz9_1);(try clear hcz9_2);(try clear hfz14_0);(try clear hfz14_1);(try clear hfz16_0);(try clear hfz16_1);(try clear hfz16_2);(try clear hfz21_0);(try clear hfz21_1);(try clear hfz9_0);(try clear hfz9_1);(try clear hfz9_2)
   obtain ⟨kq,x35_5,rfl,HA,HJ5,HO_544001,HO_549001,BK538,BK543,BK548,HB⟩:=hcut
   cases kq with
   | zero=>exact absurd HA.out (by simp [aV.j0])
   | succ kj5=>
    have H:=HA.out
    clear HA
    simp only [aV.j0] at H
    by_cases c35 : x35_5 = true
    ·subst c35
     have H1 : (some false) = some true:=by rw [if_pos rfl] at H;exact H
     clear H
     have H:=H1
     clear H1
     exact absurd (Option.some.inj H) (by decide)
    ·replace c35:=Bool.eq_false_iff.mpr c35
     subst c35
     have H1 : (if t544 = 0 then (aV.l0 kj5 (([] : List (S61))) 0 t532 t533 t534 t539 t540) else (some true)) = some true:=by rw [if_neg (show ¬ (false = true) by decide)] at H;exact H
     clear H
     have H:=H1
     clear H1
     by_cases c36 : t544 = 0
     ·rw [if_pos c36] at H
      have c36b0 : (t544 == 0) = true:=beq_iff_eq.mpr c36
      have c36b1 : (t544 != 0) = false:=bne_eq_false_iff_eq.mpr c36
      clear c36
      obtain ⟨y550,hy550⟩ : ∃ y_ : List (S61),y_ = (([] : List (S61))):=⟨_,rfl⟩
      replace H : (aV.l0 kj5 y550 0 t532 t533 t534 t539 t540) = some true:=by (rw [hy550];with_reducible exact H)
      have Ny550:=M0 hy550
      clear hy550
      have H':=M0 H
      clear H
      have hcz39_0:=bcv (v:=.int .i64 t544) BK548.out 0 rfl
      have hcz39_1:=bcv (v:=.slice Ao22 t545.length co22) BK548.out 1 rfl
      have hfz39_0:=aa BK548.out 0
      have hfz39_1:=aa BK548.out 1
      go_wp2_with (((with_reducible refine aw (N:=39) rfl ?_);refine Kd.dR k61 _ 61 ?hg (N:=39) ?hd (xs:=([] : List (S61))) (inner:=[]) (ok:=fun _=>True) (okp:=fun _=>True) ?hr ?hp (fun _ hk=>hk) trivial (Below.refl _ _) (Nat.le_refl _) (by simp) ?_;(case hd=>rfl);(case hg=>rfl);(case hr=>(go_simp;done));(case hp=>exact (Reps.none _ _));intro v551 w40 ho41 hb hg_ hnew_;clear hg_ hnew_;(rw [← Ny550.out] at ho41);replace HO_544001:=M0 (Kd.aX HO_544001.out hb);replace HO_549001:=M0 (Kd.aX HO_549001.out hb);have HO552:=M0 (Kd.bh ho41 (av (by repeat ((with_reducible exact HB.out)))));replace BK538:=M0 (ag BK538.out hb);replace BK543:=M0 (ag BK543.out hb);replace BK548:=M0 (ag BK548.out hb);replace HB:=M0 (ab (by repeat ((with_reducible exact HB.out))) hb);clear hb ho41))
      go_loopg [7,8] kj5 (fun kq v7 v8 w'=>∃ (x7_2 : List (S61)) (x8_2 : Int),v8 = .int .i64 x8_2 ∧ Aside0 (aV.l0 kq x7_2 x8_2 t532 t533 t534 t539 t540 = some true) ∧ Aside0 (kq ≤ kj5) ∧ Aside0 (Kd.R k61 61 w' w.heap.size (fun _=>True) v7 x7_2) ∧ Aside0 (Kd.R Kd.string 9 w' w.heap.size (fun k_=>some k_ ≠ ((.slice Ao22 t545.length co22) : Value).ownBlock) (.slice Ao15 t540.length co15) t540) ∧ Aside0 (Kd.R Kd.string 9 w' w.heap.size (fun k_=>some k_ ≠ ((.slice Ao15 t540.length co15) : Value).ownBlock) (.slice Ao22 t545.length co22) t545) ∧ Aside0 (w'.heap[gb538]? = some (.cells #[.int .i64 t532,.int .i64 t533,.int .i64 t534] 43 (0,0))) ∧ Aside0 (w'.heap[gb543]? = some (.cells #[.int .i64 t539,(.slice Ao15 t540.length co15)] 68 (0,0))) ∧ Aside0 (w'.heap[gb548]? = some (.cells #[.int .i64 t544,(.slice Ao22 t545.length co22)] 68 (0,0))) ∧ Aside0 (Below w.heap.size w w'))
      case atStart=>exact ⟨(y550),(0),(by rfl),H',⟨Nat.le_refl _⟩,⟨by exact HO552.out⟩,⟨by exact HO_544001.out⟩,⟨by exact HO_549001.out⟩,⟨by exact BK538.out⟩,⟨by exact BK543.out⟩,⟨by exact BK548.out⟩,⟨by repeat ((with_reducible exact HB.out))⟩⟩
      case round=>
       clear H'
       (try clear c36b0);(try clear c36b1);(try clear hcz39_0);(try clear hcz39_1);(try clear hfz39_0);(try clear hfz39_1)
       obtain ⟨x7_2,x8_2,rfl,HA,HK2,HO_7,HO_544001,HO_549001,BK538,BK543,BK548,HB⟩:=hrel
       cases gk with
       | zero=>exact absurd HA.out (by simp [aV.l0])
       | succ k2=>
        have H:=HA.out
        clear HA
        simp only [aV.l0] at H
        by_cases c42 : x8_2 < (t540.length : Int)
        ·rw [if_pos c42] at H
         have c42b0:=decide_eq_true c42
         clear c42
         obtain ⟨c43,H⟩:=nn H
         have c43b0:=decide_eq_true c43
         clear c43
         obtain ⟨c44,H⟩:=nn H
         have LMc44:=M0 c44
         clear c44
         obtain ⟨y554,hy554⟩ : ∃ y_ : List (S61),y_ = (x7_2 ++ [(⟨true,rdOf ByteArray.empty t540 x8_2⟩ : S61)]):=⟨_,rfl⟩
         replace H : (aV.l0 k2 y554 (wrap64 (x8_2 + 1)) t532 t533 t534 t539 t540) = some true:=by (rw [hy554];with_reducible exact H)
         have Ny554:=M0 hy554
         clear hy554
         have H':=M0 H
         clear H
         have hcz47_1:=bcv (v:=.slice Ao15 t540.length co15) BK543.out 1 rfl
         have p553 : 0 ≤ (x8_2 : Int):=of_decide_eq_true (by (with_reducible assumption))
         have q553 : x8_2 < (t540.length : Int):=of_decide_eq_true (by (with_reducible assumption))
         obtain ⟨ad553,e553,hx553_0⟩:=Kd.br (Kd.aA HO_544001.out).2.2 x8_2 p553 q553
         cases e553
         replace p553:=eq_true p553
         replace q553:=eq_true q553
         go_wp2_with (((with_reducible refine bV (b:=.append) (xs:=#[.tmp 47,.tmp 54]) rfl ?_);at_builtin;refine Kd.cQ k61 (w0:=w) w.heap.size rfl (.tmp 47) (.tmp 54) 53 61 (.agg #[(.bool false),(.string ⟨#[]⟩)]) 24 rfl Try.underlying53 info61 rfl (by decide) (by omega) u7 x7_2 (⟨true,rdOf ByteArray.empty t540 x8_2⟩ : S61) [.bool true,.string (rdOf ByteArray.empty t540 x8_2)] (fun _=>True) (fun _=>False) rfl rfl ?aP (fun _ hk=>hk.elim) ?aF ?aO ?aB ?aS ?aL ?_;(case aP=>exact k61_mkM _ _ _ (⟨true,rdOf ByteArray.empty t540 x8_2⟩ : S61));(case aB=>exact (by repeat ((with_reducible exact HB.out))));(case aF=>exact (fun _ _=>trivial));(case aO=>exact HO_7.out);(case aS=>exact (av (by repeat ((with_reducible exact HB.out)))));(case aL=>have:=LMc44.out;omega);intro v555 w48 ho hb hg hat;rw [← Ny554.out] at ho;have n0_:=M0 (Kd.cW HO_544001.out (Kd.cV HO_7.out) (by decide) hg);have n1_:=M0 (Kd.cW HO_549001.out (Kd.cV HO_7.out) (by decide) hg);have n2_:=M0 (bf (g:=gb538) (o:=.cells #[.int .i64 t532,.int .i64 t533,.int .i64 t534] 43 (0,0)) BK538.out hg (Kd.R_ne HO_7.out BK538.out (by decide)));have n3_:=M0 (bf (g:=gb543) (o:=.cells #[.int .i64 t539,.slice (some ad553) t540.length co15] 68 (0,0)) BK543.out hg (Kd.R_ne HO_7.out BK543.out (by decide)));have n4_:=M0 (bf (g:=gb548) (o:=.cells #[.int .i64 t544,.slice Ao22 t545.length co22] 68 (0,0)) BK548.out hg (Kd.R_ne HO_7.out BK548.out (by decide)));have n5_:=M0 (hb);have n6_:=M0 (ho);clear HO_544001 HO_549001 BK538 BK543 BK548 HB HO_7;have HO_544001:=n0_;have HO_549001:=n1_;have BK538:=n2_;have BK543:=n3_;have BK548:=n4_;have HB:=n5_;have HO556:=n6_;clear n0_ n1_ n2_ n3_ n4_ n5_ n6_ ho hb hg hat))
         go_roundg k2
         case measure=>have:=HJ5.out;have:=HK2.out;omega
         case rel=>exact ⟨(y554),(wrap64 (x8_2 + 1)),(by rfl),H',⟨by have:=HJ5.out;have:=HK2.out;omega⟩,⟨by exact HO556.out⟩,⟨by exact HO_544001.out⟩,⟨by exact HO_549001.out⟩,⟨by exact BK538.out⟩,⟨by exact BK543.out⟩,⟨by exact BK548.out⟩,⟨by repeat ((with_reducible exact HB.out))⟩⟩
        ·rw [if_neg c42] at H
         have c42b0:=decide_eq_false c42
         clear c42
         replace H:=Option.bind_eq_some_iff.mp H
         obtain ⟨⟨t557,t558⟩,A490,H⟩:=H
         dsimp only at H
         have A49:=M0 A490
         clear A490
         replace H:=Option.bind_eq_some_iff.mp H
         obtain ⟨t561,A500,H⟩:=H
         replace H : (if t561 = true then (if 0 ≤ t532 then (if t532 ≤ (t540.length : Int) then ((bZ.f k2 t532 t533 t534 (t540.take (t532 : Int).toNat)).bind fun bt566=>((bB.f k2 bt566.2 t540).bind fun t570=>(some t570))) else (none)) else (none)) else (some false)) = some true:=H
         have A50:=M0 A500
         clear A500
         by_cases c51 : t561 = true
         ·subst c51
          have H1 : (if 0 ≤ t532 then (if t532 ≤ (t540.length : Int) then ((bZ.f k2 t532 t533 t534 (t540.take (t532 : Int).toNat)).bind fun bt566=>((bB.f k2 bt566.2 t540).bind fun t570=>(some t570))) else (none)) else (none)) = some true:=by rw [if_pos rfl] at H;exact H
          clear H
          have H:=H1
          clear H1
          obtain ⟨c52,H⟩:=nn H
          have c52b1:=decide_eq_true c52
          clear c52
          obtain ⟨c53,H⟩:=nn H
          have c53b1:=decide_eq_true c53
          clear c53
          obtain ⟨y562,hy562⟩ : ∃ y_ : List ByteArray,y_ = (t540.take (t532 : Int).toNat):=⟨_,rfl⟩
          replace H : ((bZ.f k2 t532 t533 t534 y562).bind fun bt566=>((bB.f k2 bt566.2 t540).bind fun t570=>(some t570))) = some true:=by (rw [hy562];with_reducible exact H)
          have Ny562:=M0 hy562
          clear hy562
          replace H:=Option.bind_eq_some_iff.mp H
          obtain ⟨⟨t566,t567⟩,A540,H⟩:=H
          dsimp only at H
          have A54:=M0 A540
          clear A540
          replace H:=Option.bind_eq_some_iff.mp H
          obtain ⟨t570,A550,H⟩:=H
          replace H : (some t570) = some true:=H
          have A55:=M0 A550
          clear A550
          have hT_:=Option.some.inj H
          clear H
          have hcz58_1:=bcv (v:=.slice Ao15 t540.length co15) BK543.out 1 rfl
          try go_wp2
          replace HO_7:=M0 (Kd.cS HO_7.out)
          replace HO_544001:=M0 (Kd.cS HO_544001.out)
          replace HO_549001:=M0 (Kd.cS HO_549001.out)
          replace BK538:=M0 (bn BK538.out)
          replace BK543:=M0 (bn BK543.out)
          replace BK548:=M0 (bn BK548.out)
          replace HB:=M0 (a7 HB.out)
          obtain ⟨Ao60,co60,eo60⟩:=Kd.a9 HO_7.out
          (subst eo60)
          refine cr (n:=21) (S:=fun w'=>w'.cell? ⟨gb538,0,none⟩ = some (.int .i64 t532) ∧ w'.cell? ⟨gb538,1,none⟩ = some (.int .i64 t533) ∧ w'.cell? ⟨gb538,2,none⟩ = some (.int .i64 t534) ∧ w'.cell? ⟨gb543,0,none⟩ = some (.int .i64 t539) ∧ w'.cell? ⟨gb543,1,none⟩ = some (.slice Ao15 t540.length co15)) (ds:=[]) #[O,O,O,O,O,O,O,O,O,O,O,O,O,O,O,O,O,O,O,O,O] (by kernel_rfl) rfl rfl ⟨(ai BK538.out 0).trans rfl,(ai BK538.out 1).trans rfl,(ai BK538.out 2).trans rfl,(ai BK543.out 0).trans rfl,(ai BK543.out 1).trans rfl⟩ (fun hHeld=>?_);refine dg aV.tab15 aV.bits15 (fun HT_ HW_=>?_)
          generalize wr.drew = w59 at HO_7 HO_544001 HO_549001 BK538 BK543 BK548 HB hHeld ⊢
          refine au (i:=1) (N:=some 57) #[O,I,O,O,O,O,O,O,O,O,O,O,O,O,O,O,O,O,O,O,O] rfl rfl (a6 HT_.out (by kernel_rfl)) (fun _ _ _ h=>h) (Or.inl ⟨by rfl,by intro w';go_simp;with_reducible rfl⟩) (by simp only [Act.put,List.setIfInBounds_toArray,List.set_cons_zero,List.set_cons_succ,ae,af];rfl) ?_
          refine au (i:=4) (N:=some 60) #[O,I,O,O,I,O,O,O,O,O,O,O,O,O,O,O,O,O,O,O,O] rfl rfl (a6 HT_.out (by kernel_rfl)) (fun _ _ _ h=>h) (Or.inl ⟨by rfl,by intro w';go_simp;with_reducible rfl⟩) (by simp only [Act.put,List.setIfInBounds_toArray,List.set_cons_zero,List.set_cons_succ,ae,af];rfl) ?_
          refine bu (i:=0) (N:=some 56) #[I,I,O,O,I,O,O,O,O,O,O,O,O,O,O,O,O,O,O,O,O] rfl rfl (bL HT_.out HW_.out (by kernel_rfl)) (fun _ _ _ h=>h) (Or.inl ⟨by rfl,by rintro w' ⟨s0,s1,s2,s3,s4⟩;go_simp;with_reducible rfl⟩) hHeld (by simp only [Act.put,List.setIfInBounds_toArray,List.set_cons_zero,List.set_cons_succ,ae,af];rfl) ?_
          refine bu (i:=5) (N:=some 61) #[I,I,O,O,I,I,O,O,O,O,O,O,O,O,O,O,O,O,O,O,O] rfl rfl (bL HT_.out HW_.out (by kernel_rfl)) (fun _ _ _ h=>h) (Or.inl ⟨by rfl,by rintro w' ⟨s0,s1,s2,s3,s4⟩;go_simp;with_reducible rfl⟩) hHeld (by simp only [Act.put,List.setIfInBounds_toArray,List.set_cons_zero,List.set_cons_succ,ae,af];rfl) ?_
          refine one_ (i:=2) (N:=some 58) #[I,I,I,O,I,I,O,O,O,O,O,O,O,O,O,O,O,O,O,O,O] rfl rfl (bX HT_.out (by kernel_rfl)) (by decide) (fun K hK=>?_)
          refine cT Try.func38 (by kernel_rfl) rfl #[.agg #[.int .i64 t532,.int .i64 t533,.int .i64 t534],.slice Ao60 x7_2.length co60] (by rfl) rfl rfl (by (try simp only [List.map_toArray,List.map_cons,List.map_nil]);rfl) ?_
          with_reducible refine (bH.calls k2 t532 t533 t534 _ _ x7_2 t557 t558 _ ?side1 ?side2 A49.out).mono ?_
          (case side1=>exact (Kd.aA HO_7.out).2.2)
          (case side2=>exact (Kd.aA HO_7.out).2.1)
          rintro e w61 ⟨v559,rfl,ho0,hb⟩
          refine ⟨_,rfl,?_⟩
          replace HO_7:=M0 (Kd.aX HO_7.out hb)
          have HO560:=M0 (Kd.bh (Kd.cE (Kd.cE ho0 (Kd.R_lt HO_544001.out)) (Kd.R_lt HO_549001.out)) (av (by repeat ((with_reducible exact HB.out)))))
          replace HO_544001:=M0 (Kd.bU HO_544001.out (Kd.cD ho0) hb)
          replace HO_549001:=M0 (Kd.bU HO_549001.out (Kd.cD ho0) hb)
          replace BK538:=M0 (ag BK538.out hb)
          replace BK543:=M0 (ag BK543.out hb)
          replace BK548:=M0 (ag BK548.out hb)
          replace HB:=M0 (ab (by repeat ((with_reducible exact HB.out))) hb)
          clear hb ho0
          obtain ⟨Ao62,co62,eo62⟩:=Kd.a9 HO560.out
          (subst eo62)
          refine hK.out _ _ ⟨(ai BK538.out 0).trans rfl,(ai BK538.out 1).trans rfl,(ai BK538.out 2).trans rfl,(ai BK543.out 0).trans rfl,(ai BK543.out 1).trans rfl⟩ (fun hHeld=>?_)
          clear hK K
          refine bK (a':=?_) ?_ ?_
          rotate_left
          ·show Act.put _ (some 58) _ = _
           simp only [Act.put,List.setIfInBounds_toArray,List.set_cons_zero,List.set_cons_succ,ae,af]
           rfl
          refine au (i:=3) (N:=some 59) #[I,I,I,I,I,I,O,O,O,O,O,O,O,O,O,O,O,O,O,O,O] rfl rfl (a6 HT_.out (by kernel_rfl)) (fun _ _ _ h=>h) (Or.inl ⟨by rfl,by intro w';go_simp;with_reducible rfl⟩) (by simp only [Act.put,List.setIfInBounds_toArray,List.set_cons_zero,List.set_cons_succ,ae,af];rfl) ?_
          refine one_ (i:=6) (N:=some 62) #[I,I,I,I,I,I,I,O,O,O,O,O,O,O,O,O,O,O,O,O,O] rfl rfl (bX HT_.out (by kernel_rfl)) (by decide) (fun K hK=>?_)
          refine cT Try.func36 (by kernel_rfl) rfl #[.slice Ao62 t558.length co62,.slice Ao15 t540.length co15] (by rfl) rfl rfl (by (try simp only [List.map_toArray,List.map_cons,List.map_nil]);rfl) ?_
          with_reducible refine (bB.calls k2 _ _ t558 _ _ t540 true _ ?side1 ?side2 ?side3 ?side4 A50.out).mono ?_
          (case side1=>exact (Kd.aA HO560.out).2.2)
          (case side2=>exact (Kd.aA HO560.out).2.1)
          (case side3=>exact (Kd.aA HO_544001.out).2.2)
          (case side4=>exact (Kd.aA HO_544001.out).2.1)
          rintro e w' ⟨rfl,⟨nd,rfl⟩⟩
          refine ⟨_,rfl,?_⟩
          have q63 : (t532 : Int) ≤ ((t540.length : Int) : Int):=of_decide_eq_true (by (with_reducible assumption))
          obtain ⟨i063,hi063,_,hsz63,_⟩:=info_parts info9
          have hroom63 : t540.length ≤ co15:=(Kd.aA HO_544001.out).2.1
          have hC63 : Kd.C Kd.string _ Ao15 t540.length t540:=(Kd.aA HO_544001.out).2.2
          have hcut63:=cut_to (P:=Try.prog) 56 9 .i64 Try.underlying56 hi063 Ao15 t540.length co15 t532 (of_decide_eq_true (by (with_reducible assumption))) q63 hroom63
          have hr63:=Kd.C_take (m:=(t532 : Int).toNat) hC63 (by omega)
          have hy63 : y562.length = (t532 : Int).toNat:=(by rw [Ny562.out,List.length_take];omega)
          rw [← Ny562.out] at hr63
          rw [← hy63] at hcut63
          have HR565:=M0 hr63
          have HC565:=M0 (show y562.length ≤ co15 from by omega)
          clear hr63 hC63 hroom63 hi063 hsz63
          have KY63:=M0 hy63
          clear hy63
          have KL63:=M0 (show (t532 : Int).toNat ≤ t540.length from by omega)
          replace q63:=eq_true q63
          refine hK.out _ _ ⟨(ai BK538.out 0).trans rfl,(ai BK538.out 1).trans rfl,(ai BK538.out 2).trans rfl,(ai BK543.out 0).trans rfl,(ai BK543.out 1).trans rfl⟩ (fun hHeld=>?_)
          clear hK K
          refine bK (a':=?_) ?_ ?_
          rotate_left
          ·show Act.put _ (some 62) _ = _
           simp only [Act.put,List.setIfInBounds_toArray,List.set_cons_zero,List.set_cons_succ,ae,af]
           rfl
          refine au (i:=7) (N:=some 63) #[I,I,I,I,I,I,I,I,O,O,O,O,O,O,O,O,O,O,O,O,O] rfl rfl (a6 HT_.out (by kernel_rfl)) (fun _ _ _ h=>h) (Or.inl ⟨by rfl,by intro w';go_simp;with_reducible rfl⟩) (by simp only [Act.put,List.setIfInBounds_toArray,List.set_cons_zero,List.set_cons_succ,ae,af];rfl) ?_
          refine au (i:=9) (N:=some 65) #[I,I,I,I,I,I,I,I,O,I,O,O,O,O,O,O,O,O,O,O,O] rfl rfl (a6 HT_.out (by kernel_rfl)) (fun _ _ _ h=>h) (Or.inl ⟨by rfl,by intro w';go_simp;with_reducible rfl⟩) (by simp only [Act.put,List.setIfInBounds_toArray,List.set_cons_zero,List.set_cons_succ,ae,af];rfl) ?_
          refine au (i:=11) (N:=some 67) #[I,I,I,I,I,I,I,I,O,I,O,I,O,O,O,O,O,O,O,O,O] rfl rfl (a6 HT_.out (by kernel_rfl)) (fun _ _ _ h=>h) (Or.inl ⟨by rfl,by intro w';go_simp;with_reducible rfl⟩) (by simp only [Act.put,List.setIfInBounds_toArray,List.set_cons_zero,List.set_cons_succ,ae,af];rfl) ?_
          refine au (i:=16) (N:=some 72) #[I,I,I,I,I,I,I,I,O,I,O,I,O,O,O,O,I,O,O,O,O] rfl rfl (a6 HT_.out (by kernel_rfl)) (fun _ _ _ h=>h) (Or.inl ⟨by rfl,by intro w';go_simp;with_reducible rfl⟩) (by simp only [Act.put,List.setIfInBounds_toArray,List.set_cons_zero,List.set_cons_succ,ae,af];rfl) ?_
          refine bu (i:=8) (N:=some 64) #[I,I,I,I,I,I,I,I,I,I,O,I,O,O,O,O,I,O,O,O,O] rfl rfl (bL HT_.out HW_.out (by kernel_rfl)) (fun _ _ _ h=>h) (Or.inl ⟨by rfl,by rintro w' ⟨s0,s1,s2,s3,s4⟩;go_simp;with_reducible rfl⟩) hHeld (by simp only [Act.put,List.setIfInBounds_toArray,List.set_cons_zero,List.set_cons_succ,ae,af];rfl) ?_
          refine bu (i:=10) (N:=some 66) #[I,I,I,I,I,I,I,I,I,I,I,I,O,O,O,O,I,O,O,O,O] rfl rfl (bL HT_.out HW_.out (by kernel_rfl)) (fun _ _ _ h=>h) (Or.inl ⟨by rfl,by rintro w' ⟨s0,s1,s2,s3,s4⟩;go_simp;with_reducible rfl⟩) hHeld (by simp only [Act.put,List.setIfInBounds_toArray,List.set_cons_zero,List.set_cons_succ,ae,af];rfl) ?_
          refine bu (i:=12) (N:=some 68) #[I,I,I,I,I,I,I,I,I,I,I,I,I,O,O,O,I,O,O,O,O] rfl rfl (bL HT_.out HW_.out (by kernel_rfl)) (fun _ _ _ h=>h) (Or.inl ⟨by rfl,by rintro w' ⟨s0,s1,s2,s3,s4⟩;go_simp;with_reducible rfl⟩) hHeld (by simp only [Act.put,List.setIfInBounds_toArray,List.set_cons_zero,List.set_cons_succ,ae,af];rfl) ?_
          refine au (i:=13) (N:=some 69) #[I,I,I,I,I,I,I,I,I,I,I,I,I,I,O,O,I,O,O,O,O] rfl rfl (a6 HT_.out (by kernel_rfl)) (fun _ _ _ h=>h) (Or.inl ⟨by rfl,by intro w';go_simp;with_reducible rfl⟩) (by simp only [Act.put,List.setIfInBounds_toArray,List.set_cons_zero,List.set_cons_succ,ae,af];rfl) ?_
          refine bu (i:=17) (N:=some 73) #[I,I,I,I,I,I,I,I,I,I,I,I,I,I,O,O,I,I,O,O,O] rfl rfl (bL HT_.out HW_.out (by kernel_rfl)) (fun _ _ _ h=>h) (Or.inl ⟨by rfl,by rintro w' ⟨s0,s1,s2,s3,s4⟩;go_simp;with_reducible rfl⟩) hHeld (by simp only [Act.put,List.setIfInBounds_toArray,List.set_cons_zero,List.set_cons_succ,ae,af];rfl) ?_
          refine one_ (i:=14) (N:=some 70) #[I,I,I,I,I,I,I,I,I,I,I,I,I,I,I,O,I,I,O,O,O] rfl rfl (bX HT_.out (by kernel_rfl)) (by decide) (fun K hK=>?_)
          refine cT Try.func35 (by kernel_rfl) rfl #[.agg #[.int .i64 t532,.int .i64 t533,.int .i64 t534],.slice Ao15 y562.length co15] (by rfl) rfl rfl (by (try simp only [List.map_toArray,List.map_cons,List.map_nil]);rfl) ?_
          with_reducible refine (bZ.calls k2 t532 t533 t534 _ _ y562 t566 t567 _ ?side1 ?side2 A54.out).mono ?_
          (case side1=>repeat (exact (by repeat (first|(with_reducible exact HR565.out)|(with_reducible refine Kd.C_drewN ?_ _)))))
          (case side2=>exact HC565.out)
          rintro e w64 ⟨v568,rfl,ho0,hb⟩
          refine ⟨_,rfl,?_⟩
          replace HO_7:=M0 (Kd.aX (by (with_reducible repeat (apply Kd.dx));exact HO_7.out) hb)
          have HO569:=M0 (Kd.bh (Kd.cE (Kd.cE (Kd.cE ho0 (Kd.R_lt (by (with_reducible repeat (apply Kd.dx));exact HO_544001.out))) (Kd.R_lt (by (with_reducible repeat (apply Kd.dx));exact HO_549001.out))) (Kd.R_lt (by (with_reducible repeat (apply Kd.dx));exact HO560.out))) (av (by repeat ((with_reducible first|exact HB.out|apply aK)))))
          replace HO_544001:=M0 (Kd.bU (by (with_reducible repeat (apply Kd.dx));exact HO_544001.out) (Kd.cD ho0) hb)
          replace HO_549001:=M0 (Kd.bU (by (with_reducible repeat (apply Kd.dx));exact HO_549001.out) (Kd.cD ho0) hb)
          replace HO560:=M0 (Kd.bU (by (with_reducible repeat (apply Kd.dx));exact HO560.out) (Kd.cD ho0) hb)
          replace BK538:=M0 (ag (g:=gb538) (o:=.cells #[.int .i64 t532,.int .i64 t533,.int .i64 t534] 43 (0,0)) (by (with_reducible repeat (refine bx ?_ _));exact BK538.out) hb)
          replace BK543:=M0 (ag (g:=gb543) (o:=.cells #[.int .i64 t539,.slice Ao15 t540.length co15] 68 (0,0)) (by (with_reducible repeat (refine bx ?_ _));exact BK543.out) hb)
          replace BK548:=M0 (ag (g:=gb548) (o:=.cells #[.int .i64 t544,.slice Ao22 t545.length co22] 68 (0,0)) (by (with_reducible repeat (refine bx ?_ _));exact BK548.out) hb)
          replace HR565:=M0 (Kd.bG (by exact  HR565.out) hb)
          replace HB:=M0 (ab (by repeat ((with_reducible first|exact HB.out|apply aK))) hb)
          clear hb ho0
          obtain ⟨Ao65,co65,eo65⟩:=Kd.a9 HO569.out
          (subst eo65)
          refine hK.out _ _ ⟨(ai BK538.out 0).trans rfl,(ai BK538.out 1).trans rfl,(ai BK538.out 2).trans rfl,(ai BK543.out 0).trans rfl,(ai BK543.out 1).trans rfl⟩ (fun hHeld=>?_)
          clear hK K
          refine bK (a':=?_) ?_ ?_
          rotate_left
          ·show Act.put _ (some 70) _ = _
           simp only [Act.put,List.setIfInBounds_toArray,List.set_cons_zero,List.set_cons_succ,ae,af]
           rfl
          refine au (i:=15) (N:=some 71) #[I,I,I,I,I,I,I,I,I,I,I,I,I,I,I,I,I,I,O,O,O] rfl rfl (a6 HT_.out (by kernel_rfl)) (fun _ _ _ h=>h) (Or.inl ⟨by rfl,by intro w';go_simp;with_reducible rfl⟩) (by simp only [Act.put,List.setIfInBounds_toArray,List.set_cons_zero,List.set_cons_succ,ae,af];rfl) ?_
          refine one_ (i:=18) (N:=some 74) #[I,I,I,I,I,I,I,I,I,I,I,I,I,I,I,I,I,I,I,O,O] rfl rfl (bX HT_.out (by kernel_rfl)) (by decide) (fun K hK=>?_)
          refine cT Try.func36 (by kernel_rfl) rfl #[.slice Ao65 t567.length co65,.slice Ao15 t540.length co15] (by rfl) rfl rfl (by (try simp only [List.map_toArray,List.map_cons,List.map_nil]);rfl) ?_
          with_reducible refine (bB.calls k2 _ _ t567 _ _ t540 t570 _ ?side1 ?side2 ?side3 ?side4 A55.out).mono ?_
          (case side1=>exact (Kd.aA HO569.out).2.2)
          (case side2=>exact (Kd.aA HO569.out).2.1)
          (case side3=>exact (Kd.aA HO_544001.out).2.2)
          (case side4=>exact (Kd.aA HO_544001.out).2.1)
          rintro e w' ⟨rfl,⟨nd,rfl⟩⟩
          refine ⟨_,rfl,?_⟩
          refine hK.out _ _ ⟨(ai BK538.out 0).trans rfl,(ai BK538.out 1).trans rfl,(ai BK538.out 2).trans rfl,(ai BK543.out 0).trans rfl,(ai BK543.out 1).trans rfl⟩ (fun hHeld=>?_)
          clear hK K
          refine bK (a':=?_) ?_ ?_
          rotate_left
          ·show Act.put _ (some 74) _ = _
           simp only [Act.put,List.setIfInBounds_toArray,List.set_cons_zero,List.set_cons_succ,ae,af]
           rfl
          refine au (i:=19) (N:=some 75) #[I,I,I,I,I,I,I,I,I,I,I,I,I,I,I,I,I,I,I,I,O] rfl rfl (a6 HT_.out (by kernel_rfl)) (fun _ _ _ h=>h) (Or.inl ⟨by rfl,by intro w';go_simp;with_reducible rfl⟩) (by simp only [Act.put,List.setIfInBounds_toArray,List.set_cons_zero,List.set_cons_succ,ae,af];rfl) ?_
          refine au (i:=20) (N:=some 2) #[I,I,I,I,I,I,I,I,I,I,I,I,I,I,I,I,I,I,I,I,I] rfl rfl (a6 HT_.out (by kernel_rfl)) (fun _ _ _ h=>h) (Or.inl ⟨by rfl,by intro w';go_simp;with_reducible rfl⟩) (by simp only [Act.put,List.setIfInBounds_toArray,List.set_cons_zero,List.set_cons_succ,ae,af];rfl) ?_
          refine cZ (dL HT_.out (by kernel_rfl)) ?_
          try go_wp2
          go_ret
          exact ⟨by rfl,by repeat ((with_reducible first|exact HB.out|apply aK))⟩
         ·replace c51:=Bool.eq_false_iff.mpr c51
          subst c51
          have H1 : (some false) = some true:=by rw [if_neg (show ¬ (false = true) by decide)] at H;exact H
          clear H
          have H:=H1
          clear H1
          exact absurd (Option.some.inj H) (by decide)
     ·rw [if_neg c36] at H
      have c36b1 : (t544 != 0) = true:=bne_iff_ne.mpr c36
      clear H
      have hcz75_0:=bcv (v:=.int .i64 t544) BK548.out 0 rfl
      go_wp2
      go_ret
      exact ⟨by rfl,by repeat ((with_reducible exact HB.out))⟩

end Go.Proofs.Ytffhbpepppodeaa.PFnDecoded
