import Derived.Test.YtffhbpepppodeaaPFnInversex0
namespace Go.Proofs.Ytffhbpepppodeaa.PFnInverse
open Go.RowKit Go.Proofs.YtffhbpepppodeaaW.PrintWords Go.Proofs.YtffhbpepppodeaaW.PrintLast Go.Proofs.YtffhbpepppodeaaW.PrintMore
attribute [local go_sem] max2_int min2_int max_two min_two max_three min_three max_four min_four   -- for this text's walks alone
set_option linter.unusedVariables false
set_option linter.unusedSimpArgs false

/-! ### laws_lwUnit: function 27 -/
def laws_lwUnit.l0 : Nat → Int → Int → Int → Int → List Int → Option (Int × Int × List Int)
 | 0,_,_,_,_,_=>none
 | k + 1,x0,x4,x259000,x259001,x259002=>if x4 < x0 then (if 0 ≤ (wrap64 ((wrap64 (x4 * x0)) + x4)) then (if (wrap64 ((wrap64 (x4 * x0)) + x4)) < (x259002.length : Int) then (laws_lwUnit.l0 k x0 (wrap64 (x4 + 1)) x259000 x259001 (x259002.set ((wrap64 ((wrap64 (x4 * x0)) + x4)) : Int).toNat 1)) else (none)) else (none)) else (some (x259000,x259001,x259002))
def laws_lwUnit.f (k : Nat) (a0 : Int) : Option (Int × Int × List Int):=if 0 ≤ (wrap64 (a0 * a0)) then (if (wrap64 (a0 * a0) : Int).toNat ≤ 35184372088832 then (laws_lwUnit.l0 k a0 0 a0 a0 (List.replicate (wrap64 (a0 * a0) : Int).toNat 0)) else (none)) else (none)
theorem laws_lwUnit.mono_l : ∀ k,(∀ y0 y1 y2 y3 y4,LeO (laws_lwUnit.l0 k y0 y1 y2 y3 y4) (laws_lwUnit.l0 (k + 1) y0 y1 y2 y3 y4))
 | 0=>fun _ _ _ _ _ r h=>by simp [laws_lwUnit.l0] at h
 | k + 1=>by
  have ih0:=laws_lwUnit.mono_l k
  ·intro y0 y1 y2 y3 y4
   unfold laws_lwUnit.l0
   repeat' first
   | (with_reducible exact ih0 _ _ _ _ _)
   | (with_reducible exact LeO.refl _)
   | (with_reducible exact LeO.none _)
   | (with_reducible refine LeO.ite ?_ ?_)
   | (with_reducible refine LeO.bind ?_ (fun _=>?_))
   | exact ih0 _ _ _ _ _
   | exact LeO.none _
   | refine LeO.ite ?_ ?_
   | refine LeO.bind ?_ (fun _=>?_)
theorem laws_lwUnit.mono : ∀ a0 k,LeO (laws_lwUnit.f k a0) (laws_lwUnit.f (k + 1) a0):=by
 intro a0 k
 have ih0:=laws_lwUnit.mono_l k
 unfold laws_lwUnit.f
 repeat' first
   | (with_reducible exact ih0 _ _ _ _ _)
   | (with_reducible exact LeO.refl _)
   | (with_reducible exact LeO.none _)
   | (with_reducible refine LeO.ite ?_ ?_)
   | (with_reducible refine LeO.bind ?_ (fun _=>?_))
   | exact ih0 _ _ _ _ _
   | exact LeO.none _
   | refine LeO.ite ?_ ?_
   | refine LeO.bind ?_ (fun _=>?_)
set_option maxHeartbeats 8000000 in
set_option maxRecDepth 100000 in
theorem laws_lwUnit.calls (k : Nat) (a0 : Int) (r1 : Int) (r2 : Int) (r3 : List Int) (w : World) (h : laws_lwUnit.f k a0 = some (r1,r2,r3)) :
  Calls Try.prog 27 #[.int .i64 a0] w fun e w'=>∃ v2_ : Value,e = .returned (.agg #[.int .i64 r1,.int .i64 r2,v2_]) ∧ Kd.R (Kd.int .i64) 2 w' w.heap.size (fun _=>True) v2_ r3 ∧ Below w.heap.size w w':=by
 have hu27:=Try.underlying27
 have HB:=Aside0.mk (Below.refl w.heap.size w)
 have H : (if 0 ≤ (wrap64 (a0 * a0)) then (if (wrap64 (a0 * a0) : Int).toNat ≤ 35184372088832 then (laws_lwUnit.l0 k a0 0 a0 a0 (List.replicate (wrap64 (a0 * a0) : Int).toNat 0)) else (none)) else (none)) = some (r1,r2,r3):=h
 clear h
 obtain ⟨ji2,hji2⟩ : ∃ j_ : Int,(wrap64 (a0 * a0)) = j_:=⟨_,rfl⟩
 replace H : (if 0 ≤ (ji2) then (if (ji2 : Int).toNat ≤ 35184372088832 then (laws_lwUnit.l0 k a0 0 a0 a0 (List.replicate (ji2 : Int).toNat 0)) else (none)) else (none)) = some (r1,r2,r3):=by first|(rw [hji2] at H;exact H)|(simp only [hji2] at H ⊢;exact H)
 have hji2w : (IntKind.i64.wrap (a0 * a0)) = ji2:=(i64_w _).trans hji2
 by_cases c3 : 0 ≤ (ji2)
 ·rw [if_pos c3] at H
  have c3b0:=eq_true c3
  have c3b1 : decide (0 ≤ (ji2)) = true:=decide_eq_true c3
  clear c3
  by_cases c4 : (ji2 : Int).toNat ≤ 35184372088832
  ·rw [if_pos c4] at H
   have c4b0:=eq_true c4
   have c4b1 : decide ((ji2 : Int).toNat ≤ 35184372088832) = true:=decide_eq_true c4
   clear c4
   obtain ⟨y255,hy255⟩ : ∃ y_ : List Int,y_ = (List.replicate (ji2 : Int).toNat 0):=⟨_,rfl⟩
   replace H : (laws_lwUnit.l0 k a0 0 a0 a0 y255) = some (r1,r2,r3):=by first|(rw [hy255];with_reducible exact H)|(have H2_:=(Option.bind_some _ _).symm.trans H;rw [hy255];with_reducible exact H2_)|(have H2_:=(Option.bind_some _ _).symm.trans H;with_reducible exact H2_)|with_reducible exact H|(rw [hy255];exact H)|exact H
   have Ny255:=Aside0.mk hy255
   clear hy255
   have H':=Aside0.mk H
   clear H
   go_enter Try.func27,Try.ntmps27
   go_wp2_with (first|((with_reducible refine gate_dst (N:=2) rfl ?_);refine box_event ?hg (N:=2) ?hd (cs:=#[.int .i64 0,.int .i64 0,.slice none 0 0]) (t:=27) ?hr ?_;(case hd=>rfl);(case hg=>rfl);(case hr=>first|(go_simp;done)|(go_simp;rfl));intro gb254 hg w5 hbox hb;have n0_:=Aside0.mk (below_step (by repeat (first|(with_reducible first|exact HB.out|apply below_alloc)|exact HB.out)) hb);have n1_:=Aside0.mk (hbox);have n2_:=Aside0.mk ((by rw [hg];exact (below_size (by repeat (first|(with_reducible first|exact HB.out|apply below_alloc)|exact HB.out))) : w.heap.size ≤ gb254));have n3_:=Aside0.mk ((by rw [hg];exact (below_size (by repeat (first|(with_reducible first|exact HB.out|apply below_alloc)|exact HB.out))) : w.heap.size ≤ gb254));clear HB;have HB:=n0_;have BK254:=n1_;have GW254:=n2_;have GE254:=n3_;clear n0_ n1_ n2_ n3_ hb hbox hg)|((with_reducible refine gate_dst (N:=10) rfl ?_);refine Kd.R_make (Kd.int .i64) _ 2 rfl (N:=10) rfl 22 _ _ rfl ji2 rfl rfl Try.underlying22 (.int .i64 0) 8 info2 rfl (by decide) (by omega) 0 (ok:=fun _=>True) (okp:=fun _=>True) rfl (fun _ hk=>hk) trivial (of_decide_eq_true (by first|(with_reducible assumption)|assumption)) (Nat.le_trans (Nat.mul_le_mul_right _ (of_decide_eq_true (by first|(with_reducible assumption)|assumption) : ji2.toNat ≤ 35184372088832)) (by omega)) (Below.refl _ _) (Nat.le_refl _) ?_;intro v256 w6 ho7 hb hg_ hnew_;clear hg_ hnew_;(first|rw [← Ny255.out] at ho7|(simp only [Int.reduceToNat] at ho7;rw [← Ny255.out] at ho7));have n0_:=Aside0.mk (Kd.R_lower ho7 (below_size (by repeat (first|(with_reducible first|exact HB.out|apply below_alloc|refine below_set ?_ GE254.out)|exact HB.out))));have n1_:=Aside0.mk (blk_below (g:=gb254) (o:=.cells #[.int .i64 0,.int .i64 0,.slice none 0 0] 27 (0,0)) (by (with_reducible repeat refine blk_alloc ?_ _);exact BK254.out) hb);have n2_:=Aside0.mk (below_step (by repeat (first|(with_reducible first|exact HB.out|apply below_alloc|refine below_set ?_ GE254.out)|exact HB.out)) hb);clear BK254 HB;have HO257:=n0_;have BK254:=n1_;have HB:=n2_;clear n0_ n1_ n2_ hb ho7;obtain ⟨Ao8,co8,eo8⟩:=Kd.R_slice HO257.out;subst eo8)|((with_reducible refine gate_dst (N:=3) rfl ?_);refine box_event ?hg (N:=3) ?hd (cs:=#[.int .i64 0,.int .i64 0,.slice none 0 0]) (t:=27) ?hr ?_;(case hd=>rfl);(case hg=>rfl);(case hr=>first|(go_simp;done)|(go_simp;rfl));intro gb258 hg w9 hbox hb;have n0_:=Aside0.mk (Kd.R_below (by (with_reducible repeat (first|apply Kd.R_alloc));exact HO257.out) hb);have n1_:=Aside0.mk (blk_below (g:=gb254) (o:=.cells #[.int .i64 0,.int .i64 0,.slice none 0 0] 27 (0,0)) (by (with_reducible repeat refine blk_alloc ?_ _);exact BK254.out) hb);have n2_:=Aside0.mk (below_step (by repeat (first|(with_reducible first|exact HB.out|apply below_alloc|refine below_set ?_ GE254.out)|exact HB.out)) hb);have n3_:=Aside0.mk (hbox);have n4_:=Aside0.mk ((by rw [hg];exact (below_size (by repeat (first|(with_reducible first|exact HB.out|apply below_alloc|refine below_set ?_ GE254.out)|exact HB.out))) : w.heap.size ≤ gb258));have n5_:=Aside0.mk ((by rw [hg];exact (below_size (by repeat (first|(with_reducible first|exact HB.out|apply below_alloc|refine below_set ?_ GE254.out)|exact HB.out))) : w.heap.size ≤ gb258));have n6_:=Aside0.mk ((by rw [hg];exact Nat.ne_of_lt (blk_lt (g:=gb254) (o:=.cells #[.int .i64 0,.int .i64 0,.slice none 0 0] 27 (0,0)) (by (with_reducible repeat refine blk_alloc ?_ _);exact BK254.out)) : gb254 ≠ gb258));have n7_:=Aside0.mk ((by rw [hg];exact Nat.ne_of_gt (blk_lt (g:=gb254) (o:=.cells #[.int .i64 0,.int .i64 0,.slice none 0 0] 27 (0,0)) (by (with_reducible repeat refine blk_alloc ?_ _);exact BK254.out)) : gb258 ≠ gb254));clear HO257 BK254 HB;have HO257:=n0_;have BK254:=n1_;have HB:=n2_;have BK258:=n3_;have GW258:=n4_;have GE258:=n5_;have NB254_258:=n6_;have NB258_254:=n7_;clear n0_ n1_ n2_ n3_ n4_ n5_ n6_ n7_ hb hbox hg;have hnb10:=NB258_254.out;have hnc10:=NB254_258.out;have hcz11_0 : w9.cell? ⟨gb258,0,none⟩ = some (.int .i64 0):=(blk_cell BK258.out 0).trans rfl;have hcz11_1 : w9.cell? ⟨gb258,1,none⟩ = some (.int .i64 0):=(blk_cell BK258.out 1).trans rfl;have hcz11_2 : w9.cell? ⟨gb258,2,none⟩ = some (.slice none 0 0):=(blk_cell BK258.out 2).trans rfl;have hfz11_0:=blk_frozen BK258.out 0;have hfz11_1:=blk_frozen BK258.out 1;have hfz11_2:=blk_frozen BK258.out 2))
   go_loopg [4] k (fun kq v4 w'=>∃ (x4_1 : Int) (x259002_1 : List Int) (u259002 : Value),v4 = .int .i64 x4_1 ∧ Aside0 (laws_lwUnit.l0 kq a0 x4_1 a0 a0 x259002_1 = some (r1,r2,r3)) ∧ Aside0 (kq ≤ k) ∧ Aside0 (Kd.R (Kd.int .i64) 2 w' w.heap.size (fun _=>True) u259002 x259002_1) ∧ Aside0 (w'.heap[gb254]? = some (.cells #[.int .i64 0,.int .i64 0,(.slice none 0 0)] 27 (0,0))) ∧ Aside0 (w'.heap[gb258]? = some (.cells #[.int .i64 a0,.int .i64 a0,u259002] 27 (0,0))) ∧ Aside0 (Below w.heap.size w w'))
   case atStart=>exact ⟨(0),(y255),(.slice Ao8 y255.length co8),(by first|rfl|(simp;done)|(simp [*];done)),H',⟨Nat.le_refl _⟩,⟨by (with_reducible repeat (first|apply Kd.R_alloc));exact Kd.R_mono (Kd.R_far (p:=⟨gb258,2,none⟩) (Kd.R_far (p:=⟨gb258,1,none⟩) (Kd.R_far (p:=⟨gb258,0,none⟩) (Kd.R_types HO257.out BK258.out (by decide)) (fun _ hk=>hk.2) (.int .i64 a0)) (fun _ hk=>hk.2) (.int .i64 a0)) (fun _ hk=>hk.2) (.slice Ao8 y255.length co8)) (fun _ hk=>trivial)⟩,⟨by (with_reducible repeat refine blk_alloc ?_ _);refine blk_far ?_ NB254_258.out _;(with_reducible repeat refine blk_alloc ?_ _);refine blk_far ?_ NB254_258.out _;(with_reducible repeat refine blk_alloc ?_ _);refine blk_far ?_ NB254_258.out _;(with_reducible repeat refine blk_alloc ?_ _);exact BK254.out⟩,⟨by (with_reducible repeat refine blk_alloc ?_ _);refine blk_put (cs:=#[.int .i64 a0,.int .i64 a0,.slice none 0 0]) ?_ 2 _ rfl;(with_reducible repeat refine blk_alloc ?_ _);refine blk_put (cs:=#[.int .i64 a0,.int .i64 0,.slice none 0 0]) ?_ 1 _ rfl;(with_reducible repeat refine blk_alloc ?_ _);refine blk_put (cs:=#[.int .i64 0,.int .i64 0,.slice none 0 0]) ?_ 0 _ rfl;(with_reducible repeat refine blk_alloc ?_ _);exact BK258.out⟩,⟨by repeat (first|(with_reducible first|exact HB.out|apply below_alloc|refine below_set ?_ GE254.out|refine below_set ?_ GE258.out)|exact HB.out)⟩⟩
   case round=>
    clear H'
    (try clear c1);(try clear c2);(try clear p2);(try clear c3);(try clear c3b0);(try clear c3b1);(try clear c4);(try clear c4b0);(try clear c4b1);(try clear p6);(try clear c10);(try clear hcz11_0);(try clear hcz11_1);(try clear hcz11_2);(try clear hfz11_0);(try clear hfz11_1);(try clear hfz11_2)
    obtain ⟨x4_1,x259002_1,u259002,rfl,HA,HK1,HO_259002,BK254,BK258,HB⟩:=hrel
    cases gk with
    | zero=>exact absurd HA.out (by simp [laws_lwUnit.l0])
    | succ k1=>
     have H:=HA.out
     clear HA
     simp only [laws_lwUnit.l0] at H
     by_cases c12 : x4_1 < a0
     ·rw [if_pos c12] at H
      have c12b0 : decide (x4_1 < a0) = true:=decide_eq_true c12
      clear c12
      obtain ⟨ji13,hji13⟩ : ∃ j_ : Int,(wrap64 ((wrap64 (x4_1 * a0)) + x4_1)) = j_:=⟨_,rfl⟩
      replace H : (if 0 ≤ (ji13) then (if (ji13) < (x259002_1.length : Int) then (laws_lwUnit.l0 k1 a0 (wrap64 (x4_1 + 1)) a0 a0 (x259002_1.set ((ji13) : Int).toNat 1)) else (none)) else (none)) = some (r1,r2,r3):=by first|(rw [hji13] at H;exact H)|(simp only [hji13] at H ⊢;exact H)
      have hji13w : (IntKind.i64.wrap ((wrap64 (x4_1 * a0)) + x4_1)) = ji13:=(i64_w _).trans hji13
      by_cases c14 : 0 ≤ (ji13)
      ·rw [if_pos c14] at H
       have c14b0 : decide (0 ≤ (ji13)) = true:=decide_eq_true c14
       clear c14
       by_cases c15 : (ji13) < (x259002_1.length : Int)
       ·rw [if_pos c15] at H
        have c15b0 : decide ((ji13) < (x259002_1.length : Int)) = true:=decide_eq_true c15
        clear c15
        obtain ⟨y259,hy259⟩ : ∃ y_ : List Int,y_ = (x259002_1.set ((ji13) : Int).toNat 1):=⟨_,rfl⟩
        replace H : (laws_lwUnit.l0 k1 a0 (wrap64 (x4_1 + 1)) a0 a0 y259) = some (r1,r2,r3):=by first|(rw [hy259];with_reducible exact H)|(have H2_:=(Option.bind_some _ _).symm.trans H;rw [hy259];with_reducible exact H2_)|(have H2_:=(Option.bind_some _ _).symm.trans H;with_reducible exact H2_)|with_reducible exact H|(rw [hy259];exact H)|exact H
        have Ny259:=Aside0.mk hy259
        clear hy259
        have H':=Aside0.mk H
        clear H
        have hnb17:=NB258_254.out
        have hnc17:=NB254_258.out
        have hcz18_0 : wr.cell? ⟨gb258,0,none⟩ = some (.int .i64 a0):=(blk_cell BK258.out 0).trans rfl
        have hcz18_1 : wr.cell? ⟨gb258,1,none⟩ = some (.int .i64 a0):=(blk_cell BK258.out 1).trans rfl
        have hcz18_2 : wr.cell? ⟨gb258,2,none⟩ = some (u259002):=(blk_cell BK258.out 2).trans rfl
        have hfz18_0:=blk_frozen BK258.out 0
        have hfz18_1:=blk_frozen BK258.out 1
        have hfz18_2:=blk_frozen BK258.out 2
        have p16 : 0 ≤ ((ji13) : Int):=of_decide_eq_true (by first|(with_reducible assumption)|assumption)
        have q16 : ((ji13) : Int) < ((x259002_1.length : Int) : Int):=of_decide_eq_true (by first|(with_reducible assumption)|assumption)
        obtain ⟨go16,co16,eo16,gb16,gl16,cl16,HG16⟩:=Kd.R_form HO_259002.out (by omega)
        (first|cases eo16|(injection eo16 with ea_ en_ ec_;(first|subst ea_|(injection ea_ with ea_;subst ea_));subst ec_;clear en_))
        have GB16:=Aside0.mk gb16
        have GG16:=Aside0.mk HG16
        clear gb16 gl16 HG16
        obtain ⟨hx16_0,hf16_0⟩:=Kd.R_celln 0 HO_259002.out ((ji13) : Int) p16 q16
        replace p16:=eq_true p16
        replace q16:=eq_true q16
        have HP19:=Kd.R_putg HO_259002.out ((ji13) : Int) 1
        go_wp2_with (first|((with_reducible refine gate_store (t:=2) (p:=24) rfl ?_);refine store_event (t:=2) (p:=24) (v:=?vo_w20) (w1:=(wr.setCell ⟨go16,((ji13) : Int).toNat,none⟩ (.int .i64 1))) ?hg ?ho ?hn ?hr ?_;(case ho=>rfl);(case hg=>rfl);(case hn=>rfl);(case hr=>first|(go_simp;done)|(go_simp;rfl));intro w20 hw;have hg : wr.grownBy w20 (some go16):=(by rw [hw];exact HP19.2);have hp_ : Kd.R (Kd.int .i64) 2 w20 w.heap.size (fun _=>True) (.slice (some ⟨go16,0,none⟩) x259002_1.length co16) y259:=(by rw [hw,Ny259.out];exact HP19.1);clear HP19;have n0_:=Aside0.mk (hp_);have n1_:=Aside0.mk (blk_grown (g:=gb254) (o:=.cells #[.int .i64 0,.int .i64 0,.slice none 0 0] 27 (0,0)) (by (with_reducible repeat refine blk_alloc ?_ _);exact BK254.out) hg (Kd.R_ne HO_259002.out BK254.out (by decide)));have n2_:=Aside0.mk (blk_grown (g:=gb258) (o:=.cells #[.int .i64 a0,.int .i64 a0,.slice (some ⟨go16,0,none⟩) x259002_1.length co16] 27 (0,0)) (by (with_reducible repeat refine blk_alloc ?_ _);exact BK258.out) hg (Kd.R_ne HO_259002.out BK258.out (by decide)));have n3_:=Aside0.mk ((by rw [hw];exact below_set (HB.out) GB16.out : Below w.heap.size w w20));clear HO_259002 BK254 BK258 HB;have HO_259002:=n0_;have BK254:=n1_;have BK258:=n2_;have HB:=n3_;clear n0_ n1_ n2_ n3_ hg hw hp_))
        go_roundg k1
        case measure=>have:=HK1.out;omega
        case rel=>exact ⟨(wrap64 (x4_1 + 1)),(y259),(.slice (some ⟨go16,0,none⟩) x259002_1.length co16),(by first|rfl|(simp;done)|(simp [*];done)),H',⟨by have:=HK1.out;omega⟩,⟨by (with_reducible repeat (first|apply Kd.R_alloc));exact HO_259002.out⟩,⟨by (with_reducible repeat refine blk_alloc ?_ _);exact BK254.out⟩,⟨by (with_reducible repeat refine blk_alloc ?_ _);exact BK258.out⟩,⟨by repeat (first|(with_reducible first|exact HB.out|apply below_alloc|refine below_set ?_ GE254.out|refine below_set ?_ GE258.out)|exact HB.out)⟩⟩
       ·rw [if_neg c15] at H
        exact absurd H (by simp)
      ·rw [if_neg c14] at H
       exact absurd H (by simp)
     ·rw [if_neg c12] at H
      have c12b0 : decide (x4_1 < a0) = false:=decide_eq_false c12
      clear c12
      simp only [Option.some.injEq,Prod.mk.injEq] at H
      obtain ⟨rfl,rfl,rfl⟩:=H
      have hnb21:=NB258_254.out
      have hnc21:=NB254_258.out
      have hcz22_0 : wr.cell? ⟨gb258,0,none⟩ = some (.int .i64 a0):=(blk_cell BK258.out 0).trans rfl
      have hcz22_1 : wr.cell? ⟨gb258,1,none⟩ = some (.int .i64 a0):=(blk_cell BK258.out 1).trans rfl
      have hcz22_2 : wr.cell? ⟨gb258,2,none⟩ = some (u259002):=(blk_cell BK258.out 2).trans rfl
      have hfz22_0:=blk_frozen BK258.out 0
      have hfz22_1:=blk_frozen BK258.out 1
      have hfz22_2:=blk_frozen BK258.out 2
      have hcz23_0 : wr.cell? ⟨gb254,0,none⟩ = some (.int .i64 0):=(blk_cell BK254.out 0).trans rfl
      have hcz23_1 : wr.cell? ⟨gb254,1,none⟩ = some (.int .i64 0):=(blk_cell BK254.out 1).trans rfl
      have hcz23_2 : wr.cell? ⟨gb254,2,none⟩ = some (.slice none 0 0):=(blk_cell BK254.out 2).trans rfl
      have hfz23_0:=blk_frozen BK254.out 0
      have hfz23_1:=blk_frozen BK254.out 1
      have hfz23_2:=blk_frozen BK254.out 2
      obtain ⟨Ao24,co24,eo24⟩:=Kd.R_slice HO_259002.out
      subst eo24
      go_wp2
      refine bodyPost_ret (results_cell_row rfl _ _ gb254 27 #[.int .i64 a0,.int .i64 a0,.slice Ao24 x259002_1.length co24] (0,0) _ rfl (by (with_reducible repeat refine blk_alloc ?_ _);refine blk_put (cs:=#[.int .i64 a0,.int .i64 a0,.slice none 0 0]) ?_ 2 _ rfl;(with_reducible repeat refine blk_alloc ?_ _);refine blk_put (cs:=#[.int .i64 a0,.int .i64 0,.slice none 0 0]) ?_ 1 _ rfl;(with_reducible repeat refine blk_alloc ?_ _);refine blk_put (cs:=#[.int .i64 0,.int .i64 0,.slice none 0 0]) ?_ 0 _ rfl;(with_reducible repeat refine blk_alloc ?_ _);exact BK254.out) Try.underlying27 rfl (by kernel_rfl)) rfl ?_
      exact ⟨_,by first|rfl|(simp [errW_none,errW_some] <;> rfl)|(simp only [← hji2];first|rfl|(simp [errW_none,errW_some] <;> rfl))|(simp [*,errW_none,errW_some] <;> rfl),by (with_reducible repeat (first|apply Kd.R_alloc));exact Kd.R_mono (Kd.R_far (p:=⟨gb254,2,none⟩) (Kd.R_far (p:=⟨gb254,1,none⟩) (Kd.R_far (p:=⟨gb254,0,none⟩) (Kd.R_types HO_259002.out BK254.out (by decide)) (fun _ hk=>hk.2) (.int .i64 a0)) (fun _ hk=>hk.2) (.int .i64 a0)) (fun _ hk=>hk.2) (.slice Ao24 x259002_1.length co24)) (fun _ hk=>trivial),by repeat (first|(with_reducible first|exact HB.out|apply below_alloc|refine below_set ?_ GE254.out|refine below_set ?_ GE258.out)|exact HB.out)⟩
  ·rw [if_neg c4] at H
   exact absurd H (by simp)
 ·rw [if_neg c3] at H
  exact absurd H (by simp)

end Go.Proofs.Ytffhbpepppodeaa.PFnInverse
