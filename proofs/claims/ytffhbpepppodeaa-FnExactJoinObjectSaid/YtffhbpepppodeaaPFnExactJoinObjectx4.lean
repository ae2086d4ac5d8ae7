import Derived.Test.YtffhbpepppodeaaPFnExactJoinObjectx0
import Derived.Test.YtffhbpepppodeaaPFnExactJoinObjectx1
import Derived.Test.YtffhbpepppodeaaPFnExactJoinObjectx3
namespace Go.Proofs.Ytffhbpepppodeaa.PFnExactJoinObject
private theorem nn {α : Type} {c : Prop} [Decidable c] {a : Option α} {r : α} (h : (if c then a else none) = some r) : c ∧ a = some r:=by
 split at h
 ·exact ⟨‹c›,h⟩
 ·cases h
open Go.RowKit Go.Proofs.YtffhbpepppodeaaW.PrintWords Go.Proofs.YtffhbpepppodeaaW.PrintLast Go.Proofs.YtffhbpepppodeaaW.PrintMore
attribute [local go_sem] cF cG cW cX cn cp cI cJ   -- for this text's walks alone
set_option linter.unusedVariables false
set_option linter.unusedSimpArgs false

/-! ### az: function 33 -/
mutual
def az.j0 : Nat → Int → Int → List (S55) → Bool → Int → Int → Int → Option (Int × ByteArray)
 | 0,_,_,_,_,_,_,_=>none
 | k + 1,x1,x2,x3,x27,x128000,x128001,x128002=>if x27 = true then (some (1,(⟨#[]⟩ : ByteArray))) else (az.l0 k x1 x2 (([] : List Int)) x3 (x3.length : Int) 0 x128000 x128001 x128002)
def az.l0 : Nat → Int → Int → List Int → List (S55) → Int → Int → Int → Int → Int → Option (Int × ByteArray)
 | 0,_,_,_,_,_,_,_,_,_=>none
 | k + 1,x1,x2,x10,x30,x31,x32,x128000,x128001,x128002=>if x32 < x31 then (if 0 ≤ x32 then (if x32 < (x30.length : Int) then ((bS.f k x128000 x128001 x128002 ((bB x30 x32).f0)).bind fun bt139=>(if bt139.1 = 0 then (if 0 < (bt139.2.length : Int) then (if ((rdOf ByteArray.empty bt139.2 0).size : Int) = x1 then (if 0 ≤ x128000 then (if x128000 ≤ (bt139.2.length : Int) then ((some (bt139.2.take (x128000 : Int).toNat : List ByteArray)).bind fun y145=>(az.l1 k x1 x2 x10 x30 x31 x32 y145 (y145.length : Int) 0 x128000 x128001 x128002)) else (none)) else (none)) else (some (2,(⟨#[]⟩ : ByteArray)))) else (none)) else (some (bt139.1,(⟨#[]⟩ : ByteArray))))) else (none)) else (none)) else (if 0 ≤ x2 then (if x2 ≤ (x10.length : Int) then (some (0,strOfNums (x10.take (x2 : Int).toNat))) else (none)) else (none))
def az.l1 : Nat → Int → Int → List Int → List (S55) → Int → Int → List ByteArray → Int → Int → Int → Int → Int → Option (Int × ByteArray)
 | 0,_,_,_,_,_,_,_,_,_,_,_,_=>none
 | k + 1,x1,x2,x10,x30,x31,x32,x58,x59,x60,x128000,x128001,x128002=>if x60 < x59 then (if 0 ≤ x60 then (if x60 < (x58.length : Int) then (if x10.length + (rdOf ByteArray.empty x58 x60).size < 140737488355328 then (az.l1 k x1 x2 (x10 ++ bytesOf (rdOf ByteArray.empty x58 x60)) x30 x31 x32 x58 x59 (wrap64 (x60 + 1)) x128000 x128001 x128002) else (none)) else (none)) else (none)) else (az.l0 k x1 x2 x10 x30 x31 (wrap64 (x32 + 1)) x128000 x128001 x128002)
end
def az.f (k : Nat) (a0_0 : Int) (a0_1 : Int) (a0_2 : Int) (a1 : Int) (a2 : Int) (l3 : List (S55)) : Option (Int × ByteArray):=(aU.f k a0_0 a0_1 a0_2 a1 a2).bind fun t129=>(if t129 < 0 then (az.j0 k a1 a2 l3 true a0_0 a0_1 a0_2) else (az.j0 k a1 a2 l3 ((l3.length : Int) != t129) a0_0 a0_1 a0_2))
set_option maxHeartbeats 8000000 in
set_option maxRecDepth 100000 in
theorem az.calls (k : Nat) (a0_0 : Int) (a0_1 : Int) (a0_2 : Int) (a1 : Int) (a2 : Int) (A3 : Option Addr) (c3 : Nat) (l3 : List (S55)) (r1 : Int) (r2 : ByteArray) (w : World) (hr3 : Kd.C k55 w A3 l3.length l3) (hc3 : l3.length ≤ c3) (h : az.f k a0_0 a0_1 a0_2 a1 a2 l3 = some (r1,r2)) :
  Calls Try.prog 33 #[.agg #[.int .i64 a0_0,.int .i64 a0_1,.int .i64 a0_2],.int .i64 a1,.int .i64 a2,.slice A3 l3.length c3] w fun e w'=>e = .returned (.agg #[.int .i64 r1,.string r2]) ∧ Below w.heap.size w w':=by
 have HR3:=M0 hr3
 have HC3:=M0 hc3
 clear hr3 hc3
 have HB:=M0 (Below.refl w.heap.size w)
 have H : ((aU.f k a0_0 a0_1 a0_2 a1 a2).bind fun t129=>(if t129 < 0 then (az.j0 k a1 a2 l3 true a0_0 a0_1 a0_2) else (az.j0 k a1 a2 l3 ((l3.length : Int) != t129) a0_0 a0_1 a0_2))) = some (r1,r2):=h
 clear h
 replace H:=Option.bind_eq_some_iff.mp H
 obtain ⟨t129,A50,H⟩:=H
 replace H : (if t129 < 0 then (az.j0 k a1 a2 l3 true a0_0 a0_1 a0_2) else (az.j0 k a1 a2 l3 ((l3.length : Int) != t129) a0_0 a0_1 a0_2)) = some (r1,r2):=H
 have A5:=M0 A50
 clear A50
 have HC6:=M0 H
 clear H
 go_enter Try.func33,Try.ntmps33
 go_upto_region 2 with (first|((with_reducible refine ak (N:=4) rfl ?_);(try (refine au (by rfl) ?_;dsimp only));refine aw rfl (N:=4) rfl (cs:=#[.int .i64 a0_0,.int .i64 a0_1,.int .i64 a0_2]) (t:=43) (by go_simp) ?_;intro gb127 hg w7 hbox hb;have BK127:=M0 (hbox);replace HB:=M0 (aa HB.out hb);clear hb hbox hg)|((with_reducible refine ak (N:=8) rfl ?_);(try (refine au (by rfl) ?_;dsimp only));refine aw rfl (N:=8) rfl (cs:=#[.int .i64 0,.string (⟨#[]⟩ : ByteArray)]) (t:=63) (by go_simp) ?_;intro gb128 hg w8 hbox hb;have BK128:=M0 (hbox);have GW128:=M0 ((by rw [hg];exact (aj HB.out) : w.heap.size ≤ gb128));have GE128:=GW128;replace HB:=M0 (aa HB.out hb);have NB127_128:=M0 ((by rw [hg];exact Nat.ne_of_lt (a7 BK127.out) : gb127 ≠ gb128));have NB128_127:=M0 NB127_128.out.symm;replace BK127:=M0 (ab BK127.out hb);clear hb hbox hg;have hcz10_0:=bcv (v:=.int .i64 a0_0) BK127.out 0 rfl;have hcz10_1:=bcv (v:=.int .i64 a0_1) BK127.out 1 rfl;have hcz10_2:=bcv (v:=.int .i64 a0_2) BK127.out 2 rfl;have hfz10_0:=ag BK127.out 0;have hfz10_1:=ag BK127.out 1;have hfz10_2:=ag BK127.out 2)|((with_reducible refine ah (f:=31) rfl ?_);refine aH (some 19) rfl rfl Try.func31 (by kernel_rfl) rfl #[.agg #[.int .i64 a0_0,.int .i64 a0_1,.int .i64 a0_2],.int .i64 a1,.int .i64 a2] rfl (by (try simp only [List.map_toArray,List.map_cons,List.map_nil]);rfl) ?_;(with_reducible refine (aU.calls k a0_0 a0_1 a0_2 a1 a2 t129 _ A5.out).mono ?_);rintro e w11 ⟨rfl,hb⟩;refine ⟨_,rfl,?_⟩;replace BK127:=M0 (ab BK127.out hb);replace BK128:=M0 (ab BK128.out hb);replace HB:=M0 (aa HB.out hb);clear hb))
 go_cut [27] (fun v27 wc=>∃ (kq : Nat) (x27_5 : Bool),v27 = .bool x27_5 ∧ Aside0 (az.j0 kq a1 a2 l3 x27_5 a0_0 a0_1 a0_2 = some (r1,r2)) ∧ Aside0 (kq ≤ k) ∧ Aside0 (wc.heap[gb127]? = some (.cells #[.int .i64 a0_0,.int .i64 a0_1,.int .i64 a0_2] 43 (0,0))) ∧ Aside0 (wc.heap[gb128]? = some (.cells #[.int .i64 0,.string (⟨#[]⟩ : ByteArray)] 63 (0,0))) ∧ Aside0 (Below w.heap.size w wc))
 case first=>
  have H:=HC6.out
  clear HC6
  by_cases c12 : t129 < 0
  ·rw [if_pos c12] at H
   have c12b0:=decide_eq_true c12
   clear c12
   (skip)
   have H':=M0 H
   clear H
   go_wp2
   go_meet
   case rel=>exact ⟨_,(true),(by rfl),H',⟨by omega⟩,⟨by exact BK127.out⟩,⟨by exact BK128.out⟩,⟨HB.out⟩⟩
  ·rw [if_neg c12] at H
   have c12b0:=decide_eq_false c12
   clear c12
   (skip)
   have H':=M0 H
   clear H
   go_wp2
   go_meet
   case rel=>exact ⟨_,(((l3.length : Int) != t129)),(by rfl),H',⟨by omega⟩,⟨by exact BK127.out⟩,⟨by exact BK128.out⟩,⟨HB.out⟩⟩
 case rest=>
  clear HC6
  (try clear hcz10_0);(try clear hcz10_1);(try clear hcz10_2);(try clear hfz10_0);(try clear hfz10_1);(try clear hfz10_2)
  obtain ⟨kq,x27_5,rfl,HA,HJ5,BK127,BK128,HB⟩:=hcut
  cases kq with
  | zero=>exact absurd HA.out (by simp [az.j0])
  | succ kj5=>
   have H:=HA.out
   clear HA
   simp only [az.j0] at H
   by_cases c13 : x27_5 = true
   ·subst c13
    have H1 : (some (1,(⟨#[]⟩ : ByteArray))) = some (r1,r2):=by rw [if_pos rfl] at H;exact H
    clear H
    have H:=H1
    clear H1
    simp only [Option.some.injEq,Prod.mk.injEq] at H
    obtain ⟨rfl,rfl⟩:=H
    have hcz15_0:=bcv (v:=.int .i64 0) BK128.out 0 rfl
    have hcz15_1:=bcv (v:=.string (⟨#[]⟩ : ByteArray)) BK128.out 1 rfl
    have hfz15_0:=ag BK128.out 0
    have hfz15_1:=ag BK128.out 1
    go_wp2
    refine bodyPost_ret (results_cell_row rfl _ _ gb128 63 #[.int .i64 1,.string (⟨#[]⟩ : ByteArray)] (0,0) _ rfl (by refine aW (cs:=#[.int .i64 1,.string (⟨#[]⟩ : ByteArray)]) ?_ 1 _ rfl;refine aW (cs:=#[.int .i64 0,.string (⟨#[]⟩ : ByteArray)]) ?_ 0 _ rfl;exact BK128.out) Try.underlying63 rfl (by kernel_rfl)) rfl ?_
    exact ⟨by rfl,by repeat ((with_reducible first|exact HB.out|refine ax ?_ GE128.out))⟩
   ·replace c13:=Bool.eq_false_iff.mpr c13
    subst c13
    have H1 : (az.l0 kj5 a1 a2 (([] : List Int)) l3 (l3.length : Int) 0 a0_0 a0_1 a0_2) = some (r1,r2):=by rw [if_neg (show ¬ (false = true) by decide)] at H;exact H
    clear H
    have H:=H1
    clear H1
    obtain ⟨y130,hy130⟩ : ∃ y_ : List Int,y_ = (([] : List Int)):=⟨_,rfl⟩
    rw [← hy130] at H
    have Ny130:=M0 hy130
    clear hy130
    have H':=M0 H
    clear H
    go_wp2_with (((with_reducible refine ak (N:=29) rfl ?_);(try (refine au (by rfl) ?_;dsimp only));refine Kd.R_lit (Kd.int .u8) _ 5 ?hg (N:=29) ?hd (xs:=([] : List Int)) (inner:=[]) (ok:=fun _=>True) (okp:=fun _=>True) ?hr ?hp (fun _ hk=>hk) trivial (Below.refl _ _) (Nat.le_refl _) (by simp) ?_;(case hd=>rfl);(case hg=>rfl);(case hr=>(go_simp;done));(case hp=>exact (Reps.none _ _));intro v131 w16 ho17 hb hg_ hnew_;clear hg_ hnew_;(rw [← Ny130.out] at ho17);have HO132:=M0 (Kd.bj ho17 (aj HB.out));replace BK127:=M0 (ab BK127.out hb);replace BK128:=M0 (ab BK128.out hb);replace HB:=M0 (aa HB.out hb);clear hb ho17))
    go_loopg [10,32] kj5 (fun kq v10 v32 w'=>∃ (x10_2 : List Int) (x32_2 : Int) (x129000_2 : Int) (x129001_2 : ByteArray),v32 = .int .i64 x32_2 ∧ Aside0 (az.l0 kq a1 a2 x10_2 l3 (l3.length : Int) x32_2 a0_0 a0_1 a0_2 = some (r1,r2)) ∧ Aside0 (kq ≤ kj5) ∧ Aside0 (Kd.R (Kd.int .u8) 5 w' w.heap.size (fun _=>True) v10 x10_2) ∧ Aside0 (w'.heap[gb127]? = some (.cells #[.int .i64 a0_0,.int .i64 a0_1,.int .i64 a0_2] 43 (0,0))) ∧ Aside0 (w'.heap[gb128]? = some (.cells #[.int .i64 x129000_2,.string x129001_2] 63 (0,0))) ∧ Aside0 (Below w.heap.size w w'))
    case atStart=>exact ⟨(y130),(0),(0),((⟨#[]⟩ : ByteArray)),(by rfl),H',⟨Nat.le_refl _⟩,⟨by exact HO132.out⟩,⟨by exact BK127.out⟩,⟨by exact BK128.out⟩,⟨HB.out⟩⟩
    case round=>
     clear H'
     obtain ⟨x10_2,x32_2,x129000_2,x129001_2,rfl,HA,HK2,HO_10,BK127,BK128,HB⟩:=hrel
     cases gk with
     | zero=>exact absurd HA.out (by simp [az.l0])
     | succ k2=>
      have H:=HA.out
      clear HA
      simp only [az.l0] at H
      by_cases c18 : x32_2 < (l3.length : Int)
      ·rw [if_pos c18] at H
       have c18b0:=decide_eq_true c18
       clear c18
       obtain ⟨c19,H⟩:=nn H
       have c19b0:=decide_eq_true c19
       clear c19
       obtain ⟨c20,H⟩:=nn H
       have c20b0:=decide_eq_true c20
       clear c20
       replace H:=Option.bind_eq_some_iff.mp H
       obtain ⟨⟨t139,t140⟩,A210,H⟩:=H
       dsimp only at H
       have A21:=M0 A210
       clear A210
       by_cases c22 : t139 = 0
       ·rw [if_pos c22] at H
        have c22b0 : (t139 == 0) = true:=beq_iff_eq.mpr c22
        have c22b1 : (t139 != 0) = false:=bne_eq_false_iff_eq.mpr c22
        clear c22
        obtain ⟨c23,H⟩:=nn H
        have c23b0:=decide_eq_true c23
        have c23b1 : decide (0 < t140.length) = true:=decide_eq_true (by omega)
        clear c23
        by_cases c24 : ((rdOf ByteArray.empty t140 0).size : Int) = a1
        ·rw [if_pos c24] at H
         have c24b0 : (((rdOf ByteArray.empty t140 0).size : Int) == a1) = true:=beq_iff_eq.mpr c24
         have c24b1 : (((rdOf ByteArray.empty t140 0).size : Int) != a1) = false:=bne_eq_false_iff_eq.mpr c24
         clear c24
         obtain ⟨c25,H⟩:=nn H
         have c25b0:=eq_true c25
         have c25b1:=decide_eq_true c25
         clear c25
         obtain ⟨c26,H⟩:=nn H
         have c26b0:=eq_true c26
         have c26b1:=decide_eq_true c26
         clear c26
         obtain ⟨y145,hy145⟩ : ∃ y_ : List ByteArray,y_ = (t140.take (a0_0 : Int).toNat):=⟨_,rfl⟩
         replace H : (az.l1 k2 a1 a2 x10_2 l3 (l3.length : Int) x32_2 y145 (y145.length : Int) 0 a0_0 a0_1 a0_2) = some (r1,r2):=by (have H2_:=(Option.bind_some _ _).symm.trans H;rw [hy145];with_reducible exact H2_)
         have Ny145:=M0 hy145
         clear hy145
         have H':=M0 H
         clear H
         have p137 : 0 ≤ (x32_2 : Int):=of_decide_eq_true (by with_reducible assumption)
         have q137 : x32_2 < (l3.length : Int):=of_decide_eq_true (by with_reducible assumption)
         obtain ⟨ad137,A137_0,c137_0,e137,hx137_0,hl137_0,hi137_0⟩:=at_T55 HR3.out x32_2 p137 q137
         cases e137
         replace hx137_0:=(HB.out.cell (World.block_lt_of_cell? w _ hx137_0)).trans hx137_0
         have HR137_0:=M0 hi137_0
         have HC137_0:=M0 hl137_0
         clear hi137_0 hl137_0
         replace p137:=eq_true p137
         replace q137:=eq_true q137
         go_wp2_with (first|((with_reducible refine ak (N:=12) rfl ?_);(try (refine au (by rfl) ?_;dsimp only));refine aw rfl (N:=12) rfl (cs:=#[.slice none 0 0]) (t:=55) (by go_simp) ?_;intro gb138 hg w27 hbox hb;replace HO_10:=M0 (Kd.aK HO_10.out hb);have BK138:=M0 (hbox);have GW138:=M0 ((by rw [hg];exact (aj HB.out) : w.heap.size ≤ gb138));have GE138:=GW138;replace HB:=M0 (aa HB.out hb);have NB127_138:=M0 ((by rw [hg];exact Nat.ne_of_lt (a7 BK127.out) : gb127 ≠ gb138));replace BK127:=M0 (ab BK127.out hb);have NB128_138:=M0 ((by rw [hg];exact Nat.ne_of_lt (a7 BK128.out) : gb128 ≠ gb138));have NB138_128:=M0 NB128_138.out.symm;replace BK128:=M0 (ab BK128.out hb);clear hb hbox hg;have hnc28:=NB127_138.out;have hnb29:=NB138_128.out;have hnc29:=NB128_138.out;have hcz30_0:=bcv (v:=.slice none 0 0) BK138.out 0 rfl;have hfz30_0:=ag BK138.out 0;have hnb31:=NB127_128.out;have hnc31:=NB128_127.out;have hcz32_0:=bcv (v:=.int .i64 a0_0) BK127.out 0 rfl;have hcz32_1:=bcv (v:=.int .i64 a0_1) BK127.out 1 rfl;have hcz32_2:=bcv (v:=.int .i64 a0_2) BK127.out 2 rfl;have hfz32_0:=ag BK127.out 0;have hfz32_1:=ag BK127.out 1;have hfz32_2:=ag BK127.out 2)|((with_reducible refine ah (f:=38) rfl ?_);refine aH (some 39) rfl rfl Try.func38 (by kernel_rfl) rfl #[.agg #[.int .i64 a0_0,.int .i64 a0_1,.int .i64 a0_2],.slice A137_0 ((bB l3 x32_2).f0).length c137_0] rfl (by (try simp only [List.map_toArray,List.map_cons,List.map_nil]);rfl) ?_;(with_reducible refine (bS.calls k2 a0_0 a0_1 a0_2 _ _ ((bB l3 x32_2).f0) t139 t140 _ ?side1 ?side2 A21.out).mono ?_);(case side1=>exact Kd.a8 HR137_0.out (by repeat ((with_reducible first|exact HB.out|refine ax ?_ GE138.out))));(case side2=>exact HC137_0.out);rintro e w33 ⟨v141,rfl,ho0,hb⟩;refine ⟨_,rfl,?_⟩;replace HO_10:=M0 (Kd.aK (by exact (Kd.bb (Kd.bw (p:=⟨gb138,0,none⟩) (Kd.bP HO_10.out BK138.out (by decide)) (fun _ hk=>hk.2) (.slice A137_0 ((bB l3 x32_2).f0).length c137_0)) (fun _ h_=>h_.1))) hb);have HO142:=M0 (Kd.bj ho0 (aj (by repeat ((with_reducible first|exact HB.out|refine ax ?_ GE138.out)))));replace BK127:=M0 (ab (g:=gb127) (o:=.cells #[.int .i64 a0_0,.int .i64 a0_1,.int .i64 a0_2] 43 (0,0)) (by refine aX ?_ NB127_138.out _;exact BK127.out) hb);replace BK128:=M0 (ab (g:=gb128) (o:=.cells #[.int .i64 x129000_2,.string x129001_2] 63 (0,0)) (by refine aX ?_ NB128_138.out _;exact BK128.out) hb);replace BK138:=M0 (ab (g:=gb138) (o:=.cells #[.slice A137_0 ((bB l3 x32_2).f0).length c137_0] 55 (0,0)) (by refine aW (cs:=#[.slice none 0 0]) ?_ 0 _ rfl;exact BK138.out) hb);replace HB:=M0 (aa (by repeat ((with_reducible first|exact HB.out|refine ax ?_ GE138.out))) hb);clear hb ho0)|((with_reducible refine ak (N:=13) rfl ?_);(try (refine au (by rfl) ?_;dsimp only));refine aw rfl (N:=13) rfl (cs:=#[.int .i64 0,.slice none 0 0]) (t:=68) (by go_simp) ?_;intro gb143 hg w34 hbox hb;replace HO_10:=M0 (Kd.aK HO_10.out hb);replace HO142:=M0 (Kd.aK HO142.out hb);have BK143:=M0 (hbox);have GW143:=M0 ((by rw [hg];exact (aj HB.out) : w.heap.size ≤ gb143));have GE143:=GW143;replace HB:=M0 (aa HB.out hb);have NB127_143:=M0 ((by rw [hg];exact Nat.ne_of_lt (a7 BK127.out) : gb127 ≠ gb143));replace BK127:=M0 (ab BK127.out hb);have NB128_143:=M0 ((by rw [hg];exact Nat.ne_of_lt (a7 BK128.out) : gb128 ≠ gb143));replace BK128:=M0 (ab BK128.out hb);have NB138_143:=M0 ((by rw [hg];exact Nat.ne_of_lt (a7 BK138.out) : gb138 ≠ gb143));replace BK138:=M0 (ab BK138.out hb);clear hb hbox hg;have hcz38_0:=bcv (v:=.int .i64 0) BK143.out 0 rfl;have hcz38_1:=bcv (v:=.slice none 0 0) BK143.out 1 rfl;have hfz38_0:=ag BK143.out 0;have hfz38_1:=ag BK143.out 1;obtain ⟨Ao39,co39,eo39⟩:=Kd.bc HO142.out;subst eo39)|((with_reducible refine bo (t:=68) (p:=13) rfl ?_);refine bK (t:=68) (p:=13) (v:=?vo_w40) (w1:=((w34.setCell ⟨gb143,0,none⟩ (.int .i64 t139)).setCell ⟨gb143,1,none⟩ (.slice Ao39 t140.length co39))) ?hg ?ho ?hn ?hr ?_;(case ho=>rfl);(case hg=>rfl);(case hn=>rfl);(case hr=>(go_simp;done));intro w40 hw;have n0_ : Aside0 (Kd.R (Kd.int .u8) 5 w40 w.heap.size (fun _=>True) u10 x10_2):=⟨(by rw [hw];exact (by exact Kd.bb (Kd.bw (p:=⟨gb143,1,none⟩) (Kd.bw (p:=⟨gb143,0,none⟩) (Kd.bP HO_10.out BK143.out (by decide)) (fun _ hk=>hk.2) (.int .i64 t139)) (fun _ hk=>hk.2) (.slice Ao39 t140.length co39)) (fun _ hk=>trivial)))⟩;have n1_ : Aside0 (Kd.R Kd.string 9 w40 w.heap.size (fun _=>True) (.slice Ao39 t140.length co39) t140):=⟨(by rw [hw];exact (by exact Kd.bb (Kd.bw (p:=⟨gb143,1,none⟩) (Kd.bw (p:=⟨gb143,0,none⟩) (Kd.bP HO142.out BK143.out (by decide)) (fun _ hk=>hk.2) (.int .i64 t139)) (fun _ hk=>hk.2) (.slice Ao39 t140.length co39)) (fun _ hk=>trivial)))⟩;have n2_ : Aside0 (w40.heap[gb127]? = some (.cells #[.int .i64 a0_0,.int .i64 a0_1,.int .i64 a0_2] 43 (0,0))):=⟨(by rw [hw];exact (by refine aX ?_ NB127_143.out _;refine aX ?_ NB127_143.out _;exact BK127.out))⟩;have n3_ : Aside0 (w40.heap[gb128]? = some (.cells #[.int .i64 x129000_2,.string x129001_2] 63 (0,0))):=⟨(by rw [hw];exact (by refine aX ?_ NB128_143.out _;refine aX ?_ NB128_143.out _;exact BK128.out))⟩;have n4_ : Aside0 (w40.heap[gb138]? = some (.cells #[.slice A137_0 ((bB l3 x32_2).f0).length c137_0] 55 (0,0))):=⟨(by rw [hw];exact (by refine aX ?_ NB138_143.out _;refine aX ?_ NB138_143.out _;exact BK138.out))⟩;have n5_ : Aside0 (w40.heap[gb143]? = some (.cells #[.int .i64 t139,.slice Ao39 t140.length co39] 68 (0,0))):=⟨(by rw [hw];exact (by refine aW (cs:=#[.int .i64 t139,.slice none 0 0]) ?_ 1 _ rfl;refine aW (cs:=#[.int .i64 0,.slice none 0 0]) ?_ 0 _ rfl;exact BK143.out))⟩;have n6_ : Aside0 (Below w.heap.size w w40):=⟨(by rw [hw];exact (by repeat ((with_reducible first|exact HB.out|refine ax ?_ GE143.out))))⟩;clear hw HO_10 HO142 BK127 BK128 BK138 BK143 HB;have HO_10:=n0_;have HO142:=n1_;have BK127:=n2_;have BK128:=n3_;have BK138:=n4_;have BK143:=n5_;have HB:=n6_;clear n0_ n1_ n2_ n3_ n4_ n5_ n6_;have hcz41_0:=bcv (v:=.int .i64 t139) BK143.out 0 rfl;have hcz41_1:=bcv (v:=.slice Ao39 t140.length co39) BK143.out 1 rfl;have hfz41_0:=ag BK143.out 0;have hfz41_1:=ag BK143.out 1;have p144 : 0 ≤ (0 : Int):=(by omega);have q144 : 0 < (t140.length : Int):=of_decide_eq_true (by with_reducible assumption);obtain ⟨ad144,e144,hx144_0⟩:=Kd.bu (Kd.aE HO142.out).2.2 0 p144 q144;cases e144;have qi144 : (0 < t140.length) = True:=eq_true (by omega);(try rw [show ((0 : Int)).toNat = 0 from rfl] at hx144_0);(try rw [Addr.add_zero'] at hx144_0);replace p144:=eq_true p144;replace q144:=eq_true q144;have hcz42_0:=bcv (v:=.int .i64 a0_0) BK127.out 0 rfl;have hcz42_1:=bcv (v:=.int .i64 a0_1) BK127.out 1 rfl;have hcz42_2:=bcv (v:=.int .i64 a0_2) BK127.out 2 rfl;have hfz42_0:=ag BK127.out 0;have hfz42_1:=ag BK127.out 1;have hfz42_2:=ag BK127.out 2;have q43 : (a0_0 : Int) ≤ ((t140.length : Int) : Int):=of_decide_eq_true (by with_reducible assumption);obtain ⟨i043,hi043,_,hsz43,_⟩:=info_parts info9;have hroom43 : t140.length ≤ co39:=(Kd.aE HO142.out).2.1;have hC43 : Kd.C Kd.string _ (some ad144) t140.length t140:=(Kd.aE HO142.out).2.2;have hcut43:=cut_to (P:=Try.prog) 56 9 .i64 Try.underlying56 hi043 (some ad144) t140.length co39 a0_0 (of_decide_eq_true (by with_reducible assumption)) q43 hroom43;have hr43:=Kd.C_take (m:=(a0_0 : Int).toNat) hC43 (by omega);have hy43 : y145.length = (a0_0 : Int).toNat:=(by rw [Ny145.out,List.length_take];omega);rw [← Ny145.out] at hr43;rw [← hy43] at hcut43;have HR148:=M0 hr43;have HC148:=M0 (show y145.length ≤ co39 from by omega);clear hr43 hC43 hroom43 hi043 hsz43;have KY43:=M0 hy43;clear hy43;have KL43:=M0 (show (a0_0 : Int).toNat ≤ t140.length from by omega);replace q43:=eq_true q43))
         go_loopg [10,60] k2 (fun kq v10 v60 w'=>∃ (x10_3 : List Int) (x60_3 : Int),v60 = .int .i64 x60_3 ∧ Aside0 (az.l1 kq a1 a2 x10_3 l3 (l3.length : Int) x32_2 y145 (y145.length : Int) x60_3 a0_0 a0_1 a0_2 = some (r1,r2)) ∧ Aside0 (kq ≤ k2) ∧ Aside0 (Kd.R (Kd.int .u8) 5 w' w.heap.size (fun _=>True) v10 x10_3) ∧ Aside0 (Kd.R Kd.string 9 w' w.heap.size (fun _=>True) (.slice (some ad144) t140.length co39) t140) ∧ Aside0 (w'.heap[gb127]? = some (.cells #[.int .i64 a0_0,.int .i64 a0_1,.int .i64 a0_2] 43 (0,0))) ∧ Aside0 (w'.heap[gb128]? = some (.cells #[.int .i64 x129000_2,.string x129001_2] 63 (0,0))) ∧ Aside0 (w'.heap[gb138]? = some (.cells #[(.slice A137_0 ((bB l3 x32_2).f0).length c137_0)] 55 (0,0))) ∧ Aside0 (w'.heap[gb143]? = some (.cells #[.int .i64 t139,(.slice (some ad144) t140.length co39)] 68 (0,0))) ∧ Aside0 (Below w.heap.size w w'))
         case atStart=>exact ⟨(x10_2),(0),(by rfl),H',⟨Nat.le_refl _⟩,⟨by exact HO_10.out⟩,⟨by exact HO142.out⟩,⟨by exact BK127.out⟩,⟨by exact BK128.out⟩,⟨by exact BK138.out⟩,⟨by exact BK143.out⟩,⟨HB.out⟩⟩
         case round=>
          clear H'
          (try clear c18b0);(try clear c19b0);(try clear c20b0);(try clear c22b0);(try clear c22b1);(try clear c23b0);(try clear c23b1);(try clear c24b0);(try clear c24b1);(try clear c25b0);(try clear c25b1);(try clear c26b0);(try clear c26b1);(try clear q43);(try clear hcz30_0);(try clear hcz32_0);(try clear hcz32_1);(try clear hcz32_2);(try clear hcz38_0);(try clear hcz38_1);(try clear hcz41_0);(try clear hcz41_1);(try clear hcz42_0);(try clear hcz42_1);(try clear hcz42_2);(try clear hfz30_0);(try clear hfz32_0);(try clear hfz32_1);(try clear hfz32_2);(try clear hfz38_0);(try clear hfz38_1);(try clear hfz41_0);(try clear hfz41_1);(try clear hfz42_0);(try clear hfz42_1);(try clear hfz42_2);(try clear hx137_0);(try clear hx144_0);(try clear p137);(try clear p144);(try clear q137);(try clear q144)
          obtain ⟨x10_3,x60_3,rfl,HA,HK3,HO_10,HO_144001,BK127,BK128,BK138,BK143,HB⟩:=hrel
          cases gk with
          | zero=>exact absurd HA.out (by simp [az.l1])
          | succ k3=>
           have H:=HA.out
           clear HA
           simp only [az.l1] at H
           by_cases c44 : x60_3 < (y145.length : Int)
           ·rw [if_pos c44] at H
            clear c44
            obtain ⟨c45,H⟩:=nn H
            have c45b0:=decide_eq_true c45
            clear c45
            obtain ⟨c46,H⟩:=nn H
            have c46b0:=decide_eq_true c46
            clear c46
            obtain ⟨c47,H⟩:=nn H
            have LMc47:=M0 c47
            clear c47
            obtain ⟨y150,hy150⟩ : ∃ y_ : List Int,y_ = (x10_3 ++ bytesOf (rdOf ByteArray.empty y145 x60_3)):=⟨_,rfl⟩
            rw [← hy150] at H
            have Ny150:=M0 hy150
            clear hy150
            have H':=M0 H
            clear H
            have p149 : 0 ≤ (x60_3 : Int):=of_decide_eq_true (by with_reducible assumption)
            have q149 : x60_3 < (y145.length : Int):=of_decide_eq_true (by with_reducible assumption)
            have hq_ : x60_3 < (t140.length : Int):=by have h_:=q149;rw [Ny145.out,List.length_take] at h_;omega
            obtain ⟨ad149,e149,hx149_0⟩:=Kd.bu (Kd.aE HO_144001.out).2.2 x60_3 p149 hq_
            obtain rfl : ad144 = ad149:=(by injection e149)
            have er_ : rdOf ByteArray.empty t140 x60_3 = rdOf ByteArray.empty y145 x60_3:=by have h_:=q149;rw [Ny145.out,List.length_take] at h_;unfold rdOf;rw [Ny145.out,List.getD_eq_getElem?_getD,List.getD_eq_getElem?_getD,List.getElem?_take,if_pos (by omega)]
            rw [er_] at hx149_0
            clear er_ hq_
            replace p149:=eq_true p149
            replace q149:=eq_true q149
            go_wp2_with ((at_builtin;refine print_append_str (w0:=w) w.heap.size rfl (.tmp 64) _ 37 9 5 rfl Try.underlying37 Try.underlying9 info5 u10 x10_3 (rdOf ByteArray.empty y145 x60_3) rfl rfl ?aO ?aB ?aS ?aL ?_;(case aB=>exact HB.out);(case aO=>exact (Kd.own_of_R HO_10.out));(case aS=>exact (aj HB.out));(case aL=>have:=LMc47.out;omega);intro v151 w48 ho0 hb hg;have ho:=Kd.R_of_own (h1:=fun _=>rfl) (ok:=fun _=>True) ho0 (fun _ _=>trivial);clear ho0;have hat:=True.intro;rw [← Ny150.out] at ho;change Kd.R (Kd.int .u8) 5 w48 w.heap.size (fun _=>True) v151 y150 at ho;have n0_:=M0 (Kd.df HO_144001.out (Kd.cV HO_10.out) (by decide) hg);have n1_:=M0 (bm (g:=gb127) (o:=.cells #[.int .i64 a0_0,.int .i64 a0_1,.int .i64 a0_2] 43 (0,0)) BK127.out hg (Kd.R_ne HO_10.out BK127.out (by decide)));have n2_:=M0 (bm (g:=gb128) (o:=.cells #[.int .i64 x129000_2,.string x129001_2] 63 (0,0)) BK128.out hg (Kd.R_ne HO_10.out BK128.out (by decide)));have n3_:=M0 (bm (g:=gb138) (o:=.cells #[.slice A137_0 ((bB l3 x32_2).f0).length c137_0] 55 (0,0)) BK138.out hg (Kd.R_ne HO_10.out BK138.out (by decide)));have n4_:=M0 (bm (g:=gb143) (o:=.cells #[.int .i64 t139,.slice (some ad144) t140.length co39] 68 (0,0)) BK143.out hg (Kd.R_ne HO_10.out BK143.out (by decide)));have n5_:=M0 (hb);have n6_:=M0 (ho);clear HO_144001 BK127 BK128 BK138 BK143 HB HO_10;have HO_144001:=n0_;have BK127:=n1_;have BK128:=n2_;have BK138:=n3_;have BK143:=n4_;have HB:=n5_;have HO152:=n6_;clear n0_ n1_ n2_ n3_ n4_ n5_ n6_ ho hb hg hat))
            go_roundg k3
            case measure=>have:=HJ5.out;have:=HK2.out;have:=HK3.out;omega
            case rel=>exact ⟨(y150),(wrap64 (x60_3 + 1)),(by rfl),H',⟨by have:=HJ5.out;have:=HK2.out;have:=HK3.out;omega⟩,⟨by exact HO152.out⟩,⟨by exact HO_144001.out⟩,⟨by exact BK127.out⟩,⟨by exact BK128.out⟩,⟨by exact BK138.out⟩,⟨by exact BK143.out⟩,⟨HB.out⟩⟩
           ·rw [if_neg c44] at H
            have c44b0:=decide_eq_false c44
            clear c44
            have H':=M0 H
            clear H
            go_wp2
            go_roundg k3
            case measure=>have:=HJ5.out;have:=HK2.out;have:=HK3.out;omega
            case rel=>exact ⟨(x10_3),(wrap64 (x32_2 + 1)),(x129000_2),(x129001_2),(by rfl),H',⟨by have:=HJ5.out;have:=HK2.out;have:=HK3.out;omega⟩,⟨by exact HO_10.out⟩,⟨by exact BK127.out⟩,⟨by exact BK128.out⟩,⟨HB.out⟩⟩
        ·rw [if_neg c24] at H
         have c24b1 : (((rdOf ByteArray.empty t140 0).size : Int) != a1) = true:=bne_iff_ne.mpr c24
         simp only [Option.some.injEq,Prod.mk.injEq] at H
         obtain ⟨rfl,rfl⟩:=H
         have p137 : 0 ≤ (x32_2 : Int):=of_decide_eq_true (by with_reducible assumption)
         have q137 : x32_2 < (l3.length : Int):=of_decide_eq_true (by with_reducible assumption)
         obtain ⟨ad137,A137_0,c137_0,e137,hx137_0,hl137_0,hi137_0⟩:=at_T55 HR3.out x32_2 p137 q137
         cases e137
         replace hx137_0:=(HB.out.cell (World.block_lt_of_cell? w _ hx137_0)).trans hx137_0
         have HR137_0:=M0 hi137_0
         have HC137_0:=M0 hl137_0
         clear hi137_0 hl137_0
         replace p137:=eq_true p137
         replace q137:=eq_true q137
         go_wp2_with (first|((with_reducible refine ak (N:=12) rfl ?_);(try (refine au (by rfl) ?_;dsimp only));refine aw rfl (N:=12) rfl (cs:=#[.slice none 0 0]) (t:=55) (by go_simp) ?_;intro gb138 hg w49 hbox hb;replace HO_10:=M0 (Kd.aK HO_10.out hb);have BK138:=M0 (hbox);have GW138:=M0 ((by rw [hg];exact (aj HB.out) : w.heap.size ≤ gb138));have GE138:=GW138;replace HB:=M0 (aa HB.out hb);have NB127_138:=M0 ((by rw [hg];exact Nat.ne_of_lt (a7 BK127.out) : gb127 ≠ gb138));replace BK127:=M0 (ab BK127.out hb);have NB128_138:=M0 ((by rw [hg];exact Nat.ne_of_lt (a7 BK128.out) : gb128 ≠ gb138));have NB138_128:=M0 NB128_138.out.symm;replace BK128:=M0 (ab BK128.out hb);clear hb hbox hg;have hnc50:=NB127_138.out;have hnb51:=NB138_128.out;have hnc51:=NB128_138.out;have hcz52_0:=bcv (v:=.slice none 0 0) BK138.out 0 rfl;have hfz52_0:=ag BK138.out 0;have hnb53:=NB127_128.out;have hnc53:=NB128_127.out;have hcz54_0:=bcv (v:=.int .i64 a0_0) BK127.out 0 rfl;have hcz54_1:=bcv (v:=.int .i64 a0_1) BK127.out 1 rfl;have hcz54_2:=bcv (v:=.int .i64 a0_2) BK127.out 2 rfl)|((with_reducible refine ah (f:=38) rfl ?_);refine aH (some 39) rfl rfl Try.func38 (by kernel_rfl) rfl #[.agg #[.int .i64 a0_0,.int .i64 a0_1,.int .i64 a0_2],.slice A137_0 ((bB l3 x32_2).f0).length c137_0] rfl (by (try simp only [List.map_toArray,List.map_cons,List.map_nil]);rfl) ?_;(with_reducible refine (bS.calls k2 a0_0 a0_1 a0_2 _ _ ((bB l3 x32_2).f0) t139 t140 _ ?side1 ?side2 A21.out).mono ?_);(case side1=>exact Kd.a8 HR137_0.out (by repeat ((with_reducible first|exact HB.out|refine ax ?_ GE138.out))));(case side2=>exact HC137_0.out);rintro e w55 ⟨v141,rfl,ho0,hb⟩;refine ⟨_,rfl,?_⟩;replace HO_10:=M0 (Kd.aK (by exact (Kd.bb (Kd.bw (p:=⟨gb138,0,none⟩) (Kd.bP HO_10.out BK138.out (by decide)) (fun _ hk=>hk.2) (.slice A137_0 ((bB l3 x32_2).f0).length c137_0)) (fun _ h_=>h_.1))) hb);have HO142:=M0 (Kd.bj ho0 (aj (by repeat ((with_reducible first|exact HB.out|refine ax ?_ GE138.out)))));replace BK127:=M0 (ab (g:=gb127) (o:=.cells #[.int .i64 a0_0,.int .i64 a0_1,.int .i64 a0_2] 43 (0,0)) (by refine aX ?_ NB127_138.out _;exact BK127.out) hb);replace BK128:=M0 (ab (g:=gb128) (o:=.cells #[.int .i64 x129000_2,.string x129001_2] 63 (0,0)) (by refine aX ?_ NB128_138.out _;exact BK128.out) hb);replace BK138:=M0 (ab (g:=gb138) (o:=.cells #[.slice A137_0 ((bB l3 x32_2).f0).length c137_0] 55 (0,0)) (by refine aW (cs:=#[.slice none 0 0]) ?_ 0 _ rfl;exact BK138.out) hb);replace HB:=M0 (aa (by repeat ((with_reducible first|exact HB.out|refine ax ?_ GE138.out))) hb);clear hb ho0)|((with_reducible refine ak (N:=13) rfl ?_);(try (refine au (by rfl) ?_;dsimp only));refine aw rfl (N:=13) rfl (cs:=#[.int .i64 0,.slice none 0 0]) (t:=68) (by go_simp) ?_;intro gb143 hg w56 hbox hb;replace HO_10:=M0 (Kd.aK HO_10.out hb);replace HO142:=M0 (Kd.aK HO142.out hb);have BK143:=M0 (hbox);have GW143:=M0 ((by rw [hg];exact (aj HB.out) : w.heap.size ≤ gb143));have GE143:=GW143;replace HB:=M0 (aa HB.out hb);have NB127_143:=M0 ((by rw [hg];exact Nat.ne_of_lt (a7 BK127.out) : gb127 ≠ gb143));replace BK127:=M0 (ab BK127.out hb);have NB128_143:=M0 ((by rw [hg];exact Nat.ne_of_lt (a7 BK128.out) : gb128 ≠ gb143));replace BK128:=M0 (ab BK128.out hb);have NB138_143:=M0 ((by rw [hg];exact Nat.ne_of_lt (a7 BK138.out) : gb138 ≠ gb143));have NB143_138:=M0 NB138_143.out.symm;replace BK138:=M0 (ab BK138.out hb);clear hb hbox hg;have hnc58:=NB128_143.out;have hnb59:=NB143_138.out;have hnc59:=NB138_143.out;have hcz60_0:=bcv (v:=.int .i64 0) BK143.out 0 rfl;have hcz60_1:=bcv (v:=.slice none 0 0) BK143.out 1 rfl;have hfz60_0:=ag BK143.out 0;have hfz60_1:=ag BK143.out 1;obtain ⟨Ao61,co61,eo61⟩:=Kd.bc HO142.out;subst eo61;have p144 : 0 ≤ (0 : Int):=(by omega);have q144 : 0 < (t140.length : Int):=of_decide_eq_true (by with_reducible assumption);obtain ⟨ad144,e144,hx144_0⟩:=Kd.bu (Kd.aE HO142.out).2.2 0 p144 q144;cases e144;have qi144 : (0 < t140.length) = True:=eq_true (by omega);(try rw [show ((0 : Int)).toNat = 0 from rfl] at hx144_0);(try rw [Addr.add_zero'] at hx144_0);have hn144_0 : ad144.block ≠ gb143:=Kd.own_blk (Kd.R_ne HO142.out BK143.out (by decide));have hn144_1 : ad144.block ≠ gb143:=Kd.own_blk (Kd.R_ne HO142.out BK143.out (by decide));replace hx144_0:=(cell_far (p:=⟨gb143,0,none⟩) hn144_0 (.int .i64 t139)).trans hx144_0;replace hx144_0:=(cell_far (p:=⟨gb143,1,none⟩) hn144_1 (.slice (some ad144) t140.length co61)).trans hx144_0;clear hn144_0 hn144_1;replace p144:=eq_true p144;replace q144:=eq_true q144;have hcz62_0:=bcv (v:=.int .i64 x129000_2) BK128.out 0 rfl;have hcz62_1:=bcv (v:=.string x129001_2) BK128.out 1 rfl;have hfz62_0:=ag BK128.out 0;have hfz62_1:=ag BK128.out 1))
         refine bodyPost_ret (results_cell_row rfl _ _ gb128 63 #[.int .i64 2,.string (⟨#[]⟩ : ByteArray)] (0,0) _ rfl (by refine aW (cs:=#[.int .i64 2,.string x129001_2]) ?_ 1 _ rfl;refine aW (cs:=#[.int .i64 x129000_2,.string x129001_2]) ?_ 0 _ rfl;refine aX ?_ NB128_143.out _;refine aX ?_ NB128_143.out _;exact BK128.out) Try.underlying63 rfl (by kernel_rfl)) rfl ?_
         exact ⟨by rfl,by repeat ((with_reducible first|exact HB.out|refine ax ?_ GE128.out|refine ax ?_ GE143.out))⟩
       ·rw [if_neg c22] at H
        have c22b1 : (t139 != 0) = true:=bne_iff_ne.mpr c22
        simp only [Option.some.injEq,Prod.mk.injEq] at H
        obtain ⟨rfl,rfl⟩:=H
        have p137 : 0 ≤ (x32_2 : Int):=of_decide_eq_true (by with_reducible assumption)
        have q137 : x32_2 < (l3.length : Int):=of_decide_eq_true (by with_reducible assumption)
        obtain ⟨ad137,A137_0,c137_0,e137,hx137_0,hl137_0,hi137_0⟩:=at_T55 HR3.out x32_2 p137 q137
        cases e137
        replace hx137_0:=(HB.out.cell (World.block_lt_of_cell? w _ hx137_0)).trans hx137_0
        have HR137_0:=M0 hi137_0
        have HC137_0:=M0 hl137_0
        clear hi137_0 hl137_0
        replace p137:=eq_true p137
        replace q137:=eq_true q137
        go_wp2_with (first|((with_reducible refine ak (N:=12) rfl ?_);(try (refine au (by rfl) ?_;dsimp only));refine aw rfl (N:=12) rfl (cs:=#[.slice none 0 0]) (t:=55) (by go_simp) ?_;intro gb138 hg w63 hbox hb;replace HO_10:=M0 (Kd.aK HO_10.out hb);have BK138:=M0 (hbox);have GW138:=M0 ((by rw [hg];exact (aj HB.out) : w.heap.size ≤ gb138));have GE138:=GW138;replace HB:=M0 (aa HB.out hb);have NB127_138:=M0 ((by rw [hg];exact Nat.ne_of_lt (a7 BK127.out) : gb127 ≠ gb138));replace BK127:=M0 (ab BK127.out hb);have NB128_138:=M0 ((by rw [hg];exact Nat.ne_of_lt (a7 BK128.out) : gb128 ≠ gb138));have NB138_128:=M0 NB128_138.out.symm;replace BK128:=M0 (ab BK128.out hb);clear hb hbox hg;have hnc64:=NB127_138.out;have hnb65:=NB138_128.out;have hnc65:=NB128_138.out;have hcz66_0:=bcv (v:=.slice none 0 0) BK138.out 0 rfl;have hfz66_0:=ag BK138.out 0;have hnb67:=NB127_128.out;have hnc67:=NB128_127.out;have hcz68_0:=bcv (v:=.int .i64 a0_0) BK127.out 0 rfl;have hcz68_1:=bcv (v:=.int .i64 a0_1) BK127.out 1 rfl;have hcz68_2:=bcv (v:=.int .i64 a0_2) BK127.out 2 rfl)|((with_reducible refine ah (f:=38) rfl ?_);refine aH (some 39) rfl rfl Try.func38 (by kernel_rfl) rfl #[.agg #[.int .i64 a0_0,.int .i64 a0_1,.int .i64 a0_2],.slice A137_0 ((bB l3 x32_2).f0).length c137_0] rfl (by (try simp only [List.map_toArray,List.map_cons,List.map_nil]);rfl) ?_;(with_reducible refine (bS.calls k2 a0_0 a0_1 a0_2 _ _ ((bB l3 x32_2).f0) t139 t140 _ ?side1 ?side2 A21.out).mono ?_);(case side1=>exact Kd.a8 HR137_0.out (by repeat ((with_reducible first|exact HB.out|refine ax ?_ GE138.out))));(case side2=>exact HC137_0.out);rintro e w69 ⟨v141,rfl,ho0,hb⟩;refine ⟨_,rfl,?_⟩;replace HO_10:=M0 (Kd.aK (by exact (Kd.bb (Kd.bw (p:=⟨gb138,0,none⟩) (Kd.bP HO_10.out BK138.out (by decide)) (fun _ hk=>hk.2) (.slice A137_0 ((bB l3 x32_2).f0).length c137_0)) (fun _ h_=>h_.1))) hb);have HO142:=M0 (Kd.bj ho0 (aj (by repeat ((with_reducible first|exact HB.out|refine ax ?_ GE138.out)))));replace BK127:=M0 (ab (g:=gb127) (o:=.cells #[.int .i64 a0_0,.int .i64 a0_1,.int .i64 a0_2] 43 (0,0)) (by refine aX ?_ NB127_138.out _;exact BK127.out) hb);replace BK128:=M0 (ab (g:=gb128) (o:=.cells #[.int .i64 x129000_2,.string x129001_2] 63 (0,0)) (by refine aX ?_ NB128_138.out _;exact BK128.out) hb);replace BK138:=M0 (ab (g:=gb138) (o:=.cells #[.slice A137_0 ((bB l3 x32_2).f0).length c137_0] 55 (0,0)) (by refine aW (cs:=#[.slice none 0 0]) ?_ 0 _ rfl;exact BK138.out) hb);replace HB:=M0 (aa (by repeat ((with_reducible first|exact HB.out|refine ax ?_ GE138.out))) hb);clear hb ho0)|((with_reducible refine ak (N:=13) rfl ?_);(try (refine au (by rfl) ?_;dsimp only));refine aw rfl (N:=13) rfl (cs:=#[.int .i64 0,.slice none 0 0]) (t:=68) (by go_simp) ?_;intro gb143 hg w70 hbox hb;replace HO_10:=M0 (Kd.aK HO_10.out hb);replace HO142:=M0 (Kd.aK HO142.out hb);have BK143:=M0 (hbox);have GW143:=M0 ((by rw [hg];exact (aj HB.out) : w.heap.size ≤ gb143));have GE143:=GW143;replace HB:=M0 (aa HB.out hb);have NB127_143:=M0 ((by rw [hg];exact Nat.ne_of_lt (a7 BK127.out) : gb127 ≠ gb143));replace BK127:=M0 (ab BK127.out hb);have NB128_143:=M0 ((by rw [hg];exact Nat.ne_of_lt (a7 BK128.out) : gb128 ≠ gb143));replace BK128:=M0 (ab BK128.out hb);have NB138_143:=M0 ((by rw [hg];exact Nat.ne_of_lt (a7 BK138.out) : gb138 ≠ gb143));have NB143_138:=M0 NB138_143.out.symm;replace BK138:=M0 (ab BK138.out hb);clear hb hbox hg;have hnc72:=NB128_143.out;have hnb73:=NB143_138.out;have hnc73:=NB138_143.out;have hcz74_0:=bcv (v:=.int .i64 0) BK143.out 0 rfl;have hcz74_1:=bcv (v:=.slice none 0 0) BK143.out 1 rfl;have hfz74_0:=ag BK143.out 0;have hfz74_1:=ag BK143.out 1;obtain ⟨Ao75,co75,eo75⟩:=Kd.bc HO142.out;subst eo75;have hcz76_0:=bcv (v:=.int .i64 x129000_2) BK128.out 0 rfl;have hcz76_1:=bcv (v:=.string x129001_2) BK128.out 1 rfl;have hfz76_0:=ag BK128.out 0;have hfz76_1:=ag BK128.out 1))
        refine bodyPost_ret (results_cell_row rfl _ _ gb128 63 #[.int .i64 t139,.string (⟨#[]⟩ : ByteArray)] (0,0) _ rfl (by refine aW (cs:=#[.int .i64 t139,.string x129001_2]) ?_ 1 _ rfl;refine aW (cs:=#[.int .i64 x129000_2,.string x129001_2]) ?_ 0 _ rfl;refine aX ?_ NB128_143.out _;refine aX ?_ NB128_143.out _;exact BK128.out) Try.underlying63 rfl (by kernel_rfl)) rfl ?_
        exact ⟨by rfl,by repeat ((with_reducible first|exact HB.out|refine ax ?_ GE128.out|refine ax ?_ GE143.out))⟩
      ·rw [if_neg c18] at H
       have c18b0:=decide_eq_false c18
       clear c18
       obtain ⟨c77,H⟩:=nn H
       have c77b1:=decide_eq_true c77
       clear c77
       obtain ⟨c78,H⟩:=nn H
       have c78b1:=decide_eq_true c78
       clear c78
       obtain ⟨y133,hy133⟩ : ∃ y_ : List Int,y_ = (x10_2.take (a2 : Int).toNat):=⟨_,rfl⟩
       rw [← hy133] at H
       have Ny133:=M0 hy133
       clear hy133
       simp only [Option.some.injEq,Prod.mk.injEq] at H
       obtain ⟨rfl,rfl⟩:=H
       obtain ⟨Ao80,co80,eo80⟩:=Kd.bc HO_10.out
       subst eo80
       have q79 : (a2 : Int) ≤ ((x10_2.length : Int) : Int):=of_decide_eq_true (by with_reducible assumption)
       obtain ⟨i079,hi079,_,hsz79,_⟩:=info_parts info5
       have hroom79 : x10_2.length ≤ co80:=(Kd.aE HO_10.out).2.1
       have hC79 : Kd.C (Kd.int .u8) _ Ao80 x10_2.length x10_2:=(Kd.aE HO_10.out).2.2
       have hcut79:=cut_to (P:=Try.prog) 37 5 .i64 Try.underlying37 hi079 Ao80 x10_2.length co80 a2 (of_decide_eq_true (by with_reducible assumption)) q79 hroom79
       have hr79:=Kd.C_take (m:=(a2 : Int).toNat) hC79 (by omega)
       have hy79 : y133.length = (a2 : Int).toNat:=(by rw [Ny133.out,List.length_take];omega)
       rw [← Ny133.out] at hr79
       rw [← hy79] at hcut79
       have HR136:=M0 hr79
       have HC136:=M0 (show y133.length ≤ co80 from by omega)
       clear hr79 hC79 hroom79 hi079 hsz79
       have KY79:=M0 hy79
       clear hy79
       have KL79:=M0 (show (a2 : Int).toNat ≤ x10_2.length from by omega)
       replace q79:=eq_true q79
       have hcv81:=Kd.C_string (P:=Try.prog) (A:=Ao80) (c:=co80) Try.underlying37 Try.underlying5 Try.underlying9 (by exact  HR136.out)
       have hcz83_0:=bcv (v:=.int .i64 x129000_2) BK128.out 0 rfl
       have hcz83_1:=bcv (v:=.string x129001_2) BK128.out 1 rfl
       have hfz83_0:=ag BK128.out 0
       have hfz83_1:=ag BK128.out 1
       go_wp2
       refine bodyPost_ret (results_cell_row rfl _ _ gb128 63 #[.int .i64 0,.string (strOfNums y133)] (0,0) _ rfl (by refine aW (cs:=#[.int .i64 0,.string x129001_2]) ?_ 1 _ rfl;refine aW (cs:=#[.int .i64 x129000_2,.string x129001_2]) ?_ 0 _ rfl;exact BK128.out) Try.underlying63 rfl (by kernel_rfl)) rfl ?_
       exact ⟨by rfl,by repeat ((with_reducible first|exact HB.out|refine ax ?_ GE128.out))⟩

/-! ### bV: function 45 -/
def bV.f (a0_0 : Int) (a0_1 : Int) (a0_2 : Int) : Option (Int × Int × Int):=some (a0_0,a0_1,a0_2)
set_option maxHeartbeats 8000000 in
set_option maxRecDepth 100000 in
theorem bV.calls (a0_0 : Int) (a0_1 : Int) (a0_2 : Int) (r1 : Int) (r2 : Int) (r3 : Int) (w : World) (h : bV.f a0_0 a0_1 a0_2 = some (r1,r2,r3)) :
  Calls Try.prog 45 #[.agg #[.int .i64 a0_0,.int .i64 a0_1,.int .i64 a0_2]] w fun e w'=>e = .returned (.agg #[.int .i64 r1,.int .i64 r2,.int .i64 r3]) ∧ Below w.heap.size w w':=by
 have HB:=M0 (Below.refl w.heap.size w)
 have H : (some (a0_0,a0_1,a0_2)) = some (r1,r2,r3):=h
 clear h
 simp only [Option.some.injEq,Prod.mk.injEq] at H
 obtain ⟨rfl,rfl,rfl⟩:=H
 go_enter Try.func45,Try.ntmps45
 go_wp2_with (first|((with_reducible refine ak (N:=1) rfl ?_);refine aw rfl (N:=1) rfl (cs:=#[.int .i64 a0_0,.int .i64 a0_1,.int .i64 a0_2]) (t:=78) (by go_simp) ?_;intro gb153 hg w2 hbox hb;have BK153:=M0 (hbox);replace HB:=M0 (aa HB.out hb);clear hb hbox hg)|((with_reducible refine ak (N:=2) rfl ?_);refine aw rfl (N:=2) rfl (cs:=#[.int .i64 0,.int .i64 0,.int .i64 0]) (t:=43) (by go_simp) ?_;intro gb154 hg w3 hbox hb;have BK154:=M0 (hbox);have GW154:=M0 ((by rw [hg];exact (aj HB.out) : w.heap.size ≤ gb154));have GE154:=GW154;replace HB:=M0 (aa HB.out hb);have NB153_154:=M0 ((by rw [hg];exact Nat.ne_of_lt (a7 BK153.out) : gb153 ≠ gb154));replace BK153:=M0 (ab BK153.out hb);clear hb hbox hg)|((with_reducible refine ak (N:=3) rfl ?_);refine aw rfl (N:=3) rfl (cs:=#[.int .i64 0,.int .i64 0,.int .i64 0]) (t:=43) (by go_simp) ?_;intro gb155 hg w4 hbox hb;have BK155:=M0 (hbox);have GW155:=M0 ((by rw [hg];exact (aj HB.out) : w.heap.size ≤ gb155));have GE155:=GW155;replace HB:=M0 (aa HB.out hb);have NB153_155:=M0 ((by rw [hg];exact Nat.ne_of_lt (a7 BK153.out) : gb153 ≠ gb155));replace BK153:=M0 (ab BK153.out hb);have NB154_155:=M0 ((by rw [hg];exact Nat.ne_of_lt (a7 BK154.out) : gb154 ≠ gb155));replace BK154:=M0 (ab BK154.out hb);clear hb hbox hg;have hcz7_0:=bcv (v:=.int .i64 a0_0) BK153.out 0 rfl;have hcz7_1:=bcv (v:=.int .i64 a0_1) BK153.out 1 rfl;have hcz7_2:=bcv (v:=.int .i64 a0_2) BK153.out 2 rfl;have hnc8:=NB154_155.out;have hcz9_0:=bcv (v:=.int .i64 0) BK155.out 0 rfl;have hcz9_1:=bcv (v:=.int .i64 0) BK155.out 1 rfl;have hcz9_2:=bcv (v:=.int .i64 0) BK155.out 2 rfl;have hfz9_0:=ag BK155.out 0;have hfz9_1:=ag BK155.out 1;have hfz9_2:=ag BK155.out 2;have hcz10_0:=bcv (v:=.int .i64 0) BK154.out 0 rfl;have hcz10_1:=bcv (v:=.int .i64 0) BK154.out 1 rfl;have hcz10_2:=bcv (v:=.int .i64 0) BK154.out 2 rfl;have hfz10_0:=ag BK154.out 0;have hfz10_1:=ag BK154.out 1;have hfz10_2:=ag BK154.out 2))
 refine bodyPost_ret (results_cell_row rfl _ _ gb154 43 #[.int .i64 a0_0,.int .i64 a0_1,.int .i64 a0_2] (0,0) _ rfl (by refine aW (cs:=#[.int .i64 a0_0,.int .i64 a0_1,.int .i64 0]) ?_ 2 _ rfl;refine aW (cs:=#[.int .i64 a0_0,.int .i64 0,.int .i64 0]) ?_ 1 _ rfl;refine aW (cs:=#[.int .i64 0,.int .i64 0,.int .i64 0]) ?_ 0 _ rfl;refine aX ?_ NB154_155.out _;refine aX ?_ NB154_155.out _;refine aX ?_ NB154_155.out _;exact BK154.out) Try.underlying43 rfl (by kernel_rfl)) rfl ?_
 exact ⟨by rfl,by repeat ((with_reducible first|exact HB.out|refine ax ?_ GE154.out|refine ax ?_ GE155.out))⟩

/-! ### di: function 102 -/
def di.f (a0_0 : Bool) (a0_1 : ByteArray) (a1 : Int) : Option (Int):=if (wrap64 (a1 - (a0_1.size : Int))) < 0 then (some (-1)) else (some (wrap64 (a1 - (a0_1.size : Int))))
set_option maxHeartbeats 8000000 in
set_option maxRecDepth 100000 in
theorem di.calls (a0_0 : Bool) (a0_1 : ByteArray) (a1 : Int) (r : Int) (w : World) (h : di.f a0_0 a0_1 a1 = some r) :
  Calls Try.prog 102 #[.agg #[.bool a0_0,.string a0_1],.int .i64 a1] w fun e w'=>e = .returned (.int .i64 r) ∧ Below w.heap.size w w':=by
 have HB:=M0 (Below.refl w.heap.size w)
 have H : (if (wrap64 (a1 - (a0_1.size : Int))) < 0 then (some (-1)) else (some (wrap64 (a1 - (a0_1.size : Int))))) = some r:=h
 clear h
 by_cases c3 : (wrap64 (a1 - (a0_1.size : Int))) < 0
 ·rw [if_pos c3] at H
  have c3b0:=decide_eq_true c3
  clear c3
  obtain rfl:=Option.some.inj H
  go_enter Try.func102,Try.ntmps102
  go_wp2_with (((with_reducible refine ak (N:=2) rfl ?_);refine aw rfl (N:=2) rfl (cs:=#[.bool a0_0,.string a0_1]) (t:=145) (by go_simp) ?_;intro gb156 hg w4 hbox hb;have BK156:=M0 (hbox);replace HB:=M0 (aa HB.out hb);clear hb hbox hg;have hcz5_1:=bcv (v:=.string a0_1) BK156.out 1 rfl))
  go_ret
  exact ⟨by rfl,HB.out⟩
 ·rw [if_neg c3] at H
  have c3b0:=decide_eq_false c3
  clear c3
  obtain rfl:=Option.some.inj H
  go_enter Try.func102,Try.ntmps102
  go_wp2_with (((with_reducible refine ak (N:=2) rfl ?_);refine aw rfl (N:=2) rfl (cs:=#[.bool a0_0,.string a0_1]) (t:=145) (by go_simp) ?_;intro gb156 hg w6 hbox hb;have BK156:=M0 (hbox);replace HB:=M0 (aa HB.out hb);clear hb hbox hg;have hcz7_1:=bcv (v:=.string a0_1) BK156.out 1 rfl))
  go_ret
  exact ⟨by rfl,HB.out⟩

/-! ### bA: function 43 -/
def bA.l0 : Nat → List (S145) → Int → Int → Option (Int)
 | 0,_,_,_=>none
 | k + 1,x0,x1,x5=>if x5 < (x0.length : Int) then (if 0 ≤ x5 then ((di.f ((cM x0 x5).f0) ((cM x0 x5).f1) x1).bind fun t158=>(if t158 < 0 then (some (-1)) else (bA.l0 k x0 t158 (wrap64 (x5 + 1))))) else (none)) else (some x1)
def bA.f (k : Nat) (l0 : List (S145)) (a1 : Int) : Option (Int):=if (wrap64 (a1 - (l0.length : Int))) < 0 then (some (-1)) else (bA.l0 k l0 (wrap64 (a1 - (l0.length : Int))) 0)
set_option maxHeartbeats 8000000 in
set_option maxRecDepth 100000 in
theorem bA.calls (k : Nat) (A0 : Option Addr) (c0 : Nat) (l0 : List (S145)) (a1 : Int) (r : Int) (w : World) (hr0 : Kd.C k145 w A0 l0.length l0) (hc0 : l0.length ≤ c0) (h : bA.f k l0 a1 = some r) :
  Calls Try.prog 43 #[.slice A0 l0.length c0,.int .i64 a1] w fun e w'=>e = .returned (.int .i64 r) ∧ Below w.heap.size w w':=by
 have HR0:=M0 hr0
 have HC0:=M0 hc0
 clear hr0 hc0
 have HB:=M0 (Below.refl w.heap.size w)
 have H : (if (wrap64 (a1 - (l0.length : Int))) < 0 then (some (-1)) else (bA.l0 k l0 (wrap64 (a1 - (l0.length : Int))) 0)) = some r:=h
 clear h
 by_cases c3 : (wrap64 (a1 - (l0.length : Int))) < 0
 ·rw [if_pos c3] at H
  have c3b0:=decide_eq_true c3
  clear c3
  obtain rfl:=Option.some.inj H
  go_enter Try.func43,Try.ntmps43
  go_wp2
  go_ret
  exact ⟨by rfl,HB.out⟩
 ·rw [if_neg c3] at H
  have c3b0:=decide_eq_false c3
  clear c3
  have H':=M0 H
  clear H
  go_enter Try.func43,Try.ntmps43
  go_wp2
  go_loopg [1,5] k (fun kq v1 v5 w'=>∃ (x1_1 : Int) (x5_1 : Int),v1 = .int .i64 x1_1 ∧ v5 = .int .i64 x5_1 ∧ Aside0 (bA.l0 kq l0 x1_1 x5_1 = some r) ∧ Aside0 (kq ≤ k) ∧ Aside0 (Below w.heap.size w w'))
  case atStart=>exact ⟨(wrap64 (a1 - (l0.length : Int))),(0),(by rfl),(by rfl),H',⟨Nat.le_refl _⟩,⟨HB.out⟩⟩
  case round=>
   clear H'
   (try clear c3b0)
   obtain ⟨x1_1,x5_1,rfl,rfl,HA,HK1,HB⟩:=hrel
   cases gk with
   | zero=>exact absurd HA.out (by simp [bA.l0])
   | succ k1=>
    have H:=HA.out
    clear HA
    simp only [bA.l0] at H
    by_cases c4 : x5_1 < (l0.length : Int)
    ·rw [if_pos c4] at H
     have c4b0:=decide_eq_true c4
     clear c4
     obtain ⟨c5,H⟩:=nn H
     have c5b0:=decide_eq_true c5
     clear c5
     replace H:=Option.bind_eq_some_iff.mp H
     obtain ⟨t158,A60,H⟩:=H
     replace H : (if t158 < 0 then (some (-1)) else (bA.l0 k1 l0 t158 (wrap64 (x5_1 + 1)))) = some r:=H
     have A6:=M0 A60
     clear A60
     by_cases c7 : t158 < 0
     ·rw [if_pos c7] at H
      have c7b0:=decide_eq_true c7
      clear c7
      obtain rfl:=Option.some.inj H
      have p157 : 0 ≤ (x5_1 : Int):=of_decide_eq_true (by with_reducible assumption)
      have q157 : x5_1 < (l0.length : Int):=of_decide_eq_true (by with_reducible assumption)
      obtain ⟨ad157,e157,hx157_0,hx157_1⟩:=at_T145 HR0.out x5_1 p157 q157
      cases e157
      replace hx157_0:=(HB.out.cell (World.block_lt_of_cell? w _ hx157_0)).trans hx157_0
      replace hx157_1:=(HB.out.cell (World.block_lt_of_cell? w _ hx157_1)).trans hx157_1
      replace p157:=eq_true p157
      replace q157:=eq_true q157
      go_wp2_with (((with_reducible refine ah (f:=102) rfl ?_);refine aH (some 23) rfl rfl Try.func102 (by kernel_rfl) rfl #[.agg #[.bool ((cM l0 x5_1).f0),.string ((cM l0 x5_1).f1)],.int .i64 x1_1] rfl (by (try simp only [List.map_toArray,List.map_cons,List.map_nil]);rfl) ?_;(with_reducible refine (di.calls ((cM l0 x5_1).f0) ((cM l0 x5_1).f1) x1_1 t158 _ A6.out).mono ?_);rintro e w8 ⟨rfl,hb⟩;refine ⟨_,rfl,?_⟩;replace HB:=M0 (aa HB.out hb);clear hb))
      go_ret
      exact ⟨by rfl,HB.out⟩
     ·rw [if_neg c7] at H
      have c7b0:=decide_eq_false c7
      clear c7
      have H':=M0 H
      clear H
      have p157 : 0 ≤ (x5_1 : Int):=of_decide_eq_true (by with_reducible assumption)
      have q157 : x5_1 < (l0.length : Int):=of_decide_eq_true (by with_reducible assumption)
      obtain ⟨ad157,e157,hx157_0,hx157_1⟩:=at_T145 HR0.out x5_1 p157 q157
      cases e157
      replace hx157_0:=(HB.out.cell (World.block_lt_of_cell? w _ hx157_0)).trans hx157_0
      replace hx157_1:=(HB.out.cell (World.block_lt_of_cell? w _ hx157_1)).trans hx157_1
      replace p157:=eq_true p157
      replace q157:=eq_true q157
      go_wp2_with (((with_reducible refine ah (f:=102) rfl ?_);refine aH (some 23) rfl rfl Try.func102 (by kernel_rfl) rfl #[.agg #[.bool ((cM l0 x5_1).f0),.string ((cM l0 x5_1).f1)],.int .i64 x1_1] rfl (by (try simp only [List.map_toArray,List.map_cons,List.map_nil]);rfl) ?_;(with_reducible refine (di.calls ((cM l0 x5_1).f0) ((cM l0 x5_1).f1) x1_1 t158 _ A6.out).mono ?_);rintro e w9 ⟨rfl,hb⟩;refine ⟨_,rfl,?_⟩;replace HB:=M0 (aa HB.out hb);clear hb))
      go_roundg k1
      case measure=>have:=HK1.out;omega
      case rel=>exact ⟨(t158),(wrap64 (x5_1 + 1)),(by rfl),(by rfl),H',⟨by have:=HK1.out;omega⟩,⟨HB.out⟩⟩
    ·rw [if_neg c4] at H
     have c4b0:=decide_eq_false c4
     clear c4
     obtain rfl:=Option.some.inj H
     go_wp2
     go_ret
     exact ⟨by rfl,HB.out⟩

/-! ### bU: function 113 -/
def bU.f (k : Nat) (l0_0 : List (S145)) (a1 : Int) : Option (Int):=(bA.f k l0_0 a1).bind fun t160=>(if t160 < 0 then (some (-1)) else (some t160))
set_option maxHeartbeats 8000000 in
set_option maxRecDepth 100000 in
theorem bU.calls (k : Nat) (A0_0 : Option Addr) (c0_0 : Nat) (l0_0 : List (S145)) (a1 : Int) (r : Int) (w : World) (hr0_0 : Kd.C k145 w A0_0 l0_0.length l0_0) (hc0_0 : l0_0.length ≤ c0_0) (h : bU.f k l0_0 a1 = some r) :
  Calls Try.prog 113 #[.agg #[.slice A0_0 l0_0.length c0_0],.int .i64 a1] w fun e w'=>e = .returned (.int .i64 r) ∧ Below w.heap.size w w':=by
 have HR0_0:=M0 hr0_0
 have HC0_0:=M0 hc0_0
 clear hr0_0 hc0_0
 have HB:=M0 (Below.refl w.heap.size w)
 have H : ((bA.f k l0_0 a1).bind fun t160=>(if t160 < 0 then (some (-1)) else (some t160))) = some r:=h
 clear h
 replace H:=Option.bind_eq_some_iff.mp H
 obtain ⟨t160,A30,H⟩:=H
 replace H : (if t160 < 0 then (some (-1)) else (some t160)) = some r:=H
 have A3:=M0 A30
 clear A30
 by_cases c4 : t160 < 0
 ·rw [if_pos c4] at H
  have c4b0:=decide_eq_true c4
  clear c4
  obtain rfl:=Option.some.inj H
  go_enter Try.func113,Try.ntmps113
  go_wp2_with (first|((with_reducible refine ak (N:=2) rfl ?_);refine aw rfl (N:=2) rfl (cs:=#[.slice A0_0 l0_0.length c0_0]) (t:=156) (by go_simp) ?_;intro gb159 hg w5 hbox hb;have BK159:=M0 (hbox);replace HB:=M0 (aa HB.out hb);clear hb hbox hg;have hcz6_0:=bcv (v:=.slice A0_0 l0_0.length c0_0) BK159.out 0 rfl)|((with_reducible refine ah (f:=43) rfl ?_);refine aH (some 8) rfl rfl Try.func43 (by kernel_rfl) rfl #[.slice A0_0 l0_0.length c0_0,.int .i64 a1] rfl (by (try simp only [List.map_toArray,List.map_cons,List.map_nil]);rfl) ?_;(with_reducible refine (bA.calls k _ _ l0_0 a1 t160 _ (Kd.a8 HR0_0.out HB.out) HC0_0.out A3.out).mono ?_);rintro e w7 ⟨rfl,hb⟩;refine ⟨_,rfl,?_⟩;replace BK159:=M0 (ab BK159.out hb);replace HB:=M0 (aa HB.out hb);clear hb))
  go_ret
  exact ⟨by rfl,HB.out⟩
 ·rw [if_neg c4] at H
  have c4b0:=decide_eq_false c4
  clear c4
  obtain rfl:=Option.some.inj H
  go_enter Try.func113,Try.ntmps113
  go_wp2_with (first|((with_reducible refine ak (N:=2) rfl ?_);refine aw rfl (N:=2) rfl (cs:=#[.slice A0_0 l0_0.length c0_0]) (t:=156) (by go_simp) ?_;intro gb159 hg w8 hbox hb;have BK159:=M0 (hbox);replace HB:=M0 (aa HB.out hb);clear hb hbox hg;have hcz9_0:=bcv (v:=.slice A0_0 l0_0.length c0_0) BK159.out 0 rfl)|((with_reducible refine ah (f:=43) rfl ?_);refine aH (some 8) rfl rfl Try.func43 (by kernel_rfl) rfl #[.slice A0_0 l0_0.length c0_0,.int .i64 a1] rfl (by (try simp only [List.map_toArray,List.map_cons,List.map_nil]);rfl) ?_;(with_reducible refine (bA.calls k _ _ l0_0 a1 t160 _ (Kd.a8 HR0_0.out HB.out) HC0_0.out A3.out).mono ?_);rintro e w10 ⟨rfl,hb⟩;refine ⟨_,rfl,?_⟩;replace BK159:=M0 (ab BK159.out hb);replace HB:=M0 (aa HB.out hb);clear hb))
  go_ret
  exact ⟨by rfl,HB.out⟩

/-! ### a6: function 53 -/
def a6.l0 : Nat → List (S156) → Int → Int → Option (Int)
 | 0,_,_,_=>none
 | k + 1,x0,x1,x5=>if x5 < (x0.length : Int) then (if 0 ≤ x5 then ((bU.f k ((dC x0 x5).f0) x1).bind fun t162=>(if t162 < 0 then (some (-1)) else (a6.l0 k x0 t162 (wrap64 (x5 + 1))))) else (none)) else (some x1)
def a6.f (k : Nat) (l0 : List (S156)) (a1 : Int) : Option (Int):=if (wrap64 (a1 - (l0.length : Int))) < 0 then (some (-1)) else (a6.l0 k l0 (wrap64 (a1 - (l0.length : Int))) 0)
set_option maxHeartbeats 8000000 in
set_option maxRecDepth 100000 in
theorem a6.calls (k : Nat) (A0 : Option Addr) (c0 : Nat) (l0 : List (S156)) (a1 : Int) (r : Int) (w : World) (hr0 : Kd.C k156 w A0 l0.length l0) (hc0 : l0.length ≤ c0) (h : a6.f k l0 a1 = some r) :
  Calls Try.prog 53 #[.slice A0 l0.length c0,.int .i64 a1] w fun e w'=>e = .returned (.int .i64 r) ∧ Below w.heap.size w w':=by
 have HR0:=M0 hr0
 have HC0:=M0 hc0
 clear hr0 hc0
 have HB:=M0 (Below.refl w.heap.size w)
 have H : (if (wrap64 (a1 - (l0.length : Int))) < 0 then (some (-1)) else (a6.l0 k l0 (wrap64 (a1 - (l0.length : Int))) 0)) = some r:=h
 clear h
 by_cases c3 : (wrap64 (a1 - (l0.length : Int))) < 0
 ·rw [if_pos c3] at H
  have c3b0:=decide_eq_true c3
  clear c3
  obtain rfl:=Option.some.inj H
  go_enter Try.func53,Try.ntmps53
  go_wp2
  go_ret
  exact ⟨by rfl,HB.out⟩
 ·rw [if_neg c3] at H
  have c3b0:=decide_eq_false c3
  clear c3
  have H':=M0 H
  clear H
  go_enter Try.func53,Try.ntmps53
  go_wp2
  go_loopg [1,5] k (fun kq v1 v5 w'=>∃ (x1_1 : Int) (x5_1 : Int),v1 = .int .i64 x1_1 ∧ v5 = .int .i64 x5_1 ∧ Aside0 (a6.l0 kq l0 x1_1 x5_1 = some r) ∧ Aside0 (kq ≤ k) ∧ Aside0 (Below w.heap.size w w'))
  case atStart=>exact ⟨(wrap64 (a1 - (l0.length : Int))),(0),(by rfl),(by rfl),H',⟨Nat.le_refl _⟩,⟨HB.out⟩⟩
  case round=>
   clear H'
   (try clear c3b0)
   obtain ⟨x1_1,x5_1,rfl,rfl,HA,HK1,HB⟩:=hrel
   cases gk with
   | zero=>exact absurd HA.out (by simp [a6.l0])
   | succ k1=>
    have H:=HA.out
    clear HA
    simp only [a6.l0] at H
    by_cases c4 : x5_1 < (l0.length : Int)
    ·rw [if_pos c4] at H
     have c4b0:=decide_eq_true c4
     clear c4
     obtain ⟨c5,H⟩:=nn H
     have c5b0:=decide_eq_true c5
     clear c5
     replace H:=Option.bind_eq_some_iff.mp H
     obtain ⟨t162,A60,H⟩:=H
     replace H : (if t162 < 0 then (some (-1)) else (a6.l0 k1 l0 t162 (wrap64 (x5_1 + 1)))) = some r:=H
     have A6:=M0 A60
     clear A60
     by_cases c7 : t162 < 0
     ·rw [if_pos c7] at H
      have c7b0:=decide_eq_true c7
      clear c7
      obtain rfl:=Option.some.inj H
      have p161 : 0 ≤ (x5_1 : Int):=of_decide_eq_true (by with_reducible assumption)
      have q161 : x5_1 < (l0.length : Int):=of_decide_eq_true (by with_reducible assumption)
      obtain ⟨ad161,A161_0,c161_0,e161,hx161_0,hl161_0,hi161_0⟩:=at_T156 HR0.out x5_1 p161 q161
      cases e161
      replace hx161_0:=(HB.out.cell (World.block_lt_of_cell? w _ hx161_0)).trans hx161_0
      have HR161_0:=M0 hi161_0
      have HC161_0:=M0 hl161_0
      clear hi161_0 hl161_0
      replace p161:=eq_true p161
      replace q161:=eq_true q161
      go_wp2_with (((with_reducible refine ah (f:=113) rfl ?_);refine aH (some 23) rfl rfl Try.func113 (by kernel_rfl) rfl #[.agg #[.slice A161_0 ((dC l0 x5_1).f0).length c161_0],.int .i64 x1_1] rfl (by (try simp only [List.map_toArray,List.map_cons,List.map_nil]);rfl) ?_;(with_reducible refine (bU.calls k1 _ _ ((dC l0 x5_1).f0) x1_1 t162 _ (Kd.a8 HR161_0.out HB.out) HC161_0.out A6.out).mono ?_);rintro e w8 ⟨rfl,hb⟩;refine ⟨_,rfl,?_⟩;replace HB:=M0 (aa HB.out hb);clear hb))
      go_ret
      exact ⟨by rfl,HB.out⟩
     ·rw [if_neg c7] at H
      have c7b0:=decide_eq_false c7
      clear c7
      have H':=M0 H
      clear H
      have p161 : 0 ≤ (x5_1 : Int):=of_decide_eq_true (by with_reducible assumption)
      have q161 : x5_1 < (l0.length : Int):=of_decide_eq_true (by with_reducible assumption)
      obtain ⟨ad161,A161_0,c161_0,e161,hx161_0,hl161_0,hi161_0⟩:=at_T156 HR0.out x5_1 p161 q161
      cases e161
      replace hx161_0:=(HB.out.cell (World.block_lt_of_cell? w _ hx161_0)).trans hx161_0
      have HR161_0:=M0 hi161_0
      have HC161_0:=M0 hl161_0
      clear hi161_0 hl161_0
      replace p161:=eq_true p161
      replace q161:=eq_true q161
      go_wp2_with (((with_reducible refine ah (f:=113) rfl ?_);refine aH (some 23) rfl rfl Try.func113 (by kernel_rfl) rfl #[.agg #[.slice A161_0 ((dC l0 x5_1).f0).length c161_0],.int .i64 x1_1] rfl (by (try simp only [List.map_toArray,List.map_cons,List.map_nil]);rfl) ?_;(with_reducible refine (bU.calls k1 _ _ ((dC l0 x5_1).f0) x1_1 t162 _ (Kd.a8 HR161_0.out HB.out) HC161_0.out A6.out).mono ?_);rintro e w9 ⟨rfl,hb⟩;refine ⟨_,rfl,?_⟩;replace HB:=M0 (aa HB.out hb);clear hb))
      go_roundg k1
      case measure=>have:=HK1.out;omega
      case rel=>exact ⟨(t162),(wrap64 (x5_1 + 1)),(by rfl),(by rfl),H',⟨by have:=HK1.out;omega⟩,⟨HB.out⟩⟩
    ·rw [if_neg c4] at H
     have c4b0:=decide_eq_false c4
     clear c4
     obtain rfl:=Option.some.inj H
     go_wp2
     go_ret
     exact ⟨by rfl,HB.out⟩

end Go.Proofs.Ytffhbpepppodeaa.PFnExactJoinObject
