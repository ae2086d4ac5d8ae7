import Derived.Test.YtffhbpepppodeaaReduceFnExactJoinObject
import Derived.Test.YtffhbpepppodeaaHsAppFnExactJoinObject
import Derived.Test.YtffhbpepppodeaaCopyFnExactJoinObject
namespace Go.Proofs.Ytffhbpepppodeaa.Plant
open Go.RowKit Go.Proofs.YtffhbpepppodeaaW.PrintWords Go.Proofs.YtffhbpepppodeaaW.PrintLast Go.Proofs.YtffhbpepppodeaaW.PrintMore Go.Proofs.Ytffhbpepppodeaa.Hs Go.Proofs.Ytffhbpepppodeaa.Gf Go.Proofs.Ytffhbpepppodeaa.Grid Go.Proofs.Ytffhbpepppodeaa.Reduce
set_option linter.unusedVariables false
set_option linter.unusedSimpArgs false
def rowG (i j : Nat) : Int:=tinv (Go.bits .xor .i64 (i : Int) (j : Int))
structure PlantAt (w : World) (gt gp K M G : Nat) (vg vl : Value) : Prop where
 tab : w.heap[gt]? = some (.cells (tabN 255) 162 (0,0))
 top : w.heap[gp]? = some (.cells #[.pointer (some ⟨gt,0,none⟩),.int .i64 K,.int .i64 M,.int .i64 G,vg,vl] 175 (0,0))
 glo : 0 < M → ∃ gg cg cs,vg = .slice (some ⟨gg,0,none⟩) M cg ∧ M ≤ cg ∧ w.heap[gg]? = some (.cells cs 180 (0,0)) ∧ ∀ i j,i < M → j < 32 → cs[i * 33 + (1 + j)]? = some (.int .u8 (if j < K then rowG (K + i) j else 0))
 loc : 0 < G → ∃ gl cl cs,vl = .slice (some ⟨gl,0,none⟩) G cl ∧ G ≤ cl ∧ w.heap[gl]? = some (.cells cs 182 (0,0)) ∧ ∀ i,i < G → cs[i * 2]? = some (.int .i64 (K + M + i : Nat)) ∧ cs[i * 2 + 1]? = some (.int .i64 (i : Nat))
theorem PlantAt.below {w w1 : World} {gt gp K M G : Nat} {vg vl : Value} (h : PlantAt w gt gp K M G vg vl) (hb : Below w.heap.size w w1) : PlantAt w1 gt gp K M G vg vl:=
 ⟨ab h.tab hb,ab h.top hb,fun hm=>by
  obtain ⟨gg,cg,cs,h1,h2,h3,h4⟩:=h.glo hm;exact ⟨gg,cg,cs,h1,h2,ab h3 hb,h4⟩,fun hm=>by
  obtain ⟨gl,cl,cs,h1,h2,h3,h4⟩:=h.loc hm;exact ⟨gl,cl,cs,h1,h2,ab h3 hb,h4⟩⟩
theorem PlantAt.draw {w w1 : World} {gt gp K M G : Nat} {vg vl : Value} (h : PlantAt w gt gp K M G vg vl) (hb : Drawn0 w w1) : PlantAt w1 gt gp K M G vg vl:=h.below hb.below
theorem PlantAt.cell {w : World} {gt gp K M G : Nat} {vg vl : Value} (h : PlantAt w gt gp K M G vg vl) :
  w.cell? ⟨gp,0,none⟩ = some (.pointer (some ⟨gt,0,none⟩)) ∧ w.cell? ⟨gp,1,none⟩ = some (.int .i64 K) ∧ w.cell? ⟨gp,2,none⟩ = some (.int .i64 M) ∧ w.cell? ⟨gp,3,none⟩ = some (.int .i64 G) ∧ w.cell? ⟨gp,4,none⟩ = some vg ∧ w.cell? ⟨gp,5,none⟩ = some vl:=by
 have e:=fun j=>cell_of_row w gp j _ _ _ h.top
 exact ⟨e 0,e 1,e 2,e 3,e 4,e 5⟩

set_option maxHeartbeats 8000000 in
set_option maxRecDepth 100000 in
theorem size_calls (gt gp K M G : Nat) (vg vl : Value) (w : World) (hP : PlantAt w gt gp K M G vg vl) (hs : K + M + G ≤ 64) : Calls Try.prog 126 #[.pointer (some ⟨gp,0,none⟩)] w fun e w'=>e = .returned (.int .i64 (K + M + G : Nat)) ∧ Drawn0 w w':=by
 have hu:=Try.underlying175
 have hu2:=Try.underlying43
 obtain ⟨_,c1,c2,c3,_,_⟩:=hP.cell
 have HS:=Aside0.mk hs
 have b1 : (K : Int) ≤ 64:=by omega
 have b2 : (M : Int) ≤ 64:=by omega
 have b3 : (G : Int) ≤ 64:=by omega
 have b4 : 0 ≤ (K : Int):=by omega
 have b5 : 0 ≤ (M : Int):=by omega
 have b6 : 0 ≤ (G : Int):=by omega
 clear hP hs
 go_enter Try.func126,Try.ntmps126
 go_wp2_with fail
 go_quiet (fail)
 go_wp2
 go_ret
 exact ⟨by rw [show ((K + M + G : Nat) : Int) = (K : Int) + (M : Int) + (G : Int) by omega];rfl,Drawn0.mk ⟨_,rfl⟩⟩

def mixN (row : List Int) (data : List ByteArray) : Nat → Nat → Int
 | 0,_=>0
 | j + 1,i=>if rd row (j : Int) = 0 then mixN row data j i else Go.bits .xor .u8 (mixN row data j i) (tmul (rd row (j : Int)) (bt (rdOf ByteArray.empty data (j : Int)) (i : Int)))
theorem mixN_byte (row : List Int) (data : List ByteArray) : ∀ j i,0 ≤ mixN row data j i ∧ mixN row data j i ≤ 255
 | 0,_=>by unfold mixN;omega
 | j + 1,i=>by
  unfold mixN
  split
  ·exact mixN_byte row data j i
  ·exact xor_byte _ _
def mixK (row : List Int) (data : List ByteArray) (j k i : Nat) : Int:=if i < k then mixN row data (j + 1) i else mixN row data j i
theorem mixK_zero (row : List Int) (data : List ByteArray) (j i : Nat) : mixK row data j 0 i = mixN row data j i:=by unfold mixK;rw [if_neg (by omega)]
theorem mixK_all (row : List Int) (data : List ByteArray) (j k i : Nat) (h : i < k) : mixK row data j k i = mixN row data (j + 1) i:=by unfold mixK;rw [if_pos h]
theorem set_row {n : Nat} {dk : Array Value} {f g : Nat → Int} {k : Nat} {x : Int} (hdk : ∀ i,i < n → dk[i]? = some (.int .u8 (f i))) (hk : k < n) (h1 : g k = x) (h2 : ∀ i,i ≠ k → g i = f i) : ∀ i,i < n → (dk.setIfInBounds k (.int .u8 x))[i]? = some (.int .u8 (g i)):=by
 intro i hi
 by_cases e : i = k
 ·subst e
  have hb:=(Array.getElem?_eq_some_iff.1 (hdk i hi)).1
  rw [Array.getElem?_setIfInBounds_self_of_lt hb,h1]
 ·rw [Array.getElem?_setIfInBounds_ne (fun e'=>e e'.symm),h2 i e]
  exact hdk i hi

set_option maxHeartbeats 8000000 in
set_option maxRecDepth 100000 in
theorem mix_calls (gt gp K M G : Nat) (vg vl : Value) (w : World) (hP : PlantAt w gt gp K M G vg vl) (A1 : Option Addr) (c1 : Nat) (row : List Int) (A2 : Option Addr) (c2 : Nat) (data : List ByteArray) (n : Nat) (hr : Kd.C (Kd.int .u8) w A1 row.length row) (hd : Kd.C Kd.string w A2 data.length data) (h1 : 1 ≤ data.length) (hrow : row.length ≤ data.length) (hl : data.length ≤ 64) (hn : ∀ j : Nat,j < data.length → (rdOf ByteArray.empty data (j : Int)).size = n) (hn2 : n ≤ 4096) (hb : ∀ j : Nat,j < row.length → 0 ≤ rd row (j : Int) ∧ rd row (j : Int) ≤ 255) :
  Calls Try.prog 100 #[.pointer (some ⟨gp,0,none⟩),.slice A1 row.length c1,.slice A2 data.length c2] w fun e w'=>e = .returned (.string (strOfNums ((List.range n).map (mixN row data row.length)))) ∧ Below w.heap.size w w':=by
 have hu1:=Try.underlying175
 have HR:=Aside0.mk hr
 have HD:=Aside0.mk hd
 have hP0:=Aside0.mk hP
 have hn0:=Aside0.mk (show ((rdOf ByteArray.empty data 0).size : Int) = (n : Int) by have:=hn 0 (by omega);exact congrArg Int.ofNat this)
 have hns:=Aside0.mk hn
 have hbs:=Aside0.mk hb
 obtain ⟨ad,ea,hx0⟩:=Kd.bu hd 0 (by omega) (by omega)
 cases ea
 rw [show ((0 : Int)).toNat = 0 from rfl,Addr.add_zero'] at hx0
 have qi : (0 < data.length) = True:=eq_true (by omega)
 have H:=Aside0.mk (Hs.nil w)
 clear hr hd hP hn hb
 go_enter Try.func100,Try.ntmps100
 go_wp2_with (first
  | ((with_reducible refine ak (N:=15) rfl ?_);(try (refine au (by rfl) ?_;dsimp only));refine make_ev ?hg 37 5 (.tmp 14) (.tmp 14) ?ho (((rdOf ByteArray.empty data 0).size : Int)) (n) ?hx ?hy (hn0.out) Try.underlying37 (.int .u8 0) 1 ?hi rfl (by decide) (by omega) ?_;(case hg=>rfl);(case ho=>rfl);(case hx=>rfl);(case hy=>rfl);(case hi=>kernel_rfl);intro go hg w1 hbox hb;have H_:=Aside0.mk (Hs.push H.out (Nat.le_of_eq hg.symm) hbox hb);clear hbox hb hg H;have H:=H_;clear H_))
 clear hx0 qi
 go_loopw [18] (fun v18 wr=>∃ (j : Nat) (dk : Array Value),j ≤ row.length ∧ v18 = .int .i64 j ∧ Aside0 (∀ i,i < n → dk[i]? = some (.int .u8 (mixN row data j i))) ∧ Aside0 (dk.size = n) ∧ Aside0 (Hs w wr [(go,.cells dk 5 (0,0))])) (fun j _=>row.length - (intOf j).toNat)
 case atStart=>exact ⟨0,madeCells #[.int .u8 0] n,by omega,rfl,Aside0.mk (fun i hi=>made_at _ _ _ hi),Aside0.mk (by simp [madeCells]),H⟩
 case round=>
  clear H
  obtain ⟨j,dk,hj,rfl,hdk,hds,H⟩:=hrel
  by_cases hlt : j < row.length
  ·have hbr:=Aside0.mk (hbs.out j hlt)
   obtain ⟨ar,ear,hrj⟩:=Kd.at_int (Kd.a8 HR.out H.out.below) (j : Int) (by omega) (by omega)
   cases ear
   rw [Int.toNat_natCast] at hrj
   have l1 : (j : Int) < (row.length : Int):=by omega
   have l2 : 0 ≤ (j : Int):=by omega
   by_cases hz : rd row (j : Int) = 0
   ·have hz1 : (rd row (j : Int) == 0) = true:=by simpa using hz
    have HZ:=Aside0.mk hz
    clear hz
    go_wp2_with fail
    go_roundw
    case rel=>exact ⟨j + 1,dk,by omega,by go_num,Aside0.mk (fun i hi=>by have e : mixN row data (j + 1) i = mixN row data j i:=if_pos HZ.out;rw [e];exact hdk.out i hi),hds,H⟩
    case measure=>simp [intOf];omega
   ·have hz1 : (rd row (j : Int) == 0) = false:=by simpa using hz
    have HZ:=Aside0.mk hz
    clear hz
    go_wp2_with fail
    clear hrj
    go_loopw [27] (fun v27 wr=>∃ (k : Nat) (dq : Array Value),k ≤ n ∧ v27 = .int .i64 k ∧ Aside0 (∀ i,i < n → dq[i]? = some (.int .u8 (mixK row data j k i))) ∧ Aside0 (dq.size = n) ∧ Aside0 (Hs w wr [(go,.cells dq 5 (0,0))])) (fun k _=>n - (intOf k).toNat)
    case atStart=>exact ⟨0,dk,by omega,rfl,Aside0.mk (fun i hi=>by rw [mixK_zero];exact hdk.out i hi),hds,H⟩
    case round=>
     clear H hdk hds
     obtain ⟨k,dq,hk,rfl,hdq0,hdqs,H⟩:=hrel
     by_cases hkl : k < n
     ·have hdq:=Aside0.mk (show dq[k]? = some (.int .u8 (mixN row data j k)) by rw [hdq0.out k hkl];unfold mixK;rw [if_neg (by omega)])
      have hc0 : wr.cell? ⟨gp,0,none⟩ = some (.pointer (some ⟨gt,0,none⟩)):=(hP0.out.below H.out.below).cell.1
      have hc1 : wr.cell? ⟨go,k,none⟩ = some (.int .u8 (mixN row data j k)):=H.out.aJ 0 rfl k hdq.out
      have hc2 : wr.cell? (ad.add j) = some (.string (rdOf ByteArray.empty data (j : Int))):=by
       obtain ⟨a_,e_,h_⟩:=Kd.bu (Kd.a8 HD.out H.out.below) (j : Int) (by omega) (by omega)
       rw [Int.toNat_natCast] at h_;cases e_;exact h_
      have hq0:=hns.out j (by omega)
      have s1 : k < (rdOf ByteArray.empty data (j : Int)).size:=by omega
      have s2 : (k : Int) < ((rdOf ByteArray.empty data (j : Int)).size : Int):=by omega
      have s3 : (j : Int) < (data.length : Int):=by omega
      have s4 : 0 ≤ (k : Int):=by omega
      have s5 : (k : Int) < (n : Int):=by omega
      clear hq0
      have hbt : ∀ h : k < (rdOf ByteArray.empty data (j : Int)).size,(((rdOf ByteArray.empty data (j : Int))[k]'h).toNat : Int) = bt (rdOf ByteArray.empty data (j : Int)) (k : Int):=fun h=>bt_at _ (k : Int) h
      go_wp2_with fail
      refine bW (n:=19) (S:=fun w'=>w'.cell? ⟨gp,0,none⟩ = some (.pointer (some ⟨gt,0,none⟩)) ∧ w'.cell? ⟨go,k,none⟩ = some (.int .u8 (mixN row data j k)) ∧ w'.cell? (ad.add j) = some (.string (rdOf ByteArray.empty data (j : Int)))) (ds:=[18]) #[false,false,false,false,false,false,false,false,false,false,false,false,false,false,false,false,false,false,false] (by kernel_rfl) rfl rfl ⟨hc0,hc1,hc2⟩ (fun hHeld=>?_)
      have H_:=Aside0.mk H.out.drew
      have hPd:=Aside0.mk (hP0.out.below H_.out.below)
      clear H hc0 hc1 hc2
      have H:=H_
      clear H_
      generalize wr.drew = wd at H hPd hHeld ⊢
      refine aq (i:=0) (N:=some 30) #[true,false,false,false,false,false,false,false,false,false,false,false,false,false,false,false,false,false,false] rfl rfl (by kernel_rfl) (fun _ _ _ h=>h) (Or.inl ⟨by rfl,by intro w';go_simp;with_reducible rfl⟩) (by simp only [Act.put,List.setIfInBounds_toArray,List.set_cons_zero,List.set_cons_succ,ae,af];rfl) ?_
      refine aq (i:=1) (N:=some 31) #[true,true,false,false,false,false,false,false,false,false,false,false,false,false,false,false,false,false,false] rfl rfl (by kernel_rfl) (fun _ _ _ h=>h) (Or.inl ⟨by rfl,by intro w';go_simp;with_reducible rfl⟩) (by simp only [Act.put,List.setIfInBounds_toArray,List.set_cons_zero,List.set_cons_succ,ae,af];rfl) ?_
      refine aq (i:=2) (N:=some 32) #[true,true,true,false,false,false,false,false,false,false,false,false,false,false,false,false,false,false,false] rfl rfl (by kernel_rfl) (fun _ _ _ h=>h) (Or.inl ⟨by rfl,by intro w';go_simp;with_reducible rfl⟩) (by simp only [Act.put,List.setIfInBounds_toArray,List.set_cons_zero,List.set_cons_succ,ae,af];rfl) ?_
      refine aq (i:=4) (N:=some 34) #[true,true,true,false,true,false,false,false,false,false,false,false,false,false,false,false,false,false,false] rfl rfl (by kernel_rfl) (fun _ _ _ h=>h) (Or.inl ⟨by rfl,by intro w';go_simp;with_reducible rfl⟩) (by simp only [Act.put,List.setIfInBounds_toArray,List.set_cons_zero,List.set_cons_succ,ae,af];rfl) ?_
      refine aq (i:=5) (N:=some 35) #[true,true,true,false,true,true,false,false,false,false,false,false,false,false,false,false,false,false,false] rfl rfl (by kernel_rfl) (fun _ _ _ h=>h) (Or.inl ⟨by rfl,by intro w';go_simp;with_reducible rfl⟩) (by simp only [Act.put,List.setIfInBounds_toArray,List.set_cons_zero,List.set_cons_succ,ae,af];rfl) ?_
      refine aq (i:=6) (N:=some 36) #[true,true,true,false,true,true,true,false,false,false,false,false,false,false,false,false,false,false,false] rfl rfl (by kernel_rfl) (fun _ _ _ h=>h) (Or.inl ⟨by rfl,by intro w';go_simp;with_reducible rfl⟩) (by simp only [Act.put,List.setIfInBounds_toArray,List.set_cons_zero,List.set_cons_succ,ae,af];rfl) ?_
      refine aq (i:=8) (N:=some 38) #[true,true,true,false,true,true,true,false,true,false,false,false,false,false,false,false,false,false,false] rfl rfl (by kernel_rfl) (fun _ _ _ h=>h) (Or.inl ⟨by rfl,by intro w';go_simp;with_reducible rfl⟩) (by simp only [Act.put,List.setIfInBounds_toArray,List.set_cons_zero,List.set_cons_succ,ae,af];rfl) ?_
      refine aq (i:=9) (N:=some 39) #[true,true,true,false,true,true,true,false,true,true,false,false,false,false,false,false,false,false,false] rfl rfl (by kernel_rfl) (fun _ _ _ h=>h) (Or.inl ⟨by rfl,by intro w';go_simp;with_reducible rfl⟩) (by simp only [Act.put,List.setIfInBounds_toArray,List.set_cons_zero,List.set_cons_succ,ae,af];rfl) ?_
      refine aq (i:=10) (N:=some 40) #[true,true,true,false,true,true,true,false,true,true,true,false,false,false,false,false,false,false,false] rfl rfl (by kernel_rfl) (fun _ _ _ h=>h) (Or.inl ⟨by rfl,by intro w';go_simp;with_reducible rfl⟩) (by simp only [Act.put,List.setIfInBounds_toArray,List.set_cons_zero,List.set_cons_succ,ae,af];rfl) ?_
      refine aq (i:=11) (N:=some 41) #[true,true,true,false,true,true,true,false,true,true,true,true,false,false,false,false,false,false,false] rfl rfl (by kernel_rfl) (fun _ _ _ h=>h) (Or.inl ⟨by rfl,by intro w';go_simp;with_reducible rfl⟩) (by simp only [Act.put,List.setIfInBounds_toArray,List.set_cons_zero,List.set_cons_succ,ae,af];rfl) ?_
      refine aq (i:=13) (N:=some 43) #[true,true,true,false,true,true,true,false,true,true,true,true,false,true,false,false,false,false,false] rfl rfl (by kernel_rfl) (fun _ _ _ h=>h) (Or.inl ⟨by rfl,by intro w';go_simp;with_reducible rfl⟩) (by simp only [Act.put,List.setIfInBounds_toArray,List.set_cons_zero,List.set_cons_succ,ae,af];rfl) ?_
      refine bn (i:=3) (N:=some 33) #[true,true,true,true,true,true,true,false,true,true,true,true,false,true,false,false,false,false,false] rfl rfl (by kernel_rfl) (fun _ _ _ h=>h) (Or.inl ⟨by rfl,by rintro w' ⟨s0,s1,s2⟩;go_simp;with_reducible rfl⟩) hHeld (by simp only [Act.put,List.setIfInBounds_toArray,List.set_cons_zero,List.set_cons_succ,ae,af];rfl) ?_
      refine bn (i:=7) (N:=some 37) #[true,true,true,true,true,true,true,true,true,true,true,true,false,true,false,false,false,false,false] rfl rfl (by kernel_rfl) (fun _ _ _ h=>h) (Or.inl ⟨by rfl,by rintro w' ⟨s0,s1,s2⟩;go_simp;with_reducible rfl⟩) hHeld (by simp only [Act.put,List.setIfInBounds_toArray,List.set_cons_zero,List.set_cons_succ,ae,af];rfl) ?_
      refine bn (i:=12) (N:=some 42) #[true,true,true,true,true,true,true,true,true,true,true,true,true,true,false,false,false,false,false] rfl rfl (by kernel_rfl) (fun _ _ _ h=>h) (Or.inl ⟨by rfl,by rintro w' ⟨s0,s1,s2⟩;go_simp;with_reducible rfl⟩) hHeld (by simp only [Act.put,List.setIfInBounds_toArray,List.set_cons_zero,List.set_cons_succ,ae,af];rfl) ?_
      refine bn (i:=14) (N:=some 44) #[true,true,true,true,true,true,true,true,true,true,true,true,true,true,true,false,false,false,false] rfl rfl (by kernel_rfl) (fun _ _ _ h=>h) (Or.inl ⟨by rfl,by rintro w' ⟨s0,s1,s2⟩;go_simp;with_reducible rfl⟩) hHeld (by simp only [Act.put,List.setIfInBounds_toArray,List.set_cons_zero,List.set_cons_succ,ae,af];rfl) ?_
      refine one_ (i:=15) (N:=some 45) #[true,true,true,true,true,true,true,true,true,true,true,true,true,true,true,true,false,false,false] rfl rfl (by kernel_rfl) (by decide) (fun K hK=>?_)
      refine cE Try.func80 (by kernel_rfl) rfl #[.pointer (some ⟨gt,0,none⟩),.int .u8 (rd row (j : Int)),.int .u8 (bt (rdOf ByteArray.empty data (j : Int)) (k : Int))] (by rfl) rfl rfl (by simp only [List.map_toArray,List.map_cons,List.map_nil];rfl) ?_
      with_reducible refine (mul_calls gt (rd row (j : Int)) (bt (rdOf ByteArray.empty data (j : Int)) (k : Int)) _ (hPd.out).tab hbr.out.1 hbr.out.2 (bt_range _ _).1 (bt_range _ _).2).mono ?_
      rintro e wm ⟨rfl,hd⟩
      refine ⟨_,rfl,?_⟩
      have H1:=Aside0.mk (H.out.draw hd)
      have hP1:=Aside0.mk (hPd.out.draw hd)
      have hx2:=Aside0.mk (show wm.cell? (ad.add j) = some (.string (rdOf ByteArray.empty data (j : Int))) by obtain ⟨a_,e_,h_⟩:=Kd.bu (Kd.a8 HD.out H1.out.below) (j : Int) (by omega) (by omega);rw [Int.toNat_natCast] at h_;cases e_;exact h_)
      clear hd
      have hx1 : wm.cell? ⟨go,k,none⟩ = some (.int .u8 (mixN row data j k)):=H1.out.aJ 0 rfl k hdq.out
      have hxf:=H1.out.frozen 0 rfl k
      refine hK.out _ _ ⟨(hP1.out.cell).1,(H1.out.aJ 0 rfl k hdq.out),hx2.out⟩ (fun hHeld=>?_)
      clear hK K
      refine bz (a':=?_) ?_ ?_
      rotate_left
      ·show Act.put _ (some 45) _ = _
       simp only [Act.put,List.setIfInBounds_toArray,List.set_cons_zero,List.set_cons_succ,ae,af]
       rfl
      refine aq (i:=16) (N:=some 46) #[true,true,true,true,true,true,true,true,true,true,true,true,true,true,true,true,true,false,false] rfl rfl (by kernel_rfl) (fun _ _ _ h=>h) (Or.inl ⟨by rfl,by intro w';go_simp;with_reducible rfl⟩) (by simp only [Act.put,List.setIfInBounds_toArray,List.set_cons_zero,List.set_cons_succ,ae,af];rfl) ?_
      refine aq (i:=17) (N:=some 47) #[true,true,true,true,true,true,true,true,true,true,true,true,true,true,true,true,true,true,false] rfl rfl (by kernel_rfl) (fun _ _ _ h=>h) (Or.inl ⟨by rfl,by intro w';go_simp;with_reducible rfl⟩) (by simp only [Act.put,List.setIfInBounds_toArray,List.set_cons_zero,List.set_cons_succ,ae,af];rfl) ?_
      refine dX (i:=18) (N:=none) #[true,true,true,true,true,true,true,true,true,true,true,true,true,true,true,true,true,true,true] rfl rfl (by kernel_rfl) (by decide) (fun K hK=>?_)
      refine dA (w1:=?_) (by rfl) rfl ?_ ?_
      rotate_left
      ·go_simp
       rfl
      refine hK.out _ _ ?_
      clear hK K
      refine cD (by kernel_rfl) ?_
      go_wp2
      go_roundw
      case rel=>exact ⟨k + 1,dq.setIfInBounds k (.int .u8 (Go.bits .xor .u8 (mixN row data j k) (tmul (rd row (j : Int)) (bt (rdOf ByteArray.empty data (j : Int)) (k : Int))))),by omega,by go_num,Aside0.mk (set_row hdq0.out hkl (by unfold mixK;rw [if_pos (by omega)];exact if_neg HZ.out) (fun i hne=>by
       unfold mixK
       by_cases c : i < k
       ·rw [if_pos c,if_pos (by omega)]
       ·rw [if_neg c,if_neg (by omega)])),Aside0.mk (by rw [Array.size_setIfInBounds];exact hdqs.out),Aside0.mk (H1.out.set 0 rfl _ _)⟩
      case measure=>simp [intOf];omega
     ·obtain rfl : k = n:=by omega
      go_wp2_with fail
      go_roundw
      case rel=>exact ⟨j + 1,dq,by omega,by go_num,Aside0.mk (fun i hi=>by rw [hdq0.out i hi,mixK_all _ _ _ _ _ hi]),hdqs,H⟩
      case measure=>simp [intOf];omega
  ·obtain rfl : j = row.length:=by omega
   have hrow:=own_string (dst:=9) Try.underlying37 Try.underlying5 Try.underlying9 (w:=wr) (base:=0) (e':=5) (v:=.slice (some ⟨go,0,none⟩) n n) (n:=n) (xs:=(List.range n).map (mixN row data row.length)) ⟨by simp [nums],Or.inr ⟨go,n,dk,rfl,Nat.zero_le _,H.out.get 0 rfl,Nat.le_refl _,by unfold maxLen;omega,by rw [hds.out,Nat.mul_one],by
    apply List.ext_getElem?
    intro i
    rw [Nat.mul_one,List.getElem?_take]
    by_cases c : i < n
    ·rw [if_pos c,Array.getElem?_toList,hdk.out i c];simp [nums,c]
    ·rw [if_neg c];simp [nums,c]⟩⟩
   go_wp2_with fail
   go_ret
   exact ⟨rfl,H.out.below⟩

def rowF (K M G i j : Nat) : Int:=if i < K then (if j = i then 1 else 0) else if i < K + M then rowG i j else if j % G = i - (K + M) then 1 else 0
def rowV (K M G i : Nat) : List Int:=(List.range K).map (rowF K M G i)
theorem ef (K M G i : Nat) : (rowV K M G i).length = K:=by simp [rowV]
theorem row_arr {n : Nat} {dk : Array Value} {f : Nat → Int} (hs : dk.size = n) (h : ∀ i,i < n → dk[i]? = some (.int .u8 (f i))) : dk = (nums .u8 ((List.range n).map f)).toArray:=by
 apply Array.ext_getElem?
 intro i
 by_cases c : i < n
 ·rw [h i c];simp [nums,c]
 ·rw [Array.getElem?_eq_none (by omega)];simp [nums,c]
theorem xor_small : ∀ i : Nat,i < 64 → ∀ j : Nat,j < 64 → 0 ≤ Go.bits .xor .i64 (i : Int) (j : Int) ∧ Go.bits .xor .i64 (i : Int) (j : Int) ≤ 255:=by
 have key : ∀ i : Nat,i < 64 → ∀ j : Nat,j < 64 → 0 ≤ Go.bits .xor .i64 (i : Int) (j : Int) ∧ Go.bits .xor .i64 (i : Int) (j : Int) ≤ 255:=by decide +kernel
 exact key
theorem rowG_byte {i j : Nat} (hi : i < 64) (hj : j < 64) : 0 ≤ rowG i j ∧ rowG i j ≤ 255:=cw (xor_small i hi j hj)
theorem rowF_byte {K M G i j : Nat} (hi : K + M ≤ 64) (hj : j < K) : 0 ≤ rowF K M G i j ∧ rowF K M G i j ≤ 255:=by
 unfold rowF
 split
 ·split <;> omega
 ·split
  ·exact rowG_byte (by omega) (by omega)
  ·split <;> omega

set_option maxHeartbeats 8000000 in
set_option maxRecDepth 100000 in
theorem row_unit (gt gp K M G : Nat) (vg vl : Value) (w : World) (hP : PlantAt w gt gp K M G vg vl) (i : Nat) (hi : i < K) (hk2 : K ≤ 32) : Calls Try.prog 101 #[.pointer (some ⟨gp,0,none⟩),.int .i64 i] w fun e w'=>∃ g,e = .returned (.slice (some ⟨g,0,none⟩) K K) ∧ Hs w w' [(g,.cells (nums .u8 (rowV K M G i)).toArray 5 (0,0))]:=by
 have hu1:=Try.underlying175
 have hu2:=Try.underlying43
 have hP0:=Aside0.mk hP
 obtain ⟨q0,q1,q2,q3,q4,q5⟩:=hP.cell
 have H:=Aside0.mk (Hs.nil w)
 have k1 : K ≤ 32:=hk2
 have l0 : 0 ≤ (K : Int):=by omega
 have l9 : (K : Int) ≤ 32:=by omega
 have l1 : (i : Int) < (K : Int):=by omega
 have l2 : 0 ≤ (i : Int):=by omega
 clear hP
 go_enter Try.func101,Try.ntmps101
 go_wp2_with (first
  | ((with_reducible refine ak (N:=14) rfl ?_);(try (refine au (by rfl) ?_;dsimp only));refine make_ev ?hg 37 5 (.tmp 13) (.tmp 13) ?ho ((K : Int)) (K) ?hx ?hy (rfl) Try.underlying37 (.int .u8 0) 1 ?hi rfl (by decide) (by omega) ?_;(case hg=>rfl);(case ho=>rfl);(case hx=>rfl);(case hy=>rfl);(case hi=>kernel_rfl);intro g hg w1 hbox hb;have H_:=Aside0.mk (Hs.push H.out (Nat.le_of_eq hg.symm) hbox hb);clear hbox hb hg H;have H:=H_;clear H_ q0 q1 q2 q3 q4 q5;obtain ⟨q0,q1,q2,q3,q4,q5⟩:=(hP0.out.below H.out.below).cell)
  | ((with_reducible refine bo (p:=56) rfl ?_);(try (refine au (by rfl) ?_;dsimp only));obtain ⟨x_,hx_⟩:=(arr_some (cs:=madeCells #[.int .u8 0] K) (j:=i) (by simp [madeCells];omega));have hc_:=H.out.aJ 0 rfl (i) hx_;have hf_:=H.out.frozen 0 rfl (i);refine dp (fun W=>World.setCell W ⟨g,i,none⟩ (.int .u8 1)) ?hg rfl ?hd ?hr ?_;(case hg=>rfl);(case hd=>rfl);(case hr=>first|(go_simp;done)|(go_simp;rfl));intro w2 hw;have H_:=Aside0.mk (show Hs w w2 [(g,.cells ((madeCells #[.int .u8 0] K).setIfInBounds i (.int .u8 1)) 5 (0,0))] from by rw [hw];exact H.out.set 0 rfl (i) (.int .u8 1));clear hw hc_ hf_ hx_ x_ H;have H:=H_;clear H_))
 go_ret
 refine ⟨g,rfl,?_⟩
 have e:=row_arr (n:=K) (dk:=((madeCells #[.int .u8 0] K).setIfInBounds i (.int .u8 1))) (f:=rowF K M G i) (by simp [madeCells]) (fun j hj=>by
  unfold rowF
  rw [if_pos hi]
  by_cases c : j = i
  ·subst c;rw [Array.getElem?_setIfInBounds_self_of_lt (by simp [madeCells];omega),if_pos rfl]
  ·rw [Array.getElem?_setIfInBounds_ne (fun e=>c e.symm),if_neg c];exact made_at _ _ _ hj)
 unfold rowV
 rw [← e]
 exact H.out

theorem glob_src {w : World} {gg K M G m : Nat} {cs : Array Value} (h3 : w.heap[gg]? = some (.cells cs 180 (0,0))) (h4 : ∀ i j,i < M → j < 32 → cs[i * 33 + (1 + j)]? = some (.int .u8 (if j < K then rowG (K + i) j else 0))) (hm : m < M) (hk : K ≤ 32) :
  ∀ j v,(nums .u8 (rowV K M G (K + m)))[j]? = some v → w.cell? ((⟨gg,m * 33 + 1,none⟩ : Addr).add j) = some v:=by
 intro j v h
 have hj : j < K:=by
  have:=(List.getElem?_eq_some_iff.1 h).1
  simpa [nums,rowV] using this
 have e : (nums .u8 (rowV K M G (K + m)))[j]? = some (.int .u8 (rowG (K + m) j)):=by
  simp [nums,rowV,hj,rowF]
  omega
 rw [e] at h
 cases h
 rw [show (⟨gg,m * 33 + 1,none⟩ : Addr).add j = ⟨gg,m * 33 + (1 + j),none⟩ by rw [show (⟨gg,m * 33 + 1,none⟩ : Addr).add j = ⟨gg,m * 33 + 1 + j,none⟩ by unfold Addr.add;split <;> simp_all,Nat.add_assoc],cell_of_row w gg _ cs _ _ h3,h4 m j hm (by omega),if_pos hj]

set_option maxHeartbeats 8000000 in
set_option maxRecDepth 100000 in
theorem row_glob (gt gp K M G : Nat) (vg vl : Value) (w : World) (hP : PlantAt w gt gp K M G vg vl) (m : Nat) (hm : m < M) (hk1 : 1 ≤ K) (hk2 : K ≤ 32) (hms : M ≤ 16) : Calls Try.prog 101 #[.pointer (some ⟨gp,0,none⟩),.int .i64 (K + m : Nat)] w fun e w'=>∃ g,e = .returned (.slice (some ⟨g,0,none⟩) K K) ∧ Hs w w' [(g,.cells (nums .u8 (rowV K M G (K + m))).toArray 5 (0,0))]:=by
 obtain ⟨gg,cg,cs,rfl,h2,h3,h4⟩:=hP.glo (by omega)
 have hg3:=Aside0.mk h3
 have hg4:=Aside0.mk h4
 clear h3 h4
 have hu1:=Try.underlying175
 have hu2:=Try.underlying43
 have hP0:=Aside0.mk hP
 obtain ⟨q0,q1,q2,q3,q4,q5⟩:=hP.cell
 have H:=Aside0.mk (Hs.nil w)
 have k1 : K ≤ 32:=hk2
 have l0 : 0 ≤ (K : Int):=by omega
 have l9 : (K : Int) ≤ 32:=by omega
 have l1 : ¬ ((K + m : Nat) : Int) < (K : Int):=by omega
 have l2 : 0 ≤ (K : Int) + (m : Int):=by omega
 have l3 : ((K + m : Nat) : Int) = (K : Int) + (m : Int):=by omega
 have l4 : (m : Int) < (M : Int):=by omega
 have l5 : 0 ≤ (m : Int):=by omega
 have l6 : (M : Int) ≤ 16:=by omega
 have l7 : (K : Int) + (m : Int) < (K : Int) + (M : Int):=by omega
 have l8 : (K : Int) + (m : Int) - (K : Int) = (m : Int):=by omega
 rw [l3]
 clear hP l3 l1
 have l1 : decide ((K : Int) + (m : Int) < (K : Int)) = false:=decide_eq_false (by omega)
 go_enter Try.func101,Try.ntmps101
 go_wp2_with (first
  | ((with_reducible refine ak (N:=14) rfl ?_);(try (refine au (by rfl) ?_;dsimp only));refine make_ev ?hg 37 5 (.tmp 13) (.tmp 13) ?ho ((K : Int)) (K) ?hx ?hy (rfl) Try.underlying37 (.int .u8 0) 1 ?hi rfl (by decide) (by omega) ?_;(case hg=>rfl);(case ho=>rfl);(case hx=>rfl);(case hy=>rfl);(case hi=>kernel_rfl);intro g hg w1 hbox hb;have H_:=Aside0.mk (Hs.push H.out (Nat.le_of_eq hg.symm) hbox hb);clear hbox hb hg H;have H:=H_;clear H_ q0 q1 q2 q3 q4 q5;obtain ⟨q0,q1,q2,q3,q4,q5⟩:=(hP0.out.below H.out.below).cell;have hgx:=ab hg3.out H.out.below)
  | ((with_reducible refine ak (N:=78) rfl ?_);refine copy_ev rfl (.tmp 67) (.tmp 77) 37 5 1 rfl Try.underlying37 (by kernel_rfl) g 0 K K ⟨gg,m * 33 + 1,none⟩ 32 32 rfl rfl H.out 0 _ rfl (nums .u8 (rowV K M G (K + m))) K 0 ?hmin rfl ?hn ?hsrc ?hfit ?h1 ?_;(case hmin=>simp only [Nat.min_def];split <;> omega);(case hn=>simp [nums,rowV]);(case hsrc=>exact glob_src hgx hg4.out hm hk2);(case hfit=>simp [nums,rowV,madeCells]);(case h1=>intro u hu_;simp only [nums,List.mem_map] at hu_;obtain ⟨z_,_,rfl⟩:=hu_;rfl);intro w2 hH2;have H_:=Aside0.mk hH2;clear hH2 H;have H:=H_;clear H_))
 go_ret
 refine ⟨g,rfl,?_⟩
 have e : splA (madeCells #[.int .u8 0] K) 0 (nums .u8 (rowV K M G (K + m))) = (nums .u8 (rowV K M G (K + m))).toArray:=by
  unfold splA
  have hl : (nums .u8 (rowV K M G (K + m))).length = K:=by simp [nums,rowV]
  have hs : (madeCells #[.int .u8 0] K).toList.length = K:=by simp [madeCells]
  rw [List.take_zero,List.nil_append,Nat.zero_add,List.drop_of_length_le (by omega),List.append_nil]
 have H2:=H.out
 rw [List.set_cons_zero,e] at H2
 exact H2

theorem same_mod {d q x j G : Nat} (hd : d < G) (hx : x = d + q * G) (h1 : x ≤ j) (h2 : j < x + G) (h3 : j % G = d) : j = x:=by
 obtain ⟨t,rfl⟩ : ∃ t,j = x + t:=⟨j - x,by omega⟩
 have e : (x + t) % G = (d + t) % G:=by rw [hx,show d + q * G + t = d + t + q * G by omega,Nat.add_mul_mod_self_right]
 rw [e] at h3
 by_cases c : d + t < G
 ·rw [Nat.mod_eq_of_lt c] at h3;omega
 ·rw [Nat.mod_eq_sub_mod (by omega),Nat.mod_eq_of_lt (by omega)] at h3;omega

set_option maxHeartbeats 8000000 in
set_option maxRecDepth 100000 in
theorem row_loc (gt gp K M G : Nat) (vg vl : Value) (w : World) (hP : PlantAt w gt gp K M G vg vl) (d : Nat) (hd0 : d < G) (hk2 : K ≤ 32) (hms : M ≤ 16) (hgk : G ≤ K) : Calls Try.prog 101 #[.pointer (some ⟨gp,0,none⟩),.int .i64 (K + M + d : Nat)] w fun e w'=>∃ g,e = .returned (.slice (some ⟨g,0,none⟩) K K) ∧ Hs w w' [(g,.cells (nums .u8 (rowV K M G (K + M + d))).toArray 5 (0,0))]:=by
 obtain ⟨gl,cl,cs,rfl,h2,h3,h4⟩:=hP.loc (by omega)
 have hg3:=Aside0.mk h3
 have hg4:=Aside0.mk h4
 have hd:=Aside0.mk hd0
 have hu3:=Try.underlying182
 clear h3 h4
 have hu1:=Try.underlying175
 have hu2:=Try.underlying43
 have hP0:=Aside0.mk hP
 obtain ⟨q0,q1,q2,q3,q4,q5⟩:=hP.cell
 have H:=Aside0.mk (Hs.nil w)
 have k1 : K ≤ 32:=hk2
 have l0 : 0 ≤ (K : Int):=by omega
 have l9 : (K : Int) ≤ 32:=by omega
 have l3 : ((K + M + d : Nat) : Int) = (K : Int) + (M : Int) + (d : Int):=by omega
 have l4 : (d : Int) < (G : Int):=by omega
 have l5 : 0 ≤ (d : Int):=by omega
 have l6 : (M : Int) ≤ 16:=by omega
 have l7 : 0 ≤ (M : Int):=by omega
 have l8 : (K : Int) + (M : Int) + (d : Int) - (K : Int) = (M : Int) + (d : Int):=by omega
 have l10 : (M : Int) + (d : Int) - (M : Int) = (d : Int):=by omega
 have l11 : (G : Int) ≤ 32:=by omega
 have l1 : decide ((K : Int) + (M : Int) + (d : Int) < (K : Int)) = false:=decide_eq_false (by omega)
 have l2 : decide ((K : Int) + (M : Int) + (d : Int) < (K : Int) + (M : Int)) = false:=decide_eq_false (by omega)
 have l12 : wrap64 ((M : Int) + (d : Int)) = (M : Int) + (d : Int):=by unfold wrap64;omega
 have l13 : wrap64 (d : Int) = (d : Int):=by unfold wrap64;omega
 conv=>arg 3;rw [l3]
 clear hP l3
 go_enter Try.func101,Try.ntmps101
 go_wp2_with (first
  | ((with_reducible refine ak (N:=14) rfl ?_);(try (refine au (by rfl) ?_;dsimp only));refine make_ev ?hg 37 5 (.tmp 13) (.tmp 13) ?ho ((K : Int)) (K) ?hx ?hy (rfl) Try.underlying37 (.int .u8 0) 1 ?hi rfl (by decide) (by omega) ?_;(case hg=>rfl);(case ho=>rfl);(case hx=>rfl);(case hy=>rfl);(case hi=>kernel_rfl);intro g hg w1 hbox hb;have H_:=Aside0.mk (Hs.push H.out (Nat.le_of_eq hg.symm) hbox hb);clear hbox hb hg H;have H:=H_;clear H_ q0 q1 q2 q3 q4 q5;obtain ⟨q0,q1,q2,q3,q4,q5⟩:=(hP0.out.below H.out.below).cell;have q6 : w1.cell? ⟨gl,d * 2,none⟩ = some (.int .i64 (K + M + d : Nat)):=(cell_of_row _ gl _ cs _ _ (ab hg3.out H.out.below)).trans (hg4.out d hd.out).1;have q7 : w1.cell? ⟨gl,d * 2 + 1,none⟩ = some (.int .i64 d):=(cell_of_row _ gl _ cs _ _ (ab hg3.out H.out.below)).trans (hg4.out d hd.out).2))
 refine bW (n:=17) (S:=fun w'=>w'.cell? ⟨gp,2,none⟩ = some (.int .i64 M) ∧ w'.cell? ⟨gp,5,none⟩ = some (.slice (some ⟨gl,0,none⟩) G cl) ∧ w'.cell? ⟨gl,d * 2,none⟩ = some (.int .i64 (K + M + d : Nat)) ∧ w'.cell? ⟨gl,d * 2 + 1,none⟩ = some (.int .i64 d)) (ds:=[16]) #[false,false,false,false,false,false,false,false,false,false,false,false,false,false,false,false,false] (by kernel_rfl) rfl rfl ⟨q2,q5,q6,q7⟩ (fun hHeld=>?_)
 have H_:=Aside0.mk H.out.drew
 clear H q0 q1 q2 q3 q4 q5 q6 q7
 have H:=H_
 clear H_
 generalize w1.drew = wd at H hHeld ⊢
 refine aq (i:=0) (N:=some 20) #[true,false,false,false,false,false,false,false,false,false,false,false,false,false,false,false,false] rfl rfl (by kernel_rfl) (fun _ _ _ h=>h) (Or.inl ⟨by rfl,by intro w';go_simp;with_reducible rfl⟩) (by simp only [Act.put,List.setIfInBounds_toArray,List.set_cons_zero,List.set_cons_succ,ae,af];rfl) ?_
 refine aq (i:=1) (N:=some 21) #[true,true,false,false,false,false,false,false,false,false,false,false,false,false,false,false,false] rfl rfl (by kernel_rfl) (fun _ _ _ h=>h) (Or.inl ⟨by rfl,by intro w';go_simp;with_reducible rfl⟩) (by simp only [Act.put,List.setIfInBounds_toArray,List.set_cons_zero,List.set_cons_succ,ae,af];rfl) ?_
 refine aq (i:=2) (N:=some 22) #[true,true,true,false,false,false,false,false,false,false,false,false,false,false,false,false,false] rfl rfl (by kernel_rfl) (fun _ _ _ h=>h) (Or.inl ⟨by rfl,by intro w';go_simp;with_reducible rfl⟩) (by simp only [Act.put,List.setIfInBounds_toArray,List.set_cons_zero,List.set_cons_succ,ae,af];rfl) ?_
 refine aq (i:=4) (N:=some 24) #[true,true,true,false,true,false,false,false,false,false,false,false,false,false,false,false,false] rfl rfl (by kernel_rfl) (fun _ _ _ h=>h) (Or.inl ⟨by rfl,by intro w';go_simp;with_reducible rfl⟩) (by simp only [Act.put,List.setIfInBounds_toArray,List.set_cons_zero,List.set_cons_succ,ae,af];rfl) ?_
 refine aq (i:=5) (N:=some 25) #[true,true,true,false,true,true,false,false,false,false,false,false,false,false,false,false,false] rfl rfl (by kernel_rfl) (fun _ _ _ h=>h) (Or.inl ⟨by rfl,by intro w';go_simp;with_reducible rfl⟩) (by simp only [Act.put,List.setIfInBounds_toArray,List.set_cons_zero,List.set_cons_succ,ae,af];rfl) ?_
 refine aq (i:=6) (N:=some 26) #[true,true,true,false,true,true,true,false,false,false,false,false,false,false,false,false,false] rfl rfl (by kernel_rfl) (fun _ _ _ h=>h) (Or.inl ⟨by rfl,by intro w';go_simp;with_reducible rfl⟩) (by simp only [Act.put,List.setIfInBounds_toArray,List.set_cons_zero,List.set_cons_succ,ae,af];rfl) ?_
 refine aq (i:=7) (N:=some 27) #[true,true,true,false,true,true,true,true,false,false,false,false,false,false,false,false,false] rfl rfl (by kernel_rfl) (fun _ _ _ h=>h) (Or.inl ⟨by rfl,by intro w';go_simp;with_reducible rfl⟩) (by simp only [Act.put,List.setIfInBounds_toArray,List.set_cons_zero,List.set_cons_succ,ae,af];rfl) ?_
 refine aq (i:=8) (N:=some 28) #[true,true,true,false,true,true,true,true,true,false,false,false,false,false,false,false,false] rfl rfl (by kernel_rfl) (fun _ _ _ h=>h) (Or.inl ⟨by rfl,by intro w';go_simp;with_reducible rfl⟩) (by simp only [Act.put,List.setIfInBounds_toArray,List.set_cons_zero,List.set_cons_succ,ae,af];rfl) ?_
 refine aq (i:=9) (N:=some 29) #[true,true,true,false,true,true,true,true,true,true,false,false,false,false,false,false,false] rfl rfl (by kernel_rfl) (fun _ _ _ h=>h) (Or.inl ⟨by rfl,by intro w';go_simp;with_reducible rfl⟩) (by simp only [Act.put,List.setIfInBounds_toArray,List.set_cons_zero,List.set_cons_succ,ae,af];rfl) ?_
 refine aq (i:=10) (N:=some 30) #[true,true,true,false,true,true,true,true,true,true,true,false,false,false,false,false,false] rfl rfl (by kernel_rfl) (fun _ _ _ h=>h) (Or.inl ⟨by rfl,by intro w';go_simp;with_reducible rfl⟩) (by simp only [Act.put,List.setIfInBounds_toArray,List.set_cons_zero,List.set_cons_succ,ae,af];rfl) ?_
 refine bn (i:=3) (N:=some 23) #[true,true,true,true,true,true,true,true,true,true,true,false,false,false,false,false,false] rfl rfl (by kernel_rfl) (fun _ _ _ h=>h) (Or.inl ⟨by rfl,by rintro w' ⟨s0,s1,s2,s3⟩;go_simp;with_reducible rfl⟩) hHeld (by simp only [Act.put,List.setIfInBounds_toArray,List.set_cons_zero,List.set_cons_succ,ae,af];rfl) ?_
 refine bn (i:=11) (N:=some 31) #[true,true,true,true,true,true,true,true,true,true,true,true,false,false,false,false,false] rfl rfl (by kernel_rfl) (fun _ _ _ h=>h) (Or.inl ⟨by rfl,by rintro w' ⟨s0,s1,s2,s3⟩;go_simp;with_reducible rfl⟩) hHeld (by simp only [Act.put,List.setIfInBounds_toArray,List.set_cons_zero,List.set_cons_succ,ae,af];rfl) ?_
 refine aq (i:=12) (N:=some 32) #[true,true,true,true,true,true,true,true,true,true,true,true,true,false,false,false,false] rfl rfl (by kernel_rfl) (fun _ _ _ h=>h) (Or.inl ⟨by rfl,by intro w';go_simp;with_reducible rfl⟩) (by simp only [Act.put,List.setIfInBounds_toArray,List.set_cons_zero,List.set_cons_succ,ae,af];rfl) ?_
 refine aq (i:=13) (N:=some 33) #[true,true,true,true,true,true,true,true,true,true,true,true,true,true,false,false,false] rfl rfl (by kernel_rfl) (fun _ _ _ h=>h) (Or.inl ⟨by rfl,by intro w';go_simp;with_reducible rfl⟩) (by simp only [Act.put,List.setIfInBounds_toArray,List.set_cons_zero,List.set_cons_succ,ae,af];rfl) ?_
 refine bn (i:=14) (N:=some 34) #[true,true,true,true,true,true,true,true,true,true,true,true,true,true,true,false,false] rfl rfl (by kernel_rfl) (fun _ _ _ h=>h) (Or.inl ⟨by rfl,by rintro w' ⟨s0,s1,s2,s3⟩;go_simp;with_reducible rfl⟩) hHeld (by simp only [Act.put,List.setIfInBounds_toArray,List.set_cons_zero,List.set_cons_succ,ae,af];rfl) ?_
 refine one_ (i:=15) (N:=some 7) #[true,true,true,true,true,true,true,true,true,true,true,true,true,true,true,true,false] rfl rfl (by kernel_rfl) (by decide) (fun Kc hK=>?_)
 refine value_ (w1:=?_) (v:=?_) (by rfl) rfl ?_ ?_
 rotate_left 2
 ·go_simp
  constructor
  ·rfl
  ·rfl
 have H_:=Aside0.mk (H.out.alloc (.cells #[.int .i64 0,.int .i64 0] 182 (0,0)))
 have HA:=H
 clear H
 have H:=H_
 clear H_
 refine hK.out _ _ ⟨(hP0.out.below H.out.below).cell.2.2.1,(hP0.out.below H.out.below).cell.2.2.2.2.2,((cell_of_row _ gl _ cs _ _ (ab hg3.out H.out.below)).trans (hg4.out d hd.out).1),((cell_of_row _ gl _ cs _ _ (ab hg3.out H.out.below)).trans (hg4.out d hd.out).2)⟩ (fun hHeld=>?_)
 clear hK Kc
 refine bz (a':=?_) ?_ ?_
 rotate_left
 ·show Act.put _ (some 7) _ = _
  simp only [Act.put,List.setIfInBounds_toArray,List.set_cons_zero,List.set_cons_succ,ae,af]
  rfl
 have hy0:=H.out.aJ (v:=.int .i64 0) 0 rfl 0 rfl
 have hy1:=H.out.aJ (v:=.int .i64 0) 0 rfl 1 rfl
 have hz0:=H.out.frozen 0 rfl 0
 have hz1:=H.out.frozen 0 rfl 1
 refine dX (i:=16) (N:=none) #[true,true,true,true,true,true,true,true,true,true,true,true,true,true,true,true,true] rfl rfl (by kernel_rfl) (by decide) (fun Kc hK=>?_)
 refine dA (w1:=?_) (by rfl) rfl ?_ ?_
 rotate_left
 ·go_simp
  rfl
 refine hK.out _ _ ?_
 clear hK Kc
 refine cD (by kernel_rfl) ?_
 have H1:=Aside0.mk (HA.out.alloc (.cells #[.int .i64 ((K : Int) + (M : Int) + (d : Int)),.int .i64 d] 182 (0,0)))
 clear HA
 have hv:=H1.out.aJ (v:=.int .i64 d) 0 rfl 1 rfl
 clear H l12 l13
 go_wp2
 go_loopw [8] (fun v8 wr=>∃ (x qx : Nat) (dk : Array Value),Aside0 (x = d + qx * G) ∧ x < K + G ∧ v8 = .int .i64 x ∧ Aside0 (∀ j,j < K → dk[j]? = some (.int .u8 (if j < x ∧ j % G = d then 1 else 0))) ∧ Aside0 (dk.size = K) ∧ Aside0 (Hs w wr ((wd.heap.size,.cells #[.int .i64 ((K : Int) + (M : Int) + (d : Int)),.int .i64 d] 182 (0,0)) :: (g,.cells dk 5 (0,0)) :: []))) (fun x _=>K - (intOf x).toNat)
 case atStart=>exact ⟨d,0,madeCells #[.int .u8 0] K,Aside0.mk (by omega),by omega,rfl,Aside0.mk (fun j hj=>by
   rw [made_at _ _ _ hj]
   by_cases c : j < d ∧ j % G = d
   ·exfalso;have h1:=c.1;have h2:=c.2;rw [Nat.mod_eq_of_lt (by omega)] at h2;omega
   ·rw [if_neg c]),Aside0.mk (by simp [madeCells]),Aside0.mk H1.out⟩
 case round=>
  clear H1 hv
  obtain ⟨x,qx,dk,hx,hxk,rfl,hdk,hds,H⟩:=hrel
  have x1 : 0 ≤ (x : Int):=by omega
  have x2 : (x : Int) < 64:=by omega
  by_cases hlt : x < K
  ·have x3 : (x : Int) < (K : Int):=by omega
   go_wp2_with (first
   | ((with_reducible refine bo (p:=49) rfl ?_);(try (refine au (by rfl) ?_;dsimp only));obtain ⟨x_,hx_⟩:=(arr_some (cs:=dk) (j:=x) (by rw [hds.out];omega));have hc_:=H.out.aJ 1 rfl (x) hx_;have hf_:=H.out.frozen 1 rfl (x);refine dp (fun W=>World.setCell W ⟨g,x,none⟩ (.int .u8 1)) ?hg rfl ?hd ?hr ?_;(case hg=>rfl);(case hd=>rfl);(case hr=>first|(go_simp;done)|(go_simp;rfl));intro w21 hw;have H_:=Aside0.mk (show Hs w w21 [(wd.heap.size,.cells #[.int .i64 ((K : Int) + (M : Int) + (d : Int)),.int .i64 d] 182 (0,0)),(g,.cells (dk.setIfInBounds x (.int .u8 1)) 5 (0,0))] from by rw [hw];exact H.out.set 1 rfl (x) (.int .u8 1));clear hw hc_ hf_ hx_ x_ H;have H:=H_;clear H_;obtain ⟨q0,q1,q2,q3,q4,q5⟩:=(hP0.out.below H.out.below).cell))
   go_roundw
   case rel=>exact ⟨x + G,qx + 1,dk.setIfInBounds x (.int .u8 1),Aside0.mk (by have:=hx.out;rw [Nat.succ_mul];omega),by omega,by go_num,Aside0.mk (set_row (f:=fun j=>if j < x ∧ j % G = d then 1 else 0) (g:=fun j=>if j < x + G ∧ j % G = d then 1 else 0) hdk.out hlt (if_pos ⟨by omega,by rw [hx.out,Nat.add_mul_mod_self_right,Nat.mod_eq_of_lt hd0]⟩) (fun j hne=>by
    show (if _ then _ else _ : Int) = if _ then _ else _
    by_cases c : j < x ∧ j % G = d
    ·rw [if_pos c,if_pos ⟨by omega,c.2⟩]
    ·rw [if_neg c,if_neg (fun e=>hne (same_mod hd0 hx.out (by have:=e.2;have : ¬ j < x:=fun h=>c ⟨h,e.2⟩;omega) e.1 e.2))])),Aside0.mk (by rw [Array.size_setIfInBounds];exact hds.out),H⟩
   case measure=>simp [intOf];omega
  ·have x3 : decide ((x : Int) < (K : Int)) = false:=decide_eq_false (by omega)
   go_wp2
   go_ret
   refine ⟨g,rfl,?_⟩
   have e:=row_arr (dk:=dk) (f:=rowF K M G (K + M + d)) hds.out (fun j hj=>by
    have e1 : rowF K M G (K + M + d) j = if j % G = d then 1 else 0:=by
     unfold rowF
     rw [if_neg (by omega),if_neg (by omega),show K + M + d - (K + M) = d by omega]
    rw [hdk.out j hj,e1]
    by_cases c : j % G = d
    ·rw [if_pos c,if_pos ⟨by omega,c⟩]
    ·rw [if_neg c,if_neg (fun e=>c e.2)])
   unfold rowV
   rw [← e]
   exact H.out.tail
end Go.Proofs.Ytffhbpepppodeaa.Plant
