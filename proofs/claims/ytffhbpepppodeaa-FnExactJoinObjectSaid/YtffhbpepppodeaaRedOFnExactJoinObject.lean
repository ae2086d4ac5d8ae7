import Derived.Test.YtffhbpepppodeaaReduceFnExactJoinObject
namespace Go.Proofs.Ytffhbpepppodeaa.RedO
open Go.RowKit Go.Proofs.YtffhbpepppodeaaW.PrintWords Go.Proofs.YtffhbpepppodeaaW.PrintLast Go.Proofs.YtffhbpepppodeaaW.PrintMore Go.Proofs.Ytffhbpepppodeaa.Hs Go.Proofs.Ytffhbpepppodeaa.Gf Go.Proofs.Ytffhbpepppodeaa.Grid Go.Proofs.Ytffhbpepppodeaa.Reduce
set_option linter.unusedVariables false
set_option linter.unusedSimpArgs false
theorem hs_front {w0 w : World} {B B2 L : List Blk} (h : Hs w0 w (B ++ (B2 ++ L))) : Hs w0 w (B2 ++ (B ++ L)):=h.perm (List.perm_append_comm_assoc _ _ _)
set_option maxHeartbeats 8000000 in
set_option maxRecDepth 100000 in
theorem reduceO_calls (gt g h R C C2 cols : Nat) (M M' : Mat) (B B' L : List Blk) (w0 w : World) (hG : GridB gt g R C M B) (hGo : GridB gt h R C2 M' B') (hM0 : bD M) (hM1 : bD M') (hcC : cols ≤ C) (hC : C ≤ 64) (hC2 : C2 ≤ 64) (hR : R ≤ 64) (hT0 : TabIn w0 L gt) (hH : Hs w0 w (B ++ (B' ++ L))) :
  Calls Try.prog 64 #[.pointer (some ⟨g,0,none⟩),.int .i64 cols,.pointer (some ⟨h,0,none⟩)] w fun e w'=>∃ B1 B2,e = .returned (.int .i64 (redS R C C2 (0,M,M') cols).1) ∧ GridB gt g R C (redS R C C2 (0,M,M') cols).2.1 B1 ∧ GridB gt h R C2 (redS R C C2 (0,M,M') cols).2.2 B2 ∧ Hs w0 w' (B1 ++ (B2 ++ L)):=by
 have hu1:=Try.underlying111
 have H:=Aside0.mk hH
 have hM:=Aside0.mk hM0
 have hMo:=Aside0.mk hM1
 have hT:=Aside0.mk hT0
 have hG1:=Aside0.mk hG
 have hG2:=Aside0.mk hGo
 clear hH hM0 hM1 hT0 hG hGo
 go_enter Try.func64,Try.ntmps64
 go_wp2
 go_step3
 go_wp2
 go_step3
 go_wp2
 go_loopw [7,8] (fun v7 v8 wr=>∃ (k rk : Nat) (P Q : Mat) (B B' : List Blk),k ≤ cols ∧ v7 = .int .i64 rk ∧ v8 = .int .i64 k ∧ rk ≤ R ∧ Aside0 (redS R C C2 (0,M,M') k = (rk,P,Q)) ∧ Aside0 (bD P ∧ bD Q) ∧ Aside0 (GridB gt g R C P B) ∧ Aside0 (GridB gt h R C2 Q B') ∧ Aside0 (Hs w0 wr (B ++ (B' ++ L)))) (fun _ i _=>cols - (intOf i).toNat)
 case atStart=>exact ⟨0,0,M,M',B,B',by omega,rfl,rfl,by omega,Aside0.mk rfl,Aside0.mk ⟨hM.out,hMo.out⟩,hG1,hG2,H⟩
 case round=>
  clear H hG1 hG2 hM hMo
  obtain ⟨k,rk,P,Q,B,B',hk,rfl,rfl,hrk,hred,hPQ,hG,hGo,H⟩:=hrel
  obtain ⟨gr,ga,cR,rc,dc,off,cap,rfl,hRc,hsz,hmx,hrc0,hdc0,hap0⟩:=hG.out
  have hrc:=Aside0.mk hrc0
  have hap:=Aside0.mk hap0
  have hdc:=Aside0.mk hdc0
  have hs1:=Aside0.mk hsz
  have hs2:=Aside0.mk hmx
  clear hrc0 hdc0 hap0 hsz hmx
  obtain ⟨hr_,ha_,cH,rh,dh,offh,caph,rfl,hRh,hsz,hmx,hrc0,hdc0,hap0⟩:=hGo.out
  have hrh:=Aside0.mk hrc0
  have haph:=Aside0.mk hap0
  have hdh:=Aside0.mk hdc0
  have ht1:=Aside0.mk hsz
  have ht2:=Aside0.mk hmx
  clear hrc0 hdc0 hap0 hsz hmx
  have hP:=Aside0.mk hPQ.out.1
  have hQ:=Aside0.mk hPQ.out.2
  clear hPQ
  have hc0 : wr.cell? ⟨g,0,none⟩ = some (.slice (some ⟨gr,0,none⟩) R cR):=H.out.aJ 0 rfl 0 rfl
  by_cases hlt : k < cols
  ·have l1 : decide ((k : Int) < (cols : Int)) = true:=decide_eq_true (by omega)
   by_cases hfull : rk < R
   ·have l2 : decide ((rk : Int) < (R : Int)) = true:=decide_eq_true (by omega)
    go_wp2_with fail
    clear hc0
    go_loopw [9] (fun v9 wx=>∃ a : Nat,rk ≤ a ∧ a < R ∧ v9 = .int .i64 a ∧ wx = wr ∧ Aside0 (piv P k (R - rk) rk = piv P k (R - a) a)) (fun i _=>R - (intOf i).toNat)
    case atStart=>exact ⟨rk,by omega,by omega,rfl,rfl,Aside0.mk rfl⟩
    case round=>
     obtain ⟨a,ha1,ha2,rfl,rfl,hpiv⟩:=hrel
     have ha:=Aside0.mk ha2
     have hr:=Aside0.mk hfull
     have hk1:=Aside0.mk (Nat.lt_of_lt_of_le hlt hcC)
     have hc0 : wr.cell? ⟨g,0,none⟩ = some (.slice (some ⟨gr,0,none⟩) R cR):=H.out.aJ 0 rfl 0 rfl
     have hc1 : wr.cell? ⟨gr,a,none⟩ = some (.slice (some ⟨ga,off a,none⟩) C (cap a)):=H.out.aJ 1 rfl a (hrc.out a ha2).1
     have hc2 : wr.cell? ⟨ga,off a + k,none⟩ = some (.int .u8 (P a k)):=H.out.aJ 2 rfl (off a + k) (hdc.out a k ha2 hk1.out)
     have l3 : (a : Int) < (R : Int):=by omega
     have l4 : 0 ≤ (a : Int):=by omega
     have l5 : (k : Int) < (C : Int):=by omega
     have l6 : 0 ≤ (k : Int):=by omega
     by_cases hz : P a k = 0
     ·have l7 : (P a k == 0) = true:=by simpa using hz
      by_cases hend : a + 1 = R
      ·have l8 : ((a : Int) + 1 == (R : Int)) = true:=by simpa using (by omega : (a : Int) + 1 = R)
       go_wp2_with fail
       have hnone : piv P k (R - rk) rk = none:=by rw [hpiv.out,(by omega : R - a = 0 + 1),piv_zero hz];rfl
       go_roundw
       case rel=>exact ⟨k + 1,rk,P,Q,_,_,by omega,rfl,by go_num,by omega,Aside0.mk (by show stpS R C C2 k (redS R C C2 (0,M,M') k) = _;rw [hred.out,stpS_none hfull hnone]),Aside0.mk ⟨hP.out,hQ.out⟩,Aside0.mk ⟨gr,ga,cR,rc,dc,off,cap,rfl,hRc,hs1.out,hs2.out,hrc.out,hdc.out,hap.out⟩,Aside0.mk ⟨hr_,ha_,cH,rh,dh,offh,caph,rfl,hRh,ht1.out,ht2.out,hrh.out,hdh.out,haph.out⟩,H⟩
       case measure=>simp [intOf];omega
      ·have l8 : ((a : Int) + 1 == (R : Int)) = false:=by simpa using (by omega : ¬ (a : Int) + 1 = R)
       go_wp2_with fail
       go_roundw
       case rel=>exact ⟨a + 1,by omega,by omega,by go_num,by first|rfl|trivial,Aside0.mk (by rw [hpiv.out,(by omega : R - a = (R - (a + 1)) + 1),piv_zero hz])⟩
       case measure=>simp [intOf];omega
     ·have l7 : (P a k == 0) = false:=by simpa using hz
      go_wp2_with fail
      clear l7 l3 l4 l5 l6
      have l3 : (a : Int) < (R : Int):=by omega
      have l4 : 0 ≤ (a : Int):=by omega
      have l3' : (rk : Int) < (R : Int):=by omega
      have l4' : 0 ≤ (rk : Int):=by omega
      clear hc2
      have hc2 : wr.cell? ⟨gr,rk,none⟩ = some (.slice (some ⟨ga,off rk,none⟩) C (cap rk)):=H.out.aJ 1 rfl rk (hrc.out rk hfull).1
      refine bW (n:=28) (S:=fun w'=>w'.cell? ⟨g,0,none⟩ = some (.slice (some ⟨gr,0,none⟩) R cR) ∧ w'.cell? ⟨gr,a,none⟩ = some (.slice (some ⟨ga,off a,none⟩) C (cap a)) ∧ w'.cell? ⟨gr,rk,none⟩ = some (.slice (some ⟨ga,off rk,none⟩) C (cap rk))) (ds:=[25,27]) #[false,false,false,false,false,false,false,false,false,false,false,false,false,false,false,false,false,false,false,false,false,false,false,false,false,false,false,false] (by kernel_rfl) rfl rfl ⟨hc0,hc1,hc2⟩ (fun hHeld=>?_)
      have H_:=Aside0.mk H.out.drew
      clear H hc0 hc1 hc2
      have H:=H_
      clear H_
      generalize wr.drew = wd at H hHeld ⊢
      have hx1:=H.out.aJ 1 rfl a (hrc.out a ha.out).1
      have hx2:=H.out.frozen 1 rfl a
      refine aq (i:=0) (N:=some 48) #[true,false,false,false,false,false,false,false,false,false,false,false,false,false,false,false,false,false,false,false,false,false,false,false,false,false,false,false] rfl rfl (by kernel_rfl) (fun _ _ _ h=>h) (Or.inl ⟨by rfl,by intro w';go_simp;with_reducible rfl⟩) (by simp only [Act.put,List.setIfInBounds_toArray,List.set_cons_zero,List.set_cons_succ,ae,af];rfl) ?_
      refine aq (i:=1) (N:=some 49) #[true,true,false,false,false,false,false,false,false,false,false,false,false,false,false,false,false,false,false,false,false,false,false,false,false,false,false,false] rfl rfl (by kernel_rfl) (fun _ _ _ h=>h) (Or.inl ⟨by rfl,by intro w';go_simp;with_reducible rfl⟩) (by simp only [Act.put,List.setIfInBounds_toArray,List.set_cons_zero,List.set_cons_succ,ae,af];rfl) ?_
      refine aq (i:=2) (N:=some 50) #[true,true,true,false,false,false,false,false,false,false,false,false,false,false,false,false,false,false,false,false,false,false,false,false,false,false,false,false] rfl rfl (by kernel_rfl) (fun _ _ _ h=>h) (Or.inl ⟨by rfl,by intro w';go_simp;with_reducible rfl⟩) (by simp only [Act.put,List.setIfInBounds_toArray,List.set_cons_zero,List.set_cons_succ,ae,af];rfl) ?_
      refine aq (i:=4) (N:=some 52) #[true,true,true,false,true,false,false,false,false,false,false,false,false,false,false,false,false,false,false,false,false,false,false,false,false,false,false,false] rfl rfl (by kernel_rfl) (fun _ _ _ h=>h) (Or.inl ⟨by rfl,by intro w';go_simp;with_reducible rfl⟩) (by simp only [Act.put,List.setIfInBounds_toArray,List.set_cons_zero,List.set_cons_succ,ae,af];rfl) ?_
      refine aq (i:=5) (N:=some 53) #[true,true,true,false,true,true,false,false,false,false,false,false,false,false,false,false,false,false,false,false,false,false,false,false,false,false,false,false] rfl rfl (by kernel_rfl) (fun _ _ _ h=>h) (Or.inl ⟨by rfl,by intro w';go_simp;with_reducible rfl⟩) (by simp only [Act.put,List.setIfInBounds_toArray,List.set_cons_zero,List.set_cons_succ,ae,af];rfl) ?_
      refine aq (i:=6) (N:=some 54) #[true,true,true,false,true,true,true,false,false,false,false,false,false,false,false,false,false,false,false,false,false,false,false,false,false,false,false,false] rfl rfl (by kernel_rfl) (fun _ _ _ h=>h) (Or.inl ⟨by rfl,by intro w';go_simp;with_reducible rfl⟩) (by simp only [Act.put,List.setIfInBounds_toArray,List.set_cons_zero,List.set_cons_succ,ae,af];rfl) ?_
      refine aq (i:=7) (N:=some 55) #[true,true,true,false,true,true,true,true,false,false,false,false,false,false,false,false,false,false,false,false,false,false,false,false,false,false,false,false] rfl rfl (by kernel_rfl) (fun _ _ _ h=>h) (Or.inl ⟨by rfl,by intro w';go_simp;with_reducible rfl⟩) (by simp only [Act.put,List.setIfInBounds_toArray,List.set_cons_zero,List.set_cons_succ,ae,af];rfl) ?_
      refine aq (i:=9) (N:=some 57) #[true,true,true,false,true,true,true,true,false,true,false,false,false,false,false,false,false,false,false,false,false,false,false,false,false,false,false,false] rfl rfl (by kernel_rfl) (fun _ _ _ h=>h) (Or.inl ⟨by rfl,by intro w';go_simp;with_reducible rfl⟩) (by simp only [Act.put,List.setIfInBounds_toArray,List.set_cons_zero,List.set_cons_succ,ae,af];rfl) ?_
      refine aq (i:=10) (N:=some 58) #[true,true,true,false,true,true,true,true,false,true,true,false,false,false,false,false,false,false,false,false,false,false,false,false,false,false,false,false] rfl rfl (by kernel_rfl) (fun _ _ _ h=>h) (Or.inl ⟨by rfl,by intro w';go_simp;with_reducible rfl⟩) (by simp only [Act.put,List.setIfInBounds_toArray,List.set_cons_zero,List.set_cons_succ,ae,af];rfl) ?_
      refine aq (i:=11) (N:=some 59) #[true,true,true,false,true,true,true,true,false,true,true,true,false,false,false,false,false,false,false,false,false,false,false,false,false,false,false,false] rfl rfl (by kernel_rfl) (fun _ _ _ h=>h) (Or.inl ⟨by rfl,by intro w';go_simp;with_reducible rfl⟩) (by simp only [Act.put,List.setIfInBounds_toArray,List.set_cons_zero,List.set_cons_succ,ae,af];rfl) ?_
      refine aq (i:=12) (N:=some 60) #[true,true,true,false,true,true,true,true,false,true,true,true,true,false,false,false,false,false,false,false,false,false,false,false,false,false,false,false] rfl rfl (by kernel_rfl) (fun _ _ _ h=>h) (Or.inl ⟨by rfl,by intro w';go_simp;with_reducible rfl⟩) (by simp only [Act.put,List.setIfInBounds_toArray,List.set_cons_zero,List.set_cons_succ,ae,af];rfl) ?_
      refine aq (i:=14) (N:=some 62) #[true,true,true,false,true,true,true,true,false,true,true,true,true,false,true,false,false,false,false,false,false,false,false,false,false,false,false,false] rfl rfl (by kernel_rfl) (fun _ _ _ h=>h) (Or.inl ⟨by rfl,by intro w';go_simp;with_reducible rfl⟩) (by simp only [Act.put,List.setIfInBounds_toArray,List.set_cons_zero,List.set_cons_succ,ae,af];rfl) ?_
      refine aq (i:=17) (N:=some 65) #[true,true,true,false,true,true,true,true,false,true,true,true,true,false,true,false,false,true,false,false,false,false,false,false,false,false,false,false] rfl rfl (by kernel_rfl) (fun _ _ _ h=>h) (Or.inl ⟨by rfl,by intro w';go_simp;with_reducible rfl⟩) (by simp only [Act.put,List.setIfInBounds_toArray,List.set_cons_zero,List.set_cons_succ,ae,af];rfl) ?_
      refine aq (i:=18) (N:=some 66) #[true,true,true,false,true,true,true,true,false,true,true,true,true,false,true,false,false,true,true,false,false,false,false,false,false,false,false,false] rfl rfl (by kernel_rfl) (fun _ _ _ h=>h) (Or.inl ⟨by rfl,by intro w';go_simp;with_reducible rfl⟩) (by simp only [Act.put,List.setIfInBounds_toArray,List.set_cons_zero,List.set_cons_succ,ae,af];rfl) ?_
      refine aq (i:=19) (N:=some 67) #[true,true,true,false,true,true,true,true,false,true,true,true,true,false,true,false,false,true,true,true,false,false,false,false,false,false,false,false] rfl rfl (by kernel_rfl) (fun _ _ _ h=>h) (Or.inl ⟨by rfl,by intro w';go_simp;with_reducible rfl⟩) (by simp only [Act.put,List.setIfInBounds_toArray,List.set_cons_zero,List.set_cons_succ,ae,af];rfl) ?_
      refine aq (i:=21) (N:=some 69) #[true,true,true,false,true,true,true,true,false,true,true,true,true,false,true,false,false,true,true,true,false,true,false,false,false,false,false,false] rfl rfl (by kernel_rfl) (fun _ _ _ h=>h) (Or.inl ⟨by rfl,by intro w';go_simp;with_reducible rfl⟩) (by simp only [Act.put,List.setIfInBounds_toArray,List.set_cons_zero,List.set_cons_succ,ae,af];rfl) ?_
      refine bn (i:=3) (N:=some 51) #[true,true,true,true,true,true,true,true,false,true,true,true,true,false,true,false,false,true,true,true,false,true,false,false,false,false,false,false] rfl rfl (by kernel_rfl) (fun _ _ _ h=>h) (Or.inl ⟨by rfl,by rintro w' ⟨s0,s1,s2⟩;go_simp;with_reducible rfl⟩) hHeld (by simp only [Act.put,List.setIfInBounds_toArray,List.set_cons_zero,List.set_cons_succ,ae,af];rfl) ?_
      refine bn (i:=8) (N:=some 56) #[true,true,true,true,true,true,true,true,true,true,true,true,true,false,true,false,false,true,true,true,false,true,false,false,false,false,false,false] rfl rfl (by kernel_rfl) (fun _ _ _ h=>h) (Or.inl ⟨by rfl,by rintro w' ⟨s0,s1,s2⟩;go_simp;with_reducible rfl⟩) hHeld (by simp only [Act.put,List.setIfInBounds_toArray,List.set_cons_zero,List.set_cons_succ,ae,af];rfl) ?_
      refine bn (i:=13) (N:=some 61) #[true,true,true,true,true,true,true,true,true,true,true,true,true,true,true,false,false,true,true,true,false,true,false,false,false,false,false,false] rfl rfl (by kernel_rfl) (fun _ _ _ h=>h) (Or.inl ⟨by rfl,by rintro w' ⟨s0,s1,s2⟩;go_simp;with_reducible rfl⟩) hHeld (by simp only [Act.put,List.setIfInBounds_toArray,List.set_cons_zero,List.set_cons_succ,ae,af];rfl) ?_
      refine aq (i:=15) (N:=some 63) #[true,true,true,true,true,true,true,true,true,true,true,true,true,true,true,true,false,true,true,true,false,true,false,false,false,false,false,false] rfl rfl (by kernel_rfl) (fun _ _ _ h=>h) (Or.inl ⟨by rfl,by intro w';go_simp;with_reducible rfl⟩) (by simp only [Act.put,List.setIfInBounds_toArray,List.set_cons_zero,List.set_cons_succ,ae,af];rfl) ?_
      refine bn (i:=16) (N:=some 64) #[true,true,true,true,true,true,true,true,true,true,true,true,true,true,true,true,true,true,true,true,false,true,false,false,false,false,false,false] rfl rfl (by kernel_rfl) (fun _ _ _ h=>h) (Or.inl ⟨by rfl,by rintro w' ⟨s0,s1,s2⟩;go_simp;with_reducible rfl⟩) hHeld (by simp only [Act.put,List.setIfInBounds_toArray,List.set_cons_zero,List.set_cons_succ,ae,af];rfl) ?_
      refine bn (i:=20) (N:=some 68) #[true,true,true,true,true,true,true,true,true,true,true,true,true,true,true,true,true,true,true,true,true,true,false,false,false,false,false,false] rfl rfl (by kernel_rfl) (fun _ _ _ h=>h) (Or.inl ⟨by rfl,by rintro w' ⟨s0,s1,s2⟩;go_simp;with_reducible rfl⟩) hHeld (by simp only [Act.put,List.setIfInBounds_toArray,List.set_cons_zero,List.set_cons_succ,ae,af];rfl) ?_
      refine aq (i:=22) (N:=some 70) #[true,true,true,true,true,true,true,true,true,true,true,true,true,true,true,true,true,true,true,true,true,true,true,false,false,false,false,false] rfl rfl (by kernel_rfl) (fun _ _ _ h=>h) (Or.inl ⟨by rfl,by intro w';go_simp;with_reducible rfl⟩) (by simp only [Act.put,List.setIfInBounds_toArray,List.set_cons_zero,List.set_cons_succ,ae,af];rfl) ?_
      refine bn (i:=23) (N:=some 71) #[true,true,true,true,true,true,true,true,true,true,true,true,true,true,true,true,true,true,true,true,true,true,true,true,false,false,false,false] rfl rfl (by kernel_rfl) (fun _ _ _ h=>h) (Or.inl ⟨by rfl,by rintro w' ⟨s0,s1,s2⟩;go_simp;with_reducible rfl⟩) hHeld (by simp only [Act.put,List.setIfInBounds_toArray,List.set_cons_zero,List.set_cons_succ,ae,af];rfl) ?_
      refine aq (i:=24) (N:=some 72) #[true,true,true,true,true,true,true,true,true,true,true,true,true,true,true,true,true,true,true,true,true,true,true,true,true,false,false,false] rfl rfl (by kernel_rfl) (fun _ _ _ h=>h) (Or.inl ⟨by rfl,by intro w';go_simp;with_reducible rfl⟩) (by simp only [Act.put,List.setIfInBounds_toArray,List.set_cons_zero,List.set_cons_succ,ae,af];rfl) ?_
      refine dX (i:=25) (N:=none) #[true,true,true,true,true,true,true,true,true,true,true,true,true,true,true,true,true,true,true,true,true,true,true,true,true,true,false,false] rfl rfl (by kernel_rfl) (by decide) (fun K hK=>?_)
      refine dA (w1:=?_) (by rfl) rfl ?_ ?_
      rotate_left
      ·go_simp
       rfl
      refine hK.out _ _ ?_
      clear hK K
      refine aq (i:=26) (N:=some 73) #[true,true,true,true,true,true,true,true,true,true,true,true,true,true,true,true,true,true,true,true,true,true,true,true,true,true,true,false] rfl rfl (by kernel_rfl) (fun _ _ _ h=>h) (Or.inl ⟨by rfl,by intro w';go_simp;with_reducible rfl⟩) (by simp only [Act.put,List.setIfInBounds_toArray,List.set_cons_zero,List.set_cons_succ,ae,af];rfl) ?_
      refine dX (i:=27) (N:=none) #[true,true,true,true,true,true,true,true,true,true,true,true,true,true,true,true,true,true,true,true,true,true,true,true,true,true,true,true] rfl rfl (by kernel_rfl) (by decide) (fun K hK=>?_)
      have H1:=Aside0.mk (H.out.set 1 rfl a (.slice (some ⟨ga,off rk,none⟩) C (cap rk)))
      have hy1:=H1.out.aJ 1 rfl rk (swap_mid hrc.out ha.out hr.out)
      have hy2:=H1.out.frozen 1 rfl rk
      refine dA (w1:=?_) (by rfl) rfl ?_ ?_
      rotate_left
      ·go_simp
       rfl
      refine hK.out _ _ ?_
      clear hK K
      refine cD (by kernel_rfl) ?_
      have hS:=Aside0.mk (swap_grid (gt:=gt) (g:=g) (gr:=gr) hRc hs1.out hs2.out hrc.out hdc.out hap.out ha.out hr.out)
      have hrk2:=Aside0.mk (show ((rc.setIfInBounds a (.slice (some ⟨ga,off rk,none⟩) C (cap rk))).setIfInBounds rk (.slice (some ⟨ga,off a,none⟩) C (cap a)))[rk]? = some (.slice (some ⟨ga,off a,none⟩) C (cap a)) by have h1:=(swap_rows hrc.out ha.out hr.out rk hr.out).1;rwa [sw_r] at h1)
      have hak:=Aside0.mk (hdc.out a k ha.out hk1.out)
      have H2:=Aside0.mk (show Hs w0 _ ((g,.cells #[.slice (some ⟨gr,0,none⟩) R cR,.pointer (some ⟨gt,0,none⟩)] 111 (0,0)) :: (gr,.cells (((rc.setIfInBounds a (.slice (some ⟨ga,off rk,none⟩) C (cap rk))).setIfInBounds rk (.slice (some ⟨ga,off a,none⟩) C (cap a)))) 37 (0,0)) :: (ga,.cells dc 5 (0,0)) :: (h,.cells #[.slice (some ⟨hr_,0,none⟩) R cH,.pointer (some ⟨gt,0,none⟩)] 111 (0,0)) :: (hr_,.cells rh 37 (0,0)) :: (ha_,.cells dh 5 (0,0)) :: L) from H1.out.set 1 rfl rk (.slice (some ⟨ga,off a,none⟩) C (cap a)))
      clear H1 H hx1 hx2 hy1 hy2
      have H:=H2
      clear H2
      generalize ((rc.setIfInBounds a (.slice (some ⟨ga,off rk,none⟩) C (cap rk))).setIfInBounds rk (.slice (some ⟨ga,off a,none⟩) C (cap a))) = rc2 at hS hrk2 H
      generalize World.setCell (World.setCell wd ⟨gr,a,none⟩ (.slice (some ⟨ga,off rk,none⟩) C (cap rk))) ⟨gr,rk,none⟩ (.slice (some ⟨ga,off a,none⟩) C (cap a)) = ws at H ⊢
      go_wp2
      have hc0 : ws.cell? ⟨h,0,none⟩ = some (.slice (some ⟨hr_,0,none⟩) R cH):=H.out.aJ 3 rfl 0 rfl
      have hc1 : ws.cell? ⟨hr_,a,none⟩ = some (.slice (some ⟨ha_,offh a,none⟩) C2 (caph a)):=H.out.aJ 4 rfl a (hrh.out a ha.out).1
      have hc2 : ws.cell? ⟨hr_,rk,none⟩ = some (.slice (some ⟨ha_,offh rk,none⟩) C2 (caph rk)):=H.out.aJ 4 rfl rk (hrh.out rk hr.out).1
      refine bW (n:=28) (S:=fun w'=>w'.cell? ⟨h,0,none⟩ = some (.slice (some ⟨hr_,0,none⟩) R cH) ∧ w'.cell? ⟨hr_,a,none⟩ = some (.slice (some ⟨ha_,offh a,none⟩) C2 (caph a)) ∧ w'.cell? ⟨hr_,rk,none⟩ = some (.slice (some ⟨ha_,offh rk,none⟩) C2 (caph rk))) (ds:=[25,27]) #[false,false,false,false,false,false,false,false,false,false,false,false,false,false,false,false,false,false,false,false,false,false,false,false,false,false,false,false] (by kernel_rfl) rfl rfl ⟨hc0,hc1,hc2⟩ (fun hHeld=>?_)
      have H_:=Aside0.mk H.out.drew
      clear H hc0 hc1 hc2
      have H:=H_
      clear H_
      generalize ws.drew = wd at H hHeld ⊢
      have hx1:=H.out.aJ 4 rfl a (hrh.out a ha.out).1
      have hx2:=H.out.frozen 4 rfl a
      refine aq (i:=0) (N:=some 76) #[true,false,false,false,false,false,false,false,false,false,false,false,false,false,false,false,false,false,false,false,false,false,false,false,false,false,false,false] rfl rfl (by kernel_rfl) (fun _ _ _ h=>h) (Or.inl ⟨by rfl,by intro w';go_simp;with_reducible rfl⟩) (by simp only [Act.put,List.setIfInBounds_toArray,List.set_cons_zero,List.set_cons_succ,ae,af];rfl) ?_
      refine aq (i:=1) (N:=some 77) #[true,true,false,false,false,false,false,false,false,false,false,false,false,false,false,false,false,false,false,false,false,false,false,false,false,false,false,false] rfl rfl (by kernel_rfl) (fun _ _ _ h=>h) (Or.inl ⟨by rfl,by intro w';go_simp;with_reducible rfl⟩) (by simp only [Act.put,List.setIfInBounds_toArray,List.set_cons_zero,List.set_cons_succ,ae,af];rfl) ?_
      refine aq (i:=2) (N:=some 78) #[true,true,true,false,false,false,false,false,false,false,false,false,false,false,false,false,false,false,false,false,false,false,false,false,false,false,false,false] rfl rfl (by kernel_rfl) (fun _ _ _ h=>h) (Or.inl ⟨by rfl,by intro w';go_simp;with_reducible rfl⟩) (by simp only [Act.put,List.setIfInBounds_toArray,List.set_cons_zero,List.set_cons_succ,ae,af];rfl) ?_
      refine aq (i:=4) (N:=some 80) #[true,true,true,false,true,false,false,false,false,false,false,false,false,false,false,false,false,false,false,false,false,false,false,false,false,false,false,false] rfl rfl (by kernel_rfl) (fun _ _ _ h=>h) (Or.inl ⟨by rfl,by intro w';go_simp;with_reducible rfl⟩) (by simp only [Act.put,List.setIfInBounds_toArray,List.set_cons_zero,List.set_cons_succ,ae,af];rfl) ?_
      refine aq (i:=5) (N:=some 81) #[true,true,true,false,true,true,false,false,false,false,false,false,false,false,false,false,false,false,false,false,false,false,false,false,false,false,false,false] rfl rfl (by kernel_rfl) (fun _ _ _ h=>h) (Or.inl ⟨by rfl,by intro w';go_simp;with_reducible rfl⟩) (by simp only [Act.put,List.setIfInBounds_toArray,List.set_cons_zero,List.set_cons_succ,ae,af];rfl) ?_
      refine aq (i:=6) (N:=some 82) #[true,true,true,false,true,true,true,false,false,false,false,false,false,false,false,false,false,false,false,false,false,false,false,false,false,false,false,false] rfl rfl (by kernel_rfl) (fun _ _ _ h=>h) (Or.inl ⟨by rfl,by intro w';go_simp;with_reducible rfl⟩) (by simp only [Act.put,List.setIfInBounds_toArray,List.set_cons_zero,List.set_cons_succ,ae,af];rfl) ?_
      refine aq (i:=7) (N:=some 83) #[true,true,true,false,true,true,true,true,false,false,false,false,false,false,false,false,false,false,false,false,false,false,false,false,false,false,false,false] rfl rfl (by kernel_rfl) (fun _ _ _ h=>h) (Or.inl ⟨by rfl,by intro w';go_simp;with_reducible rfl⟩) (by simp only [Act.put,List.setIfInBounds_toArray,List.set_cons_zero,List.set_cons_succ,ae,af];rfl) ?_
      refine aq (i:=9) (N:=some 85) #[true,true,true,false,true,true,true,true,false,true,false,false,false,false,false,false,false,false,false,false,false,false,false,false,false,false,false,false] rfl rfl (by kernel_rfl) (fun _ _ _ h=>h) (Or.inl ⟨by rfl,by intro w';go_simp;with_reducible rfl⟩) (by simp only [Act.put,List.setIfInBounds_toArray,List.set_cons_zero,List.set_cons_succ,ae,af];rfl) ?_
      refine aq (i:=10) (N:=some 86) #[true,true,true,false,true,true,true,true,false,true,true,false,false,false,false,false,false,false,false,false,false,false,false,false,false,false,false,false] rfl rfl (by kernel_rfl) (fun _ _ _ h=>h) (Or.inl ⟨by rfl,by intro w';go_simp;with_reducible rfl⟩) (by simp only [Act.put,List.setIfInBounds_toArray,List.set_cons_zero,List.set_cons_succ,ae,af];rfl) ?_
      refine aq (i:=11) (N:=some 87) #[true,true,true,false,true,true,true,true,false,true,true,true,false,false,false,false,false,false,false,false,false,false,false,false,false,false,false,false] rfl rfl (by kernel_rfl) (fun _ _ _ h=>h) (Or.inl ⟨by rfl,by intro w';go_simp;with_reducible rfl⟩) (by simp only [Act.put,List.setIfInBounds_toArray,List.set_cons_zero,List.set_cons_succ,ae,af];rfl) ?_
      refine aq (i:=12) (N:=some 88) #[true,true,true,false,true,true,true,true,false,true,true,true,true,false,false,false,false,false,false,false,false,false,false,false,false,false,false,false] rfl rfl (by kernel_rfl) (fun _ _ _ h=>h) (Or.inl ⟨by rfl,by intro w';go_simp;with_reducible rfl⟩) (by simp only [Act.put,List.setIfInBounds_toArray,List.set_cons_zero,List.set_cons_succ,ae,af];rfl) ?_
      refine aq (i:=14) (N:=some 90) #[true,true,true,false,true,true,true,true,false,true,true,true,true,false,true,false,false,false,false,false,false,false,false,false,false,false,false,false] rfl rfl (by kernel_rfl) (fun _ _ _ h=>h) (Or.inl ⟨by rfl,by intro w';go_simp;with_reducible rfl⟩) (by simp only [Act.put,List.setIfInBounds_toArray,List.set_cons_zero,List.set_cons_succ,ae,af];rfl) ?_
      refine aq (i:=17) (N:=some 93) #[true,true,true,false,true,true,true,true,false,true,true,true,true,false,true,false,false,true,false,false,false,false,false,false,false,false,false,false] rfl rfl (by kernel_rfl) (fun _ _ _ h=>h) (Or.inl ⟨by rfl,by intro w';go_simp;with_reducible rfl⟩) (by simp only [Act.put,List.setIfInBounds_toArray,List.set_cons_zero,List.set_cons_succ,ae,af];rfl) ?_
      refine aq (i:=18) (N:=some 94) #[true,true,true,false,true,true,true,true,false,true,true,true,true,false,true,false,false,true,true,false,false,false,false,false,false,false,false,false] rfl rfl (by kernel_rfl) (fun _ _ _ h=>h) (Or.inl ⟨by rfl,by intro w';go_simp;with_reducible rfl⟩) (by simp only [Act.put,List.setIfInBounds_toArray,List.set_cons_zero,List.set_cons_succ,ae,af];rfl) ?_
      refine aq (i:=19) (N:=some 95) #[true,true,true,false,true,true,true,true,false,true,true,true,true,false,true,false,false,true,true,true,false,false,false,false,false,false,false,false] rfl rfl (by kernel_rfl) (fun _ _ _ h=>h) (Or.inl ⟨by rfl,by intro w';go_simp;with_reducible rfl⟩) (by simp only [Act.put,List.setIfInBounds_toArray,List.set_cons_zero,List.set_cons_succ,ae,af];rfl) ?_
      refine aq (i:=21) (N:=some 97) #[true,true,true,false,true,true,true,true,false,true,true,true,true,false,true,false,false,true,true,true,false,true,false,false,false,false,false,false] rfl rfl (by kernel_rfl) (fun _ _ _ h=>h) (Or.inl ⟨by rfl,by intro w';go_simp;with_reducible rfl⟩) (by simp only [Act.put,List.setIfInBounds_toArray,List.set_cons_zero,List.set_cons_succ,ae,af];rfl) ?_
      refine bn (i:=3) (N:=some 79) #[true,true,true,true,true,true,true,true,false,true,true,true,true,false,true,false,false,true,true,true,false,true,false,false,false,false,false,false] rfl rfl (by kernel_rfl) (fun _ _ _ h=>h) (Or.inl ⟨by rfl,by rintro w' ⟨s0,s1,s2⟩;go_simp;with_reducible rfl⟩) hHeld (by simp only [Act.put,List.setIfInBounds_toArray,List.set_cons_zero,List.set_cons_succ,ae,af];rfl) ?_
      refine bn (i:=8) (N:=some 84) #[true,true,true,true,true,true,true,true,true,true,true,true,true,false,true,false,false,true,true,true,false,true,false,false,false,false,false,false] rfl rfl (by kernel_rfl) (fun _ _ _ h=>h) (Or.inl ⟨by rfl,by rintro w' ⟨s0,s1,s2⟩;go_simp;with_reducible rfl⟩) hHeld (by simp only [Act.put,List.setIfInBounds_toArray,List.set_cons_zero,List.set_cons_succ,ae,af];rfl) ?_
      refine bn (i:=13) (N:=some 89) #[true,true,true,true,true,true,true,true,true,true,true,true,true,true,true,false,false,true,true,true,false,true,false,false,false,false,false,false] rfl rfl (by kernel_rfl) (fun _ _ _ h=>h) (Or.inl ⟨by rfl,by rintro w' ⟨s0,s1,s2⟩;go_simp;with_reducible rfl⟩) hHeld (by simp only [Act.put,List.setIfInBounds_toArray,List.set_cons_zero,List.set_cons_succ,ae,af];rfl) ?_
      refine aq (i:=15) (N:=some 91) #[true,true,true,true,true,true,true,true,true,true,true,true,true,true,true,true,false,true,true,true,false,true,false,false,false,false,false,false] rfl rfl (by kernel_rfl) (fun _ _ _ h=>h) (Or.inl ⟨by rfl,by intro w';go_simp;with_reducible rfl⟩) (by simp only [Act.put,List.setIfInBounds_toArray,List.set_cons_zero,List.set_cons_succ,ae,af];rfl) ?_
      refine bn (i:=16) (N:=some 92) #[true,true,true,true,true,true,true,true,true,true,true,true,true,true,true,true,true,true,true,true,false,true,false,false,false,false,false,false] rfl rfl (by kernel_rfl) (fun _ _ _ h=>h) (Or.inl ⟨by rfl,by rintro w' ⟨s0,s1,s2⟩;go_simp;with_reducible rfl⟩) hHeld (by simp only [Act.put,List.setIfInBounds_toArray,List.set_cons_zero,List.set_cons_succ,ae,af];rfl) ?_
      refine bn (i:=20) (N:=some 96) #[true,true,true,true,true,true,true,true,true,true,true,true,true,true,true,true,true,true,true,true,true,true,false,false,false,false,false,false] rfl rfl (by kernel_rfl) (fun _ _ _ h=>h) (Or.inl ⟨by rfl,by rintro w' ⟨s0,s1,s2⟩;go_simp;with_reducible rfl⟩) hHeld (by simp only [Act.put,List.setIfInBounds_toArray,List.set_cons_zero,List.set_cons_succ,ae,af];rfl) ?_
      refine aq (i:=22) (N:=some 98) #[true,true,true,true,true,true,true,true,true,true,true,true,true,true,true,true,true,true,true,true,true,true,true,false,false,false,false,false] rfl rfl (by kernel_rfl) (fun _ _ _ h=>h) (Or.inl ⟨by rfl,by intro w';go_simp;with_reducible rfl⟩) (by simp only [Act.put,List.setIfInBounds_toArray,List.set_cons_zero,List.set_cons_succ,ae,af];rfl) ?_
      refine bn (i:=23) (N:=some 99) #[true,true,true,true,true,true,true,true,true,true,true,true,true,true,true,true,true,true,true,true,true,true,true,true,false,false,false,false] rfl rfl (by kernel_rfl) (fun _ _ _ h=>h) (Or.inl ⟨by rfl,by rintro w' ⟨s0,s1,s2⟩;go_simp;with_reducible rfl⟩) hHeld (by simp only [Act.put,List.setIfInBounds_toArray,List.set_cons_zero,List.set_cons_succ,ae,af];rfl) ?_
      refine aq (i:=24) (N:=some 100) #[true,true,true,true,true,true,true,true,true,true,true,true,true,true,true,true,true,true,true,true,true,true,true,true,true,false,false,false] rfl rfl (by kernel_rfl) (fun _ _ _ h=>h) (Or.inl ⟨by rfl,by intro w';go_simp;with_reducible rfl⟩) (by simp only [Act.put,List.setIfInBounds_toArray,List.set_cons_zero,List.set_cons_succ,ae,af];rfl) ?_
      refine dX (i:=25) (N:=none) #[true,true,true,true,true,true,true,true,true,true,true,true,true,true,true,true,true,true,true,true,true,true,true,true,true,true,false,false] rfl rfl (by kernel_rfl) (by decide) (fun K hK=>?_)
      refine dA (w1:=?_) (by rfl) rfl ?_ ?_
      rotate_left
      ·go_simp
       rfl
      refine hK.out _ _ ?_
      clear hK K
      refine aq (i:=26) (N:=some 101) #[true,true,true,true,true,true,true,true,true,true,true,true,true,true,true,true,true,true,true,true,true,true,true,true,true,true,true,false] rfl rfl (by kernel_rfl) (fun _ _ _ h=>h) (Or.inl ⟨by rfl,by intro w';go_simp;with_reducible rfl⟩) (by simp only [Act.put,List.setIfInBounds_toArray,List.set_cons_zero,List.set_cons_succ,ae,af];rfl) ?_
      refine dX (i:=27) (N:=none) #[true,true,true,true,true,true,true,true,true,true,true,true,true,true,true,true,true,true,true,true,true,true,true,true,true,true,true,true] rfl rfl (by kernel_rfl) (by decide) (fun K hK=>?_)
      have H1:=Aside0.mk (H.out.set 4 rfl a (.slice (some ⟨ha_,offh rk,none⟩) C2 (caph rk)))
      have hy1:=H1.out.aJ 4 rfl rk (swap_mid hrh.out ha.out hr.out)
      have hy2:=H1.out.frozen 4 rfl rk
      refine dA (w1:=?_) (by rfl) rfl ?_ ?_
      rotate_left
      ·go_simp
       rfl
      refine hK.out _ _ ?_
      clear hK K
      refine cD (by kernel_rfl) ?_
      have hSh:=Aside0.mk (swap_grid (gt:=gt) (g:=h) (gr:=hr_) hRh ht1.out ht2.out hrh.out hdh.out haph.out ha.out hr.out)
      have H2:=Aside0.mk (show Hs w0 _ ((g,.cells #[.slice (some ⟨gr,0,none⟩) R cR,.pointer (some ⟨gt,0,none⟩)] 111 (0,0)) :: (gr,.cells rc2 37 (0,0)) :: (ga,.cells dc 5 (0,0)) :: (h,.cells #[.slice (some ⟨hr_,0,none⟩) R cH,.pointer (some ⟨gt,0,none⟩)] 111 (0,0)) :: (hr_,.cells (((rh.setIfInBounds a (.slice (some ⟨ha_,offh rk,none⟩) C2 (caph rk))).setIfInBounds rk (.slice (some ⟨ha_,offh a,none⟩) C2 (caph a)))) 37 (0,0)) :: (ha_,.cells dh 5 (0,0)) :: L) from H1.out.set 4 rfl rk (.slice (some ⟨ha_,offh a,none⟩) C2 (caph a)))
      clear H1 H hx1 hx2 hy1 hy2
      have H:=H2
      clear H2
      generalize ((rh.setIfInBounds a (.slice (some ⟨ha_,offh rk,none⟩) C2 (caph rk))).setIfInBounds rk (.slice (some ⟨ha_,offh a,none⟩) C2 (caph a))) = rh2 at hSh H
      generalize World.setCell (World.setCell wd ⟨hr_,a,none⟩ (.slice (some ⟨ha_,offh rk,none⟩) C2 (caph rk))) ⟨hr_,rk,none⟩ (.slice (some ⟨ha_,offh a,none⟩) C2 (caph a)) = wt at H ⊢
      go_wp2
      have hc0 : wt.cell? ⟨g,0,none⟩ = some (.slice (some ⟨gr,0,none⟩) R cR):=H.out.aJ 0 rfl 0 rfl
      have hc1 : wt.cell? ⟨g,1,none⟩ = some (.pointer (some ⟨gt,0,none⟩)):=H.out.aJ 0 rfl 1 rfl
      have hc2 : wt.cell? ⟨gr,rk,none⟩ = some (.slice (some ⟨ga,off a,none⟩) C (cap a)):=H.out.aJ 1 rfl rk hrk2.out
      have hc3 : wt.cell? ⟨ga,off a + k,none⟩ = some (.int .u8 (P a k)):=H.out.aJ 2 rfl (off a + k) hak.out
      have l5 : (k : Int) < (C : Int):=by have:=hk1.out;omega
      have l6 : 0 ≤ (k : Int):=by omega
      refine bW (n:=16) (S:=fun w'=>w'.cell? ⟨g,0,none⟩ = some (.slice (some ⟨gr,0,none⟩) R cR) ∧ w'.cell? ⟨g,1,none⟩ = some (.pointer (some ⟨gt,0,none⟩)) ∧ w'.cell? ⟨gr,rk,none⟩ = some (.slice (some ⟨ga,off a,none⟩) C (cap a)) ∧ w'.cell? ⟨ga,off a + k,none⟩ = some (.int .u8 (P a k))) (ds:=[]) #[false,false,false,false,false,false,false,false,false,false,false,false,false,false,false,false] (by kernel_rfl) rfl rfl ⟨hc0,hc1,hc2,hc3⟩ (fun hHeld=>?_)
      have H_:=Aside0.mk H.out.drew
      clear H hc0 hc1 hc2 hc3
      have H:=H_
      clear H_
      generalize wt.drew = wd at H hHeld ⊢
      refine aq (i:=0) (N:=some 102) #[true,false,false,false,false,false,false,false,false,false,false,false,false,false,false,false] rfl rfl (by kernel_rfl) (fun _ _ _ h=>h) (Or.inl ⟨by rfl,by intro w';go_simp;with_reducible rfl⟩) (by simp only [Act.put,List.setIfInBounds_toArray,List.set_cons_zero,List.set_cons_succ,ae,af];rfl) ?_
      refine aq (i:=1) (N:=some 103) #[true,true,false,false,false,false,false,false,false,false,false,false,false,false,false,false] rfl rfl (by kernel_rfl) (fun _ _ _ h=>h) (Or.inl ⟨by rfl,by intro w';go_simp;with_reducible rfl⟩) (by simp only [Act.put,List.setIfInBounds_toArray,List.set_cons_zero,List.set_cons_succ,ae,af];rfl) ?_
      refine aq (i:=2) (N:=some 104) #[true,true,true,false,false,false,false,false,false,false,false,false,false,false,false,false] rfl rfl (by kernel_rfl) (fun _ _ _ h=>h) (Or.inl ⟨by rfl,by intro w';go_simp;with_reducible rfl⟩) (by simp only [Act.put,List.setIfInBounds_toArray,List.set_cons_zero,List.set_cons_succ,ae,af];rfl) ?_
      refine aq (i:=4) (N:=some 106) #[true,true,true,false,true,false,false,false,false,false,false,false,false,false,false,false] rfl rfl (by kernel_rfl) (fun _ _ _ h=>h) (Or.inl ⟨by rfl,by intro w';go_simp;with_reducible rfl⟩) (by simp only [Act.put,List.setIfInBounds_toArray,List.set_cons_zero,List.set_cons_succ,ae,af];rfl) ?_
      refine aq (i:=5) (N:=some 107) #[true,true,true,false,true,true,false,false,false,false,false,false,false,false,false,false] rfl rfl (by kernel_rfl) (fun _ _ _ h=>h) (Or.inl ⟨by rfl,by intro w';go_simp;with_reducible rfl⟩) (by simp only [Act.put,List.setIfInBounds_toArray,List.set_cons_zero,List.set_cons_succ,ae,af];rfl) ?_
      refine aq (i:=6) (N:=some 108) #[true,true,true,false,true,true,true,false,false,false,false,false,false,false,false,false] rfl rfl (by kernel_rfl) (fun _ _ _ h=>h) (Or.inl ⟨by rfl,by intro w';go_simp;with_reducible rfl⟩) (by simp only [Act.put,List.setIfInBounds_toArray,List.set_cons_zero,List.set_cons_succ,ae,af];rfl) ?_
      refine aq (i:=8) (N:=some 110) #[true,true,true,false,true,true,true,false,true,false,false,false,false,false,false,false] rfl rfl (by kernel_rfl) (fun _ _ _ h=>h) (Or.inl ⟨by rfl,by intro w';go_simp;with_reducible rfl⟩) (by simp only [Act.put,List.setIfInBounds_toArray,List.set_cons_zero,List.set_cons_succ,ae,af];rfl) ?_
      refine aq (i:=11) (N:=some 113) #[true,true,true,false,true,true,true,false,true,false,false,true,false,false,false,false] rfl rfl (by kernel_rfl) (fun _ _ _ h=>h) (Or.inl ⟨by rfl,by intro w';go_simp;with_reducible rfl⟩) (by simp only [Act.put,List.setIfInBounds_toArray,List.set_cons_zero,List.set_cons_succ,ae,af];rfl) ?_
      refine bn (i:=3) (N:=some 105) #[true,true,true,true,true,true,true,false,true,false,false,true,false,false,false,false] rfl rfl (by kernel_rfl) (fun _ _ _ h=>h) (Or.inl ⟨by rfl,by rintro w' ⟨s0,s1,s2,s3⟩;go_simp;with_reducible rfl⟩) hHeld (by simp only [Act.put,List.setIfInBounds_toArray,List.set_cons_zero,List.set_cons_succ,ae,af];rfl) ?_
      refine bn (i:=7) (N:=some 109) #[true,true,true,true,true,true,true,true,true,false,false,true,false,false,false,false] rfl rfl (by kernel_rfl) (fun _ _ _ h=>h) (Or.inl ⟨by rfl,by rintro w' ⟨s0,s1,s2,s3⟩;go_simp;with_reducible rfl⟩) hHeld (by simp only [Act.put,List.setIfInBounds_toArray,List.set_cons_zero,List.set_cons_succ,ae,af];rfl) ?_
      refine aq (i:=9) (N:=some 111) #[true,true,true,true,true,true,true,true,true,true,false,true,false,false,false,false] rfl rfl (by kernel_rfl) (fun _ _ _ h=>h) (Or.inl ⟨by rfl,by intro w';go_simp;with_reducible rfl⟩) (by simp only [Act.put,List.setIfInBounds_toArray,List.set_cons_zero,List.set_cons_succ,ae,af];rfl) ?_
      refine bn (i:=10) (N:=some 112) #[true,true,true,true,true,true,true,true,true,true,true,true,false,false,false,false] rfl rfl (by kernel_rfl) (fun _ _ _ h=>h) (Or.inl ⟨by rfl,by rintro w' ⟨s0,s1,s2,s3⟩;go_simp;with_reducible rfl⟩) hHeld (by simp only [Act.put,List.setIfInBounds_toArray,List.set_cons_zero,List.set_cons_succ,ae,af];rfl) ?_
      refine aq (i:=12) (N:=some 114) #[true,true,true,true,true,true,true,true,true,true,true,true,true,false,false,false] rfl rfl (by kernel_rfl) (fun _ _ _ h=>h) (Or.inl ⟨by rfl,by intro w';go_simp;with_reducible rfl⟩) (by simp only [Act.put,List.setIfInBounds_toArray,List.set_cons_zero,List.set_cons_succ,ae,af];rfl) ?_
      refine bn (i:=13) (N:=some 115) #[true,true,true,true,true,true,true,true,true,true,true,true,true,true,false,false] rfl rfl (by kernel_rfl) (fun _ _ _ h=>h) (Or.inl ⟨by rfl,by rintro w' ⟨s0,s1,s2,s3⟩;go_simp;with_reducible rfl⟩) hHeld (by simp only [Act.put,List.setIfInBounds_toArray,List.set_cons_zero,List.set_cons_succ,ae,af];rfl) ?_
      refine one_ (i:=14) (N:=some 116) #[true,true,true,true,true,true,true,true,true,true,true,true,true,true,true,false] rfl rfl (by kernel_rfl) (by decide) (fun K hK=>?_)
      refine cE Try.func120 (by kernel_rfl) rfl #[.pointer (some ⟨gt,0,none⟩),.int .u8 (P a k)] (by rfl) rfl rfl (by simp only [List.map_toArray,List.map_cons,List.map_nil];rfl) ?_
      with_reducible refine (inv_calls gt (P a k) _ (hT.out _ H.out.tail.tail.tail.tail.tail.tail) (hP.out a k).1 (hP.out a k).2).mono ?_
      rintro e wm ⟨rfl,hd⟩
      refine ⟨_,rfl,?_⟩
      have H1:=Aside0.mk (H.out.draw hd)
      clear hd
      refine hK.out _ _ ⟨(H1.out.aJ 0 rfl 0 rfl),(H1.out.aJ 0 rfl 1 rfl),(H1.out.aJ 1 rfl rk hrk2.out),(H1.out.aJ 2 rfl (off a + k) hak.out)⟩ (fun hHeld=>?_)
      clear hK K
      refine bz (a':=?_) ?_ ?_
      rotate_left
      ·show Act.put _ (some 116) _ = _
       simp only [Act.put,List.setIfInBounds_toArray,List.set_cons_zero,List.set_cons_succ,ae,af]
       rfl
      refine aq (i:=15) (N:=some 10) #[true,true,true,true,true,true,true,true,true,true,true,true,true,true,true,true] rfl rfl (by kernel_rfl) (fun _ _ _ h=>h) (Or.inl ⟨by rfl,by intro w';go_simp;with_reducible rfl⟩) (by simp only [Act.put,List.setIfInBounds_toArray,List.set_cons_zero,List.set_cons_succ,ae,af];rfl) ?_
      refine cD (by kernel_rfl) ?_
      clear H
      have H:=H1
      clear H1 hak hrk2
      go_wp2_with (first|((with_reducible refine ah (f:=121) rfl ?_);refine aH (some 120) rfl rfl Try.func121 (by kernel_rfl) rfl #[.pointer (some ⟨g,0,none⟩),.int .i64 rk,.int .u8 (tinv (P a k))] rfl (by (try simp only [List.map_toArray,List.map_cons,List.map_nil]);first|done|rfl) ?_;(with_reducible refine (scale_calls gt g R C (swM P a rk) [_,_,_] _ rk (tinv (P a k)) w0 _ hS.out (ee hP.out a rk) hr.out hC hR (cw (hP.out a k)).1 (cw (hP.out a k)).2 (fun W h_=>hT.out W h_.tail.tail.tail) H.out).mono ?_);rintro e w3 ⟨rfl,B3,hG3,hH3⟩;refine ⟨_,rfl,?_⟩;have hG4:=Aside0.mk hG3;clear hG3;have H_:=Aside0.mk (hs_front (B:=B3) (B2:=[_,_,_]) hH3);clear H;have H:=H_;clear H_ hH3)|((with_reducible refine ah (f:=121) rfl ?_);refine aH (some 126) rfl rfl Try.func121 (by kernel_rfl) rfl #[.pointer (some ⟨h,0,none⟩),.int .i64 rk,.int .u8 (tinv (P a k))] rfl (by (try simp only [List.map_toArray,List.map_cons,List.map_nil]);first|done|rfl) ?_;(with_reducible refine (scale_calls gt h R C2 (swM Q a rk) [_,_,_] _ rk (tinv (P a k)) w0 _ hSh.out (ee hQ.out a rk) hr.out hC2 hR (cw (hP.out a k)).1 (cw (hP.out a k)).2 (fun W h_=>hT.out W h_.left) H.out).mono ?_);rintro e w4 ⟨rfl,B4,hG5,hH3⟩;refine ⟨_,rfl,?_⟩;have hG6:=Aside0.mk hG5;clear hG5;have H_:=Aside0.mk (hs_front hH3);clear H;have H:=H_;clear H_ hH3;have hG3:=hG4.out;obtain ⟨gr3,ga3,cR3,rc3,dc3,off3,cap3,rfl,hRc3,hsz3,hmx3,hrc30,hdc30,hap30⟩:=hG3;clear hsz3 hmx3 hrc30 hdc30 hap30 hRc3;have hc0 : w4.cell? ⟨g,0,none⟩ = some (.slice (some ⟨gr3,0,none⟩) R cR3):=H.out.aJ 0 rfl 0 rfl))
      clear hc0 hS hSh
      obtain ⟨P1,hP1⟩ : ∃ P1,P1 = sclK (swM P a rk) rk (tinv (P a k)) C:=⟨_,rfl⟩
      obtain ⟨Q1,hQ1⟩ : ∃ Q1,Q1 = sclK (swM Q a rk) rk (tinv (P a k)) C2:=⟨_,rfl⟩
      have hb1:=Aside0.mk (show bD P1 by rw [hP1];exact bytes_scl (ee hP.out a rk) rk (cw (hP.out a k)) C)
      have hb2:=Aside0.mk (show bD Q1 by rw [hQ1];exact bytes_scl (ee hQ.out a rk) rk (cw (hP.out a k)) C2)
      rw [← hP1] at hG4
      rw [← hQ1] at hG6
      have hstp:=Aside0.mk (show stpS R C C2 k (rk,P,Q) = (rk + 1,clrS C C2 rk k (P1,Q1) R) by rw [hP1,hQ1];exact stpS_some hfull (by rw [hpiv.out,(by omega : R - a = (R - (a + 1)) + 1),piv_hit hz]))
      clear hP1 hQ1 hP hQ
      go_loopw [132] (fun v132 wy=>∃ (i : Nat) (P2 Q2 : Mat) (B2 B4 : List Blk),i ≤ R ∧ v132 = .int .i64 i ∧ Aside0 (clrS C C2 rk k (P1,Q1) i = (P2,Q2)) ∧ Aside0 (bD P2) ∧ Aside0 (bD Q2) ∧ Aside0 (GridB gt g R C P2 B2) ∧ Aside0 (GridB gt h R C2 Q2 B4) ∧ Aside0 (Hs w0 wy (B2 ++ (B4 ++ L)))) (fun i _=>R - (intOf i).toNat)
      case atStart=>exact ⟨0,P1,Q1,_,_,by omega,rfl,Aside0.mk rfl,hb1,hb2,hG4,hG6,H⟩
      case round=>
       clear H hb1 hb2 hG4 hG6
       obtain ⟨i,P2,Q2,B2,B4,hi0,rfl,hclr,hP2,hQ2,hG4,hG6,H⟩:=hrel
       by_cases hi1 : i < R
       ·have l7 : decide ((i : Int) < (R : Int)) = true:=decide_eq_true (by omega)
        have hi:=Aside0.mk hi1
        have hG3:=hG4.out
        obtain ⟨gr3,ga3,cR3,rc3,dc3,off3,cap3,rfl,hRc3,hsz3,hmx3,hrc30,hdc30,hap30⟩:=hG3
        have hc0 : wr.cell? ⟨g,0,none⟩ = some (.slice (some ⟨gr3,0,none⟩) R cR3):=H.out.aJ 0 rfl 0 rfl
        have hc1 : wr.cell? ⟨gr3,i,none⟩ = some (.slice (some ⟨ga3,off3 i,none⟩) C (cap3 i)):=H.out.aJ 1 rfl i (hrc30 i hi1).1
        have hc2 : wr.cell? ⟨ga3,off3 i + k,none⟩ = some (.int .u8 (P2 i k)):=H.out.aJ 2 rfl (off3 i + k) (hdc30 i k hi1 hk1.out)
        clear hsz3 hmx3 hrc30 hdc30 hap30 hRc3
        have l8 : (i : Int) < (R : Int):=by omega
        have l9 : 0 ≤ (i : Int):=by omega
        by_cases he : i = rk
        ·subst he
         go_wp2_with fail
         go_roundw
         case rel=>exact ⟨i + 1,P2,Q2,_,_,by omega,by go_num,Aside0.mk (by rw [clr_skip (Or.inl rfl),hclr.out]),hP2,hQ2,hG4,hG6,H⟩
         case measure=>simp [intOf];omega
        ·have e1 : ((i : Int) == (rk : Int)) = false:=by simpa using (by omega : ¬ (i : Int) = rk)
         have e2 : ((i : Int) != (rk : Int)) = true:=by simpa using (by omega : ¬ (i : Int) = rk)
         have hne:=Aside0.mk he
         by_cases hz2 : P2 i k = 0
         ·have e3 : (P2 i k == 0) = true:=by simpa using hz2
          have e4 : (P2 i k != 0) = false:=by simpa using hz2
          go_wp2_with fail
          go_roundw
          case rel=>exact ⟨i + 1,P2,Q2,_,_,by omega,by go_num,Aside0.mk (by rw [clr_skip (Or.inr (by rw [hclr.out];exact hz2)),hclr.out]),hP2,hQ2,hG4,hG6,H⟩
          case measure=>simp [intOf];omega
         ·have e3 : (P2 i k == 0) = false:=by simpa using hz2
          have e4 : (P2 i k != 0) = true:=by simpa using hz2
          go_wp2_with (first|((with_reducible refine ah (f:=122) rfl ?_);refine aH (some 156) rfl rfl Try.func122 (by kernel_rfl) rfl #[.pointer (some ⟨g,0,none⟩),.int .i64 i,.int .i64 rk,.int .u8 (P2 i k)] rfl (by (try simp only [List.map_toArray,List.map_cons,List.map_nil]);first|done|rfl) ?_;(with_reducible refine (add_calls gt g R C P2 [_,_,_] _ i rk (P2 i k) w0 _ hG4.out hP2.out hi.out hr.out hne.out hC hR (hP2.out i k).1 (hP2.out i k).2 (fun W h_=>hT.out W h_.left) H.out).mono ?_);rintro e w5 ⟨rfl,B5,hG5,hH5⟩;refine ⟨_,rfl,?_⟩;have hG8:=Aside0.mk hG5;clear hG5;have H_:=Aside0.mk (hs_front hH5);clear H;have H:=H_;clear H_ hH5)|((with_reducible refine ah (f:=122) rfl ?_);refine aH (some 163) rfl rfl Try.func122 (by kernel_rfl) rfl #[.pointer (some ⟨h,0,none⟩),.int .i64 i,.int .i64 rk,.int .u8 (P2 i k)] rfl (by (try simp only [List.map_toArray,List.map_cons,List.map_nil]);first|done|rfl) ?_;(with_reducible refine (add_calls gt h R C2 Q2 B4 _ i rk (P2 i k) w0 _ hG6.out hQ2.out hi.out hr.out hne.out hC2 hR (hP2.out i k).1 (hP2.out i k).2 (fun W h_=>hT.out W h_.left) H.out).mono ?_);rintro e w6 ⟨rfl,B6,hG5,hH5⟩;refine ⟨_,rfl,?_⟩;have hG9:=Aside0.mk hG5;clear hG5;have H_:=Aside0.mk (hs_front hH5);clear H;have H:=H_;clear H_ hH5))
          go_roundw
          case rel=>exact ⟨i + 1,_,_,_,_,by omega,by go_num,Aside0.mk (by rw [clr_add he (by rw [hclr.out];exact hz2),hclr.out]),Aside0.mk (bytes_add hP2.out _ _ _ _),Aside0.mk (bytes_add hQ2.out _ _ _ _),hG8,hG9,H⟩
          case measure=>simp [intOf];omega
       ·obtain rfl : i = R:=by omega
        have l7 : decide ((i : Int) < (i : Int)) = false:=decide_eq_false (by omega)
        go_wp2_with fail
        go_roundw
        case rel=>exact ⟨k + 1,rk + 1,P2,Q2,_,_,by omega,by go_num,by go_num,by omega,Aside0.mk (by show stpS i C C2 k (redS i C C2 (0,M,M') k) = _;rw [hred.out,hstp.out,hclr.out]),Aside0.mk ⟨hP2.out,hQ2.out⟩,hG4,hG6,H⟩
        case measure=>simp [intOf];omega
   ·have l2 : decide ((rk : Int) < (R : Int)) = false:=decide_eq_false (by omega)
    go_wp2_with fail
    try rw [Exit.noGoto_ret]
    go_ret
    have hf:=redS_full hfull hred.out cols (by omega)
    exact ⟨_,_,by rw [hf];rfl,by rw [hf];exact ⟨gr,ga,cR,rc,dc,off,cap,rfl,hRc,hs1.out,hs2.out,hrc.out,hdc.out,hap.out⟩,by rw [hf];exact ⟨hr_,ha_,cH,rh,dh,offh,caph,rfl,hRh,ht1.out,ht2.out,hrh.out,hdh.out,haph.out⟩,H.out⟩
  ·have l1 : decide ((k : Int) < (cols : Int)) = false:=decide_eq_false (by omega)
   obtain rfl : k = cols:=by omega
   go_wp2_with fail
   try rw [Exit.noGoto_ret]
   go_ret
   have hf:=hred.out
   exact ⟨_,_,by rw [hf];rfl,by rw [hf];exact ⟨gr,ga,cR,rc,dc,off,cap,rfl,hRc,hs1.out,hs2.out,hrc.out,hdc.out,hap.out⟩,by rw [hf];exact ⟨hr_,ha_,cH,rh,dh,offh,caph,rfl,hRh,ht1.out,ht2.out,hrh.out,hdh.out,haph.out⟩,H.out⟩
end Go.Proofs.Ytffhbpepppodeaa.RedO
