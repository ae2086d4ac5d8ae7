import Derived.Test.YtffhbpepppodeaaPlant4FnExactJoinObject
import Derived.Test.YtffhbpepppodeaaRedOFnExactJoinObject
import Derived.Test.YtffhbpepppodeaaInvFnExactJoinObject
namespace Go.Proofs.Ytffhbpepppodeaa.Plant6
open Go.RowKit Go.Proofs.YtffhbpepppodeaaW.PrintWords Go.Proofs.YtffhbpepppodeaaW.PrintLast Go.Proofs.YtffhbpepppodeaaW.PrintMore Go.Proofs.Ytffhbpepppodeaa.Hs Go.Proofs.Ytffhbpepppodeaa.Gf Go.Proofs.Ytffhbpepppodeaa.Grid Go.Proofs.Ytffhbpepppodeaa.Reduce Go.Proofs.Ytffhbpepppodeaa.Plant Go.Proofs.Ytffhbpepppodeaa.Plant2 Go.Proofs.Ytffhbpepppodeaa.Plant4 Go.Proofs.Ytffhbpepppodeaa.RedO Go.Proofs.Ytffhbpepppodeaa.Elim
set_option linter.unusedVariables false
set_option linter.unusedSimpArgs false
theorem splA_get {cur : Array Value} {o p : Nat} {cs : List Value} (h : o + cs.length ≤ cur.size) : (splA cur o cs)[p]? = if o ≤ p ∧ p < o + cs.length then cs[p - o]? else cur[p]?:=by
 have hl : cur.toList.length = cur.size:=Array.length_toList
 unfold splA
 rw [List.getElem?_toArray]
 by_cases c1 : p < o
 ·rw [if_neg (by omega),List.append_assoc,List.getElem?_append_left (by rw [List.length_take];omega),List.getElem?_take,if_pos c1,Array.getElem?_toList]
 ·by_cases c2 : p < o + cs.length
  ·rw [if_pos ⟨by omega,c2⟩,List.getElem?_append_left (by rw [List.length_append,List.length_take];omega),List.getElem?_append_right (by rw [List.length_take];omega),List.length_take]
   congr 1;omega
  ·rw [if_neg (by omega),List.getElem?_append_right (by rw [List.length_append,List.length_take];omega),List.getElem?_drop,List.length_append,List.length_take,Array.getElem?_toList]
   congr 1;omega
theorem copy_grid {K : Nat} {dk : Array Value} {off : Nat → Nat} {N N' : Nat → Nat → Int} {r : Nat} {f : Nat → Int} (hdk : ∀ i j,i < K → j < K → dk[off i + j]? = some (.int .u8 (N i j)))
  (hap : ∀ i j i' j',i < K → i' < K → j < K → j' < K → off i + j = off i' + j' → i = i' ∧ j = j') (hr : r < K) (hfit : off r + K ≤ dk.size) (h1 : ∀ j,j < K → N' r j = f j) (h2 : ∀ i j,i < K → j < K → i ≠ r → N' i j = N i j) :
  ∀ i j,i < K → j < K → (splA dk (off r) (nums .u8 ((List.range K).map f)))[off i + j]? = some (.int .u8 (N' i j)):=by
 intro i j hi hj
 have hl : (nums .u8 ((List.range K).map f)).length = K:=by simp [nums]
 rw [splA_get (by rw [hl];exact hfit),hl]
 by_cases e : i = r
 ·subst e
  rw [if_pos ⟨by omega,by omega⟩,show off i + j - off i = j by omega]
  simp [nums,hj,h1 j hj]
 ·rw [if_neg (fun h=>by
   obtain ⟨a,b⟩:=h
   have:=hap i j r (off i + j - off r) hi hr hj (by omega) (by omega)
   exact e this.1),hdk i j hi hj,h2 i j hi hj e]
def takM (K M G : Nat) (T : List Nat) : Mat:=fun a b=>rowN K M G (T.getD a 0) b
theorem takM_byt {K M G : Nat} (h : K + M ≤ 64) (T : List Nat) : bD (takM K M G T):=fun a b=>dI h b
def invT_ (K M G : Nat) (T : List Nat) : Mat:=(redS K K K (0,takM K M G T,idM) K).2.2
def b7 (T : List Nat) (texts : List ByteArray) : List ByteArray:=T.map fun t : Nat=>rdOf ByteArray.empty texts (t : Int)
def datumV (K M G n : Nat) (T : List Nat) (texts : List ByteArray) (r : Nat) : ByteArray:=strOfNums ((List.range n).map (mixN ((List.range K).map (invT_ K M G T r)) (b7 T texts) K))
def ck (K M G n : Nat) (T : List Nat) (texts : List ByteArray) : List ByteArray:=(List.range K).map (datumV K M G n T texts)
theorem dataV_take (K M G n : Nat) (T : List Nat) (texts : List ByteArray) (i : Nat) (h : i < K) : (ck K M G n T texts).take (i + 1) = (ck K M G n T texts).take i ++ [datumV K M G n T texts i]:=by
 rw [List.take_succ_eq_append_getElem (by simp [ck];exact h)]
 congr 2
 simp [ck]
theorem rows_C {w0 w : World} {L : List Blk} {gt h K : Nat} {Q : Mat} {B : List Blk} (hG : GridB gt h K K Q B) (H : Hs w0 w (B ++ L)) (r : Nat) (hr : r < K) (hk : K ≤ 64) : ∃ ha o cap gr cR,w.cell? ⟨h,0,none⟩ = some (.slice (some ⟨gr,0,none⟩) K cR) ∧ w.cell? ⟨gr,r,none⟩ = some (.slice (some ⟨ha,o,none⟩) K cap) ∧ Kd.C (Kd.int .u8) w (some ⟨ha,o,none⟩) K ((List.range K).map (Q r)):=by
 obtain ⟨gr,ga,cR,rc,dc,off,cap,rfl,hRc,hsz,hmx,hrc,hdc,hap⟩:=hG
 have H' : Hs w0 w ((h,_) :: (gr,_) :: (ga,_) :: L):=H
 refine ⟨ga,off r,cap r,gr,cR,H'.aJ 0 rfl 0 rfl,H'.aJ 1 rfl r (hrc r hr).1,Kd.C_of_reads (d:=(0 : Int)) ⟨by simp,by omega,fun _=>⟨_,rfl,fun j hj=>?_⟩⟩⟩
 have e : (⟨ga,off r,none⟩ : Addr).add j = ⟨ga,off r + j,none⟩:=by unfold Addr.add;split <;> simp_all
 rw [e,H'.aJ 2 rfl (off r + j) (hdc r j hr hj)]
 simp [List.getD_eq_getElem?_getD,hj]
theorem nums_one (k : IntKind) (xs : List Int) : ∀ u ∈ nums k xs,u.oneCell' = true:=by
 intro u hu
 obtain ⟨z,_,rfl⟩:=List.mem_map.1 hu;rfl
theorem row_src {w0 w : World} {g : Nat} {k : IntKind} {xs : List Int} {e : TypeId} {L : List Blk} (H : Hs w0 w ((g,.cells (nums k xs).toArray e (0,0)) :: L)) : ∀ j v,(nums k xs)[j]? = some v → w.cell? ((⟨g,0,none⟩ : Addr).add j) = some v:=by
 intro j v h
 have e : (⟨g,0,none⟩ : Addr).add j = ⟨g,j,none⟩:=by unfold Addr.add;split <;> simp_all
 rw [e]
 exact H.aJ 0 rfl j (by rw [List.getElem?_toArray];exact h)

set_option maxHeartbeats 8000000 in
set_option maxRecDepth 100000 in
theorem dataOf_calls (gt gp K M G : Nat) (vg vl : Value) (w : World) (hP : PlantAt w gt gp K M G vg vl) (A1 : Option Addr) (c1 : Nat) (T : List Nat) (hd1 : Kd.C (Kd.int .i64) w A1 K (T.map Int.ofNat)) (hTl : T.length = K) (A2 : Option Addr) (c2 : Nat) (texts : List ByteArray) (N : Nat) (hd2 : Kd.C Kd.string w A2 N texts) (hN0 : texts.length = N) (hTN0 : ∀ r,r < K → T.getD r 0 < N) (hs : K + M + G = N) (hs2 : N ≤ 64) (hk1 : 1 ≤ K) (hk2 : K ≤ 32) (hms : M ≤ 16) (hgk : G ≤ K) (n : Nat) (hn : ∀ r,r < K → (rdOf ByteArray.empty texts (T.getD r 0 : Nat)).size = n) (hn20 : n ≤ 4096) :
  Calls Try.prog 95 #[.pointer (some ⟨gp,0,none⟩),.slice A1 K c1,.slice A2 N c2] w fun e w'=>∃ v,e = .returned v ∧ Kd.R Kd.string 9 w' w.heap.size (fun _=>True) v (ck K M G n T texts) ∧ Below w.heap.size w w':=by
 have hu1:=Try.underlying175
 have hu2:=Try.underlying111
 have hk64 : K ≤ 64:=by omega
 have hkm:=Aside0.mk (show K + M ≤ 64 by omega)
 have HD1:=Aside0.mk hd1
 have HD2:=Aside0.mk hd2
 have hNl:=Aside0.mk hN0
 have hTN:=Aside0.mk hTN0
 have hTL:=Aside0.mk hTl
 have hsz0:=Aside0.mk hs
 have hn1:=Aside0.mk hn
 have hn2:=Aside0.mk hn20
 have hP0:=Aside0.mk hP
 obtain ⟨ad1,ea1,_⟩:=Kd.at_int hd1 0 (by omega) (by omega)
 cases ea1
 obtain ⟨ad2,ea2,_⟩:=Kd.bu hd2 0 (by omega) (by omega)
 cases ea2
 have q0:=hP.cell.1
 have H:=Aside0.mk (Hs.nil w)
 clear hd1 hd2 hN0 hTN0 hTl hs hn hn20 hP
 go_enter Try.func95,Try.ntmps95
 go_wp2_with (first
  | ((with_reducible refine ah (f:=70) rfl ?_);(try (refine au (by rfl) ?_;dsimp only));refine aH (some 23) rfl rfl Try.func70 (by kernel_rfl) rfl #[.pointer (some ⟨gt,0,none⟩),.int .i64 K,.int .i64 K] rfl (by (try simp only [List.map_toArray,List.map_cons,List.map_nil]);first|done|rfl) ?_;(with_reducible refine (newGrid_calls gt K K w _ _ H.out hk1 hk64 hk1 hk64).mono ?_);rintro e wB ⟨g,B,rfl,hG,hH⟩;refine ⟨_,rfl,?_⟩;have hG1:=Aside0.mk hG;clear hG;have H_:=Aside0.mk (hH);clear H;have H:=H_;clear H_ hH q0;obtain ⟨gr,ga,cR,rc,dc,off,cap,rfl,hRc,hsz,hmx,hrc0,hdc0,hap0⟩:=hG1.out;have hrc:=Aside0.mk hrc0;have hap:=Aside0.mk hap0;have hdk0:=Aside0.mk hdc0;have hs1:=Aside0.mk hsz;have hm1:=Aside0.mk hmx;have hR1:=Aside0.mk hRc;clear hrc0 hap0 hdc0 hsz hmx hG1 hRc;have q0 : wB.cell? ⟨gp,0,none⟩ = some (.pointer (some ⟨gt,0,none⟩)):=(hP0.out.below H.out.below).cell.1)
  | ((with_reducible refine ah (f:=70) rfl ?_);(try (refine au (by rfl) ?_;dsimp only));refine aH (some 30) rfl rfl Try.func70 (by kernel_rfl) rfl #[.pointer (some ⟨gt,0,none⟩),.int .i64 K,.int .i64 K] rfl (by (try simp only [List.map_toArray,List.map_cons,List.map_nil]);first|done|rfl) ?_;(with_reducible refine (newGrid_calls gt K K w _ _ H.out hk1 hk64 hk1 hk64).mono ?_);rintro e wC ⟨h,B2,rfl,hG,hH⟩;refine ⟨_,rfl,?_⟩;have hG2:=Aside0.mk hG;clear hG;have H_:=Aside0.mk (hH);clear H;have H:=H_;clear H_ hH q0;obtain ⟨hr_,ha_,cH,rh,dh,offh,caph,rfl,hRh,hsz2,hmx2,hrh0,hdh0,hap2⟩:=hG2.out;have hrh:=Aside0.mk hrh0;have haph:=Aside0.mk hap2;have hdh1:=Aside0.mk hdh0;have hs3:=Aside0.mk hsz2;have hm2:=Aside0.mk hmx2;have hR2:=Aside0.mk hRh;clear hrh0 hap2 hdh0 hsz2 hmx2 hG2 hRh)
  | ((with_reducible refine ak (N:=31) rfl ?_);refine lit_ev rfl rfl (cs:=#[]) (t:=9) (n:=0) ?hr ?_;(case hr=>first|(go_simp;done)|(go_simp;rfl));intro gtx hg wtx_ hbox hb;have hBtx:=Aside0.mk (RowB.lit0 (e:=9) (size:=1) (g:=gtx));have H_:=Aside0.mk (Hs.push H.out (Nat.le_of_eq hg.symm) hbox hb);clear hbox hb hg H;have H:=H_;clear H_;))
 go_loopw [10,34] (fun v10 v34 wr=>∃ (r : Nat) (dk dh : Array Value) (Bx : List Blk),r ≤ K ∧ v34 = .int .i64 r ∧ Aside0 (∀ a b,a < K → b < K → dk[off a + b]? = some (.int .u8 (if a < r then takM K M G T a b else 0))) ∧ Aside0 (∀ a b,a < K → b < K → dh[offh a + b]? = some (.int .u8 (if a = b ∧ a < r then 1 else 0))) ∧ Aside0 (RowB 9 1 v10 r (encs Value.string ((b7 T texts).take r)) Bx) ∧ Aside0 (Hs w wr ((h,.cells #[.slice (some ⟨hr_,0,none⟩) K cH,.pointer (some ⟨gt,0,none⟩)] 111 (0,0)) :: (hr_,.cells rh 37 (0,0)) :: (ha_,.cells dh 5 (0,0)) :: (g,.cells #[.slice (some ⟨gr,0,none⟩) K cR,.pointer (some ⟨gt,0,none⟩)] 111 (0,0)) :: (gr,.cells rc 37 (0,0)) :: (ga,.cells dk 5 (0,0)) :: Bx))) (fun _ r _=>K - (intOf r).toNat)
 case atStart=>exact ⟨0,dc,dh,_,by omega,rfl,Aside0.mk (fun a b ha hb=>by rw [hdk0.out a b ha hb,if_neg (by omega)]),Aside0.mk (fun a b ha hb=>by rw [hdh1.out a b ha hb,if_neg (by omega)]),hBtx,Aside0.mk (Hs.comm (B:=[_]) (L:=[_,_,_,_,_,_]) H.out)⟩
 case round=>
  clear H hBtx hdk0 hdh1
  obtain ⟨r,dk,dh,Bx,hr0,rfl,hdk,hdh,hX,H⟩:=hrel
  obtain ⟨Ax,cx,hvx⟩:=hX.out.slice
  cases hvx
  have r0 : 0 ≤ (r : Int):=by omega
  by_cases hrl : r < K
  ·have r1 : (r : Int) < (K : Int):=by omega
   obtain ⟨t,ht0⟩ : ∃ t,t = T.getD r 0:=⟨_,rfl⟩
   have ht:=Aside0.mk ht0
   have htN0 : t < N:=by rw [ht0];exact hTN.out r hrl
   have htN:=Aside0.mk (show t < K + M + G by have:=hsz0.out;omega)
   have hrd : rd (T.map Int.ofNat) (r : Int) = (t : Int):=by
    unfold rd
    rw [Int.toNat_natCast,ht0,List.getD_eq_getElem?_getD,List.getElem?_map,List.getD_eq_getElem?_getD,List.getElem?_eq_getElem (by have:=hTL.out;omega)];rfl
   obtain ⟨a_,e_,hx0⟩:=Kd.at_int (Kd.a8 HD1.out H.out.below) (r : Int) (by omega) (by omega)
   cases e_
   rw [Int.toNat_natCast,hrd] at hx0
   have t0 : 0 ≤ (t : Int):=by omega
   have t1 : (t : Int) < (N : Int):=by omega
   have hfit:=Aside0.mk (show off r + K ≤ dk.size by
    have h_:=(Array.getElem?_eq_some_iff.1 (hdk.out r (K - 1) hrl (by omega))).1
    omega)
   have hc0 : wr.cell? ⟨g,0,none⟩ = some (.slice (some ⟨gr,0,none⟩) K cR):=H.out.aJ 3 rfl 0 rfl
   have hc1 : wr.cell? ⟨gr,r,none⟩ = some (.slice (some ⟨ga,off r,none⟩) K (cap r)):=H.out.aJ 4 rfl r (hrc.out r hrl).1
   have hr64:=Aside0.mk (show (r + 1) * 16 ≤ 140737488355328 by omega)
   clear ht0 hrd
   go_wp2_with fail
   refine bW (n:=11) (S:=fun w'=>w'.cell? ⟨g,0,none⟩ = some (.slice (some ⟨gr,0,none⟩) K cR) ∧ w'.cell? ⟨gr,r,none⟩ = some (.slice (some ⟨ga,off r,none⟩) K (cap r))) (ds:=[10]) #[false,false,false,false,false,false,false,false,false,false,false] (by kernel_rfl) rfl rfl ⟨hc0,hc1⟩ (fun hHeld=>?_)
   have H_:=Aside0.mk H.out.drew
   clear H hc0 hc1
   have H:=H_
   clear H_
   generalize wr.drew = wd at H hHeld ⊢
   refine aq (i:=0) (N:=some 39) #[true,false,false,false,false,false,false,false,false,false,false] rfl rfl (by kernel_rfl) (fun _ _ _ h=>h) (Or.inl ⟨by rfl,by intro w';go_simp;with_reducible rfl⟩) (by simp only [Act.put,List.setIfInBounds_toArray,List.set_cons_zero,List.set_cons_succ,ae,af];rfl) ?_
   refine aq (i:=1) (N:=some 40) #[true,true,false,false,false,false,false,false,false,false,false] rfl rfl (by kernel_rfl) (fun _ _ _ h=>h) (Or.inl ⟨by rfl,by intro w';go_simp;with_reducible rfl⟩) (by simp only [Act.put,List.setIfInBounds_toArray,List.set_cons_zero,List.set_cons_succ,ae,af];rfl) ?_
   refine aq (i:=2) (N:=some 41) #[true,true,true,false,false,false,false,false,false,false,false] rfl rfl (by kernel_rfl) (fun _ _ _ h=>h) (Or.inl ⟨by rfl,by intro w';go_simp;with_reducible rfl⟩) (by simp only [Act.put,List.setIfInBounds_toArray,List.set_cons_zero,List.set_cons_succ,ae,af];rfl) ?_
   refine aq (i:=4) (N:=some 43) #[true,true,true,false,true,false,false,false,false,false,false] rfl rfl (by kernel_rfl) (fun _ _ _ h=>h) (Or.inl ⟨by rfl,by intro w';go_simp;with_reducible rfl⟩) (by simp only [Act.put,List.setIfInBounds_toArray,List.set_cons_zero,List.set_cons_succ,ae,af];rfl) ?_
   refine aq (i:=7) (N:=some 46) #[true,true,true,false,true,false,false,true,false,false,false] rfl rfl (by kernel_rfl) (fun _ _ _ h=>h) (Or.inl ⟨by rfl,by intro w';go_simp;with_reducible rfl⟩) (by simp only [Act.put,List.setIfInBounds_toArray,List.set_cons_zero,List.set_cons_succ,ae,af];rfl) ?_
   refine aq (i:=8) (N:=some 47) #[true,true,true,false,true,false,false,true,true,false,false] rfl rfl (by kernel_rfl) (fun _ _ _ h=>h) (Or.inl ⟨by rfl,by intro w';go_simp;with_reducible rfl⟩) (by simp only [Act.put,List.setIfInBounds_toArray,List.set_cons_zero,List.set_cons_succ,ae,af];rfl) ?_
   refine bn (i:=3) (N:=some 42) #[true,true,true,true,true,false,false,true,true,false,false] rfl rfl (by kernel_rfl) (fun _ _ _ h=>h) (Or.inl ⟨by rfl,by rintro w' ⟨s0,s1⟩;go_simp;with_reducible rfl⟩) hHeld (by simp only [Act.put,List.setIfInBounds_toArray,List.set_cons_zero,List.set_cons_succ,ae,af];rfl) ?_
   refine aq (i:=5) (N:=some 44) #[true,true,true,true,true,true,false,true,true,false,false] rfl rfl (by kernel_rfl) (fun _ _ _ h=>h) (Or.inl ⟨by rfl,by intro w';go_simp;with_reducible rfl⟩) (by simp only [Act.put,List.setIfInBounds_toArray,List.set_cons_zero,List.set_cons_succ,ae,af];rfl) ?_
   refine bn (i:=6) (N:=some 45) #[true,true,true,true,true,true,true,true,true,false,false] rfl rfl (by kernel_rfl) (fun _ _ _ h=>h) (Or.inl ⟨by rfl,by rintro w' ⟨s0,s1⟩;go_simp;with_reducible rfl⟩) hHeld (by simp only [Act.put,List.setIfInBounds_toArray,List.set_cons_zero,List.set_cons_succ,ae,af];rfl) ?_
   refine one_ (i:=9) (N:=some 48) #[true,true,true,true,true,true,true,true,true,true,false] rfl rfl (by kernel_rfl) (by decide) (fun Kc hK=>?_)
   refine cE Try.func101 (by kernel_rfl) rfl #[.pointer (some ⟨gp,0,none⟩),.int .i64 t] (by rfl) rfl rfl (by first|(simp only [List.map_toArray,List.map_cons,List.map_nil];done)|(simp only [List.map_toArray,List.map_cons,List.map_nil];rfl)) ?_
   with_reducible refine (row_calls gt gp K M G vg vl _ (hP0.out.below H.out.below) t htN.out hk1 hk2 hms hgk).mono ?_
   rintro e wm ⟨gq,rfl,hR⟩
   refine ⟨_,rfl,?_⟩
   have H1:=Aside0.mk (Hs.push H.out (hR.ge 0 rfl) (hR.get 0 rfl) hR.below)
   clear hR
   refine hK.out _ _ ⟨(H1.out.aJ 4 rfl 0 rfl),(H1.out.aJ 5 rfl r (hrc.out r hrl).1)⟩ (fun hHeld=>?_)
   clear hK Kc
   refine bz (a':=?_) ?_ ?_
   rotate_left
   ·show Act.put _ (some 48) _ = _
    simp only [Act.put,List.setIfInBounds_toArray,List.set_cons_zero,List.set_cons_succ,ae,af]
    rfl
   refine dX (i:=10) (N:=some 49) #[true,true,true,true,true,true,true,true,true,true,true] rfl rfl (by kernel_rfl) (by decide) (fun Kc hK=>?_)
   refine copy_stp rfl (.tmp 45) (.tmp 48) 37 5 1 rfl Try.underlying37 (by kernel_rfl) ga (off r) K (cap r) ⟨gq,0,none⟩ K K rfl rfl H1.out 6 dk rfl (nums .u8 (rowV K M G t)) K (off r) ?hmin rfl ?hn (row_src H1.out) ?hfit (nums_one _ _) ?_
   (case hmin=>simp only [Nat.min_def];split <;> omega)
   (case hn=>simp [nums,rowV])
   (case hfit=>rw [show (nums .u8 (rowV K M G t)).length = K by simp [nums,rowV]];exact hfit.out)
   intro w1 hH2
   have H2:=Aside0.mk hH2.tail
   clear hH2 H1
   refine hK.out _ _ ?_
   clear hK Kc
   refine bz (a':=?_) ?_ ?_
   rotate_left
   ·show Act.put _ (some 49) _ = _
    simp only [Act.put,List.setIfInBounds_toArray,List.set_cons_zero,List.set_cons_succ,ae,af]
    rfl
   refine cD (by kernel_rfl) ?_
   have H_:=Aside0.mk (show Hs w w1 ((h,.cells #[.slice (some ⟨hr_,0,none⟩) K cH,.pointer (some ⟨gt,0,none⟩)] 111 (0,0)) :: (hr_,.cells rh 37 (0,0)) :: (ha_,.cells dh 5 (0,0)) :: (g,.cells #[.slice (some ⟨gr,0,none⟩) K cR,.pointer (some ⟨gt,0,none⟩)] 111 (0,0)) :: (gr,.cells rc 37 (0,0)) :: (ga,.cells (splA dk (off r) (nums .u8 (rowV K M G t))) 5 (0,0)) :: Bx) from H2.out)
   clear H H2 hx0
   have H:=H_
   clear H_
   have hz0 : w1.cell? ⟨h,0,none⟩ = some (.slice (some ⟨hr_,0,none⟩) K cH):=H.out.aJ 0 rfl 0 rfl
   have hz1 : w1.cell? ⟨hr_,r,none⟩ = some (.slice (some ⟨ha_,offh r,none⟩) K (caph r)):=H.out.aJ 1 rfl r (hrh.out r hrl).1
   go_wp2_with (first
    | ((with_reducible refine bo (p:=58) rfl ?_);(try (refine au (by rfl) ?_;dsimp only));have hc_:=H.out.aJ 2 rfl (offh r + r) (hdh.out r r hrl hrl);have hf_:=H.out.frozen 2 rfl (offh r + r);refine dp (fun W=>World.setCell W ⟨ha_,offh r + r,none⟩ (.int .u8 1)) ?hg rfl ?hd ?hr ?_;(case hg=>rfl);(case hd=>rfl);(case hr=>first|(go_simp;done)|(go_simp;rfl));intro w2 hw;have H_:=Aside0.mk (show Hs w w2 ((h,.cells #[.slice (some ⟨hr_,0,none⟩) K cH,.pointer (some ⟨gt,0,none⟩)] 111 (0,0)) :: (hr_,.cells rh 37 (0,0)) :: (ha_,.cells (dh.setIfInBounds (offh r + r) (.int .u8 1)) 5 (0,0)) :: (g,.cells #[.slice (some ⟨gr,0,none⟩) K cR,.pointer (some ⟨gt,0,none⟩)] 111 (0,0)) :: (gr,.cells rc 37 (0,0)) :: (ga,.cells (splA dk (off r) (nums .u8 (rowV K M G t))) 5 (0,0)) :: Bx) from by rw [hw];exact H.out.set 2 rfl (offh r + r) (.int .u8 1));clear hw hc_ hf_ H;have H:=H_;clear H_;have hx9 : w2.cell? (ad2.add t) = some (.string (rdOf ByteArray.empty texts (t : Int))):=by { obtain ⟨a_,e_,h_⟩:=Kd.bu (Kd.a8 HD2.out H.out.below) (t : Int) (by omega) (by have:=hNl.out;omega);rw [Int.toNat_natCast] at h_;cases e_;exact h_ })
    | ((with_reducible refine ak (N:=65) rfl ?_);refine append_ev rfl (.tmp 59) (.tmp 64) 56 9 (.string ByteArray.empty) 1 16 rfl Try.underlying56 (by kernel_rfl) rfl (by decide) (by decide) _ r (encs Value.string ((b7 T texts).take r)) [.string (rdOf ByteArray.empty texts (t : Int))] rfl rfl rfl (fun u hu=>by rw [List.mem_singleton.1 hu];rfl) hX.out (Hs.comm (B:=[_,_,_,_,_,_]) H.out) hr64.out ?_;intro A1 z1 w3 B1 hB1 hH1;have hB2:=Aside0.mk hB1;have H_:=Aside0.mk (Hs.comm (L:=[_,_,_,_,_,_]) hH1);clear hB1 hH1 H;have H:=H_;clear H_))
   go_roundw
   case rel=>exact ⟨r + 1,_,_,B1,by omega,by go_num,Aside0.mk (copy_grid (N':=fun a b=>if a < r + 1 then takM K M G T a b else 0) hdk.out hap.out hrl hfit.out (fun b hb=>by
     show (if _ then _ else _ : Int) = _
     rw [if_pos (by omega)]
     unfold takM rowN
     rw [← ht.out,if_pos hb]) (fun a b ha hb hne=>by
     by_cases c : a < r
     ·rw [if_pos c,if_pos (by omega)]
     ·rw [if_neg c,if_neg (by omega)])),Aside0.mk (set_gridL (N':=fun a b=>if a = b ∧ a < r + 1 then 1 else 0) hdh.out haph.out hrl hrl (if_pos ⟨rfl,by omega⟩) (fun a b ha hb hne=>by
     by_cases c : a = b ∧ a < r
     ·rw [if_pos c,if_pos ⟨c.1,by omega⟩]
     ·rw [if_neg c,if_neg (fun e=>hne (by have:=e.1;subst this;have : ¬ a < r:=fun e2=>c ⟨rfl,e2⟩;omega))])),Aside0.mk (by
     have e : (b7 T texts).take (r + 1) = (b7 T texts).take r ++ [rdOf ByteArray.empty texts (t : Int)]:=by
      rw [List.take_succ_eq_append_getElem (by simp [b7];have:=hTL.out;omega)]
      congr 2
      simp [b7,ht.out,List.getD_eq_getElem?_getD,List.getElem?_eq_getElem (show r < T.length by have:=hTL.out;omega)]
     rw [e,encs_append];exact hB2.out),H⟩
   case measure=>simp [intOf];omega
  ·obtain rfl : K = r:=by omega
   have r1 : decide ((K : Int) < (K : Int)) = false:=decide_eq_false (by omega)
   have hGa:=Aside0.mk (show GridB gt g K K (takM K M G T) [(g,.cells #[.slice (some ⟨gr,0,none⟩) K cR,.pointer (some ⟨gt,0,none⟩)] 111 (0,0)),(gr,.cells rc 37 (0,0)),(ga,.cells dk 5 (0,0))] from
    ⟨gr,ga,cR,rc,dk,off,cap,rfl,hR1.out,hs1.out,hm1.out,hrc.out,fun a b ha hb=>by rw [hdk.out a b ha hb,if_pos ha],hap.out⟩)
   have hGb:=Aside0.mk (show GridB gt h K K idM [(h,.cells #[.slice (some ⟨hr_,0,none⟩) K cH,.pointer (some ⟨gt,0,none⟩)] 111 (0,0)),(hr_,.cells rh 37 (0,0)),(ha_,.cells dh 5 (0,0))] from
    ⟨hr_,ha_,cH,rh,dh,offh,caph,rfl,hR2.out,hs3.out,hm2.out,hrh.out,fun a b ha hb=>by
     rw [hdh.out a b ha hb]
     unfold idM
     by_cases c : a = b
     ·rw [if_pos ⟨c,ha⟩,if_pos c]
     ·rw [if_neg (fun e=>c e.1),if_neg c],haph.out⟩)
   have htl:=Aside0.mk (show (b7 T texts).length = K by simp [b7,hTL.out])
   have htn:=Aside0.mk (show ∀ j : Nat,j < (b7 T texts).length → (rdOf ByteArray.empty (b7 T texts) (j : Int)).size = n from fun j hj=>by
    rw [htl.out] at hj
    have e : rdOf ByteArray.empty (b7 T texts) (j : Int) = rdOf ByteArray.empty texts (T.getD j 0 : Nat):=by
     unfold b7
     rw [show ∀ (l : List ByteArray),rdOf ByteArray.empty l (j : Int) = l.getD j ByteArray.empty from fun l=>by unfold rdOf;rw [Int.toNat_natCast],List.getD_eq_getElem?_getD,List.getElem?_map,List.getD_eq_getElem?_getD,List.getElem?_eq_getElem (show j < T.length by have:=hTL.out;omega)]
     rfl
    rw [e];exact hn1.out j hj)
   have hXt:=Aside0.mk (show RowB 9 1 (.slice Ax K cx) K (encs Value.string (b7 T texts)) Bx by have h_:=hX.out;rwa [List.take_of_length_le (by have:=htl.out;omega)] at h_)
   have hiB:=Aside0.mk (show bD (invT_ K M G T) from (dK (R:=K) (C:=K) (C2:=K) (takM_byt (G:=G) hkm.out T) idM_byt K (Nat.le_refl _)).2.2)
   clear hdk hdh hX
   go_wp2_with (first
    | ((with_reducible refine ah (f:=64) rfl ?_);(try (refine au (by rfl) ?_;dsimp only));refine aH (some 70) rfl rfl Try.func64 (by kernel_rfl) rfl #[.pointer (some ⟨g,0,none⟩),.int .i64 K,.pointer (some ⟨h,0,none⟩)] rfl (by (try simp only [List.map_toArray,List.map_cons,List.map_nil]);first|done|rfl) ?_;(with_reducible refine (reduceO_calls gt g h K K K K (takM K M G T) idM [_,_,_] [_,_,_] Bx w _ hGa.out hGb.out (takM_byt hkm.out T) idM_byt (Nat.le_refl _) hk64 hk64 hk64 (fun W h_=>ab hP0.out.tab h_.below) (hs_front (B:=[_,_,_]) (B2:=[_,_,_]) H.out)).mono ?_);rintro e wD ⟨B3,B4,rfl,hG3,hG4,hH⟩;refine ⟨_,rfl,?_⟩;have hGi:=Aside0.mk hG4;clear hG3 hG4;have H_:=Aside0.mk (hH.left);clear H;have H:=H_;clear H_ hH)
    | ((with_reducible refine ak (N:=71) rfl ?_);refine lit_ev rfl rfl (cs:=#[]) (t:=9) (n:=0) ?hr ?_;(case hr=>first|(go_simp;done)|(go_simp;rfl));intro gou hg wou_ hbox hb;have hBou:=Aside0.mk (RowB.lit0 (e:=9) (size:=1) (g:=gou));have H_:=Aside0.mk (Hs.push H.out (Nat.le_of_eq hg.symm) hbox hb);clear hbox hb hg H;have H:=H_;clear H_;))
   go_loopw [13,73] (fun v13 v73 wr=>∃ (i : Nat) (Bo : List Blk),i ≤ K ∧ v73 = .int .i64 i ∧ Aside0 (RowB 9 1 v13 i (encs Value.string ((ck K M G n T texts).take i)) Bo) ∧ Aside0 (Hs w wr (Bo ++ (B4 ++ Bx)))) (fun _ i _=>K - (intOf i).toNat)
   case atStart=>exact ⟨0,_,by omega,rfl,hBou,H⟩
   case round=>
    clear H hBou
    obtain ⟨i,Bo,hi0,rfl,hO,H⟩:=hrel
    obtain ⟨Ao,co,hvo⟩:=hO.out.slice
    cases hvo
    have i0 : 0 ≤ (i : Int):=by omega
    by_cases hil : i < K
    ·have i1 : (i : Int) < (K : Int):=by omega
     obtain ⟨ha2,o2,cap2,gr2,cR2,hz0,hz1,hRC0⟩:=rows_C hGi.out H.out.left i hil hk64
     have hRC:=Aside0.mk (show Kd.C (Kd.int .u8) wr (some ⟨ha2,o2,none⟩) K ((List.range K).map (invT_ K M G T i)) from hRC0)
     have hTC:=Aside0.mk (show Kd.C Kd.string wr Ax (b7 T texts).length (b7 T texts) from (Kd.aE (e:=9) (base:=w.heap.size) (ok:=fun _=>True) (n:=K) (c:=cx) (Kd.R_of_own (by rw [htl.out];exact hXt.out.owns (L:=B4 ++ Bo) ((H.out.perm (List.perm_append_comm)).perm (by simpa [List.append_assoc] using (List.perm_append_comm (l₁:=B4) (l₂:=Bx)).append_right Bo |>.trans (by simp [List.append_assoc])))) (fun _ _=>trivial))).2.2)
     have hib:=Aside0.mk (show ∀ j : Nat,j < ((List.range K).map (invT_ K M G T i)).length → 0 ≤ rd ((List.range K).map (invT_ K M G T i)) (j : Int) ∧ rd ((List.range K).map (invT_ K M G T i)) (j : Int) ≤ 255 from fun j hj=>by
      have hj2 : j < K:=by simpa using hj
      have e : rd ((List.range K).map (invT_ K M G T i)) (j : Int) = invT_ K M G T i j:=by
       unfold rd
       rw [Int.toNat_natCast,List.getD_eq_getElem?_getD,List.getElem?_map,List.getElem?_range hj2];rfl
      rw [e];exact hiB.out i j)
     have hi64:=Aside0.mk (show (i + 1) * 16 ≤ 140737488355328 by omega)
     clear hRC0
     go_wp2_with (first
      | ((with_reducible refine ah (f:=100) rfl ?_);(try (refine au (by rfl) ?_;dsimp only));refine aH (some 86) rfl rfl Try.func100 (by kernel_rfl) rfl #[.pointer (some ⟨gp,0,none⟩),.slice (some ⟨ha2,o2,none⟩) K cap2,.slice Ax K cx] rfl (by (try simp only [List.map_toArray,List.map_cons,List.map_nil]);first|done|rfl) ?_;(with_reducible refine (mix_at gt gp K M G vg vl _ (hP0.out.below H.out.below) (some ⟨ha2,o2,none⟩) cap2 ((List.range K).map (invT_ K M G T i)) Ax cx (b7 T texts) n K K (by simp) htl.out (by have h_:=hRC.out;rwa [show ((List.range K).map (invT_ K M G T i)).length = K by simp]) hTC.out (by rw [htl.out];exact hk1) (by rw [htl.out];simp) (by rw [htl.out];omega) htn.out hn2.out hib.out).mono ?_);rintro e wD ⟨rfl,hb⟩;refine ⟨_,rfl,?_⟩;have H_:=Aside0.mk (H.out.call hb);clear H;have H:=H_;clear H_ hb)
      | ((with_reducible refine ak (N:=88) rfl ?_);refine append_ev rfl (.tmp 76) (.tmp 87) 56 9 (.string ByteArray.empty) 1 16 rfl Try.underlying56 (by kernel_rfl) rfl (by decide) (by decide) _ i (encs Value.string ((ck K M G n T texts).take i)) [.string (strOfNums ((List.range n).map (mixN ((List.range K).map (invT_ K M G T i)) (b7 T texts) K)))] rfl rfl rfl (fun u hu=>by rw [List.mem_singleton.1 hu];rfl) hO.out H.out hi64.out ?_;intro A1 z1 w3 B1 hB1 hH1;have hB2:=Aside0.mk hB1;have H_:=Aside0.mk hH1;clear hB1 hH1 H;have H:=H_;clear H_))
     go_roundw
     case rel=>exact ⟨i + 1,B1,by omega,by go_num,Aside0.mk (by
      rw [dataV_take K M G n T texts i hil,encs_append]
      exact hB2.out),H⟩
     case measure=>simp [intOf];omega
    ·obtain rfl : K = i:=by omega
     have i1 : decide ((K : Int) < (K : Int)) = false:=decide_eq_false (by omega)
     go_wp2_with fail
     go_ret
     refine ⟨_,rfl,Kd.R_of_own ?_ (fun _ _=>trivial),H.out.below⟩
     have ho:=hO.out.owns H.out
     have el : (ck K M G n T texts).length = K:=by simp [ck]
     rw [List.take_of_length_le (by omega)] at ho
     rw [el]
     exact ho
end Go.Proofs.Ytffhbpepppodeaa.Plant6
