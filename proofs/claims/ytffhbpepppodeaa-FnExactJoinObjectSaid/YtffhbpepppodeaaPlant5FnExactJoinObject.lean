import Derived.Test.YtffhbpepppodeaaPlant4FnExactJoinObject
namespace Go.Proofs.Ytffhbpepppodeaa.Plant5
open Go.RowKit Go.Proofs.YtffhbpepppodeaaW.PrintWords Go.Proofs.YtffhbpepppodeaaW.PrintLast Go.Proofs.YtffhbpepppodeaaW.PrintMore Go.Proofs.Ytffhbpepppodeaa.Hs Go.Proofs.Ytffhbpepppodeaa.Gf Go.Proofs.Ytffhbpepppodeaa.Grid Go.Proofs.Ytffhbpepppodeaa.Reduce Go.Proofs.Ytffhbpepppodeaa.Plant Go.Proofs.Ytffhbpepppodeaa.Plant2 Go.Proofs.Ytffhbpepppodeaa.Plant4
set_option linter.unusedVariables false
set_option linter.unusedSimpArgs false
def dG (K : Nat) (r s : Nat → Int) : Nat → Int:=if r (bx K s) = 0 then r else fun j=>Go.bits .xor .u8 (r j) (tmul (r (bx K s)) (s j))
def cC (K : Nat) (S : List (Nat → Int)) (r : Nat → Int) : Nat → Int:=S.foldl (dG K) r
def nrm (K : Nat) (r : Nat → Int) : Nat → Int:=fun j=>tmul (r j) (tinv (r (bx K r)))
theorem redOne_byte {K : Nat} {r s : Nat → Int} (hr : cN r) : cN (dG K r s):=fun j=>by
 unfold dG
 split
 ·exact hr j
 ·exact xor_byte _ _
theorem redAll_byte {K : Nat} : ∀ {S : List (Nat → Int)} {r : Nat → Int},cN r → cN (cC K S r)
 | [],r,h=>h
 | s :: S,r,h=>redAll_byte (S:=S) (redOne_byte h)
theorem redAll_snoc (K : Nat) (S : List (Nat → Int)) (s r : Nat → Int) : cC K (S ++ [s]) r = dG K (cC K S r) s:=by simp [cC]
theorem nrm_byte {K : Nat} {r : Nat → Int} (h : cN r) : cN (nrm K r):=fun j=>tmul_byte (h j) (cw (h _))
theorem tmul_tinv_ne {a : Int} (h : 0 ≤ a ∧ a ≤ 255) (h0 : a ≠ 0) : tmul a (tinv a) ≠ 0:=by
 obtain ⟨m,rfl⟩:=Int.eq_ofNat_of_zero_le h.1
 have key : ∀ m : Nat,m < 256 → (m : Int) ≠ 0 → tmul (m : Int) (tinv (m : Int)) ≠ 0:=by decide +kernel
 exact key m (by omega) h0
abbrev BSt:=List Nat × List (Nat → Int)
def bStep (K M G : Nat) (hv : List Bool) (st : BSt) (i : Nat) : BSt:=
 if rdOf false hv (i : Int) = false ∨ st.1.length = K then st else
 if bx K (cC K st.2 (rowN K M G i)) = K then st else (st.1 ++ [i],st.2 ++ [nrm K (cC K st.2 (rowN K M G i))])
def b9 (K M G : Nat) (hv : List Bool) : Nat → BSt
 | 0=>([],[])
 | i + 1=>bStep K M G hv (b9 K M G hv i) i
abbrev PR:=Nat × (Nat → Int)
def sl (K : Nat) (p : PR) : Value:=.slice (some ⟨p.1,0,none⟩) K K
def bk (K : Nat) (p : PR) : Blk:=(p.1,.cells (rowA K p.2) 5 (0,0))
theorem lead_at (g K l : Nat) (f : Nat → Int) (w : World) (hg : w.heap[g]? = some (.cells (rowA K f) 5 (0,0))) (hk2 : K ≤ 64) (hl : bx K f = l) (hl2 : l < K) : Calls Try.prog 129 #[.slice (some ⟨g,0,none⟩) K K] w fun e w'=>e = .returned (.int .i64 l) ∧ Drawn0 w w':=by
 have h:=lead_calls g K f w hg hk2
 have e : leadI K f = (l : Int):=by unfold leadI;rw [hl,if_pos hl2]
 rw [e] at h
 exact h
theorem lead_no (g K : Nat) (f : Nat → Int) (w : World) (hg : w.heap[g]? = some (.cells (rowA K f) 5 (0,0))) (hk2 : K ≤ 64) (hl : bx K f = K) : Calls Try.prog 129 #[.slice (some ⟨g,0,none⟩) K K] w fun e w'=>e = .returned (.int .i64 (-1)) ∧ Drawn0 w w':=by
 have h:=lead_calls g K f w hg hk2
 have e : leadI K f = -1:=by unfold leadI;rw [hl,if_neg (Nat.lt_irrefl _)]
 rw [e] at h
 exact h
theorem hs_p1 {w0 w : World} {x : Blk} {A B C : List Blk} (h : Hs w0 w (x :: (A ++ (B ++ C)))) : Hs w0 w (B ++ (x :: (A ++ C))):=h.perm (((List.perm_append_comm_assoc A B C).cons x).trans List.perm_middle.symm)
theorem hs_p2 {w0 w : World} {x : Blk} {A B C : List Blk} (h : Hs w0 w (B ++ (x :: (A ++ C)))) : Hs w0 w (A ++ (B ++ (x :: C))):=h.perm ((List.Perm.append_left B List.perm_middle.symm).trans (List.perm_append_comm_assoc _ _ _))
theorem hs_p3 {w0 w : World} {x : Blk} {A B C : List Blk} (h : Hs w0 w (A ++ (B ++ (x :: C)))) : Hs w0 w (A ++ (B ++ (C ++ [x]))):=h.perm (List.Perm.append_left A (List.Perm.append_left B (List.perm_append_singleton x C).symm))

set_option maxHeartbeats 8000000 in
set_option maxRecDepth 100000 in
theorem basis_calls (gt gp K M G : Nat) (vg vl : Value) (w : World) (hP : PlantAt w gt gp K M G vg vl) (A1 : Option Addr) (c1 : Nat) (hv : List Bool) (hd : Kd.C Kd.bool w A1 hv.length hv) (N : Nat) (hN0 : hv.length = N) (hs : K + M + G = N) (hs2 : N ≤ 64) (hk1 : 1 ≤ K) (hk2 : K ≤ 32) (hms : M ≤ 16) (hgk : G ≤ K) :
  Calls Try.prog 94 #[.pointer (some ⟨gp,0,none⟩),.slice A1 N c1] w fun e w'=>∃ v,e = .returned v ∧ Kd.R (Kd.int .i64) 3 w' w.heap.size (fun _=>True) v ((b9 K M G hv N).1.map Int.ofNat) ∧ Below w.heap.size w w':=by
 have hu1:=Try.underlying175
 have hu2:=Try.underlying43
 have HD:=Aside0.mk hd
 have hNl:=Aside0.mk hN0
 have hP0:=Aside0.mk hP
 have hsz:=Aside0.mk hs
 have hk64 : K ≤ 64:=by omega
 obtain ⟨_,q1,_,_,_,_⟩:=hP.cell
 have H:=Aside0.mk (Hs.nil w)
 clear hd hP hN0 hs
 go_enter Try.func94,Try.ntmps94
 go_wp2_with (first
  | ((with_reducible refine ak (N:=24) rfl ?_);refine lit_ev rfl rfl (cs:=#[]) (t:=3) (n:=0) ?hr ?_;(case hr=>first|(go_simp;done)|(go_simp;rfl));intro gtk hg wtk_ hbox hb;have hBtk:=Aside0.mk (RowB.lit0 (e:=3) (size:=1) (g:=gtk));have H_:=Aside0.mk (Hs.push H.out (Nat.le_of_eq hg.symm) hbox hb);clear hbox hb hg H;have H:=H_;clear H_;)
  | ((with_reducible refine ak (N:=25) rfl ?_);refine lit_ev rfl rfl (cs:=#[]) (t:=37) (n:=0) ?hr ?_;(case hr=>first|(go_simp;done)|(go_simp;rfl));intro gst hg wst_ hbox hb;have hBst:=Aside0.mk (RowB.lit0 (e:=37) (size:=1) (g:=gst));have H_:=Aside0.mk (Hs.push H.out (Nat.le_of_eq hg.symm) hbox hb);clear hbox hb hg H;have H:=H_;clear H_;))
 clear q1
 go_loopw [6,7,28] (fun v6 v7 v28 wr=>∃ (i : Nat) (T : List Nat) (P : List PR) (Bt Bs : List Blk),i ≤ N ∧ v28 = .int .i64 i ∧ Aside0 (b9 K M G hv i = (T,P.map (·.2))) ∧ Aside0 (P.length = T.length) ∧ Aside0 (∀ p ∈ P,cN p.2 ∧ bx K p.2 < K) ∧ T.length ≤ K ∧ Aside0 (RowB 3 1 v6 T.length (nums .i64 (T.map Int.ofNat)) Bt) ∧ Aside0 (RowB 37 1 v7 P.length (P.map (sl K)) Bs) ∧ Aside0 (Hs w wr (Bt ++ (Bs ++ P.map (bk K))))) (fun _ _ i _=>N - (intOf i).toNat)
 case atStart=>exact ⟨0,[],[],_,_,by omega,rfl,Aside0.mk rfl,Aside0.mk rfl,Aside0.mk (fun _ h=>by cases h),Nat.zero_le _,hBtk,hBst,Aside0.mk H.out.swap⟩
 case round=>
  clear H hBtk hBst
  obtain ⟨i,T,P,Bt,Bs,hi0,rfl,hbas,hPT,hPok,hTK,hT,hS,H⟩:=hrel
  obtain ⟨At,ct,hvt⟩:=hT.out.slice
  cases hvt
  obtain ⟨As,cs,hvs⟩:=hS.out.slice
  cases hvs
  have i0 : 0 ≤ (i : Int):=by omega
  have hP64 : P.length ≤ 64:=by have:=hPT.out;omega
  by_cases hlt : i < N
  ·have i1 : (i : Int) < (N : Int):=by omega
   obtain ⟨ad,ea,hx0⟩:=Kd.dH (Kd.a8 HD.out H.out.below) (i : Int) (by omega) (by have:=hNl.out;omega)
   cases ea
   rw [Int.toNat_natCast] at hx0
   by_cases hth : rdOf false hv (i : Int) = false
   ·have HB_:=Aside0.mk (show b9 K M G hv (i + 1) = (T,P.map (·.2)) by show bStep _ _ _ _ _ _ = _;rw [hbas.out];unfold bStep;rw [if_pos (Or.inl hth)])
    rw [hth] at hx0
    clear hth
    go_wp2_with fail
    go_roundw
    case rel=>exact ⟨i + 1,T,P,Bt,Bs,by omega,by go_num,HB_,hPT,hPok,hTK,hT,hS,H⟩
    case measure=>simp [intOf];omega
   have hth1 : rdOf false hv (i : Int) = true:=by cases h : rdOf false hv (i : Int) with|false=>exact absurd h hth|true=>rfl
   rw [hth1] at hx0
   have hth2:=Aside0.mk hth1
   clear hth hth1
   by_cases hfull : T.length = K
   ·have HB_:=Aside0.mk (show b9 K M G hv (i + 1) = (T,P.map (·.2)) by show bStep _ _ _ _ _ _ = _;rw [hbas.out];unfold bStep;rw [if_pos (Or.inr hfull)])
    have e1 : ((T.length : Int) == (K : Int)) = true:=by rw [beq_iff_eq];omega
    have e2 : (T.length == K) = true:=by rw [beq_iff_eq];omega
    have hf_:=Aside0.mk hfull
    clear hfull
    go_wp2_with fail
    go_roundw
    case rel=>exact ⟨i + 1,T,P,Bt,Bs,by omega,by go_num,HB_,hPT,hPok,hTK,hT,hS,H⟩
    case measure=>simp [intOf];omega
   have e1 : ((T.length : Int) == (K : Int)) = false:=by rw [beq_eq_false_iff_ne];omega
   have e2 : (T.length == K) = false:=by rw [beq_eq_false_iff_ne];omega
   have hf_:=Aside0.mk hfull
   have hTK2 : T.length < K:=by omega
   clear hfull
   have hiN : i < K + M + G:=by have:=hsz.out;omega
   go_wp2_with (first
    | ((with_reducible refine ah (f:=101) rfl ?_);(try (refine au (by rfl) ?_;dsimp only));refine aH (some 43) rfl rfl Try.func101 (by kernel_rfl) rfl #[.pointer (some ⟨gp,0,none⟩),.int .i64 i] rfl (by (try simp only [List.map_toArray,List.map_cons,List.map_nil]);first|done|rfl) ?_;(with_reducible refine (row_calls gt gp K M G vg vl _ (hP0.out.below H.out.below) i hiN hk1 hk2 hms hgk).mono ?_);rintro e wC ⟨gr,rfl,hR⟩;refine ⟨_,rfl,?_⟩;rw [rowV_rowA] at hR;have H_:=Aside0.mk (Hs.push H.out (hR.ge 0 rfl) (hR.get 0 rfl) hR.below);clear H;have H:=H_;clear H_ hR))
   clear hx0 e1 e2
   go_loopw [46] (fun v46 wr=>∃ q : Nat,q ≤ P.length ∧ v46 = .int .i64 q ∧ Aside0 (Hs w wr ((gr,.cells (rowA K (cC K ((P.map (·.2)).take q) (rowN K M G i))) 5 (0,0)) :: (Bt ++ (Bs ++ P.map (bk K)))))) (fun q _=>P.length - (intOf q).toNat)
   case atStart=>exact ⟨0,Nat.zero_le _,rfl,H⟩
   case round=>
    clear H
    obtain ⟨q,hq,rfl,H⟩:=hrel
    have q0 : 0 ≤ (q : Int):=by omega
    obtain ⟨r,hr0⟩ : ∃ r,r = (cC K ((P.map (·.2)).take q) (rowN K M G i)):=⟨_,rfl⟩
    have hr1:=Aside0.mk hr0
    have hr:=Aside0.mk (show cN r by rw [hr0];exact redAll_byte (dI (by have:=hsz.out;omega)))
    rw [← hr0] at H
    clear hr0
    by_cases hql : q < P.length
    ·have q1 : (q : Int) < (P.length : Int):=by omega
     obtain ⟨gS,capS,curS,e1,e2,e3,e4,e5,e6⟩:=hS.out.form (by omega)
     cases e1
     obtain ⟨⟨gs,s⟩,hps⟩ : ∃ p,P[q]? = some p:=⟨P[q],List.getElem?_eq_getElem hql⟩
     have hPq:=Aside0.mk (show (P.map (bk K))[q]? = some (gs,.cells (rowA K s) 5 (0,0)) by rw [List.getElem?_map,hps];rfl)
     obtain ⟨hsb,hsl⟩:=hPok.out (gs,s) (List.mem_of_getElem? hps)
     have hs:=Aside0.mk hsb
     obtain ⟨l,hl_⟩ : ∃ l,l = bx K s:=⟨_,rfl⟩
     have hl2 : l < K:=by rw [hl_];exact hsl
     have hl0:=Aside0.mk hl_.symm
     have hc9 : wr.cell? ⟨gS,q,none⟩ = some (.slice (some ⟨gs,0,none⟩) K K):=by
      have h_:=H.out.tail.left
      rw [e2] at h_
      exact h_.aJ 0 rfl q (by rw [e6 q (by omega),List.getElem?_map,hps];rfl)
     have l0 : 0 ≤ (l : Int):=by omega
     have l1 : (l : Int) < (K : Int):=by omega
     have hps_:=Aside0.mk hps
     have htk:=Aside0.mk (show cC K ((P.map (·.2)).take (q + 1)) (rowN K M G i) = dG K r s by
      rw [List.take_succ_eq_append_getElem (by rw [List.length_map];exact hql),redAll_snoc,← hr1.out,List.getElem_map]
      have : P[q] = (gs,s):=by rw [List.getElem?_eq_getElem hql] at hps;exact Option.some.inj hps
      rw [this])
     clear hsb hsl hl_ hps e6 e5 e2 e3 e4
     by_cases hz : r l = 0
     ·have hz1 : (r l != 0) = false:=by simpa using hz
      have HZ:=Aside0.mk (show dG K r s = r by unfold dG;rw [hl0.out,if_pos hz])
      clear hz
      go_wp2_with (first
       | ((with_reducible refine ah (f:=129) rfl ?_);(try (refine au (by rfl) ?_;dsimp only));refine aH (some 51) rfl rfl Try.func129 (by kernel_rfl) rfl #[.slice (some ⟨gs,0,none⟩) K K] rfl (by (try simp only [List.map_toArray,List.map_cons,List.map_nil]);first|done|rfl) ?_;(with_reducible refine (lead_at gs K l s _ (H.out.tail.left.left.get q hPq.out) hk64 hl0.out hl2).mono ?_);rintro e wD ⟨rfl,hd⟩;refine ⟨_,rfl,?_⟩;have H_:=Aside0.mk (H.out.draw hd);clear H;have H:=H_;clear H_ hd;have hcl : wD.cell? ⟨gr,l,none⟩ = some (.int .u8 (r l)):=H.out.aJ 0 rfl l (dR hl2)))
      go_roundw
      case rel=>exact ⟨q + 1,by omega,by go_num,Aside0.mk (by rw [htk.out,HZ.out];exact H.out)⟩
      case measure=>simp [intOf];omega
     ·have hz1 : (r l != 0) = true:=by simpa using hz
      have HZ:=Aside0.mk (show dG K r s = fun j=>Go.bits .xor .u8 (r j) (tmul (r l) (s j)) by unfold dG;rw [hl0.out,if_neg hz])
      clear hz
      go_wp2_with (first
       | ((with_reducible refine ah (f:=129) rfl ?_);(try (refine au (by rfl) ?_;dsimp only));refine aH (some 51) rfl rfl Try.func129 (by kernel_rfl) rfl #[.slice (some ⟨gs,0,none⟩) K K] rfl (by (try simp only [List.map_toArray,List.map_cons,List.map_nil]);first|done|rfl) ?_;(with_reducible refine (lead_at gs K l s _ (H.out.tail.left.left.get q hPq.out) hk64 hl0.out hl2).mono ?_);rintro e wD ⟨rfl,hd⟩;refine ⟨_,rfl,?_⟩;have H_:=Aside0.mk (H.out.draw hd);clear H;have H:=H_;clear H_ hd;have hcl : wD.cell? ⟨gr,l,none⟩ = some (.int .u8 (r l)):=H.out.aJ 0 rfl l (dR hl2)))
      clear hc9 hcl
      go_loopw [60] (fun v60 wr=>∃ k : Nat,k ≤ K ∧ v60 = .int .i64 k ∧ Aside0 (Hs w wr ((gr,.cells (rowA K (fun j=>if j < k then Go.bits .xor .u8 (r j) (tmul (r l) (s j)) else r j)) 5 (0,0)) :: (Bt ++ (Bs ++ P.map (bk K)))))) (fun k _=>K - (intOf k).toNat)
      case atStart=>exact ⟨0,Nat.zero_le _,rfl,Aside0.mk (by rw [rowA_congr (g:=r) (fun j hj=>if_neg (by omega))];exact H.out)⟩
      case round=>
       clear H
       obtain ⟨k,hk,rfl,H⟩:=hrel
       have k0 : 0 ≤ (k : Int):=by omega
       by_cases hkl : k < K
       ·have k1 : (k : Int) < (K : Int):=by omega
        have hrk:=Aside0.mk (show (rowA K (fun j=>if j < k then Go.bits .xor .u8 (r j) (tmul (r l) (s j)) else r j))[k]? = some (.int .u8 (r k)) by rw [dR hkl,if_neg (by omega)])
        have hc0 : wr.cell? ⟨gr,k,none⟩ = some (.int .u8 (r k)):=H.out.aJ 0 rfl k hrk.out
        have hc1 : wr.cell? ⟨gp,0,none⟩ = some (.pointer (some ⟨gt,0,none⟩)):=(hP0.out.below H.out.below).cell.1
        have hc2 : wr.cell? ⟨gs,k,none⟩ = some (.int .u8 (s k)):=H.out.tail.left.left.aJ q hPq.out k (dR hkl)
        go_wp2_with fail
        refine bW (n:=17) (S:=fun w'=>w'.cell? ⟨gr,k,none⟩ = some (.int .u8 (r k)) ∧ w'.cell? ⟨gp,0,none⟩ = some (.pointer (some ⟨gt,0,none⟩)) ∧ w'.cell? ⟨gs,k,none⟩ = some (.int .u8 (s k))) (ds:=[16]) #[false,false,false,false,false,false,false,false,false,false,false,false,false,false,false,false,false] (by kernel_rfl) rfl rfl ⟨hc0,hc1,hc2⟩ (fun hHeld=>?_)
        have H_:=Aside0.mk H.out.drew
        have hPd:=Aside0.mk (hP0.out.below H_.out.below)
        clear H hc0 hc1 hc2
        have H:=H_
        clear H_
        generalize wr.drew = wd at H hPd hHeld ⊢
        refine aq (i:=0) (N:=some 63) #[true,false,false,false,false,false,false,false,false,false,false,false,false,false,false,false,false] rfl rfl (by kernel_rfl) (fun _ _ _ h=>h) (Or.inl ⟨by rfl,by intro w';go_simp;with_reducible rfl⟩) (by simp only [Act.put,List.setIfInBounds_toArray,List.set_cons_zero,List.set_cons_succ,ae,af];rfl) ?_
        refine aq (i:=1) (N:=some 64) #[true,true,false,false,false,false,false,false,false,false,false,false,false,false,false,false,false] rfl rfl (by kernel_rfl) (fun _ _ _ h=>h) (Or.inl ⟨by rfl,by intro w';go_simp;with_reducible rfl⟩) (by simp only [Act.put,List.setIfInBounds_toArray,List.set_cons_zero,List.set_cons_succ,ae,af];rfl) ?_
        refine aq (i:=2) (N:=some 65) #[true,true,true,false,false,false,false,false,false,false,false,false,false,false,false,false,false] rfl rfl (by kernel_rfl) (fun _ _ _ h=>h) (Or.inl ⟨by rfl,by intro w';go_simp;with_reducible rfl⟩) (by simp only [Act.put,List.setIfInBounds_toArray,List.set_cons_zero,List.set_cons_succ,ae,af];rfl) ?_
        refine aq (i:=4) (N:=some 67) #[true,true,true,false,true,false,false,false,false,false,false,false,false,false,false,false,false] rfl rfl (by kernel_rfl) (fun _ _ _ h=>h) (Or.inl ⟨by rfl,by intro w';go_simp;with_reducible rfl⟩) (by simp only [Act.put,List.setIfInBounds_toArray,List.set_cons_zero,List.set_cons_succ,ae,af];rfl) ?_
        refine aq (i:=5) (N:=some 68) #[true,true,true,false,true,true,false,false,false,false,false,false,false,false,false,false,false] rfl rfl (by kernel_rfl) (fun _ _ _ h=>h) (Or.inl ⟨by rfl,by intro w';go_simp;with_reducible rfl⟩) (by simp only [Act.put,List.setIfInBounds_toArray,List.set_cons_zero,List.set_cons_succ,ae,af];rfl) ?_
        refine aq (i:=6) (N:=some 69) #[true,true,true,false,true,true,true,false,false,false,false,false,false,false,false,false,false] rfl rfl (by kernel_rfl) (fun _ _ _ h=>h) (Or.inl ⟨by rfl,by intro w';go_simp;with_reducible rfl⟩) (by simp only [Act.put,List.setIfInBounds_toArray,List.set_cons_zero,List.set_cons_succ,ae,af];rfl) ?_
        refine aq (i:=8) (N:=some 71) #[true,true,true,false,true,true,true,false,true,false,false,false,false,false,false,false,false] rfl rfl (by kernel_rfl) (fun _ _ _ h=>h) (Or.inl ⟨by rfl,by intro w';go_simp;with_reducible rfl⟩) (by simp only [Act.put,List.setIfInBounds_toArray,List.set_cons_zero,List.set_cons_succ,ae,af];rfl) ?_
        refine aq (i:=9) (N:=some 72) #[true,true,true,false,true,true,true,false,true,true,false,false,false,false,false,false,false] rfl rfl (by kernel_rfl) (fun _ _ _ h=>h) (Or.inl ⟨by rfl,by intro w';go_simp;with_reducible rfl⟩) (by simp only [Act.put,List.setIfInBounds_toArray,List.set_cons_zero,List.set_cons_succ,ae,af];rfl) ?_
        refine aq (i:=10) (N:=some 73) #[true,true,true,false,true,true,true,false,true,true,true,false,false,false,false,false,false] rfl rfl (by kernel_rfl) (fun _ _ _ h=>h) (Or.inl ⟨by rfl,by intro w';go_simp;with_reducible rfl⟩) (by simp only [Act.put,List.setIfInBounds_toArray,List.set_cons_zero,List.set_cons_succ,ae,af];rfl) ?_
        refine aq (i:=11) (N:=some 74) #[true,true,true,false,true,true,true,false,true,true,true,true,false,false,false,false,false] rfl rfl (by kernel_rfl) (fun _ _ _ h=>h) (Or.inl ⟨by rfl,by intro w';go_simp;with_reducible rfl⟩) (by simp only [Act.put,List.setIfInBounds_toArray,List.set_cons_zero,List.set_cons_succ,ae,af];rfl) ?_
        refine bn (i:=3) (N:=some 66) #[true,true,true,true,true,true,true,false,true,true,true,true,false,false,false,false,false] rfl rfl (by kernel_rfl) (fun _ _ _ h=>h) (Or.inl ⟨by rfl,by rintro w' ⟨s0,s1,s2⟩;go_simp;with_reducible rfl⟩) hHeld (by simp only [Act.put,List.setIfInBounds_toArray,List.set_cons_zero,List.set_cons_succ,ae,af];rfl) ?_
        refine bn (i:=7) (N:=some 70) #[true,true,true,true,true,true,true,true,true,true,true,true,false,false,false,false,false] rfl rfl (by kernel_rfl) (fun _ _ _ h=>h) (Or.inl ⟨by rfl,by rintro w' ⟨s0,s1,s2⟩;go_simp;with_reducible rfl⟩) hHeld (by simp only [Act.put,List.setIfInBounds_toArray,List.set_cons_zero,List.set_cons_succ,ae,af];rfl) ?_
        refine bn (i:=12) (N:=some 75) #[true,true,true,true,true,true,true,true,true,true,true,true,true,false,false,false,false] rfl rfl (by kernel_rfl) (fun _ _ _ h=>h) (Or.inl ⟨by rfl,by rintro w' ⟨s0,s1,s2⟩;go_simp;with_reducible rfl⟩) hHeld (by simp only [Act.put,List.setIfInBounds_toArray,List.set_cons_zero,List.set_cons_succ,ae,af];rfl) ?_
        refine one_ (i:=13) (N:=some 76) #[true,true,true,true,true,true,true,true,true,true,true,true,true,true,false,false,false] rfl rfl (by kernel_rfl) (by decide) (fun Kc hK=>?_)
        refine cE Try.func80 (by kernel_rfl) rfl #[.pointer (some ⟨gt,0,none⟩),.int .u8 (r l),.int .u8 (s k)] (by rfl) rfl rfl (by first|(simp only [List.map_toArray,List.map_cons,List.map_nil];done)|(simp only [List.map_toArray,List.map_cons,List.map_nil];rfl)) ?_
        with_reducible refine (mul_calls gt (r l) (s k) _ (hPd.out).tab (hr.out l).1 (hr.out l).2 (hs.out k).1 (hs.out k).2).mono ?_
        rintro e wm ⟨rfl,hd⟩
        refine ⟨_,rfl,?_⟩
        have H1:=Aside0.mk (H.out.draw hd)
        have hP1:=Aside0.mk (hPd.out.draw hd)
        clear hd
        have hx1 : wm.cell? ⟨gr,k,none⟩ = some (.int .u8 (r k)):=H1.out.aJ 0 rfl k hrk.out
        have hxf:=H1.out.frozen 0 rfl k
        refine hK.out _ _ ⟨hx1,(hP1.out.cell).1,(H1.out.tail.left.left.aJ q hPq.out k (dR hkl))⟩ (fun hHeld=>?_)
        clear hK Kc
        refine bz (a':=?_) ?_ ?_
        rotate_left
        ·show Act.put _ (some 76) _ = _
         simp only [Act.put,List.setIfInBounds_toArray,List.set_cons_zero,List.set_cons_succ,ae,af]
         rfl
        refine aq (i:=14) (N:=some 77) #[true,true,true,true,true,true,true,true,true,true,true,true,true,true,true,false,false] rfl rfl (by kernel_rfl) (fun _ _ _ h=>h) (Or.inl ⟨by rfl,by intro w';go_simp;with_reducible rfl⟩) (by simp only [Act.put,List.setIfInBounds_toArray,List.set_cons_zero,List.set_cons_succ,ae,af];rfl) ?_
        refine aq (i:=15) (N:=some 78) #[true,true,true,true,true,true,true,true,true,true,true,true,true,true,true,true,false] rfl rfl (by kernel_rfl) (fun _ _ _ h=>h) (Or.inl ⟨by rfl,by intro w';go_simp;with_reducible rfl⟩) (by simp only [Act.put,List.setIfInBounds_toArray,List.set_cons_zero,List.set_cons_succ,ae,af];rfl) ?_
        refine dX (i:=16) (N:=none) #[true,true,true,true,true,true,true,true,true,true,true,true,true,true,true,true,true] rfl rfl (by kernel_rfl) (by decide) (fun Kc hK=>?_)
        refine dA (w1:=?_) (by rfl) rfl ?_ ?_
        rotate_left
        ·go_simp
         rfl
        refine hK.out _ _ ?_
        clear hK Kc
        refine cD (by kernel_rfl) ?_
        go_wp2
        go_roundw
        case rel=>exact ⟨k + 1,by omega,by go_num,Aside0.mk (by
         have h_:=H1.out.set 0 rfl k (.int .u8 (Go.bits .xor .u8 (r k) (tmul (r l) (s k))))
         rw [List.set_cons_zero,rowA_set (g:=fun j=>if j < k + 1 then Go.bits .xor .u8 (r j) (tmul (r l) (s j)) else r j) hkl (if_pos (by omega)) (fun j hj hne=>by
          by_cases c : j < k
          ·rw [if_pos c,if_pos (by omega)]
          ·rw [if_neg c,if_neg (by omega)])] at h_
         exact h_)⟩
        case measure=>simp [intOf];omega
       ·obtain rfl : K = k:=by omega
        have k1 : decide ((K : Int) < (K : Int)) = false:=decide_eq_false (by omega)
        go_wp2_with fail
        go_roundw
        case rel=>exact ⟨q + 1,by omega,by go_num,Aside0.mk (by rw [htk.out,HZ.out,← rowA_congr (f:=fun j=>if j < K then Go.bits .xor .u8 (r j) (tmul (r l) (s j)) else r j) (fun j hj=>if_pos hj)];exact H.out)⟩
        case measure=>simp [intOf];omega
    ·have hq9 : q = P.length:=by omega
     have q1 : decide ((q : Int) < (P.length : Int)) = false:=decide_eq_false (by omega)
     have hrF:=Aside0.mk (show r = cC K (P.map (·.2)) (rowN K M G i) by rw [hr1.out,List.take_of_length_le (by rw [List.length_map];omega)])
     have hstep:=Aside0.mk (show b9 K M G hv (i + 1) = if bx K r = K then (T,P.map (·.2)) else (T ++ [i],P.map (·.2) ++ [nrm K r]) by
      show bStep _ _ _ _ _ _ = _
      rw [hbas.out]
      unfold bStep
      rw [if_neg (fun h=>h.elim (fun h=>by rw [hth2.out] at h;cases h) (fun h=>hf_.out h)),← hrF.out])
     clear hq9 hr1
     by_cases hrl0 : bx K r = K
     ·have hrl:=Aside0.mk hrl0
      clear hrl0
      go_wp2_with (first
       | ((with_reducible refine ah (f:=129) rfl ?_);(try (refine au (by rfl) ?_;dsimp only));refine aH (some 82) rfl rfl Try.func129 (by kernel_rfl) rfl #[.slice (some ⟨gr,0,none⟩) K K] rfl (by (try simp only [List.map_toArray,List.map_cons,List.map_nil]);first|done|rfl) ?_;(with_reducible refine (lead_no gr K r _ (H.out.get 0 rfl) hk64 hrl.out).mono ?_);rintro e wE ⟨rfl,hd⟩;refine ⟨_,rfl,?_⟩;have H_:=Aside0.mk (H.out.draw hd);clear H;have H:=H_;clear H_ hd))
      go_roundw
      case rel=>exact ⟨i + 1,T,P,Bt,Bs,by omega,by go_num,Aside0.mk (by rw [hstep.out,if_pos hrl.out]),hPT,hPok,hTK,hT,hS,Aside0.mk H.out.tail⟩
      case measure=>simp [intOf];omega
     ·have hrl:=Aside0.mk hrl0
      obtain ⟨l,hl_⟩ : ∃ l,l = bx K r:=⟨_,rfl⟩
      have hl2 : l < K:=by have:=leadN_le K r;omega
      have hl0:=Aside0.mk hl_.symm
      have l0 : 0 ≤ (l : Int):=by omega
      have l1 : (l : Int) < (K : Int):=by omega
      clear hrl0 hl_
      go_wp2_with (first
       | ((with_reducible refine ah (f:=129) rfl ?_);(try (refine au (by rfl) ?_;dsimp only));refine aH (some 82) rfl rfl Try.func129 (by kernel_rfl) rfl #[.slice (some ⟨gr,0,none⟩) K K] rfl (by (try simp only [List.map_toArray,List.map_cons,List.map_nil]);first|done|rfl) ?_;(with_reducible refine (lead_at gr K l r _ (H.out.get 0 rfl) hk64 hl0.out hl2).mono ?_);rintro e wE ⟨rfl,hd⟩;refine ⟨_,rfl,?_⟩;have H_:=Aside0.mk (H.out.draw hd);clear H;have H:=H_;clear H_ hd;have hc0 : wE.cell? ⟨gp,0,none⟩ = some (.pointer (some ⟨gt,0,none⟩)):=(hP0.out.below H.out.below).cell.1;have hc1 : wE.cell? ⟨gr,l,none⟩ = some (.int .u8 (r l)):=H.out.aJ 0 rfl l (dR hl2)))
      refine bW (n:=10) (S:=fun w'=>w'.cell? ⟨gp,0,none⟩ = some (.pointer (some ⟨gt,0,none⟩)) ∧ w'.cell? ⟨gr,l,none⟩ = some (.int .u8 (r l))) (ds:=[]) #[false,false,false,false,false,false,false,false,false,false] (by kernel_rfl) rfl rfl ⟨hc0,hc1⟩ (fun hHeld=>?_)
      have H_:=Aside0.mk H.out.drew
      have hPd:=Aside0.mk (hP0.out.below H_.out.below)
      clear H hc0 hc1
      have H:=H_
      clear H_
      generalize wE.drew = wd at H hPd hHeld ⊢
      refine aq (i:=0) (N:=some 85) #[true,false,false,false,false,false,false,false,false,false] rfl rfl (by kernel_rfl) (fun _ _ _ h=>h) (Or.inl ⟨by rfl,by intro w';go_simp;with_reducible rfl⟩) (by simp only [Act.put,List.setIfInBounds_toArray,List.set_cons_zero,List.set_cons_succ,ae,af];rfl) ?_
      refine aq (i:=1) (N:=some 86) #[true,true,false,false,false,false,false,false,false,false] rfl rfl (by kernel_rfl) (fun _ _ _ h=>h) (Or.inl ⟨by rfl,by intro w';go_simp;with_reducible rfl⟩) (by simp only [Act.put,List.setIfInBounds_toArray,List.set_cons_zero,List.set_cons_succ,ae,af];rfl) ?_
      refine aq (i:=2) (N:=some 87) #[true,true,true,false,false,false,false,false,false,false] rfl rfl (by kernel_rfl) (fun _ _ _ h=>h) (Or.inl ⟨by rfl,by intro w';go_simp;with_reducible rfl⟩) (by simp only [Act.put,List.setIfInBounds_toArray,List.set_cons_zero,List.set_cons_succ,ae,af];rfl) ?_
      refine aq (i:=4) (N:=some 89) #[true,true,true,false,true,false,false,false,false,false] rfl rfl (by kernel_rfl) (fun _ _ _ h=>h) (Or.inl ⟨by rfl,by intro w';go_simp;with_reducible rfl⟩) (by simp only [Act.put,List.setIfInBounds_toArray,List.set_cons_zero,List.set_cons_succ,ae,af];rfl) ?_
      refine aq (i:=5) (N:=some 90) #[true,true,true,false,true,true,false,false,false,false] rfl rfl (by kernel_rfl) (fun _ _ _ h=>h) (Or.inl ⟨by rfl,by intro w';go_simp;with_reducible rfl⟩) (by simp only [Act.put,List.setIfInBounds_toArray,List.set_cons_zero,List.set_cons_succ,ae,af];rfl) ?_
      refine aq (i:=6) (N:=some 91) #[true,true,true,false,true,true,true,false,false,false] rfl rfl (by kernel_rfl) (fun _ _ _ h=>h) (Or.inl ⟨by rfl,by intro w';go_simp;with_reducible rfl⟩) (by simp only [Act.put,List.setIfInBounds_toArray,List.set_cons_zero,List.set_cons_succ,ae,af];rfl) ?_
      refine bn (i:=3) (N:=some 88) #[true,true,true,true,true,true,true,false,false,false] rfl rfl (by kernel_rfl) (fun _ _ _ h=>h) (Or.inl ⟨by rfl,by rintro w' ⟨s0,s1⟩;go_simp;with_reducible rfl⟩) hHeld (by simp only [Act.put,List.setIfInBounds_toArray,List.set_cons_zero,List.set_cons_succ,ae,af];rfl) ?_
      refine bn (i:=7) (N:=some 92) #[true,true,true,true,true,true,true,true,false,false] rfl rfl (by kernel_rfl) (fun _ _ _ h=>h) (Or.inl ⟨by rfl,by rintro w' ⟨s0,s1⟩;go_simp;with_reducible rfl⟩) hHeld (by simp only [Act.put,List.setIfInBounds_toArray,List.set_cons_zero,List.set_cons_succ,ae,af];rfl) ?_
      refine one_ (i:=8) (N:=some 93) #[true,true,true,true,true,true,true,true,true,false] rfl rfl (by kernel_rfl) (by decide) (fun Kc hK=>?_)
      refine cE Try.func120 (by kernel_rfl) rfl #[.pointer (some ⟨gt,0,none⟩),.int .u8 (r l)] (by rfl) rfl rfl (by first|(simp only [List.map_toArray,List.map_cons,List.map_nil];done)|(simp only [List.map_toArray,List.map_cons,List.map_nil];rfl)) ?_
      with_reducible refine (inv_calls gt (r l) _ (hPd.out).tab (hr.out l).1 (hr.out l).2).mono ?_
      rintro e wm ⟨rfl,hd⟩
      refine ⟨_,rfl,?_⟩
      have H_:=Aside0.mk (H.out.draw hd)
      have hP1:=Aside0.mk (hPd.out.draw hd)
      clear hd H
      have H:=H_
      clear H_
      refine hK.out _ _ ⟨(hP1.out.cell).1,(H.out.aJ 0 rfl l (dR hl2))⟩ (fun hHeld=>?_)
      clear hK Kc
      refine bz (a':=?_) ?_ ?_
      rotate_left
      ·show Act.put _ (some 93) _ = _
       simp only [Act.put,List.setIfInBounds_toArray,List.set_cons_zero,List.set_cons_succ,ae,af]
       rfl
      refine aq (i:=9) (N:=some 17) #[true,true,true,true,true,true,true,true,true,true] rfl rfl (by kernel_rfl) (fun _ _ _ h=>h) (Or.inl ⟨by rfl,by intro w';go_simp;with_reducible rfl⟩) (by simp only [Act.put,List.setIfInBounds_toArray,List.set_cons_zero,List.set_cons_succ,ae,af];rfl) ?_
      refine cD (by kernel_rfl) ?_
      go_wp2
      go_loopw [96] (fun v96 wr=>∃ k : Nat,k ≤ K ∧ v96 = .int .i64 k ∧ Aside0 (Hs w wr ((gr,.cells (rowA K (fun j=>if j < k then tmul (r j) (tinv (r l)) else r j)) 5 (0,0)) :: (Bt ++ (Bs ++ P.map (bk K)))))) (fun k _=>K - (intOf k).toNat)
      case atStart=>exact ⟨0,Nat.zero_le _,rfl,Aside0.mk (by rw [rowA_congr (g:=r) (fun j hj=>if_neg (by omega))];exact H.out)⟩
      case round=>
       clear H
       obtain ⟨k,hk,rfl,H⟩:=hrel
       have k0 : 0 ≤ (k : Int):=by omega
       by_cases hkl : k < K
       ·have k1 : (k : Int) < (K : Int):=by omega
        have hrk:=Aside0.mk (show (rowA K (fun j=>if j < k then tmul (r j) (tinv (r l)) else r j))[k]? = some (.int .u8 (r k)) by rw [dR hkl,if_neg (by omega)])
        have hc1 : wr.cell? ⟨gr,k,none⟩ = some (.int .u8 (r k)):=H.out.aJ 0 rfl k hrk.out
        have hc0 : wr.cell? ⟨gp,0,none⟩ = some (.pointer (some ⟨gt,0,none⟩)):=(hP0.out.below H.out.below).cell.1
        go_wp2_with fail
        refine bW (n:=14) (S:=fun w'=>w'.cell? ⟨gp,0,none⟩ = some (.pointer (some ⟨gt,0,none⟩)) ∧ w'.cell? ⟨gr,k,none⟩ = some (.int .u8 (r k))) (ds:=[13]) #[false,false,false,false,false,false,false,false,false,false,false,false,false,false] (by kernel_rfl) rfl rfl ⟨hc0,hc1⟩ (fun hHeld=>?_)
        have H_:=Aside0.mk H.out.drew
        have hPd:=Aside0.mk (hP0.out.below H_.out.below)
        clear H hc0 hc1
        have H:=H_
        clear H_
        generalize wr.drew = wd at H hPd hHeld ⊢
        refine aq (i:=0) (N:=some 99) #[true,false,false,false,false,false,false,false,false,false,false,false,false,false] rfl rfl (by kernel_rfl) (fun _ _ _ h=>h) (Or.inl ⟨by rfl,by intro w';go_simp;with_reducible rfl⟩) (by simp only [Act.put,List.setIfInBounds_toArray,List.set_cons_zero,List.set_cons_succ,ae,af];rfl) ?_
        refine aq (i:=1) (N:=some 100) #[true,true,false,false,false,false,false,false,false,false,false,false,false,false] rfl rfl (by kernel_rfl) (fun _ _ _ h=>h) (Or.inl ⟨by rfl,by intro w';go_simp;with_reducible rfl⟩) (by simp only [Act.put,List.setIfInBounds_toArray,List.set_cons_zero,List.set_cons_succ,ae,af];rfl) ?_
        refine aq (i:=2) (N:=some 101) #[true,true,true,false,false,false,false,false,false,false,false,false,false,false] rfl rfl (by kernel_rfl) (fun _ _ _ h=>h) (Or.inl ⟨by rfl,by intro w';go_simp;with_reducible rfl⟩) (by simp only [Act.put,List.setIfInBounds_toArray,List.set_cons_zero,List.set_cons_succ,ae,af];rfl) ?_
        refine aq (i:=3) (N:=some 102) #[true,true,true,true,false,false,false,false,false,false,false,false,false,false] rfl rfl (by kernel_rfl) (fun _ _ _ h=>h) (Or.inl ⟨by rfl,by intro w';go_simp;with_reducible rfl⟩) (by simp only [Act.put,List.setIfInBounds_toArray,List.set_cons_zero,List.set_cons_succ,ae,af];rfl) ?_
        refine aq (i:=4) (N:=some 103) #[true,true,true,true,true,false,false,false,false,false,false,false,false,false] rfl rfl (by kernel_rfl) (fun _ _ _ h=>h) (Or.inl ⟨by rfl,by intro w';go_simp;with_reducible rfl⟩) (by simp only [Act.put,List.setIfInBounds_toArray,List.set_cons_zero,List.set_cons_succ,ae,af];rfl) ?_
        refine aq (i:=6) (N:=some 105) #[true,true,true,true,true,false,true,false,false,false,false,false,false,false] rfl rfl (by kernel_rfl) (fun _ _ _ h=>h) (Or.inl ⟨by rfl,by intro w';go_simp;with_reducible rfl⟩) (by simp only [Act.put,List.setIfInBounds_toArray,List.set_cons_zero,List.set_cons_succ,ae,af];rfl) ?_
        refine aq (i:=7) (N:=some 106) #[true,true,true,true,true,false,true,true,false,false,false,false,false,false] rfl rfl (by kernel_rfl) (fun _ _ _ h=>h) (Or.inl ⟨by rfl,by intro w';go_simp;with_reducible rfl⟩) (by simp only [Act.put,List.setIfInBounds_toArray,List.set_cons_zero,List.set_cons_succ,ae,af];rfl) ?_
        refine aq (i:=8) (N:=some 107) #[true,true,true,true,true,false,true,true,true,false,false,false,false,false] rfl rfl (by kernel_rfl) (fun _ _ _ h=>h) (Or.inl ⟨by rfl,by intro w';go_simp;with_reducible rfl⟩) (by simp only [Act.put,List.setIfInBounds_toArray,List.set_cons_zero,List.set_cons_succ,ae,af];rfl) ?_
        refine aq (i:=10) (N:=some 109) #[true,true,true,true,true,false,true,true,true,false,true,false,false,false] rfl rfl (by kernel_rfl) (fun _ _ _ h=>h) (Or.inl ⟨by rfl,by intro w';go_simp;with_reducible rfl⟩) (by simp only [Act.put,List.setIfInBounds_toArray,List.set_cons_zero,List.set_cons_succ,ae,af];rfl) ?_
        refine bn (i:=5) (N:=some 104) #[true,true,true,true,true,true,true,true,true,false,true,false,false,false] rfl rfl (by kernel_rfl) (fun _ _ _ h=>h) (Or.inl ⟨by rfl,by rintro w' ⟨s0,s1⟩;go_simp;with_reducible rfl⟩) hHeld (by simp only [Act.put,List.setIfInBounds_toArray,List.set_cons_zero,List.set_cons_succ,ae,af];rfl) ?_
        refine bn (i:=9) (N:=some 108) #[true,true,true,true,true,true,true,true,true,true,true,false,false,false] rfl rfl (by kernel_rfl) (fun _ _ _ h=>h) (Or.inl ⟨by rfl,by rintro w' ⟨s0,s1⟩;go_simp;with_reducible rfl⟩) hHeld (by simp only [Act.put,List.setIfInBounds_toArray,List.set_cons_zero,List.set_cons_succ,ae,af];rfl) ?_
        refine one_ (i:=11) (N:=some 110) #[true,true,true,true,true,true,true,true,true,true,true,true,false,false] rfl rfl (by kernel_rfl) (by decide) (fun Kc hK=>?_)
        refine cE Try.func80 (by kernel_rfl) rfl #[.pointer (some ⟨gt,0,none⟩),.int .u8 (r k),.int .u8 (tinv (r l))] (by rfl) rfl rfl (by first|(simp only [List.map_toArray,List.map_cons,List.map_nil];done)|(simp only [List.map_toArray,List.map_cons,List.map_nil];rfl)) ?_
        with_reducible refine (mul_calls gt (r k) (tinv (r l)) _ (hPd.out).tab (hr.out k).1 (hr.out k).2 (cw (hr.out l)).1 (cw (hr.out l)).2).mono ?_
        rintro e wm ⟨rfl,hd⟩
        refine ⟨_,rfl,?_⟩
        have H1:=Aside0.mk (H.out.draw hd)
        have hP1:=Aside0.mk (hPd.out.draw hd)
        clear hd
        have hx1 : wm.cell? ⟨gr,k,none⟩ = some (.int .u8 (r k)):=H1.out.aJ 0 rfl k hrk.out
        have hxf:=H1.out.frozen 0 rfl k
        refine hK.out _ _ ⟨(hP1.out.cell).1,hx1⟩ (fun hHeld=>?_)
        clear hK Kc
        refine bz (a':=?_) ?_ ?_
        rotate_left
        ·show Act.put _ (some 110) _ = _
         simp only [Act.put,List.setIfInBounds_toArray,List.set_cons_zero,List.set_cons_succ,ae,af]
         rfl
        refine aq (i:=12) (N:=some 111) #[true,true,true,true,true,true,true,true,true,true,true,true,true,false] rfl rfl (by kernel_rfl) (fun _ _ _ h=>h) (Or.inl ⟨by rfl,by intro w';go_simp;with_reducible rfl⟩) (by simp only [Act.put,List.setIfInBounds_toArray,List.set_cons_zero,List.set_cons_succ,ae,af];rfl) ?_
        refine dX (i:=13) (N:=none) #[true,true,true,true,true,true,true,true,true,true,true,true,true,true] rfl rfl (by kernel_rfl) (by decide) (fun Kc hK=>?_)
        refine dA (w1:=?_) (by rfl) rfl ?_ ?_
        rotate_left
        ·go_simp
         rfl
        refine hK.out _ _ ?_
        clear hK Kc
        refine cD (by kernel_rfl) ?_
        go_wp2
        go_roundw
        case rel=>exact ⟨k + 1,by omega,by go_num,Aside0.mk (by
         have h_:=H1.out.set 0 rfl k (.int .u8 (tmul (r k) (tinv (r l))))
         rw [List.set_cons_zero,rowA_set (g:=fun j=>if j < k + 1 then tmul (r j) (tinv (r l)) else r j) hkl (if_pos (by omega)) (fun j hj hne=>by
          by_cases c : j < k
          ·rw [if_pos c,if_pos (by omega)]
          ·rw [if_neg c,if_neg (by omega)])] at h_
         exact h_)⟩
        case measure=>simp [intOf];omega
       ·obtain rfl : K = k:=by omega
        have k1 : decide ((K : Int) < (K : Int)) = false:=decide_eq_false (by omega)
        have hnr:=Aside0.mk (show nrm K r = fun j=>tmul (r j) (tinv (r l)) by unfold nrm;rw [hl0.out])
        have H_:=Aside0.mk (show Hs w wr ((gr,.cells (rowA K (nrm K r)) 5 (0,0)) :: (Bt ++ (Bs ++ P.map (bk K)))) by
         have h_:=H.out
         rw [rowA_congr (g:=nrm K r) (fun j hj=>by rw [hnr.out];exact if_pos hj)] at h_
         exact h_)
        clear H
        have H:=H_
        clear H_
        have hlen:=Aside0.mk (show (P.length + 1) * 24 ≤ 140737488355328 by omega)
        have hlen2:=Aside0.mk (show (T.length + 1) * 8 ≤ 140737488355328 by omega)
        go_wp2_with (first
         | ((with_reducible refine ak (N:=116) rfl ?_);refine append_ev rfl (.tmp 113) (.tmp 115) 109 37 (.slice none 0 0) 1 24 rfl Try.underlying109 (by kernel_rfl) rfl (by decide) (by decide) _ P.length (P.map (sl K)) [sl K (gr,nrm K r)] rfl rfl rfl (fun u hu=>by rw [List.mem_singleton.1 hu];rfl) hS.out (hs_p1 H.out) hlen.out ?_;intro As1 zs1 wF Bs1 hB1 hH1;have hB2:=Aside0.mk hB1;have hS2:=hB2;clear hB2;have H_:=Aside0.mk (hs_p2 hH1);clear hB1 hH1 H;have H:=H_;clear H_)
         | ((with_reducible refine ak (N:=120) rfl ?_);refine append_ev rfl (.tmp 117) (.tmp 119) 135 3 (.int .i64 0) 1 8 rfl Try.underlying135 (by kernel_rfl) rfl (by decide) (by decide) _ T.length (nums .i64 (T.map Int.ofNat)) [.int .i64 (i : Int)] rfl rfl rfl (fun u hu=>by rw [List.mem_singleton.1 hu];rfl) hT.out H.out hlen2.out ?_;intro At1 zt1 wG Bt1 hB1 hH1;have hB2:=Aside0.mk hB1;have H_:=Aside0.mk (hs_p3 hH1);clear hB1 hH1 H;have H:=H_;clear H_))
        go_roundw
        case rel=>exact ⟨i + 1,T ++ [i],P ++ [(gr,nrm K r)],Bt1,Bs1,by omega,by go_num,Aside0.mk (by rw [hstep.out,if_neg hrl.out,List.map_append];rfl),Aside0.mk (by rw [List.length_append,List.length_append,hPT.out];rfl),Aside0.mk (fun p hp=>by
         rcases List.mem_append.1 hp with hp|hp
         ·exact hPok.out p hp
         ·rw [List.mem_singleton] at hp
          subst hp
          have hb:=nrm_byte (K:=K) hr.out
          refine ⟨hb,?_⟩
          have hle:=leadN_le K (nrm K r)
          rcases Nat.lt_or_ge (bx K (nrm K r)) K with c|c
          ·exact c
          ·exfalso
           have hz:=leadN_lt (K:=K) (f:=nrm K r) (j:=l) (by omega)
           rw [hnr.out] at hz
           have hne : r l ≠ 0:=by rw [← hl0.out];exact leadN_ne (by rw [hl0.out];exact hl2)
           exact tmul_tinv_ne (hr.out l) hne hz),by rw [List.length_append,List.length_singleton];omega,Aside0.mk (by rw [List.map_append,nums_append,List.length_append];exact hB2.out),Aside0.mk (by rw [List.map_append,List.length_append];exact hS2.out),Aside0.mk (by rw [List.map_append];exact H.out)⟩
        case measure=>simp [intOf];omega
  ·obtain rfl : N = i:=by omega
   have i1 : decide ((N : Int) < (N : Int)) = false:=decide_eq_false (by omega)
   go_wp2_with fail
   go_ret
   rw [hbas.out]
   refine ⟨_,rfl,Kd.R_of_own ?_ (fun _ _=>trivial),H.out.below⟩
   have ho:=hT.out.owns H.out
   rw [List.length_map]
   exact ho
end Go.Proofs.Ytffhbpepppodeaa.Plant5
