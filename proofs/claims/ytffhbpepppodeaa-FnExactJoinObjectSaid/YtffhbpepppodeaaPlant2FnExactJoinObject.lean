import Derived.Test.YtffhbpepppodeaaPlantFnExactJoinObject
namespace Go.Proofs.Ytffhbpepppodeaa.Plant2
open Go.RowKit Go.Proofs.YtffhbpepppodeaaW.PrintWords Go.Proofs.YtffhbpepppodeaaW.PrintLast Go.Proofs.YtffhbpepppodeaaW.PrintMore Go.Proofs.Ytffhbpepppodeaa.Hs Go.Proofs.Ytffhbpepppodeaa.Gf Go.Proofs.Ytffhbpepppodeaa.Grid Go.Proofs.Ytffhbpepppodeaa.Reduce Go.Proofs.Ytffhbpepppodeaa.Plant
set_option linter.unusedVariables false
set_option linter.unusedSimpArgs false
theorem lit_ev {P : Program} {ops : Array Oper} {rest : List Oper} {o : Oper} {a : Act} {Q : Exit → Act → World → Prop} {W : World} (hgd : o.guard = none) {N : Tmp} (_hd : o.dst = some N) {cs : Array Value} {t : TypeId} {n : Nat}
  (hrun : (execOp a.eval o).run P W = .ok (.value (.slice (some ⟨W.heap.size,0,none⟩) n n)) (W.alloc (.cells cs t (0,0))))
  (h : ∀ g,g = W.heap.size → ∀ w1,w1.heap[g]? = some (.cells cs t (0,0)) → Below W.heap.size W w1 → wpList P ops Q rest (a.put o.dst (.slice (some ⟨g,0,none⟩) n n)) w1) : wpList P ops Q (o :: rest) a W:=
 Kd.event_run hgd hrun (h _ rfl _ (blk_new W _) (ba (Below.refl _ _) _))
theorem RowB.lit0 {e size g : Nat} : RowB e size (.slice (some ⟨g,0,none⟩) 0 0) 0 [] [(g,.cells #[] e (0,0))]:=
 ⟨by simp,.inr ⟨g,0,#[],rfl,rfl,Nat.le_refl _,by unfold maxLen;omega,by simp,by simp⟩⟩
theorem row_own {w0 w : World} {g : Nat} {k : IntKind} {e : TypeId} {xs : List Int} {L : List Blk} (H : Hs w0 w ((g,.cells (nums k xs).toArray e (0,0)) :: L)) (hl : xs.length ≤ maxLen) : w.ownsRow w0.heap.size e 1 (.slice (some ⟨g,0,none⟩) xs.length xs.length) xs.length (nums k xs):=
 RowB.owns (B:=[(g,.cells (nums k xs).toArray e (0,0))]) ⟨by simp [nums],.inr ⟨g,xs.length,_,rfl,rfl,Nat.le_refl _,hl,by simp [nums],by simp [nums,List.take_of_length_le]⟩⟩ H
theorem row_C {w0 w : World} {g : Nat} {k : IntKind} {e : TypeId} {xs : List Int} {L : List Blk} (H : Hs w0 w ((g,.cells (nums k xs).toArray e (0,0)) :: L)) (hl : xs.length ≤ maxLen) : Kd.C (Kd.int k) w (some ⟨g,0,none⟩) xs.length xs:=
 (Kd.aE (e:=e) (base:=w0.heap.size) (ok:=fun _=>True) (n:=xs.length) (c:=xs.length) (Kd.R_of_own (row_own H hl) (fun _ _=>trivial))).2.2

theorem row_calls (gt gp K M G : Nat) (vg vl : Value) (w : World) (hP : PlantAt w gt gp K M G vg vl) (i : Nat) (hi : i < K + M + G) (hk1 : 1 ≤ K) (hk2 : K ≤ 32) (hms : M ≤ 16) (hgk : G ≤ K) : Calls Try.prog 101 #[.pointer (some ⟨gp,0,none⟩),.int .i64 i] w fun e w'=>∃ g,e = .returned (.slice (some ⟨g,0,none⟩) K K) ∧ Hs w w' [(g,.cells (nums .u8 (rowV K M G i)).toArray 5 (0,0))]:=by
 by_cases c1 : i < K
 ·exact row_unit gt gp K M G vg vl w hP i c1 hk2
 by_cases c2 : i < K + M
 ·obtain ⟨m,rfl⟩ : ∃ m,i = K + m:=⟨i - K,by omega⟩
  exact row_glob gt gp K M G vg vl w hP m (by omega) hk1 hk2 hms
 ·obtain ⟨d,rfl⟩ : ∃ d,i = K + M + d:=⟨i - (K + M),by omega⟩
  exact row_loc gt gp K M G vg vl w hP d (by omega) hk2 hms hgk
theorem size_at (gt gp K M G : Nat) (vg vl : Value) (w : World) (hP : PlantAt w gt gp K M G vg vl) (hs : K + M + G ≤ 64) (N : Nat) (hN : K + M + G = N) : Calls Try.prog 126 #[.pointer (some ⟨gp,0,none⟩)] w fun e w'=>e = .returned (.int .i64 N) ∧ Drawn0 w w':=by
 subst hN
 exact size_calls gt gp K M G vg vl w hP hs
theorem mix_at (gt gp K M G : Nat) (vg vl : Value) (w : World) (hP : PlantAt w gt gp K M G vg vl) (A1 : Option Addr) (c1 : Nat) (row : List Int) (A2 : Option Addr) (c2 : Nat) (data : List ByteArray) (n r m : Nat) (er : row.length = r) (em : data.length = m) (hr : Kd.C (Kd.int .u8) w A1 row.length row) (hd : Kd.C Kd.string w A2 data.length data) (h1 : 1 ≤ data.length) (hrow : row.length ≤ data.length) (hl : data.length ≤ 64) (hn : ∀ j : Nat,j < data.length → (rdOf ByteArray.empty data (j : Int)).size = n) (hn2 : n ≤ 4096) (hb : ∀ j : Nat,j < row.length → 0 ≤ rd row (j : Int) ∧ rd row (j : Int) ≤ 255) :
  Calls Try.prog 100 #[.pointer (some ⟨gp,0,none⟩),.slice A1 r c1,.slice A2 m c2] w fun e w'=>e = .returned (.string (strOfNums ((List.range n).map (mixN row data row.length)))) ∧ Below w.heap.size w w':=by
 subst er
 subst em
 exact mix_calls gt gp K M G vg vl w hP A1 c1 row A2 c2 data n hr hd h1 hrow hl hn hn2 hb
theorem rowV_rd (K M G i j : Nat) (h : j < K) : rd (rowV K M G i) (j : Int) = rowF K M G i j:=by
 unfold rd rowV
 rw [Int.toNat_natCast,List.getD_eq_getElem?_getD,List.getElem?_map,List.getElem?_range h];rfl
def shardV (K M G n : Nat) (data : List ByteArray) (i : Nat) : ByteArray:=if i < K then rdOf ByteArray.empty data (i : Int) else strOfNums ((List.range n).map (mixN (rowV K M G i) data K))
def encV (K M G n : Nat) (data : List ByteArray) : List ByteArray:=(List.range (K + M + G)).map (shardV K M G n data)
theorem encV_len (K M G n : Nat) (data : List ByteArray) : (encV K M G n data).length = K + M + G:=by simp [encV]
theorem encV_take (K M G n : Nat) (data : List ByteArray) (i : Nat) (h : i < K + M + G) : (encV K M G n data).take (i + 1) = (encV K M G n data).take i ++ [shardV K M G n data i]:=by
 rw [List.take_succ_eq_append_getElem (by rw [encV_len];exact h)]
 congr 2
 simp [encV]

set_option maxHeartbeats 8000000 in
set_option maxRecDepth 100000 in
theorem encode_calls (gt gp K M G : Nat) (vg vl : Value) (w : World) (hP : PlantAt w gt gp K M G vg vl) (A2 : Option Addr) (c2 : Nat) (data : List ByteArray) (n : Nat) (hd : Kd.C Kd.string w A2 K data) (hdl0 : data.length = K) (hk1 : 1 ≤ K) (hk2 : K ≤ 32) (hms : M ≤ 16) (hgk : G ≤ K) (hs : K + M + G ≤ 64) (hn : ∀ j : Nat,j < data.length → (rdOf ByteArray.empty data (j : Int)).size = n) (hn20 : n ≤ 4096) :
  Calls Try.prog 85 #[.pointer (some ⟨gp,0,none⟩),.slice A2 K c2] w fun e w'=>∃ v,e = .returned v ∧ Kd.R Kd.string 9 w' w.heap.size (fun _=>True) v (encV K M G n data) ∧ Below w.heap.size w w':=by
 have hu1:=Try.underlying56
 have hdl:=Aside0.mk hdl0
 have HD:=Aside0.mk (show Kd.C Kd.string w A2 data.length data by rw [hdl0];exact hd)
 have hP0:=Aside0.mk hP
 have hns:=Aside0.mk hn
 have hn2:=Aside0.mk hn20
 have hsz:=Aside0.mk hs
 have H:=Aside0.mk (Hs.nil w)
 obtain ⟨N,hN0⟩ : ∃ N,N = K + M + G:=⟨_,rfl⟩
 have hN:=Aside0.mk hN0
 have hN64 : N ≤ 64:=by omega
 clear hd hP hn hdl0 hn20 hN0
 go_enter Try.func85,Try.ntmps85
 go_wp2_with (first
  | ((with_reducible refine ak (N:=7) rfl ?_);refine lit_ev rfl rfl (cs:=#[]) (t:=9) (n:=0) ?hr ?_;(case hr=>first|(go_simp;done)|(go_simp;rfl));intro g0 hg w0_ hbox hb;have hB0:=Aside0.mk (RowB.lit0 (e:=9) (size:=1) (g:=g0));have H_:=Aside0.mk (Hs.push H.out (Nat.le_of_eq hg.symm) hbox hb);clear hbox hb hg H;have H:=H_;clear H_)
  | ((with_reducible refine ah (f:=126) rfl ?_);(try (refine au (by rfl) ?_;dsimp only));refine aH (some 9) rfl rfl Try.func126 (by kernel_rfl) rfl #[.pointer (some ⟨gp,0,none⟩)] rfl (by (try simp only [List.map_toArray,List.map_cons,List.map_nil]);first|done|rfl) ?_;(with_reducible refine (size_at gt gp K M G vg vl _ (hP0.out.below H.out.below) hsz.out N hN.out.symm).mono ?_);rintro e wB ⟨rfl,hd⟩;refine ⟨_,rfl,?_⟩;have H_:=Aside0.mk (H.out.draw hd);clear H;have H:=H_;clear H_ hd))
 go_loopw [5,10] (fun v5 v10 wr=>∃ (i : Nat) (Bo : List Blk),i ≤ N ∧ v5 = v5 ∧ v10 = .int .i64 i ∧ Aside0 (RowB 9 1 v5 i (encs Value.string ((encV K M G n data).take i)) Bo) ∧ Aside0 (Hs w wr (Bo ++ []))) (fun _ i _=>N - (intOf i).toNat)
 case atStart=>exact ⟨0,_,by omega,rfl,rfl,hB0,H⟩
 case round=>
  clear H hB0
  obtain ⟨i,Bo,hi0,-,rfl,hB,H⟩:=hrel
  obtain ⟨Av,cv,hv⟩:=hB.out.slice
  cases hv
  have hin:=Aside0.mk (show i ≤ 64 by omega)
  have i0 : 0 ≤ (i : Int):=by omega
  by_cases hlt : i < N
  ·have i1 : (i : Int) < (N : Int):=by omega
   have hi : i < K + M + G:=by have:=hN.out;omega
   by_cases hk : i < K
   ·have i2 : (i : Int) < (K : Int):=by omega
    obtain ⟨ad,ea,hx0⟩:=Kd.bu (Kd.a8 HD.out H.out.below) (i : Int) (by omega) (by have:=hdl.out;omega)
    cases ea
    rw [Int.toNat_natCast] at hx0
    go_wp2_with (first
     | ((with_reducible refine ak (N:=23) rfl ?_);refine append_ev rfl (.tmp 17) (.tmp 22) 56 9 (.string ByteArray.empty) 1 16 rfl Try.underlying56 (by kernel_rfl) rfl (by decide) (by decide) _ i (encs Value.string ((encV K M G n data).take i)) [.string (rdOf ByteArray.empty data (i : Int))] rfl rfl rfl (fun u hu=>by rw [List.mem_singleton.1 hu];rfl) hB.out H.out (by have:=hin.out;omega) ?_;intro A1 z1 w2 B1 hB1 hH1;have hB2:=Aside0.mk hB1;have H_:=Aside0.mk hH1;clear hB1 hH1 H;have H:=H_;clear H_))
    go_roundw
    case rel=>exact ⟨i + 1,B1,by omega,trivial,by go_num,Aside0.mk (by rw [encV_take K M G n data i hi,encs_append];rw [show shardV K M G n data i = rdOf ByteArray.empty data (i : Int) from if_pos hk];exact hB2.out),H⟩
    case measure=>simp [intOf];omega
   ·have i2 : decide ((i : Int) < (K : Int)) = false:=decide_eq_false (by omega)
    have hrb:=Aside0.mk (show ∀ j : Nat,j < (rowV K M G i).length → 0 ≤ rd (rowV K M G i) (j : Int) ∧ rd (rowV K M G i) (j : Int) ≤ 255 from fun j hj=>by rw [ef] at hj;rw [rowV_rd _ _ _ _ _ hj];exact rowF_byte (by omega) hj)
    go_wp2_with (first
     | ((with_reducible refine ah (f:=101) rfl ?_);(try (refine au (by rfl) ?_;dsimp only));refine aH (some 28) rfl rfl Try.func101 (by kernel_rfl) rfl #[.pointer (some ⟨gp,0,none⟩),.int .i64 i] rfl (by (try simp only [List.map_toArray,List.map_cons,List.map_nil]);first|done|rfl) ?_;(with_reducible refine (row_calls gt gp K M G vg vl _ (hP0.out.below H.out.below) i hi hk1 hk2 hms hgk).mono ?_);rintro e wC ⟨gr,rfl,hR⟩;refine ⟨_,rfl,?_⟩;have HR:=Aside0.mk hR;have H_:=Aside0.mk (Hs.push H.out (hR.ge 0 rfl) (hR.get 0 rfl) hR.below);clear H;have H:=H_;clear H_ hR)
     | ((with_reducible refine ah (f:=100) rfl ?_);(try (refine au (by rfl) ?_;dsimp only));refine aH (some 30) rfl rfl Try.func100 (by kernel_rfl) rfl #[.pointer (some ⟨gp,0,none⟩),.slice (some ⟨gr,0,none⟩) K K,.slice A2 K c2] rfl (by (try simp only [List.map_toArray,List.map_cons,List.map_nil]);first|done|rfl) ?_;(with_reducible refine (mix_at gt gp K M G vg vl _ (hP0.out.below H.out.below) (some ⟨gr,0,none⟩) K (rowV K M G i) A2 c2 data n K K (ef _ _ _ _) hdl.out (row_C HR.out (by rw [ef];unfold maxLen;omega)) (Kd.a8 HD.out H.out.below) (by rw [hdl.out];exact hk1) (by rw [hdl.out,ef];exact Nat.le_refl _) (by rw [hdl.out];omega) hns.out hn2.out hrb.out).mono ?_);rintro e wD ⟨rfl,hb⟩;refine ⟨_,rfl,?_⟩;have H_:=Aside0.mk ((H.out.call hb).tail);clear H;have H:=H_;clear H_ hb HR)
     | ((with_reducible refine ak (N:=32) rfl ?_);refine append_ev rfl (.tmp 24) (.tmp 31) 56 9 (.string ByteArray.empty) 1 16 rfl Try.underlying56 (by kernel_rfl) rfl (by decide) (by decide) _ i (encs Value.string ((encV K M G n data).take i)) [.string (strOfNums ((List.range n).map (mixN (rowV K M G i) data (rowV K M G i).length)))] rfl rfl rfl (fun u hu=>by rw [List.mem_singleton.1 hu];rfl) hB.out H.out (by have:=hin.out;omega) ?_;intro A1 z1 w2 B1 hB1 hH1;have hB2:=Aside0.mk hB1;have H_:=Aside0.mk hH1;clear hB1 hH1 H;have H:=H_;clear H_))
    go_roundw
    case rel=>exact ⟨i + 1,B1,by omega,trivial,by go_num,Aside0.mk (by rw [encV_take K M G n data i hi,encs_append];rw [show shardV K M G n data i = strOfNums ((List.range n).map (mixN (rowV K M G i) data K)) from if_neg hk];have h_:=hB2.out;rw [ef] at h_;exact h_),H⟩
    case measure=>simp [intOf];omega
  ·obtain rfl : i = N:=by omega
   have i1 : decide ((i : Int) < (i : Int)) = false:=decide_eq_false (by omega)
   go_wp2
   go_ret
   refine ⟨_,rfl,Kd.R_of_own ?_ (fun _ _=>trivial),H.out.below⟩
   have ho:=hB.out.owns H.out
   have el : (encV K M G n data).length = i:=by rw [encV_len];exact hN.out.symm
   rw [List.take_of_length_le (by rw [el];exact Nat.le_refl _)] at ho
   rw [el]
   exact ho

end Go.Proofs.Ytffhbpepppodeaa.Plant2
