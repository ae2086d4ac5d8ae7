import Derived.Test.YtffhbpepppodeaaHsFnExactJoinObject
import Derived.Test.YtffhbpepppodeaaProg
import Derived.Below
import Derived.Deep.Draws
import Derived.Deep.AppendLies
import Derived.Maps.AppendAt
import Derived.OwnWalk
import Derived.Laws.BytesArg
import Derived.Laws.MakeOwn
import Derived.Laws.OwnMore
import Derived.Deep.OwnRows
import Derived.Tactics
import Derived.Lib.ConvBytes
import Derived.Laws.Slices
import Derived.WalkKit
import Derived.KernelRfl
import Derived.RowKit3
import Derived.Deep.LoopGhost
import Derived.Deep.QuietTactic
import Derived.BigQuiet
import Derived.WideLaws
import Derived.Deep.DeepCutAuto
import Derived.Deep.CutBlock
import Derived.Deep.RegionHeld3
import Derived.Laws.Rows
import Derived.Lib.AppendStr
import Derived.ArgAppend
import Derived.Laws.IdiomCopy
import Derived.OrdersHeld
import Derived.Laws.BitsLemmas
import Derived.RowKit
import Derived.Test.YtffhbpepppodeaaZFnExactJoinObject0
namespace Go.Proofs.Ytffhbpepppodeaa.Gf
open Go.RowKit Go.Proofs.YtffhbpepppodeaaW.PrintWords Go.Proofs.YtffhbpepppodeaaW.PrintLast Go.Proofs.YtffhbpepppodeaaW.PrintMore Go.Proofs.Ytffhbpepppodeaa.Hs
set_option linter.unusedVariables false
set_option linter.unusedSimpArgs false
def dbl (a : Int) : Int:=if Go.bits .and .u8 a 128 = 0 then (a * 2) % 256 else Go.bits .xor .u8 ((a * 2) % 256) 29

set_option maxHeartbeats 8000000 in
set_option maxRecDepth 100000 in
theorem double_low (a : Int) (w : World) (h0 : 0 ≤ a) (h1 : a ≤ 255) (hc : Go.bits .and .u8 a 128 = 0) : Calls Try.prog 119 #[.agg #[.int .u8 29,.int .u8 128],.int .u8 a] w fun e w'=>e = .returned (.int .u8 ((a * 2) % 256)) ∧ Below w.heap.size w w':=by
 have hu:=Try.underlying164
 have c1 : (Go.bits .and .u8 a 128 == 0) = true:=by simpa using hc
 have c2 : (Go.bits .and .u8 a 128 != 0) = false:=by simpa using hc
 go_enter Try.func119,Try.ntmps119
 have H:=Aside0.mk (Hs.nil w)
 go_wp2_with (first
  | ((with_reducible refine ak (N:=2) rfl ?_);(try (refine au (by rfl) ?_;dsimp only));refine aw ?hg (N:=2) ?hd (cs:=#[.int .u8 29,.int .u8 128]) (t:=164) ?hr ?_;(case hd=>rfl);(case hg=>rfl);(case hr=>first|(go_simp;done)|(go_simp;rfl));intro g hg w1 hbox hb;have H_:=Aside0.mk (Hs.push H.out (Nat.le_of_eq hg.symm) hbox hb);clear hbox hb hg H;have H:=H_;clear H_)
  | ((with_reducible refine ak (N:=8) rfl ?_);(try (refine au (by rfl) ?_;dsimp only));have hc_:=H.out.aJ (v:=.int .u8 128) 0 rfl 1 rfl;refine cY (.int .u8 128) ?hg ?hr ?_;(case hg=>rfl);(case hr=>first|(go_simp;done)|(go_simp;rfl));clear hc_)
  | ((with_reducible refine ak (N:=16) rfl ?_);(try (refine au (by rfl) ?_;dsimp only));have hc_:=H.out.aJ (v:=.int .u8 29) 0 rfl 0 rfl;refine cY (.int .u8 29) ?hg ?hr ?_;(case hg=>rfl);(case hr=>first|(go_simp;done)|(go_simp;rfl));clear hc_))
 go_ret
 exact ⟨rfl,H.out.below⟩

set_option maxHeartbeats 8000000 in
set_option maxRecDepth 100000 in
theorem double_high (a : Int) (w : World) (h0 : 0 ≤ a) (h1 : a ≤ 255) (hc : ¬ Go.bits .and .u8 a 128 = 0) : Calls Try.prog 119 #[.agg #[.int .u8 29,.int .u8 128],.int .u8 a] w fun e w'=>e = .returned (.int .u8 (Go.bits .xor .u8 ((a * 2) % 256) 29)) ∧ Below w.heap.size w w':=by
 have hu:=Try.underlying164
 have c1 : (Go.bits .and .u8 a 128 == 0) = false:=by simpa using hc
 have c2 : (Go.bits .and .u8 a 128 != 0) = true:=by simpa using hc
 go_enter Try.func119,Try.ntmps119
 have H:=Aside0.mk (Hs.nil w)
 go_wp2_with (first
  | ((with_reducible refine ak (N:=2) rfl ?_);(try (refine au (by rfl) ?_;dsimp only));refine aw ?hg (N:=2) ?hd (cs:=#[.int .u8 29,.int .u8 128]) (t:=164) ?hr ?_;(case hd=>rfl);(case hg=>rfl);(case hr=>first|(go_simp;done)|(go_simp;rfl));intro g hg w1 hbox hb;have H_:=Aside0.mk (Hs.push H.out (Nat.le_of_eq hg.symm) hbox hb);clear hbox hb hg H;have H:=H_;clear H_)
  | ((with_reducible refine ak (N:=8) rfl ?_);(try (refine au (by rfl) ?_;dsimp only));have hc_:=H.out.aJ (v:=.int .u8 128) 0 rfl 1 rfl;refine cY (.int .u8 128) ?hg ?hr ?_;(case hg=>rfl);(case hr=>first|(go_simp;done)|(go_simp;rfl));clear hc_)
  | ((with_reducible refine ak (N:=16) rfl ?_);(try (refine au (by rfl) ?_;dsimp only));have hc_:=H.out.aJ (v:=.int .u8 29) 0 rfl 0 rfl;refine cY (.int .u8 29) ?hg ?hr ?_;(case hg=>rfl);(case hr=>first|(go_simp;done)|(go_simp;rfl));clear hc_))
 go_ret
 exact ⟨rfl,H.out.below⟩

theorem double_calls (a : Int) (w : World) (h0 : 0 ≤ a) (h1 : a ≤ 255) : Calls Try.prog 119 #[.agg #[.int .u8 29,.int .u8 128],.int .u8 a] w fun e w'=>e = .returned (.int .u8 (dbl a)) ∧ Below w.heap.size w w':=by
 unfold dbl
 by_cases hc : Go.bits .and .u8 a 128 = 0
 ·rw [if_pos hc];exact double_low a w h0 h1 hc
 ·rw [if_neg hc];exact double_high a w h0 h1 hc

set_option maxHeartbeats 8000000 in
set_option maxRecDepth 100000 in
theorem bytes8_calls (w : World) : Calls Try.prog 118 #[] w fun e w'=>e = .returned (.agg #[.int .u8 29,.int .u8 128]) ∧ Below w.heap.size w w':=by
 have hu:=Try.underlying164
 go_enter Try.func118,Try.ntmps118
 have H:=Aside0.mk (Hs.nil w)
 go_wp2_with (first
  | ((with_reducible refine ak (N:=0) rfl ?_);(try (refine au (by rfl) ?_;dsimp only));refine aw ?hg (N:=0) ?hd (cs:=#[.int .u8 0,.int .u8 0]) (t:=164) ?hr ?_;(case hd=>rfl);(case hg=>rfl);(case hr=>first|(go_simp;done)|(go_simp;rfl));intro g hg w1 hbox hb;have H_:=Aside0.mk (Hs.push H.out (Nat.le_of_eq hg.symm) hbox hb);clear hbox hb hg H;have H:=H_;clear H_)
  | ((with_reducible refine bo (p:=0) rfl ?_);(try (refine au (by rfl) ?_;dsimp only));have hc0_:=H.out.aJ (v:=.int .u8 0) 0 rfl 0 rfl;have hf0_:=H.out.frozen 0 rfl 0;have hc1_:=H.out.aJ (v:=.int .u8 0) 0 rfl 1 rfl;have hf1_:=H.out.frozen 0 rfl 1;refine dp (fun W=>(World.setCell (World.setCell W ⟨g,0,none⟩ (.int .u8 29)) ⟨g,1,none⟩ (.int .u8 128))) ?hg rfl ?hd ?hr ?_;(case hg=>rfl);(case hd=>rfl);(case hr=>first|(go_simp;done)|(go_simp;rfl));intro w2 hw;have H_:=Aside0.mk (show Hs w w2 [(g,.cells #[.int .u8 29,.int .u8 128] 164 (0,0))] from by rw [hw];exact ((H.out.set 0 rfl 0 (.int .u8 29)).set 0 rfl 1 (.int .u8 128)));clear hw hc0_ hf0_ hc1_ hf1_ H;have H:=H_;clear H_))
 exact bodyPost_ret (results_cell_row rfl _ _ g 164 #[.int .u8 29,.int .u8 128] (0,0) _ rfl (H.out.get 0 rfl) Try.underlying164 rfl (by kernel_rfl)) rfl ⟨rfl,H.out.below⟩

def pw : Nat → Int
 | 0=>1
 | n + 1=>dbl (pw n)
theorem dbl_range (a : Int) (h0 : 0 ≤ a) (h1 : a ≤ 255) : 0 ≤ dbl a ∧ dbl a ≤ 255:=by
 obtain ⟨m,rfl⟩:=Int.eq_ofNat_of_zero_le h0
 have hm : m < 256:=by omega
 have key : ∀ m : Nat,m < 256 → 0 ≤ dbl (m : Int) ∧ dbl (m : Int) ≤ 255:=by decide +kernel
 exact key m hm
theorem pw_range (n : Nat) : 0 ≤ pw n ∧ pw n ≤ 255:=by
 induction n with
 | zero=>decide
 | succ n ih=>exact dbl_range _ ih.1 ih.2
def tab0 : Array Value:=Array.replicate 512 (.int .u8 0) ++ Array.replicate 256 (.int .i64 0)
def tz0 : Value:=.agg tab0
def tabN : Nat → Array Value
 | 0=>tab0
 | n + 1=>(((tabN n).setIfInBounds n (.int .u8 (pw n))).setIfInBounds (n + 255) (.int .u8 (pw n))).setIfInBounds (512 + (pw n).toNat) (.int .i64 n)
theorem tabN_size (n : Nat) : (tabN n).size = 768:=by
 induction n with
 | zero=>simp [tabN,tab0]
 | succ n ih=>simp [tabN,ih]
set_option maxHeartbeats 8000000 in
set_option maxRecDepth 100000 in
theorem make_calls (w0 w : World) (L : List Blk) (hL : Hs w0 w L) : Calls Try.prog 63 #[] w fun e w'=>∃ g,e = .returned (.pointer (some ⟨g,0,none⟩)) ∧ Hs w0 w' ((g,.cells (tabN 255) 162 (0,0)) :: L):=by
 have hu1:=Try.underlying162
 have hu2:=Try.underlying164
 have H:=Aside0.mk hL
 clear hL
 go_enter Try.func63,Try.ntmps63
 go_wp2_with (first
  | ((with_reducible refine ak (N:=5) rfl ?_);refine cY tz0 ?hg ?hr ?_;(case hg=>rfl);(case hr=>kernel_rfl))
  | ((with_reducible refine ak (N:=6) rfl ?_);refine aw ?hg (N:=6) ?hd (cs:=tab0) (t:=162) ?hr ?_;(case hd=>rfl);(case hg=>rfl);(case hr=>kernel_rfl);intro gt hg w1 hbox hb;have H_:=Aside0.mk (Hs.push H.out (Nat.le_of_eq hg.symm) hbox hb);clear hbox hb hg H;have H:=H_;clear H_)
  | ((with_reducible refine ah (f:=118) rfl ?_);(try (refine au (by rfl) ?_;dsimp only));refine aH (some 7) rfl rfl Try.func118 (by kernel_rfl) rfl #[] rfl (by (try simp only [List.map_toArray,List.map_cons,List.map_nil]);first|done|rfl) ?_;(with_reducible refine (bytes8_calls _).mono ?_);rintro e w2 ⟨rfl,hb⟩;refine ⟨_,rfl,?_⟩;have H_:=Aside0.mk (show Hs w0 w2 ((gt,.cells tab0 162 (0,0)) :: L) from H.out.call hb);clear hb H;have H:=H_;clear H_)
  | ((with_reducible refine ak (N:=2) rfl ?_);(try (refine au (by rfl) ?_;dsimp only));refine aw ?hg (N:=2) ?hd (cs:=#[.int .u8 0,.int .u8 0]) (t:=164) ?hr ?_;(case hd=>rfl);(case hg=>rfl);(case hr=>first|(go_simp;done)|(go_simp;rfl));intro gf hg w3 hbox hb;have H_:=Aside0.mk (Hs.push H.out (Nat.le_of_eq hg.symm) hbox hb);clear hbox hb hg H;have H:=H_;clear H_)
  | ((with_reducible refine bo (p:=2) rfl ?_);(try (refine au (by rfl) ?_;dsimp only));have hc0_:=H.out.aJ (v:=.int .u8 0) 0 rfl 0 rfl;have hf0_:=H.out.frozen 0 rfl 0;have hc1_:=H.out.aJ (v:=.int .u8 0) 0 rfl 1 rfl;have hf1_:=H.out.frozen 0 rfl 1;refine dp (fun W=>(World.setCell (World.setCell W ⟨gf,0,none⟩ (.int .u8 29)) ⟨gf,1,none⟩ (.int .u8 128))) ?hg rfl ?hd ?hr ?_;(case hg=>rfl);(case hd=>rfl);(case hr=>first|(go_simp;done)|(go_simp;rfl));intro w4 hw;have H_:=Aside0.mk (show Hs w0 w4 ((gf,.cells #[.int .u8 29,.int .u8 128] 164 (0,0)) :: (gt,.cells tab0 162 (0,0)) :: L) from by rw [hw];exact ((H.out.set 0 rfl 0 (.int .u8 29)).set 0 rfl 1 (.int .u8 128)));clear hw hc0_ hf0_ hc1_ hf1_ H;have H:=H_;clear H_))
 go_loopw [3,8] (fun v3 v8 wr=>∃ i : Nat,i ≤ 255 ∧ v3 = .int .u8 (pw i) ∧ v8 = .int .i64 i ∧ Aside0 (Hs w0 wr ((gf,.cells #[.int .u8 29,.int .u8 128] 164 (0,0)) :: (gt,.cells (tabN i) 162 (0,0)) :: L))) (fun _ i _=>255 - (intOf i).toNat)
 case atStart=>exact ⟨0,by omega,rfl,rfl,H⟩
 case round=>
  clear H
  obtain ⟨i,hi,rfl,rfl,H⟩:=hrel
  by_cases hlt : i < 255
  ·have hp:=pw_range i
   go_wp2_with (first
    | ((with_reducible refine bo (p:=16) rfl ?_);(try (refine au (by rfl) ?_;dsimp only));obtain ⟨x_,hx_⟩:=(arr_some (cs:=tabN i) (j:=i) (by simp only [Array.size_setIfInBounds,tabN_size];omega));have hc_:=H.out.aJ 1 rfl (i) hx_;have hf_:=H.out.frozen 1 rfl (i);refine dp (fun W=>World.setCell W ⟨gt,i,none⟩ (.int .u8 (pw i))) ?hg rfl ?hd ?hr ?_;(case hg=>rfl);(case hd=>rfl);(case hr=>first|(go_simp;done)|(go_simp;rfl));intro w1 hw;have H_:=Aside0.mk (show Hs w0 w1 ((gf,.cells #[.int .u8 29,.int .u8 128] 164 (0,0)) :: (gt,.cells ((tabN i).setIfInBounds i (.int .u8 (pw i))) 162 (0,0)) :: L) from by rw [hw];exact H.out.set 1 rfl (i) (.int .u8 (pw i)));clear hw hc_ hf_ hx_ x_ H;have H:=H_;clear H_)
    | ((with_reducible refine bo (p:=23) rfl ?_);(try (refine au (by rfl) ?_;dsimp only));obtain ⟨x_,hx_⟩:=(arr_some (cs:=((tabN i).setIfInBounds i (.int .u8 (pw i)))) (j:=i + 255) (by simp only [Array.size_setIfInBounds,tabN_size];omega));have hc_:=H.out.aJ 1 rfl (i + 255) hx_;have hf_:=H.out.frozen 1 rfl (i + 255);refine dp (fun W=>World.setCell W ⟨gt,i + 255,none⟩ (.int .u8 (pw i))) ?hg rfl ?hd ?hr ?_;(case hg=>rfl);(case hd=>rfl);(case hr=>first|(go_simp;done)|(go_simp;rfl));intro w2 hw;have H_:=Aside0.mk (show Hs w0 w2 ((gf,.cells #[.int .u8 29,.int .u8 128] 164 (0,0)) :: (gt,.cells (((tabN i).setIfInBounds i (.int .u8 (pw i))).setIfInBounds (i + 255) (.int .u8 (pw i))) 162 (0,0)) :: L) from by rw [hw];exact H.out.set 1 rfl (i + 255) (.int .u8 (pw i)));clear hw hc_ hf_ hx_ x_ H;have H:=H_;clear H_)
    | ((with_reducible refine bo (p:=29) rfl ?_);(try (refine au (by rfl) ?_;dsimp only));obtain ⟨x_,hx_⟩:=(arr_some (cs:=(((tabN i).setIfInBounds i (.int .u8 (pw i))).setIfInBounds (i + 255) (.int .u8 (pw i)))) (j:=512 + (pw i).toNat) (by simp only [Array.size_setIfInBounds,tabN_size];omega));have hc_:=H.out.aJ 1 rfl (512 + (pw i).toNat) hx_;have hf_:=H.out.frozen 1 rfl (512 + (pw i).toNat);refine dp (fun W=>World.setCell W ⟨gt,512 + (pw i).toNat,none⟩ (.int .i64 i)) ?hg rfl ?hd ?hr ?_;(case hg=>rfl);(case hd=>rfl);(case hr=>first|(go_simp;done)|(go_simp;rfl));intro w3 hw;have H_:=Aside0.mk (show Hs w0 w3 ((gf,.cells #[.int .u8 29,.int .u8 128] 164 (0,0)) :: (gt,.cells ((((tabN i).setIfInBounds i (.int .u8 (pw i))).setIfInBounds (i + 255) (.int .u8 (pw i))).setIfInBounds (512 + (pw i).toNat) (.int .i64 i)) 162 (0,0)) :: L) from by rw [hw];exact H.out.set 1 rfl (512 + (pw i).toNat) (.int .i64 i));clear hw hc_ hf_ hx_ x_ H;have H:=H_;clear H_)
    | ((with_reducible refine ak (N:=30) rfl ?_);(try (refine au (by rfl) ?_;dsimp only));have hc0_:=H.out.aJ (v:=.int .u8 29) 0 rfl 0 rfl;have hc1_:=H.out.aJ (v:=.int .u8 128) 0 rfl 1 rfl;refine cY (.agg #[.int .u8 29,.int .u8 128]) ?hg ?hr ?_;(case hg=>rfl);(case hr=>first|(go_simp;done)|(go_simp;rfl));clear hc0_ hc1_)
    | ((with_reducible refine ah (f:=119) rfl ?_);(try (refine au (by rfl) ?_;dsimp only));refine aH (some 32) rfl rfl Try.func119 (by kernel_rfl) rfl #[.agg #[.int .u8 29,.int .u8 128],.int .u8 (pw i)] rfl (by (try simp only [List.map_toArray,List.map_cons,List.map_nil]);first|done|rfl) ?_;(with_reducible refine (double_calls (pw i) _ hp.1 hp.2).mono ?_);rintro e w4 ⟨rfl,hb⟩;refine ⟨_,rfl,?_⟩;have H_:=Aside0.mk (show Hs w0 w4 ((gf,.cells #[.int .u8 29,.int .u8 128] 164 (0,0)) :: (gt,.cells ((((tabN i).setIfInBounds i (.int .u8 (pw i))).setIfInBounds (i + 255) (.int .u8 (pw i))).setIfInBounds (512 + (pw i).toNat) (.int .i64 i)) 162 (0,0)) :: L) from H.out.call hb);clear hb H;have H:=H_;clear H_))
   go_roundw
   case rel=>exact ⟨i + 1,by omega,rfl,by go_num,H⟩
   case measure=>simp [intOf];omega
  ·obtain rfl : i = 255:=by omega
   go_wp2
   go_ret
   exact ⟨gt,rfl,H.out.tail⟩

def expN : Nat → List Int
 | 0=>List.replicate 512 0
 | n + 1=>((expN n).set n (pw n)).set (n + 255) (pw n)
def logN : Nat → List Int
 | 0=>List.replicate 256 0
 | n + 1=>(logN n).set (pw n).toNat n
theorem expN_len (n : Nat) : (expN n).length = 512:=by
 induction n with
 | zero=>exact List.length_replicate
 | succ n ih=>simp [expN,ih]
theorem logN_len (n : Nat) : (logN n).length = 256:=by
 induction n with
 | zero=>exact List.length_replicate
 | succ n ih=>simp [logN,ih]
theorem tabN_eq (n : Nat) (h : n ≤ 255) : tabN n = (((expN n).map fun x=>Value.int .u8 x) ++ ((logN n).map fun x=>Value.int .i64 x)).toArray:=by
 induction n with
 | zero=>
  rw [tabN,tab0,expN,logN,List.map_replicate,List.map_replicate]
  apply Array.toList_inj.mp
  rw [Array.toList_append,Array.toList_replicate,Array.toList_replicate]
 | succ n ih=>
  have hp:=pw_range n
  have e1:=expN_len n
  rw [tabN,ih (by omega)]
  simp only [List.setIfInBounds_toArray,expN,logN,List.map_set]
  congr 1
  rw [List.set_append_left _ _ (by rw [List.length_map,e1];omega),List.set_append_left _ _ (by rw [List.length_set,List.length_map,e1];omega),List.set_append_right _ _ (by rw [List.length_set,List.length_set,List.length_map,e1];omega)]
  simp [e1]
def ex (j : Nat) : Int:=(expN 255).getD j 0
def lg (a : Int) : Int:=(logN 255).getD a.toNat 0
theorem tab_ex (j : Nat) (h : j < 512) : (tabN 255)[j]? = some (.int .u8 (ex j)):=by
 rw [tabN_eq 255 (by omega),List.getElem?_toArray,List.getElem?_append_left (by rw [List.length_map,expN_len];exact h),List.getElem?_map,ex,List.getD_eq_getElem?_getD]
 rw [List.getElem?_eq_getElem (by rw [expN_len];exact h)]
 rfl
theorem tab_lg (a : Int) (h : a.toNat < 256) : (tabN 255)[512 + a.toNat]? = some (.int .i64 (lg a)):=by
 rw [tabN_eq 255 (by omega),List.getElem?_toArray,List.getElem?_append_right (by rw [List.length_map,expN_len];omega),List.length_map,expN_len,List.getElem?_map,lg,List.getD_eq_getElem?_getD,show 512 + a.toNat - 512 = a.toNat by omega]
 rw [List.getElem?_eq_getElem (by rw [logN_len];exact h)]
 rfl
theorem lg_all : ∀ m : Nat,m < 256 → 0 ≤ (logN 255).getD m 0 ∧ (logN 255).getD m 0 ≤ 254:=by decide +kernel
theorem ec (a : Int) (h : a.toNat < 256) : 0 ≤ lg a ∧ lg a ≤ 254:=lg_all _ h
def tmul (a b : Int) : Int:=if a = 0 ∨ b = 0 then 0 else ex (lg a + lg b).toNat
def tinv (a : Int) : Int:=if a = 0 then 0 else ex (255 - lg a).toNat

set_option maxHeartbeats 8000000 in
set_option maxRecDepth 100000 in
theorem mul_calls (g : Nat) (a b : Int) (w : World) (hh : w.heap[g]? = some (.cells (tabN 255) 162 (0,0))) (a0 : 0 ≤ a) (a1 : a ≤ 255) (b0 : 0 ≤ b) (b1 : b ≤ 255) : Calls Try.prog 80 #[.pointer (some ⟨g,0,none⟩),.int .u8 a,.int .u8 b] w fun e w'=>e = .returned (.int .u8 (tmul a b)) ∧ Drawn0 w w':=by
 have hu1:=Try.underlying162
 by_cases ca : a = 0
 ·have d1 : (a == 0) = true:=by simpa using ca
  have HC:=Aside0.mk (show tmul a b = 0 by unfold tmul;rw [if_pos (Or.inl ca)])
  clear ca
  go_enter Try.func80,Try.ntmps80
  go_wp2
  go_ret
  exact ⟨by rw [HC.out];rfl,Drawn0.refl _⟩
 have d1 : (a == 0) = false:=by simpa using ca
 by_cases cb : b = 0
 ·have d2 : (b == 0) = true:=by simpa using cb
  have HC:=Aside0.mk (show tmul a b = 0 by unfold tmul;rw [if_pos (Or.inr cb)])
  clear ca cb
  go_enter Try.func80,Try.ntmps80
  go_wp2
  go_ret
  exact ⟨by rw [HC.out];rfl,Drawn0.refl _⟩
 have d2 : (b == 0) = false:=by simpa using cb
 have HC:=Aside0.mk (show tmul a b = ex (lg a + lg b).toNat by unfold tmul;rw [if_neg (by omega)])
 have la:=ec a (by omega)
 have lb:=ec b (by omega)
 have h1:=(cell_of_row w g (512 + a.toNat) _ _ _ hh).trans (tab_lg a (by omega))
 have h2:=(cell_of_row w g (512 + b.toNat) _ _ _ hh).trans (tab_lg b (by omega))
 have h3:=(cell_of_row w g (lg a + lg b).toNat _ _ _ hh).trans (tab_ex (lg a + lg b).toNat (by omega))
 clear hh ca cb
 generalize lg a = p at *
 generalize lg b = q at *
 obtain ⟨la0,la1⟩:=la
 obtain ⟨lb0,lb1⟩:=lb
 have s1 : a < 256:=by omega
 have s2 : b < 256:=by omega
 have s3 : p + q < 512:=by omega
 have s4 : 0 ≤ p + q:=by omega
 go_enter Try.func80,Try.ntmps80
 go_wp2_with fail
 go_quiet (fail)
 go_wp2
 go_ret
 exact ⟨by rw [HC.out];rfl,Drawn0.mk ⟨_,rfl⟩⟩

set_option maxHeartbeats 8000000 in
set_option maxRecDepth 100000 in
theorem inv_calls (g : Nat) (a : Int) (w : World) (hh : w.heap[g]? = some (.cells (tabN 255) 162 (0,0))) (a0 : 0 ≤ a) (a1 : a ≤ 255) : Calls Try.prog 120 #[.pointer (some ⟨g,0,none⟩),.int .u8 a] w fun e w'=>e = .returned (.int .u8 (tinv a)) ∧ Drawn0 w w':=by
 have hu1:=Try.underlying162
 by_cases ca : a = 0
 ·have d1 : (a == 0) = true:=by simpa using ca
  have HC:=Aside0.mk (show tinv a = 0 by unfold tinv;rw [if_pos ca])
  clear ca
  go_enter Try.func120,Try.ntmps120
  go_wp2
  go_ret
  exact ⟨by rw [HC.out];rfl,Drawn0.refl _⟩
 have d1 : (a == 0) = false:=by simpa using ca
 have HC:=Aside0.mk (show tinv a = ex (255 - lg a).toNat by unfold tinv;rw [if_neg ca])
 have la:=ec a (by omega)
 have h1:=(cell_of_row w g (512 + a.toNat) _ _ _ hh).trans (tab_lg a (by omega))
 have h3:=(cell_of_row w g (255 - lg a).toNat _ _ _ hh).trans (tab_ex (255 - lg a).toNat (by omega))
 clear hh ca
 generalize lg a = p at *
 obtain ⟨la0,la1⟩:=la
 have s1 : a < 256:=by omega
 have s3 : 255 - p < 512:=by omega
 have s4 : 0 ≤ 255 - p:=by omega
 go_enter Try.func120,Try.ntmps120
 go_wp2_with fail
 go_quiet (fail)
 go_wp2
 go_ret
 exact ⟨by rw [HC.out];rfl,Drawn0.mk ⟨_,rfl⟩⟩
end Go.Proofs.Ytffhbpepppodeaa.Gf
