import Derived.Test.YtffhbpepppodeaaBaseFnExactJoinObject
namespace Go.Proofs.Ytffhbpepppodeaa.Base
open Go.RowKit Go.Proofs.YtffhbpepppodeaaW.PrintWords Go.Proofs.YtffhbpepppodeaaW.PrintMore

theorem bytesOf_inj {s t : ByteArray} (h : bytesOf s = bytesOf t) : s = t:=by
 have : s.data.toList = t.data.toList:=by
  unfold bytesOf at h
  refine (List.map_inj_right ?_).1 h
  intro a b hab
  have : a.toNat = b.toNat:=by omega
  exact UInt8.toNat_inj.1 this
 cases s;cases t
 exact congrArg _ (Array.toList_inj.1 this)
theorem toList_data (s : ByteArray) : s.toList = s.data.toList:=by
 have hn : s.data.toList.length = s.size:=Array.length_toList.trans rfl
 have key : ∀ (d i : Nat) (r : List UInt8),s.size = i + d → ByteArray.toList.loop s i r = r.reverse ++ s.data.toList.drop i:=by
  intro d
  induction d with
  | zero=>
   intro i r hi
   rw [ByteArray.toList.loop,if_neg (by omega),List.drop_of_length_le (by omega),List.append_nil]
  | succ d ih=>
   intro i r hi
   have hlt : i < s.size:=by omega
   have hl : i < s.data.toList.length:=by omega
   have hg : s.get! i = s.data.toList[i]:=by
    have : s.get! i = s.data[i]!:=by cases s;rfl
    rw [this,getElem!_pos s.data i hlt,Array.getElem_toList]
   rw [ByteArray.toList.loop,if_pos hlt,ih (i + 1) _ (by omega),List.drop_eq_getElem_cons hl,hg]
   simp
 exact (key s.size 0 [] (by omega)).trans (by simp)
theorem toList_inj {s t : ByteArray} : s.toList = t.toList ↔ s = t:=by
 constructor
 ·intro h
  rw [toList_data,toList_data] at h
  cases s;cases t
  exact congrArg _ (Array.toList_inj.1 h)
 ·rintro rfl;rfl
def Bytes (l : List Int) : Prop:=∀ x ∈ l,0 ≤ x ∧ x ≤ 255
theorem Bytes.nil : Bytes []:=fun x h=>by simp at h
theorem Bytes.append {a b : List Int} (ha : Bytes a) (hb : Bytes b) : Bytes (a ++ b):=fun x h=>by
 rcases List.mem_append.1 h with h|h
 ·exact ha x h
 ·exact hb x h
theorem Bytes.cons {a : Int} {b : List Int} (ha : 0 ≤ a ∧ a ≤ 255) (hb : Bytes b) : Bytes (a :: b):=fun x h=>by
 rcases List.mem_cons.1 h with h|h
 ·subst h;exact ha
 ·exact hb x h
theorem Bytes.take {a : List Int} (h : Bytes a) (n : Nat) : Bytes (a.take n):=fun x hx=>h x (List.mem_of_mem_take hx)
theorem Bytes.drop {a : List Int} (h : Bytes a) (n : Nat) : Bytes (a.drop n):=fun x hx=>h x (List.mem_of_mem_drop hx)
theorem Bytes.tail {a : Int} {b : List Int} (h : Bytes (a :: b)) : Bytes b:=fun x hx=>h x (by simp [hx])
theorem Bytes.rd {l : List Int} (h : Bytes l) (i : Int) : 0 ≤ rd l i ∧ rd l i ≤ 255:=by
 unfold Go.Proofs.YtffhbpepppodeaaW.PrintWords.rd
 rw [List.getD_eq_getElem?_getD]
 cases hh : l[i.toNat]? with
 | none=>simp
 | some x=>simpa using h x (List.mem_of_getElem? hh)
theorem Bytes.of (s : ByteArray) : Bytes (bytesOf s):=fun x hx=>by
 unfold bytesOf at hx
 obtain ⟨b,_,rfl⟩:=List.mem_map.1 hx
 have:=b.toNat_lt
 omega
theorem bytesOf_str {xs : List Int} (h : Bytes xs) : bytesOf (strOfNums xs) = xs:=by
 unfold bytesOf
 rw [strOfNums_data,List.map_map]
 refine (List.map_congr_left (fun x hx=>?_)).trans (List.map_id xs)
 have:=h x hx
 simp
 omega
theorem bt_bytes (s : ByteArray) (i : Nat) : bt s (i : Int) = (bytesOf s).getD i 0:=(rd_bytesOf s (i : Int)).symm
end Go.Proofs.Ytffhbpepppodeaa.Base
