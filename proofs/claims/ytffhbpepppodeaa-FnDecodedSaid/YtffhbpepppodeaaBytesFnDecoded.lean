import Derived.Test.YtffhbpepppodeaaBaseFnDecoded
namespace Go.Proofs.Ytffhbpepppodeaa.Base
open Go.RowKit Go.Proofs.YtffhbpepppodeaaW.PrintWords Go.Proofs.YtffhbpepppodeaaW.PrintMore

theorem bytesOf_inj {s t : ByteArray} (h : bytesOf s = bytesOf t) : s = t:=by
 have : s.data.toList = t.data.toList:=by
  unfold bytesOf at h
  refine (List.map_inj_right ?_).1 h
  intro a b hab
  have : a.toNat = b.toNat:=by omega
  exact UInt8.toNat_inj.1 this
 cases s;cases t
 exact congrArg _ (Array.toList_inj.1 this)
def Bytes (l : List Int) : Prop:=∀ x ∈ l,0 ≤ x ∧ x ≤ 255
theorem Bytes.nil : Bytes []:=fun x h=>by simp at h
theorem Bytes.append {a b : List Int} (ha : Bytes a) (hb : Bytes b) : Bytes (a ++ b):=fun x h=>by
 rcases List.mem_append.1 h with h|h
 ·exact ha x h
 ·exact hb x h
theorem Bytes.cons {a : Int} {b : List Int} (ha : 0 ≤ a ∧ a ≤ 255) (hb : Bytes b) : Bytes (a :: b):=fun x h=>by
 rcases List.mem_cons.1 h with h|h
 ·subst h;exact ha
 ·exact hb x h
theorem Bytes.take {a : List Int} (h : Bytes a) (n : Nat) : Bytes (a.take n):=fun x hx=>h x (List.mem_of_mem_take hx)
theorem Bytes.rd {l : List Int} (h : Bytes l) (i : Int) : 0 ≤ rd l i ∧ rd l i ≤ 255:=by
 unfold Go.Proofs.YtffhbpepppodeaaW.PrintWords.rd
 rw [List.getD_eq_getElem?_getD]
 cases hh : l[i.toNat]? with
 | none=>simp
 | some x=>simpa using h x (List.mem_of_getElem? hh)
theorem Bytes.of (s : ByteArray) : Bytes (bytesOf s):=fun x hx=>by
 unfold bytesOf at hx
 obtain ⟨b,_,rfl⟩:=List.mem_map.1 hx
 have:=b.toNat_lt
 omega
theorem bytesOf_str {xs : List Int} (h : Bytes xs) : bytesOf (strOfNums xs) = xs:=by
 unfold bytesOf
 rw [strOfNums_data,List.map_map]
 refine (List.map_congr_left (fun x hx=>?_)).trans (List.map_id xs)
 have:=h x hx
 simp
 omega
theorem bt_bytes (s : ByteArray) (i : Nat) : bt s (i : Int) = (bytesOf s).getD i 0:=(rd_bytesOf s (i : Int)).symm
end Go.Proofs.Ytffhbpepppodeaa.Base
