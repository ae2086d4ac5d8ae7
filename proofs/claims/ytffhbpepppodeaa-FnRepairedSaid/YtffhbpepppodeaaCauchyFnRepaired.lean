import Derived.Test.YtffhbpepppodeaaInvFnRepaired
namespace Go.Proofs.Ytffhbpepppodeaa.Cauchy
open Go.Proofs.Ytffhbpepppodeaa.Gf Go.Proofs.Ytffhbpepppodeaa.Reduce Go.Proofs.Ytffhbpepppodeaa.Grid Go.Proofs.Ytffhbpepppodeaa.Field Go.Proofs.Ytffhbpepppodeaa.Elim

def ls (l : List Nat) (f : Nat → Nat) : Nat:=l.foldr (fun y a=>f y ^^^ a) 0
theorem ls_cons (y : Nat) (l : List Nat) (f : Nat → Nat) : ls (y :: l) f = f y ^^^ ls l f:=rfl
theorem ls_congr {f g : Nat → Nat} : ∀ {l : List Nat},(∀ y ∈ l,f y = g y) → ls l f = ls l g
 | [],_=>rfl
 | y :: l,h=>by rw [ls_cons,ls_cons,h y (by simp),ls_congr fun z hz=>h z (by simp [hz])]
def v (x y : Nat) : Nat:=invN (x ^^^ y)
theorem xne {x y : Nat} (h : x ≠ y) : x ^^^ y ≠ 0:=fun e=>h (xor_eq e)
theorem ls_snoc (f : Nat → Nat) (a : Nat) : ∀ l,ls (l ++ [a]) f = ls l f ^^^ f a
 | []=>by show f a ^^^ 0 = 0 ^^^ f a;rw [Nat.xor_zero,Nat.zero_xor]
 | y :: l=>by rw [List.cons_append,ls_cons,ls_cons,ls_snoc f a l,Nat.xor_assoc]
theorem sum_ls (f : Nat → Nat) (p : Nat → Bool) (K : Nat) (h : ∀ j,j < K → p j = false → f j = 0) : sumN f K = ls ((List.range K).filter p) f:=by
 induction K with
 | zero=>rfl
 | succ n ih=>
  rw [List.range_succ,List.filter_append]
  show sumN f n ^^^ f n = _
  rw [ih fun j hj=>h j (by omega)]
  by_cases c : p n = true
  ·rw [List.filter_cons_of_pos (by exact c),List.filter_nil,ls_snoc]
  ·rw [List.filter_cons_of_neg (by exact c),List.filter_nil,List.append_nil,h n (by omega) (by simpa using c),Nat.xor_zero]
end Go.Proofs.Ytffhbpepppodeaa.Cauchy
