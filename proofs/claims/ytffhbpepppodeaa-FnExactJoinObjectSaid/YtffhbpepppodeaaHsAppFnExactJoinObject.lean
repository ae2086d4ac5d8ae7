import Derived.Test.YtffhbpepppodeaaHsFnExactJoinObject
namespace Go.Proofs.Ytffhbpepppodeaa.Hs
open Go.RowKit Go.Proofs.YtffhbpepppodeaaW.PrintWords Go.Proofs.YtffhbpepppodeaaW.PrintLast Go.Proofs.YtffhbpepppodeaaW.PrintMore
theorem append_ev {P : Program} {ops : Array Oper} {rest : List Oper} {o : Oper} {a : Act} {Q : Exit → Act → World → Prop} {w0 W : World} {B L : List Blk} (hgd : o.guard = none) (s x : Operand) (t e : TypeId) (z : Value) (size bytes : Nat)
  (ho : o.op = .call { callee:=.builtin .append,args:=#[s,x],argTypes:=#[t,t] })
  (ht : P.underlying t = some (.slice e)) (hinfo : (P.info? e).map (fun i=>(i.zero,i.size,i.bytes)) = some (some z,size,bytes)) (hz : z.cells.size = size) (hs0 : 0 < size) (hb0 : 0 < bytes)
  (v : Value) (n : Nat) (xs ys : List Value) (hs : a.eval s = v) (hx : a.eval x = .slice (some ⟨W.heap.size,0,none⟩) 1 1) (hys : ys.length = size) (h1 : ∀ u ∈ ys,u.oneCell' = true)
  (hB : RowB e size v n xs B) (H : Hs w0 W (B ++ L)) (hl : (n + 1) * bytes ≤ 140737488355328)
  (h : ∀ A1 z1 w1 B1,RowB e size (.slice A1 (n + 1) z1) (n + 1) (xs ++ ys) B1 → Hs w0 w1 (B1 ++ L) → wpList P ops Q rest (a.put o.dst (.slice A1 (n + 1) z1)) w1) :
  wpList P ops Q (o :: rest) a (W.alloc (.cells ys.toArray e)):=by
 refine dU (w0:=w0) w0.heap.size hgd s x t e z size bytes ho ht hinfo hz hs0 hb0 v n xs ys hs hx hys h1 (hB.owns H) H.below H.below.size hl ?_
 intro v1 w1 hown hb hg hat
 obtain ⟨A1,z1,rfl⟩:=own_slice hown
 obtain ⟨B1,hB1,hH1⟩:=hB.back H hown hb hg hat
 exact h A1 z1 w1 B1 hB1 hH1
theorem append_stp {P : Program} {ops : Array Oper} {o : Oper} {a : Act} {Q : Exit → Act → World → Prop} {K : Act → World → Prop} {w0 W : World} {B L : List Blk} (hw : Region.wanted o (yielded ops a.tmps) = true) (s x : Operand) (t e : TypeId) (z : Value) (size bytes : Nat)
  (ho : o.op = .call { callee:=.builtin .append,args:=#[s,x],argTypes:=#[t,t] })
  (ht : P.underlying t = some (.slice e)) (hinfo : (P.info? e).map (fun i=>(i.zero,i.size,i.bytes)) = some (some z,size,bytes)) (hz : z.cells.size = size) (hs0 : 0 < size) (hb0 : 0 < bytes)
  (v : Value) (n : Nat) (xs ys : List Value) (hs : a.eval s = v) (hx : a.eval x = .slice (some ⟨W.heap.size,0,none⟩) 1 1) (hys : ys.length = size) (h1 : ∀ u ∈ ys,u.oneCell' = true)
  (hB : RowB e size v n xs B) (H : Hs w0 W (B ++ L)) (hl : (n + 1) * bytes ≤ 140737488355328)
  (h : ∀ A1 z1 w1 B1,RowB e size (.slice A1 (n + 1) z1) (n + 1) (xs ++ ys) B1 → Hs w0 w1 (B1 ++ L) → K (a.put o.dst (.slice A1 (n + 1) z1)) w1) :
  if Region.wanted o (yielded ops a.tmps) = true then Oper.wp P o a (W.alloc (.cells ys.toArray e)) K Q else K (a.put o.dst undef) (W.alloc (.cells ys.toArray e)):=by
 refine step_append_cells (w0:=w0) w0.heap.size hw s x t e z size bytes ho ht hinfo hz hs0 hb0 v n xs ys hs hx hys h1 (hB.owns H) H.below H.below.size hl ?_
 intro v1 w1 hown hb hg hat
 obtain ⟨A1,z1,rfl⟩:=own_slice hown
 obtain ⟨B1,hB1,hH1⟩:=hB.back H hown hb hg hat
 exact h A1 z1 w1 B1 hB1 hH1
theorem RowB.form {e size : Nat} {v : Value} {n : Nat} {xs : List Value} {B : List Blk} (h : RowB e size v n xs B) (hn : 0 < n) :
  ∃ g cap cur,v = .slice (some ⟨g,0,none⟩) n cap ∧ B = [(g,.cells cur e (0,0))] ∧ n ≤ cap ∧ cap ≤ maxLen ∧ cur.size = cap * size ∧ ∀ j,j < n * size → cur[j]? = xs[j]?:=by
 rcases h.2 with ⟨_,h0,_⟩|⟨g,cap,cur,h1,h2,h3,h4,h5,h6⟩
 ·omega
 ·refine ⟨g,cap,cur,h1,h2,h3,h4,h5,fun j hj=>?_⟩
  rw [← h6,List.getElem?_take,if_pos hj,Array.getElem?_toList]
theorem RowB.slice {e size : Nat} {v : Value} {n : Nat} {xs : List Value} {B : List Blk} (h : RowB e size v n xs B) : ∃ A c,v = .slice A n c:=by
 rcases h.2 with ⟨h1,h0,_⟩|⟨g,cap,cur,h1,_⟩
 ·exact ⟨none,0,by rw [h0];exact h1⟩
 ·exact ⟨_,_,h1⟩
theorem hs_cons {w0 w : World} {x : Blk} {B L : List Blk} (h : Hs w0 w (x :: (B ++ L))) : Hs w0 w (B ++ (x :: L)):=h.perm List.perm_middle.symm
theorem flat_get {α : Type} (f : α → List Value) (m : Nat) (hf : ∀ a,(f a).length = m) : ∀ (l : List α) (i j : Nat) (a : α),l[i]? = some a → j < m → (l.flatMap f)[i * m + j]? = (f a)[j]?
 | [],i,j,a,h,hj=>by simp at h
 | b :: l,0,j,a,h,hj=>by
  obtain rfl : b = a:=by simpa using h
  rw [List.flatMap_cons,Nat.zero_mul,Nat.zero_add,List.getElem?_append_left (by rw [hf];exact hj)]
 | b :: l,i + 1,j,a,h,hj=>by
  rw [List.flatMap_cons,List.getElem?_append_right (by rw [hf,Nat.succ_mul];omega),hf,(by rw [Nat.succ_mul];omega : (i + 1) * m + j - m = i * m + j)]
  exact flat_get f m hf l i j a (by simpa using h) hj
end Go.Proofs.Ytffhbpepppodeaa.Hs
