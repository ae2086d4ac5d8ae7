import Derived.Test.YtffhbpepppodeaaHsAppFnExactJoinObject
import Derived.Laws.CopyOwn
set_option linter.unusedVariables false
set_option linter.unusedSimpArgs false
namespace Go.Proofs.Ytffhbpepppodeaa.Hs
open Go.RowKit Go.Proofs.YtffhbpepppodeaaW.PrintWords Go.Proofs.YtffhbpepppodeaaW.PrintLast Go.Proofs.YtffhbpepppodeaaW.PrintMore
def splA (cur : Array Value) (off : Nat) (cs : List Value) : Array Value:=(cur.toList.take off ++ cs ++ cur.toList.drop (off + cs.length)).toArray
theorem run_copy_size {P : Program} (w : World) (dT sT ty elem : TypeId) (size g o dLen dCap : Nat) (a : Addr) (sLen sCap : Nat) (cur : Array Value) (t : TypeId) (cs : List Value)
  (hu : P.underlying dT = some (.slice elem)) (hs : (P.info? elem).map (·.size) = some size)
  (hg : w.heap[g]? = some (.cells cur t (0,0))) (hn : cs.length = Nat.min sLen dLen * size)
  (hsrc : ∀ j v,cs[j]? = some v → w.cell? (a.add j) = some v) (hfit : o + cs.length ≤ cur.size) (h1 : ∀ v ∈ cs,v.oneCell' = true) :
  (Builtin.copy_ #[dT,sT] ty #[.slice (some ⟨g,o,none⟩) dLen dCap,.slice (some a) sLen sCap]).run P w = .ok (goInt (Nat.min sLen dLen)) (w.setRow g (splA cur o cs)):=by
 have hl:=run_loadCells_list (P:=P) w a cs hsrc
 have hst:=run_storeCells_at P g o t cs 0 cur w hg (by simpa using hfit) h1
 rw [hn] at hl
 cases hq : P.info? elem with
 | none=>simp [hq] at hs
 | some i=>
  have hi : i.size = size:=by simpa [hq] using hs
  simp [Builtin.copy_,run_underlying hu,Builtin.lenOf,Builtin.firstCells,sizeOf,typeInfo,hq,hi,hl]
  simp only [Nat.add_zero] at hst
  rw [hst]
  rfl
theorem Hs.setRow {w0 w : World} {L : List Blk} (h : Hs w0 w L) (i : Nat) {g : Nat} {cur : Array Value} {t : TypeId} (hi : L[i]? = some (g,.cells cur t (0,0))) (X : Array Value) : Hs w0 (w.setRow g X) (L.set i (g,.cells X t (0,0))):=
 h.turn i hi (below_setRow h.below (h.ge i hi) X) (fun k _ hne=>setRow_other w g k X hne) (setRow_heap w g cur X t (0,0) (h.get i hi))
theorem copy_ev {P : Program} {ops : Array Oper} {rest : List Oper} {o : Oper} {a : Act} {Q : Exit → Act → World → Prop} {w0 W : World} {L : List Blk} (hgd : o.guard = none) (d s : Operand) (dT elem : TypeId) (size : Nat)
  (ho : o.op = .call { callee:=.builtin .copy,args:=#[d,s],argTypes:=#[dT,dT] }) (hu : P.underlying dT = some (.slice elem)) (hs : (P.info? elem).map (·.size) = some size)
  (g off dLen dCap : Nat) (ad : Addr) (sLen sCap : Nat) (hd : a.eval d = .slice (some ⟨g,off,none⟩) dLen dCap) (hsv : a.eval s = .slice (some ad) sLen sCap)
  (H : Hs w0 W L) (i : Nat) (cur : Array Value) (hi : L[i]? = some (g,.cells cur elem (0,0))) (cs : List Value) (n off' : Nat) (hmin : Nat.min sLen dLen = n) (hoff : off = off') (hn : cs.length = n * size)
  (hsrc : ∀ j v,cs[j]? = some v → W.cell? (ad.add j) = some v) (hfit : off' + cs.length ≤ cur.size) (h1 : ∀ v ∈ cs,v.oneCell' = true)
  (h : ∀ w1,Hs w0 w1 (L.set i (g,.cells (splA cur off' cs) elem (0,0))) → wpList P ops Q rest (a.put o.dst (goInt n)) w1) : wpList P ops Q (o :: rest) a W:=by
 subst hoff
 have hrun:=run_copy_size (P:=P) W dT dT o.type elem size g off dLen dCap ad sLen sCap cur elem cs hu hs (H.get i hi) (by rw [hmin];exact hn) hsrc hfit h1
 rw [hmin] at hrun
 refine wpList_plain hgd fun K hK=>?_
 unfold Oper.wp
 simp [execOp,ho,resolve,invoke,builtin,hd,hsv,hrun,Result.andThen]
 exact hK _ _ (h _ (H.setRow i hi _))
theorem copy_stp {P : Program} {ops : Array Oper} {o : Oper} {a : Act} {K : Act → World → Prop} {Q : Exit → Act → World → Prop} {E : Prop} {w0 W : World} {L : List Blk} (hgd : o.guard = none) (d s : Operand) (dT elem : TypeId) (size : Nat)
  (ho : o.op = .call { callee:=.builtin .copy,args:=#[d,s],argTypes:=#[dT,dT] }) (hu : P.underlying dT = some (.slice elem)) (hs : (P.info? elem).map (·.size) = some size)
  (g off dLen dCap : Nat) (ad : Addr) (sLen sCap : Nat) (hd : a.eval d = .slice (some ⟨g,off,none⟩) dLen dCap) (hsv : a.eval s = .slice (some ad) sLen sCap)
  (H : Hs w0 W L) (i : Nat) (cur : Array Value) (hi : L[i]? = some (g,.cells cur elem (0,0))) (cs : List Value) (n off' : Nat) (hmin : Nat.min sLen dLen = n) (hoff : off = off') (hn : cs.length = n * size)
  (hsrc : ∀ j v,cs[j]? = some v → W.cell? (ad.add j) = some v) (hfit : off' + cs.length ≤ cur.size) (h1 : ∀ v ∈ cs,v.oneCell' = true)
  (h : ∀ w1,Hs w0 w1 (L.set i (g,.cells (splA cur off' cs) elem (0,0))) → K (a.put o.dst (goInt n)) w1) :
  if Region.wanted o (yielded ops a.tmps) = true then Oper.wp P o a W K Q else E:=by
 subst hoff
 have hrun:=run_copy_size (P:=P) W dT dT o.type elem size g off dLen dCap ad sLen sCap cur elem cs hu hs (H.get i hi) (by rw [hmin];exact hn) hsrc hfit h1
 rw [hmin] at hrun
 have hw : Region.wanted o (yielded ops a.tmps) = true:=by simp [Region.wanted,hgd]
 rw [if_pos hw]
 unfold Oper.wp
 simp [execOp,ho,resolve,invoke,builtin,hd,hsv,hrun,Result.andThen]
 exact h _ (H.setRow i hi _)
end Go.Proofs.Ytffhbpepppodeaa.Hs
