/-
  Texts of the proof.
-/
import Derived.Test.YtdjoffgkndncfaaGreatECappedPAN
import Derived.Laws.CopyOwn
set_option linter.unusedVariables false
set_option linter.unusedSimpArgs false
namespace Go.Proofs.YtdjoffgkndncfaaGreat
open Go Go.ChangeShapes Go.WideShapes Go.ChangeAt Go.RowKit Go.Joins Go.Deep
abbrev PoolL:=List (ByteArray × Int)
def keysP (l:PoolL):List ByteArray:=l.map (·.1)
def atsP (l:PoolL):List Int:=l.map (·.2)
def placeP (l:PoolL) (k:ByteArray):Nat:=halves (keysP l) k 0 l.length
def hasP (l:PoolL) (k:ByteArray):Bool:=decide ((keysP l)[placeP l k]? = some k)
def getP (l:PoolL) (k:ByteArray):Int × Bool:=if hasP l k then ((atsP l).getD (placeP l k) 0,true) else (0,false)
def layL {α:Type} (l:List α) (i:Nat) (x:α):List α:=l.take i++x::l.drop i
def putP (k:ByteArray) (a:Int) (l:PoolL):PoolL:=if a < 0∨9007199254740991 < a then l else if hasP l k then l else layL l (placeP l k) (k,a)
def putE15 (k:ByteArray) (a:Int) (l:PoolL):Int:=if a < 0∨9007199254740991 < a then 2 else if hasP l k then 71 else 0
theorem keysP_length (l:PoolL):(keysP l).length=l.length:=by simp[keysP]
theorem atsP_length (l:PoolL):(atsP l).length=l.length:=by simp[atsP]
theorem keysP_lay (l:PoolL) (i:Nat) (k:ByteArray) (a:Int):keysP (layL l i (k,a))=layL (keysP l) i k:=by simp[keysP,layL,List.map_take,List.map_drop]
theorem atsP_lay (l:PoolL) (i:Nat) (k:ByteArray) (a:Int):atsP (layL l i (k,a))=layL (atsP l) i a:=by simp[atsP,layL,List.map_take,List.map_drop]
theorem layL_length {α:Type} (l:List α) (i:Nat) (x:α):(layL l i x).length=l.length+1:=by
 simp only[layL,List.length_append,List.length_take,List.length_cons,List.length_drop];omega
theorem halves_le (l:List ByteArray) (k:ByteArray):∀(n lo hi:Nat),hi - lo≤n→lo≤hi→halves l k lo hi≤hi
 | 0,lo,hi,h,h2=>by unfold halves;rw[if_neg (by omega)];exact h2
 | n+1,lo,hi,h,h2=>by
  unfold halves
  by_cases hlt:lo < hi
  ·rw[if_pos hlt]
   split
   ·exact halves_le l k n _ _ (by omega) (by omega)
   ·exact Nat.le_trans (halves_le l k n _ _ (by omega) (by omega)) (by omega)
  ·rw[if_neg hlt];exact h2
theorem placeP_le (l:PoolL) (k:ByteArray):placeP l k≤l.length:=halves_le _ k _ 0 l.length (Nat.le_refl _) (Nat.zero_le _)
theorem hasP_lt {l:PoolL} {k:ByteArray} (h:hasP l k=true):placeP l k < l.length:=by
 have h2:=of_decide_eq_true h
 have:=(List.getElem?_eq_some_iff.1 h2).1
 rwa [keysP_length] at this
theorem putP_length (k:ByteArray) (a:Int) (l:PoolL):(putP k a l).length≤l.length+1:=by
 unfold putP
 split
 ·omega
 ·split
  ·omega
  ·rw[layL_length];exact Nat.le_refl _
theorem layL_splice {α:Type} (l:List α) (z x:α) (i:Nat) (h:i≤l.length):(splice (l++[z]) (i+1) (l.drop i)).set i x=layL l i x:=by
 unfold splice layL
 apply List.ext_getElem?
 intro j
 rw[List.getElem?_set]
 simp only[List.length_append,List.length_take,List.length_drop,List.length_singleton]
 by_cases hj:i=j
 ·subst hj
  rw[if_pos rfl,if_pos (by omega),List.getElem?_append_right (by simp;omega)]
  simp[Nat.min_eq_left h]
 ·rw[if_neg hj]
  rcases Nat.lt_or_gt_of_ne (Ne.symm hj) with hlt|hgt
  ·rw[List.getElem?_append_left (by simp;omega),List.getElem?_append_left (by simp;omega),List.getElem?_take,List.getElem?_take,if_pos (by omega),if_pos hlt,List.getElem?_append_left (by omega)]
  ·have hlen1:(List.take (i+1) (l++[z])).length=i+1:=by simp;omega
   have hlen2:(List.take i l).length=i:=by simp;omega
   rw[List.getElem?_append_right (by rw[hlen1];omega),hlen1,List.getElem?_append_right (l₁:=List.take i l) (by rw[hlen2];omega),hlen2,show j - i=(j - (i+1))+1 by omega,List.getElem?_cons_succ]
   by_cases h2:j - (i+1) < (l.drop i).length
   ·rw[List.getElem?_append_left h2]
   ·have h3:(List.drop i l).length≤j - (i+1):=by omega
    rw[List.getElem?_append_right h3,List.getElem?_drop,List.getElem?_eq_none (by simp at h3⊢;omega),List.getElem?_eq_none h3]
end Go.Proofs.YtdjoffgkndncfaaGreat
