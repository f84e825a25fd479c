/-
  Texts of the proof.
-/
import Derived.Test.YtdjoffgkndncfaaGreatEOrderPAN
import Derived.Laws.CopyOwn
set_option linter.unusedVariables false
set_option linter.unusedSimpArgs false
namespace Go.Proofs.YtdjoffgkndncfaaGreat
open Go Go.ChangeShapes Go.WideShapes Go.ChangeAt Go.RowKit Go.Joins Go.Deep
abbrev jAX:=List (ByteArray × Int)
def jDZ (l:jAX):List ByteArray:=l.map (·.1)
def jC3 (l:jAX):List Int:=l.map (·.2)
def jAs (l:jAX) (k:ByteArray):Nat:=jBM (jDZ l) k 0 l.length
def jI2 (l:jAX) (k:ByteArray):Bool:=decide ((jDZ l)[jAs l k]? = some k)
def jAa (l:jAX) (k:ByteArray):Int × Bool:=if jI2 l k then ((jC3 l).getD (jAs l k) 0,true) else (0,false)
def jC4 {α:Type} (l:List α) (i:Nat) (x:α):List α:=l.take i++x::l.drop i
def jAK (k:ByteArray) (a:Int) (l:jAX):jAX:=if a < 0∨9007199254740991 < a then l else if jI2 l k then l else jC4 l (jAs l k) (k,a)
def jBv (k:ByteArray) (a:Int) (l:jAX):Int:=if a < 0∨9007199254740991 < a then 2 else if jI2 l k then 71 else 0
theorem jCQ (l:jAX):(jDZ l).length=l.length:=by simp[jDZ]
theorem jCo (l:jAX):(jC3 l).length=l.length:=by simp[jC3]
theorem jMq (l:jAX) (i:Nat) (k:ByteArray) (a:Int):jDZ (jC4 l i (k,a))=jC4 (jDZ l) i k:=by simp[jDZ,jC4,List.map_take,List.map_drop]
theorem jN1 (l:jAX) (i:Nat) (k:ByteArray) (a:Int):jC3 (jC4 l i (k,a))=jC4 (jC3 l) i a:=by simp[jC3,jC4,List.map_take,List.map_drop]
theorem jDp {α:Type} (l:List α) (i:Nat) (x:α):(jC4 l i x).length=l.length+1:=by
 simp only[jC4,List.length_append,List.length_take,List.length_cons,List.length_drop];omega
theorem jFR (l:List ByteArray) (k:ByteArray):∀(n lo hi:Nat),hi - lo≤n→lo≤hi→jBM l k lo hi≤hi
 | 0,lo,hi,h,h2=>by unfold jBM;rw[if_neg (by omega)];exact h2
 | n+1,lo,hi,h,h2=>by
  unfold jBM
  by_cases hlt:lo < hi
  ·rw[if_pos hlt]
   split
   ·exact jFR l k n _ _ (by omega) (by omega)
   ·exact Nat.le_trans (jFR l k n _ _ (by omega) (by omega)) (by omega)
  ·rw[if_neg hlt];exact h2
theorem jMr (l:jAX) (k:ByteArray):jAs l k≤l.length:=jFR _ k _ 0 l.length (Nat.le_refl _) (Nat.zero_le _)
theorem jGI {l:jAX} {k:ByteArray} (h:jI2 l k=true):jAs l k < l.length:=by
 have h2:=of_decide_eq_true h
 have:=(List.getElem?_eq_some_iff.1 h2).1
 rwa [jCQ] at this
theorem jBg (k:ByteArray) (a:Int) (l:jAX):(jAK k a l).length≤l.length+1:=by
 unfold jAK
 split
 ·omega
 ·split
  ·omega
  ·rw[jDp];exact Nat.le_refl _
theorem jJ5 {α:Type} (l:List α) (z x:α) (i:Nat) (h:i≤l.length):(splice (l++[z]) (i+1) (l.drop i)).set i x=jC4 l i x:=by
 unfold splice jC4
 apply List.ext_getElem?
 intro j
 rw[List.getElem?_set]
 simp only[List.length_append,List.length_take,List.length_drop,List.length_singleton]
 by_cases hj:i=j
 ·subst hj
  rw[if_pos rfl,if_pos (by omega),List.getElem?_append_right (by simp;omega)]
  simp[Nat.min_eq_left h]
 ·rw[if_neg hj]
  rcases Nat.lt_or_gt_of_ne (Ne.symm hj) with hlt|hgt
  ·rw[List.getElem?_append_left (by simp;omega),List.getElem?_append_left (by simp;omega),List.getElem?_take,List.getElem?_take,if_pos (by omega),if_pos hlt,List.getElem?_append_left (by omega)]
  ·have hlen1:(List.take (i+1) (l++[z])).length=i+1:=by simp;omega
   have hlen2:(List.take i l).length=i:=by simp;omega
   rw[List.getElem?_append_right (by rw[hlen1];omega),hlen1,List.getElem?_append_right (l₁:=List.take i l) (by rw[hlen2];omega),hlen2,show j - i=(j - (i+1))+1 by omega,List.getElem?_cons_succ]
   by_cases h2:j - (i+1) < (l.drop i).length
   ·rw[List.getElem?_append_left h2]
   ·have h3:(List.drop i l).length≤j - (i+1):=by omega
    rw[List.getElem?_append_right h3,List.getElem?_drop,List.getElem?_eq_none (by simp at h3⊢;omega),List.getElem?_eq_none h3]
end Go.Proofs.YtdjoffgkndncfaaGreat
