/-
  Texts of the proof.
-/
import Derived.Test.YtjnpcddbgfmpcaaGreatDoorBKeysPAQ
import Derived.Laws.CopyOwn
set_option linter.unusedVariables false
set_option linter.unusedSimpArgs false
namespace Go.Proofs.YtjnpcddbgfmpcaaGreatDoor
open Go Go.ChangeShapes Go.WideShapes Go.ChangeAt Go.RowKit Go.Joins Go.Deep
abbrev zD:=List (ByteArray × Int)
def yK (l:zD):List ByteArray:=l.map (·.1)
def J0 (l:zD):List Int:=l.map (·.2)
def k8 (l:zD) (k:ByteArray):Nat:=yA (yK l) k 0 l.length
def QV (l:zD) (k:ByteArray):Bool:=decide ((yK l)[k8 l k]? = some k)
def yE (l:zD) (k:ByteArray):Int × Bool:=if QV l k then ((J0 l).getD (k8 l k) 0,true) else (0,false)
def JK {α:Type} (l:List α) (i:Nat) (x:α):List α:=l.take i++x::l.drop i
def zH (k:ByteArray) (a:Int) (l:zD):zD:=if a < 0∨9007199254740991 < a then l else if QV l k then l else JK l (k8 l k) (k,a)
def qV (k:ByteArray) (a:Int) (l:zD):Int:=if a < 0∨9007199254740991 < a then 2 else if QV l k then 71 else 0
theorem y5 (l:zD):(yK l).length=l.length:=by simp[yK]
theorem JO (l:zD):(J0 l).length=l.length:=by simp[J0]
theorem QW (l:zD) (i:Nat) (k:ByteArray) (a:Int):yK (JK l i (k,a))=JK (yK l) i k:=by simp[yK,JK,List.map_take,List.map_drop]
theorem pQ (l:zD) (i:Nat) (k:ByteArray) (a:Int):J0 (JK l i (k,a))=JK (J0 l) i a:=by simp[J0,JK,List.map_take,List.map_drop]
theorem K6 {α:Type} (l:List α) (i:Nat) (x:α):(JK l i x).length=l.length+1:=by
 simp only[JK,List.length_append,List.length_take,List.length_cons,List.length_drop];omega
theorem QX (l:List ByteArray) (k:ByteArray):∀(n lo hi:Nat),hi - lo≤n→lo≤hi→yA l k lo hi≤hi
 | 0,lo,hi,h,h2=>by unfold yA;rw[if_neg (by omega)];exact h2
 | n+1,lo,hi,h,h2=>by
  unfold yA
  by_cases hlt:lo < hi
  ·rw[if_pos hlt]
   split
   ·exact QX l k n _ _ (by omega) (by omega)
   ·exact Nat.le_trans (QX l k n _ _ (by omega) (by omega)) (by omega)
  ·rw[if_neg hlt];exact h2
theorem cZ (l:zD) (k:ByteArray):k8 l k≤l.length:=QX _ k _ 0 l.length (Nat.le_refl _) (Nat.zero_le _)
theorem V6 {l:zD} {k:ByteArray} (h:QV l k=true):k8 l k < l.length:=by
 have h2:=of_decide_eq_true h
 have:=(List.getElem?_eq_some_iff.1 h2).1
 rwa [y5] at this
theorem qL (k:ByteArray) (a:Int) (l:zD):(zH k a l).length≤l.length+1:=by
 unfold zH
 split
 ·omega
 ·split
  ·omega
  ·rw[K6];exact Nat.le_refl _
theorem gE {α:Type} (l:List α) (z x:α) (i:Nat) (h:i≤l.length):(splice (l++[z]) (i+1) (l.drop i)).set i x=JK l i x:=by
 unfold splice JK
 apply List.ext_getElem?
 intro j
 rw[List.getElem?_set]
 simp only[List.length_append,List.length_take,List.length_drop,List.length_singleton]
 by_cases hj:i=j
 ·subst hj
  rw[if_pos rfl,if_pos (by omega),List.getElem?_append_right (by simp;omega)]
  simp[Nat.min_eq_left h]
 ·rw[if_neg hj]
  rcases Nat.lt_or_gt_of_ne (Ne.symm hj) with hlt|hgt
  ·rw[List.getElem?_append_left (by simp;omega),List.getElem?_append_left (by simp;omega),List.getElem?_take,List.getElem?_take,if_pos (by omega),if_pos hlt,List.getElem?_append_left (by omega)]
  ·have hlen1:(List.take (i+1) (l++[z])).length=i+1:=by simp;omega
   have hlen2:(List.take i l).length=i:=by simp;omega
   rw[List.getElem?_append_right (by rw[hlen1];omega),hlen1,List.getElem?_append_right (l₁:=List.take i l) (by rw[hlen2];omega),hlen2,show j - i=(j - (i+1))+1 by omega,List.getElem?_cons_succ]
   by_cases h2:j - (i+1) < (l.drop i).length
   ·rw[List.getElem?_append_left h2]
   ·have h3:(List.drop i l).length≤j - (i+1):=by omega
    rw[List.getElem?_append_right h3,List.getElem?_drop,List.getElem?_eq_none (by simp at h3⊢;omega),List.getElem?_eq_none h3]
end Go.Proofs.YtjnpcddbgfmpcaaGreatDoor
