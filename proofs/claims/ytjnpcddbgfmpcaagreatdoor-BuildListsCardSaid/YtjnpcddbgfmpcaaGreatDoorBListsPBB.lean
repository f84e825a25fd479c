/-
  Texts of the proof.
-/
import Derived.Test.YtjnpcddbgfmpcaaGreatDoorBListsPAQ
import Derived.Laws.CopyOwn
set_option linter.unusedVariables false
set_option linter.unusedSimpArgs false
namespace Go.Proofs.YtjnpcddbgfmpcaaGreatDoor
open Go Go.ChangeShapes Go.WideShapes Go.ChangeAt Go.RowKit Go.Joins Go.Deep
abbrev k8:=List (ByteArray × Int)
def yB (l:k8):List ByteArray:=l.map (·.1)
def KG (l:k8):List Int:=l.map (·.2)
def kZ (l:k8) (k:ByteArray):Nat:=zT (yB l) k 0 l.length
def KU (l:k8) (k:ByteArray):Bool:=decide ((yB l)[kZ l k]? = some k)
def zF (l:k8) (k:ByteArray):Int × Bool:=if KU l k then ((KG l).getD (kZ l k) 0,true) else (0,false)
def J0 {α:Type} (l:List α) (i:Nat) (x:α):List α:=l.take i++x::l.drop i
def zC (k:ByteArray) (a:Int) (l:k8):k8:=if a < 0∨9007199254740991 < a then l else if KU l k then l else J0 l (kZ l k) (k,a)
def qZ (k:ByteArray) (a:Int) (l:k8):Int:=if a < 0∨9007199254740991 < a then 2 else if KU l k then 71 else 0
theorem qC (l:k8):(yB l).length=l.length:=by simp[yB]
theorem J3 (l:k8):(KG l).length=l.length:=by simp[KG]
theorem VF (l:k8) (i:Nat) (k:ByteArray) (a:Int):yB (J0 l i (k,a))=J0 (yB l) i k:=by simp[yB,J0,List.map_take,List.map_drop]
theorem rH (l:k8) (i:Nat) (k:ByteArray) (a:Int):KG (J0 l i (k,a))=J0 (KG l) i a:=by simp[KG,J0,List.map_take,List.map_drop]
theorem ZO {α:Type} (l:List α) (i:Nat) (x:α):(J0 l i x).length=l.length+1:=by
 simp only[J0,List.length_append,List.length_take,List.length_cons,List.length_drop];omega
theorem VG (l:List ByteArray) (k:ByteArray):∀(n lo hi:Nat),hi - lo≤n→lo≤hi→zT l k lo hi≤hi
 | 0,lo,hi,h,h2=>by unfold zT;rw[if_neg (by omega)];exact h2
 | n+1,lo,hi,h,h2=>by
  unfold zT
  by_cases hlt:lo < hi
  ·rw[if_pos hlt]
   split
   ·exact VG l k n _ _ (by omega) (by omega)
   ·exact Nat.le_trans (VG l k n _ _ (by omega) (by omega)) (by omega)
  ·rw[if_neg hlt];exact h2
theorem dX (l:k8) (k:ByteArray):kZ l k≤l.length:=VG _ k _ 0 l.length (Nat.le_refl _) (Nat.zero_le _)
theorem aO {l:k8} {k:ByteArray} (h:KU l k=true):kZ l k < l.length:=by
 have h2:=of_decide_eq_true h
 have:=(List.getElem?_eq_some_iff.1 h2).1
 rwa [qC] at this
theorem qQ (k:ByteArray) (a:Int) (l:k8):(zC k a l).length≤l.length+1:=by
 unfold zC
 split
 ·omega
 ·split
  ·omega
  ·rw[ZO];exact Nat.le_refl _
theorem hQ {α:Type} (l:List α) (z x:α) (i:Nat) (h:i≤l.length):(splice (l++[z]) (i+1) (l.drop i)).set i x=J0 l i x:=by
 unfold splice J0
 apply List.ext_getElem?
 intro j
 rw[List.getElem?_set]
 simp only[List.length_append,List.length_take,List.length_drop,List.length_singleton]
 by_cases hj:i=j
 ·subst hj
  rw[if_pos rfl,if_pos (by omega),List.getElem?_append_right (by simp;omega)]
  simp[Nat.min_eq_left h]
 ·rw[if_neg hj]
  rcases Nat.lt_or_gt_of_ne (Ne.symm hj) with hlt|hgt
  ·rw[List.getElem?_append_left (by simp;omega),List.getElem?_append_left (by simp;omega),List.getElem?_take,List.getElem?_take,if_pos (by omega),if_pos hlt,List.getElem?_append_left (by omega)]
  ·have hlen1:(List.take (i+1) (l++[z])).length=i+1:=by simp;omega
   have hlen2:(List.take i l).length=i:=by simp;omega
   rw[List.getElem?_append_right (by rw[hlen1];omega),hlen1,List.getElem?_append_right (l₁:=List.take i l) (by rw[hlen2];omega),hlen2,show j - i=(j - (i+1))+1 by omega,List.getElem?_cons_succ]
   by_cases h2:j - (i+1) < (l.drop i).length
   ·rw[List.getElem?_append_left h2]
   ·have h3:(List.drop i l).length≤j - (i+1):=by omega
    rw[List.getElem?_append_right h3,List.getElem?_drop,List.getElem?_eq_none (by simp at h3⊢;omega),List.getElem?_eq_none h3]
end Go.Proofs.YtjnpcddbgfmpcaaGreatDoor
