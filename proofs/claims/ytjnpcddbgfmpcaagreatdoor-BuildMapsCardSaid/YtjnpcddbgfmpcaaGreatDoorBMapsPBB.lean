/-
  Texts of the proof.
-/
import Derived.Test.YtjnpcddbgfmpcaaGreatDoorBMapsPAQ
import Derived.Laws.CopyOwn
set_option linter.unusedVariables false
set_option linter.unusedSimpArgs false
namespace Go.Proofs.YtjnpcddbgfmpcaaGreatDoor
open Go Go.ChangeShapes Go.WideShapes Go.ChangeAt Go.RowKit Go.Joins Go.Deep
abbrev zR:=List (ByteArray × Int)
def ZB (l:zR):List ByteArray:=l.map (·.1)
def KH (l:zR):List Int:=l.map (·.2)
def yJ (l:zR) (k:ByteArray):Nat:=y7 (ZB l) k 0 l.length
def fK (l:zR) (k:ByteArray):Bool:=decide ((ZB l)[yJ l k]? = some k)
def yB (l:zR) (k:ByteArray):Int × Bool:=if fK l k then ((KH l).getD (yJ l k) 0,true) else (0,false)
def KI {α:Type} (l:List α) (i:Nat) (x:α):List α:=l.take i++x::l.drop i
def zL (k:ByteArray) (a:Int) (l:zR):zR:=if a < 0∨9007199254740991 < a then l else if fK l k then l else KI l (yJ l k) (k,a)
def qY (k:ByteArray) (a:Int) (l:zR):Int:=if a < 0∨9007199254740991 < a then 2 else if fK l k then 71 else 0
theorem v8 (l:zR):(ZB l).length=l.length:=by simp[ZB]
theorem J3 (l:zR):(KH l).length=l.length:=by simp[KH]
theorem oW (l:zR) (i:Nat) (k:ByteArray) (a:Int):ZB (KI l i (k,a))=KI (ZB l) i k:=by simp[ZB,KI,List.map_take,List.map_drop]
theorem rT (l:zR) (i:Nat) (k:ByteArray) (a:Int):KH (KI l i (k,a))=KI (KH l) i a:=by simp[KH,KI,List.map_take,List.map_drop]
theorem ZQ {α:Type} (l:List α) (i:Nat) (x:α):(KI l i x).length=l.length+1:=by
 simp only[KI,List.length_append,List.length_take,List.length_cons,List.length_drop];omega
theorem VH (l:List ByteArray) (k:ByteArray):∀(n lo hi:Nat),hi - lo≤n→lo≤hi→y7 l k lo hi≤hi
 | 0,lo,hi,h,h2=>by unfold y7;rw[if_neg (by omega)];exact h2
 | n+1,lo,hi,h,h2=>by
  unfold y7
  by_cases hlt:lo < hi
  ·rw[if_pos hlt]
   split
   ·exact VH l k n _ _ (by omega) (by omega)
   ·exact Nat.le_trans (VH l k n _ _ (by omega) (by omega)) (by omega)
  ·rw[if_neg hlt];exact h2
theorem oX (l:zR) (k:ByteArray):yJ l k≤l.length:=VH _ k _ 0 l.length (Nat.le_refl _) (Nat.zero_le _)
theorem aO {l:zR} {k:ByteArray} (h:fK l k=true):yJ l k < l.length:=by
 have h2:=of_decide_eq_true h
 have:=(List.getElem?_eq_some_iff.1 h2).1
 rwa [v8] at this
theorem qO (k:ByteArray) (a:Int) (l:zR):(zL k a l).length≤l.length+1:=by
 unfold zL
 split
 ·omega
 ·split
  ·omega
  ·rw[ZQ];exact Nat.le_refl _
theorem hU {α:Type} (l:List α) (z x:α) (i:Nat) (h:i≤l.length):(splice (l++[z]) (i+1) (l.drop i)).set i x=KI l i x:=by
 unfold splice KI
 apply List.ext_getElem?
 intro j
 rw[List.getElem?_set]
 simp only[List.length_append,List.length_take,List.length_drop,List.length_singleton]
 by_cases hj:i=j
 ·subst hj
  rw[if_pos rfl,if_pos (by omega),List.getElem?_append_right (by simp;omega)]
  simp[Nat.min_eq_left h]
 ·rw[if_neg hj]
  rcases Nat.lt_or_gt_of_ne (Ne.symm hj) with hlt|hgt
  ·rw[List.getElem?_append_left (by simp;omega),List.getElem?_append_left (by simp;omega),List.getElem?_take,List.getElem?_take,if_pos (by omega),if_pos hlt,List.getElem?_append_left (by omega)]
  ·have hlen1:(List.take (i+1) (l++[z])).length=i+1:=by simp;omega
   have hlen2:(List.take i l).length=i:=by simp;omega
   rw[List.getElem?_append_right (by rw[hlen1];omega),hlen1,List.getElem?_append_right (l₁:=List.take i l) (by rw[hlen2];omega),hlen2,show j - i=(j - (i+1))+1 by omega,List.getElem?_cons_succ]
   by_cases h2:j - (i+1) < (l.drop i).length
   ·rw[List.getElem?_append_left h2]
   ·have h3:(List.drop i l).length≤j - (i+1):=by omega
    rw[List.getElem?_append_right h3,List.getElem?_drop,List.getElem?_eq_none (by simp at h3⊢;omega),List.getElem?_eq_none h3]
end Go.Proofs.YtjnpcddbgfmpcaaGreatDoor
