/-
  Texts of the proof.
-/
import Derived.Test.YtdjoffgkndncfaaGreatDBuiltPAN
import Derived.Laws.CopyOwn
set_option linter.unusedVariables false
set_option linter.unusedSimpArgs false
namespace Go.Proofs.YtdjoffgkndncfaaGreat
open Go Go.ChangeShapes Go.WideShapes Go.ChangeAt Go.RowKit Go.Joins Go.Deep
abbrev y9:=List (ByteArray × Int)
def VJ (l:y9):List ByteArray:=l.map (·.1)
def QK (l:y9):List Int:=l.map (·.2)
def vD (l:y9) (k:ByteArray):Nat:=JR (VJ l) k 0 l.length
def p6 (l:y9) (k:ByteArray):Bool:=decide ((VJ l)[vD l k]? = some k)
def qE (l:y9) (k:ByteArray):Int × Bool:=if p6 l k then ((QK l).getD (vD l k) 0,true) else (0,false)
def QL {α:Type} (l:List α) (i:Nat) (x:α):List α:=l.take i++x::l.drop i
def yZ (k:ByteArray) (a:Int) (l:y9):y9:=if a < 0∨9007199254740991 < a then l else if p6 l k then l else QL l (vD l k) (k,a)
def KW (k:ByteArray) (a:Int) (l:y9):Int:=if a < 0∨9007199254740991 < a then 2 else if p6 l k then 71 else 0
theorem Z4 (l:y9):(VJ l).length=l.length:=by simp[VJ]
theorem YX (l:y9):(QK l).length=l.length:=by simp[QK]
theorem DB (l:y9) (i:Nat) (k:ByteArray) (a:Int):VJ (QL l i (k,a))=QL (VJ l) i k:=by simp[VJ,QL,List.map_take,List.map_drop]
theorem FO (l:y9) (i:Nat) (k:ByteArray) (a:Int):QK (QL l i (k,a))=QL (QK l) i a:=by simp[QK,QL,List.map_take,List.map_drop]
theorem V0 {α:Type} (l:List α) (i:Nat) (x:α):(QL l i x).length=l.length+1:=by
 simp only[QL,List.length_append,List.length_take,List.length_cons,List.length_drop];omega
theorem eH (l:List ByteArray) (k:ByteArray):∀(n lo hi:Nat),hi - lo≤n→lo≤hi→JR l k lo hi≤hi
 | 0,lo,hi,h,h2=>by unfold JR;rw[if_neg zo];exact h2
 | n+1,lo,hi,h,h2=>by
  unfold JR;by_cases hlt:lo < hi
  ·rw[if_pos hlt];split
   ·exact eH l k n _ _ zo zo
   ·exact Nat.le_trans (eH l k n _ _ zo zo) zo
  ·rw[if_neg hlt];exact h2
theorem DC (l:y9) (k:ByteArray):vD l k≤l.length:=eH _ k _ 0 l.length (Nat.le_refl _) (Nat.zero_le _)
theorem gO {l:y9} {k:ByteArray} (h:p6 l k=true):vD l k < l.length:=by
 have h2:=of_decide_eq_true h;have:=(List.getElem?_eq_some_iff.1 h2).1
 rwa [Z4] at this
theorem KG (k:ByteArray) (a:Int) (l:y9):(yZ k a l).length≤l.length+1:=by
 unfold yZ;split
 ·omega
 ·split
  ·omega
  ·rw[V0];exact Nat.le_refl _
theorem tP {α:Type} (l:List α) (z x:α) (i:Nat) (h:i≤l.length):(splice (l++[z]) (i+1) (l.drop i)).set i x=QL l i x:=by
 unfold splice QL;apply List.ext_getElem?;intro j;rw[List.getElem?_set];simp only[List.length_append,List.length_take,List.length_drop,List.length_singleton];by_cases hj:i=j
 ·subst hj;rw[if_pos rfl,if_pos zo,List.getElem?_append_right zp6];simp[Nat.min_eq_left h]
 ·rw[if_neg hj];rcases Nat.lt_or_gt_of_ne (Ne.symm hj) with hlt|hgt
  ·rw[List.getElem?_append_left zp6,List.getElem?_append_left zp6,List.getElem?_take,List.getElem?_take,if_pos zo,if_pos hlt,List.getElem?_append_left zo]
  ·have hlen1:(List.take (i+1) (l++[z])).length=i+1:=by simp;omega
   have hlen2:(List.take i l).length=i:=by simp;omega
   rw[List.getElem?_append_right (by rw[hlen1];omega),hlen1,List.getElem?_append_right (l₁:=List.take i l) (by rw[hlen2];omega),hlen2,show j - i=(j - (i+1))+1 by omega,List.getElem?_cons_succ];by_cases h2:j - (i+1) < (l.drop i).length
   ·rw[List.getElem?_append_left h2]
   ·have h3:(List.drop i l).length≤j - (i+1):=(by omega);rw[List.getElem?_append_right h3,List.getElem?_drop,List.getElem?_eq_none (by simp at h3⊢;omega),List.getElem?_eq_none h3]
end Go.Proofs.YtdjoffgkndncfaaGreat
