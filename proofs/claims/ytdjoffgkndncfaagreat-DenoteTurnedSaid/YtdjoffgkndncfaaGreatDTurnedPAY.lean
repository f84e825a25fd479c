/-
  Texts of the proof.
-/
import Derived.Test.YtdjoffgkndncfaaGreatDTurnedPAN
import Derived.Laws.CopyOwn
set_option linter.unusedVariables false
set_option linter.unusedSimpArgs false
namespace Go.Proofs.YtdjoffgkndncfaaGreat
open Go Go.ChangeShapes Go.WideShapes Go.ChangeAt Go.RowKit Go.Joins Go.Deep
abbrev y6:=List (ByteArray × Int)
def QR (l:y6):List ByteArray:=l.map (·.1)
def QG (l:y6):List Int:=l.map (·.2)
def vH (l:y6) (k:ByteArray):Nat:=vU (QR l) k 0 l.length
def mV (l:y6) (k:ByteArray):Bool:=decide ((QR l)[vH l k]? = some k)
def vO (l:y6) (k:ByteArray):Int × Bool:=if mV l k then ((QG l).getD (vH l k) 0,true) else (0,false)
def YK {α:Type} (l:List α) (i:Nat) (x:α):List α:=l.take i++x::l.drop i
def y0 (k:ByteArray) (a:Int) (l:y6):y6:=if a < 0∨9007199254740991 < a then l else if mV l k then l else YK l (vH l k) (k,a)
def J0 (k:ByteArray) (a:Int) (l:y6):Int:=if a < 0∨9007199254740991 < a then 2 else if mV l k then 71 else 0
theorem K9 (l:y6):(QR l).length=l.length:=by simp[QR]
theorem Z0 (l:y6):(QG l).length=l.length:=by simp[QG]
theorem xQ (l:y6) (i:Nat) (k:ByteArray) (a:Int):QR (YK l i (k,a))=YK (QR l) i k:=by simp[QR,YK,List.map_take,List.map_drop]
theorem B7 (l:y6) (i:Nat) (k:ByteArray) (a:Int):QG (YK l i (k,a))=YK (QG l) i a:=by simp[QG,YK,List.map_take,List.map_drop]
theorem QS {α:Type} (l:List α) (i:Nat) (x:α):(YK l i x).length=l.length+1:=by
 simp only[YK,List.length_append,List.length_take,List.length_cons,List.length_drop];omega
theorem cM (l:List ByteArray) (k:ByteArray):∀(n lo hi:Nat),hi - lo≤n→lo≤hi→vU l k lo hi≤hi
 | 0,lo,hi,h,h2=>by unfold vU;rw[if_neg zo];exact h2
 | n+1,lo,hi,h,h2=>by
  unfold vU;by_cases hlt:lo < hi
  ·rw[if_pos hlt];split
   ·exact cM l k n _ _ zo zo
   ·exact Nat.le_trans (cM l k n _ _ zo zo) zo
  ·rw[if_neg hlt];exact h2
theorem xR (l:y6) (k:ByteArray):vH l k≤l.length:=cM _ k _ 0 l.length (Nat.le_refl _) (Nat.zero_le _)
theorem mW {l:y6} {k:ByteArray} (h:mV l k=true):vH l k < l.length:=by
 have h2:=of_decide_eq_true h;have:=(List.getElem?_eq_some_iff.1 h2).1
 rwa [K9] at this
theorem JO (k:ByteArray) (a:Int) (l:y6):(y0 k a l).length≤l.length+1:=by
 unfold y0;split
 ·omega
 ·split
  ·omega
  ·rw[QS];exact Nat.le_refl _
theorem pF {α:Type} (l:List α) (z x:α) (i:Nat) (h:i≤l.length):(splice (l++[z]) (i+1) (l.drop i)).set i x=YK l i x:=by
 unfold splice YK;apply List.ext_getElem?;intro j;rw[List.getElem?_set];simp only[List.length_append,List.length_take,List.length_drop,List.length_singleton];by_cases hj:i=j
 ·subst hj;rw[if_pos rfl,if_pos zo,List.getElem?_append_right zp6];simp[Nat.min_eq_left h]
 ·rw[if_neg hj];rcases Nat.lt_or_gt_of_ne (Ne.symm hj) with hlt|hgt
  ·rw[List.getElem?_append_left zp6,List.getElem?_append_left zp6,List.getElem?_take,List.getElem?_take,if_pos zo,if_pos hlt,List.getElem?_append_left zo]
  ·have hlen1:(List.take (i+1) (l++[z])).length=i+1:=by simp;omega
   have hlen2:(List.take i l).length=i:=by simp;omega
   rw[List.getElem?_append_right (by rw[hlen1];omega),hlen1,List.getElem?_append_right (l₁:=List.take i l) (by rw[hlen2];omega),hlen2,show j - i=(j - (i+1))+1 by omega,List.getElem?_cons_succ];by_cases h2:j - (i+1) < (l.drop i).length
   ·rw[List.getElem?_append_left h2]
   ·have h3:(List.drop i l).length≤j - (i+1):=(by omega);rw[List.getElem?_append_right h3,List.getElem?_drop,List.getElem?_eq_none (by simp at h3⊢;omega),List.getElem?_eq_none h3]
end Go.Proofs.YtdjoffgkndncfaaGreat
