/-
  Texts of the proof.
-/
import Derived.Test.YtjnpcddbgfmpcaaGreatBTextsPAJ
import Derived.Laws.CopyOwn
set_option linter.unusedVariables false
set_option linter.unusedSimpArgs false
namespace Go.Proofs.YtjnpcddbgfmpcaaGreat
open Go Go.ChangeShapes Go.WideShapes Go.ChangeAt Go.RowKit Go.Joins Go.Deep
abbrev zQ:=List (ByteArray × Int)
def J4 (l:zQ):List ByteArray:=l.map (·.1)
def J9 (l:zQ):List Int:=l.map (·.2)
def yH (l:zQ) (k:ByteArray):Nat:=yS (J4 l) k 0 l.length
def VZ (l:zQ) (k:ByteArray):Bool:=decide ((J4 l)[yH l k]? = some k)
def yF (l:zQ) (k:ByteArray):Int × Bool:=if VZ l k then ((J9 l).getD (yH l k) 0,true) else (0,false)
def JH {α:Type} (l:List α) (i:Nat) (x:α):List α:=l.take i++x::l.drop i
def zE (k:ByteArray) (a:Int) (l:zQ):zQ:=if a < 0∨9007199254740991 < a then l else if VZ l k then l else JH l (yH l k) (k,a)
def qK (k:ByteArray) (a:Int) (l:zQ):Int:=if a < 0∨9007199254740991 < a then 2 else if VZ l k then 71 else 0
theorem vF (l:zQ):(J4 l).length=l.length:=by simp[J4]
theorem vY (l:zQ):(J9 l).length=l.length:=by simp[J9]
theorem iS (l:zQ) (i:Nat) (k:ByteArray) (a:Int):J4 (JH l i (k,a))=JH (J4 l) i k:=by simp[J4,JH,List.map_take,List.map_drop]
theorem mB (l:zQ) (i:Nat) (k:ByteArray) (a:Int):J9 (JH l i (k,a))=JH (J9 l) i a:=by simp[J9,JH,List.map_take,List.map_drop]
theorem KH {α:Type} (l:List α) (i:Nat) (x:α):(JH l i x).length=l.length+1:=by
 simp only[JH,List.length_append,List.length_take,List.length_cons,List.length_drop];omega
theorem YN (l:List ByteArray) (k:ByteArray):∀(n lo hi:Nat),hi - lo≤n→lo≤hi→yS l k lo hi≤hi
 | 0,lo,hi,h,h2=>by unfold yS;rw[if_neg (by omega)];exact h2
 | n+1,lo,hi,h,h2=>by
  unfold yS
  by_cases hlt:lo < hi
  ·rw[if_pos hlt]
   split
   ·exact YN l k n _ _ (by omega) (by omega)
   ·exact Nat.le_trans (YN l k n _ _ (by omega) (by omega)) (by omega)
  ·rw[if_neg hlt];exact h2
theorem iT (l:zQ) (k:ByteArray):yH l k≤l.length:=YN _ k _ 0 l.length (Nat.le_refl _) (Nat.zero_le _)
theorem bW {l:zQ} {k:ByteArray} (h:VZ l k=true):yH l k < l.length:=by
 have h2:=of_decide_eq_true h
 have:=(List.getElem?_eq_some_iff.1 h2).1
 rwa [vF] at this
theorem qB (k:ByteArray) (a:Int) (l:zQ):(zE k a l).length≤l.length+1:=by
 unfold zE
 split
 ·omega
 ·split
  ·omega
  ·rw[KH];exact Nat.le_refl _
theorem dA {α:Type} (l:List α) (z x:α) (i:Nat) (h:i≤l.length):(splice (l++[z]) (i+1) (l.drop i)).set i x=JH l i x:=by
 unfold splice JH
 apply List.ext_getElem?
 intro j
 rw[List.getElem?_set]
 simp only[List.length_append,List.length_take,List.length_drop,List.length_singleton]
 by_cases hj:i=j
 ·subst hj
  rw[if_pos rfl,if_pos (by omega),List.getElem?_append_right (by simp;omega)]
  simp[Nat.min_eq_left h]
 ·rw[if_neg hj]
  rcases Nat.lt_or_gt_of_ne (Ne.symm hj) with hlt|hgt
  ·rw[List.getElem?_append_left (by simp;omega),List.getElem?_append_left (by simp;omega),List.getElem?_take,List.getElem?_take,if_pos (by omega),if_pos hlt,List.getElem?_append_left (by omega)]
  ·have hlen1:(List.take (i+1) (l++[z])).length=i+1:=by simp;omega
   have hlen2:(List.take i l).length=i:=by simp;omega
   rw[List.getElem?_append_right (by rw[hlen1];omega),hlen1,List.getElem?_append_right (l₁:=List.take i l) (by rw[hlen2];omega),hlen2,show j - i=(j - (i+1))+1 by omega,List.getElem?_cons_succ]
   by_cases h2:j - (i+1) < (l.drop i).length
   ·rw[List.getElem?_append_left h2]
   ·have h3:(List.drop i l).length≤j - (i+1):=by omega
    rw[List.getElem?_append_right h3,List.getElem?_drop,List.getElem?_eq_none (by simp at h3⊢;omega),List.getElem?_eq_none h3]
end Go.Proofs.YtjnpcddbgfmpcaaGreat
