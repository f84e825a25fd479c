/-
  Texts of the proof.
-/
import Derived.Test.YtdjoffgkndncfaaGreatEFlagsPAN
import Derived.Laws.CopyOwn
set_option linter.unusedVariables false
set_option linter.unusedSimpArgs false
namespace Go.Proofs.YtdjoffgkndncfaaGreat
open Go Go.ChangeShapes Go.WideShapes Go.ChangeAt Go.RowKit Go.Joins Go.Deep
abbrev qF:=List (ByteArray × Int)
def Q5 (l:qF):List ByteArray:=l.map (·.1)
def Y6 (l:qF):List Int:=l.map (·.2)
def vN (l:qF) (k:ByteArray):Nat:=JV (Q5 l) k 0 l.length
def pL (l:qF) (k:ByteArray):Bool:=decide ((Q5 l)[vN l k]? = some k)
def yT (l:qF) (k:ByteArray):Int × Bool:=if pL l k then ((Y6 l).getD (vN l k) 0,true) else (0,false)
def Y7 {α:Type} (l:List α) (i:Nat) (x:α):List α:=l.take i++x::l.drop i
def yU (k:ByteArray) (a:Int) (l:qF):qF:=if a < 0∨9007199254740991 < a then l else if pL l k then l else Y7 l (vN l k) (k,a)
def KZ (k:ByteArray) (a:Int) (l:qF):Int:=if a < 0∨9007199254740991 < a then 2 else if pL l k then 71 else 0
theorem Z0 (l:qF):(Q5 l).length=l.length:=by simp[Q5]
theorem YQ (l:qF):(Y6 l).length=l.length:=by simp[Y6]
theorem CK (l:qF) (i:Nat) (k:ByteArray) (a:Int):Q5 (Y7 l i (k,a))=Y7 (Q5 l) i k:=by simp[Q5,Y7,List.map_take,List.map_drop]
theorem EO (l:qF) (i:Nat) (k:ByteArray) (a:Int):Y6 (Y7 l i (k,a))=Y7 (Y6 l) i a:=by simp[Y6,Y7,List.map_take,List.map_drop]
theorem VN {α:Type} (l:List α) (i:Nat) (x:α):(Y7 l i x).length=l.length+1:=by
 simp only[Y7,List.length_append,List.length_take,List.length_cons,List.length_drop];omega
theorem dJ (l:List ByteArray) (k:ByteArray):∀(n lo hi:Nat),hi - lo≤n→lo≤hi→JV l k lo hi≤hi
 | 0,lo,hi,h,h2=>by unfold JV;rw[if_neg (by omega)];exact h2
 | n+1,lo,hi,h,h2=>by
  unfold JV
  by_cases hlt:lo < hi
  ·rw[if_pos hlt]
   split
   ·exact dJ l k n _ _ (by omega) (by omega)
   ·exact Nat.le_trans (dJ l k n _ _ (by omega) (by omega)) (by omega)
  ·rw[if_neg hlt];exact h2
theorem CL (l:qF) (k:ByteArray):vN l k≤l.length:=dJ _ k _ 0 l.length (Nat.le_refl _) (Nat.zero_le _)
theorem fM {l:qF} {k:ByteArray} (h:pL l k=true):vN l k < l.length:=by
 have h2:=of_decide_eq_true h
 have:=(List.getElem?_eq_some_iff.1 h2).1
 rwa [Z0] at this
theorem KN (k:ByteArray) (a:Int) (l:qF):(yU k a l).length≤l.length+1:=by
 unfold yU
 split
 ·omega
 ·split
  ·omega
  ·rw[VN];exact Nat.le_refl _
theorem sU {α:Type} (l:List α) (z x:α) (i:Nat) (h:i≤l.length):(splice (l++[z]) (i+1) (l.drop i)).set i x=Y7 l i x:=by
 unfold splice Y7
 apply List.ext_getElem?
 intro j
 rw[List.getElem?_set]
 simp only[List.length_append,List.length_take,List.length_drop,List.length_singleton]
 by_cases hj:i=j
 ·subst hj
  rw[if_pos rfl,if_pos (by omega),List.getElem?_append_right (by simp;omega)]
  simp[Nat.min_eq_left h]
 ·rw[if_neg hj]
  rcases Nat.lt_or_gt_of_ne (Ne.symm hj) with hlt|hgt
  ·rw[List.getElem?_append_left (by simp;omega),List.getElem?_append_left (by simp;omega),List.getElem?_take,List.getElem?_take,if_pos (by omega),if_pos hlt,List.getElem?_append_left (by omega)]
  ·have hlen1:(List.take (i+1) (l++[z])).length=i+1:=by simp;omega
   have hlen2:(List.take i l).length=i:=by simp;omega
   rw[List.getElem?_append_right (by rw[hlen1];omega),hlen1,List.getElem?_append_right (l₁:=List.take i l) (by rw[hlen2];omega),hlen2,show j - i=(j - (i+1))+1 by omega,List.getElem?_cons_succ]
   by_cases h2:j - (i+1) < (l.drop i).length
   ·rw[List.getElem?_append_left h2]
   ·have h3:(List.drop i l).length≤j - (i+1):=by omega
    rw[List.getElem?_append_right h3,List.getElem?_drop,List.getElem?_eq_none (by simp at h3⊢;omega),List.getElem?_eq_none h3]
end Go.Proofs.YtdjoffgkndncfaaGreat
