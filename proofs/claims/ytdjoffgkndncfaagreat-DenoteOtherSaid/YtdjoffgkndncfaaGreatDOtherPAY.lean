/-Texts-/
import Derived.Test.YtdjoffgkndncfaaGreatDOtherPAN
import Derived.Laws.CopyOwn
set_option linter.unusedVariables false
set_option linter.unusedSimpArgs false
namespace Go.Proofs.YtdjoffgkndncfaaGreat
open Go Go.ChangeShapes Go.WideShapes Go.ChangeAt Go.RowKit Go.Joins Go.Deep
abbrev qI:=List (ByteArray × Int)
def V2 (l:qI):List ByteArray:=l.map (·.1)
def QZ (l:qI):List Int:=l.map (·.2)
def vQ (l:qI) (k:ByteArray):Nat:=J8 (V2 l) k 0 l.length
def sT (l:qI) (k:ByteArray):Bool:=decide ((V2 l)[vQ l k]? = some k)
def qN (l:qI) (k:ByteArray):Int × Bool:=if sT l k then ((QZ l).getD (vQ l k) 0,true) else (0,false)
def Q2 {α:Type} (l:List α) (i:Nat) (x:α):List α:=l.take i++x::l.drop i
def qD (k:ByteArray) (a:Int) (l:qI):qI:=if a < 0∨9007199254740991 < a then l else if sT l k then l else Q2 l (vQ l k) (k,a)
def ZC (k:ByteArray) (a:Int) (l:qI):Int:=if a < 0∨9007199254740991 < a then 2 else if sT l k then 71 else 0
theorem YI (l:qI):(V2 l).length=l.length:=by simp[V2]
theorem QC (l:qI):(QZ l).length=l.length:=by simp[QZ]
theorem E7 (l:qI) (i:Nat) (k:ByteArray) (a:Int):V2 (Q2 l i (k,a))=Q2 (V2 l) i k:=by simp[V2,Q2,List.map_take,List.map_drop]
theorem LP (l:qI) (i:Nat) (k:ByteArray) (a:Int):QZ (Q2 l i (k,a))=Q2 (QZ l) i a:=by simp[QZ,Q2,List.map_take,List.map_drop]
theorem aH {α:Type} (l:List α) (i:Nat) (x:α):(Q2 l i x).length=l.length+1:=by
 simp only[Q2,zb,qr,zz,xr];omega
theorem fN (l:List ByteArray) (k:ByteArray):∀(n lo hi:Nat),hi - lo≤n→lo≤hi→J8 l k lo hi≤hi
 | 0,lo,hi,h,h2=>by unfold J8;rw[ze zo];exact h2
 | n+1,lo,hi,h,h2=>by
  unfold J8;by_cases hlt:lo < hi
  ·rw[zl hlt];split
   ·exact fN l k n _ _ zo zo
   exact zf (fN l k n _ _ zo zo) zo
  rw[ze hlt];exact h2
theorem E8 (l:qI) (k:ByteArray):vQ l k≤l.length:=fN _ k _ 0 l.length (zr _) (Nat.zero_le _)
theorem iV {l:qI} {k:ByteArray} (h:sT l k=true):vQ l k < l.length:=by
 have h2:=xo h;have:=(zi.1 h2).1
 rwa [YI] at this
theorem KW (k:ByteArray) (a:Int) (l:qI):(qD k a l).length≤l.length+1:=by
 unfold qD;split
 ·omega
 split
 ·omega
 rw[aH];exact zr _
theorem wP {α:Type} (l:List α) (z x:α) (i:Nat) (h:i≤l.length):(splice (l++[z]) (i+1) (l.drop i)).set i x=Q2 l i x:=by
 unfold splice Q2;apply List.ext_getElem?;intro j;rw[List.getElem?_set];simp only[zb,qr,xr,List.length_singleton];by_cases hj:i=j
 ·subst hj;rw[zl rfl,zl zo,qs zp6];simp[xy h]
 rw[ze hj];rcases Nat.lt_or_gt_of_ne (Ne.symm hj) with hlt|hgt
 ·rw[qy zp6,qy zp6,List.getElem?_take,List.getElem?_take,zl zo,zl hlt,qy zo]
 have hlen1:(List.take (i+1) (l++[z])).length=i+1:=by simp;omega
 have hlen2:(List.take i l).length=i:=by simp;omega
 rw[qs (by rw[hlen1];omega),hlen1,qs (l₁:=List.take i l) (by rw[hlen2];omega),hlen2,show j - i=(j - (i+1))+1 by omega,xp];by_cases h2:j - (i+1) < (l.drop i).length
 ·rw[qy h2]
 have h3:(List.drop i l).length≤j - (i+1):=(by omega);rw[qs h3,List.getElem?_drop,List.getElem?_eq_none (by simp at h3⊢;omega),List.getElem?_eq_none h3]
end Go.Proofs.YtdjoffgkndncfaaGreat
