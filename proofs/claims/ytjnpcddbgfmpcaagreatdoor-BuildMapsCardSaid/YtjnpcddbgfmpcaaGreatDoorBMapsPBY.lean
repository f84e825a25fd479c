/-
  Texts of the proof.
-/
import Derived.Test.YtjnpcddbgfmpcaaGreatDoorBMapsPBX
import Derived.Lib.Strings
set_option linter.unusedVariables false
set_option linter.unusedSimpArgs false
namespace Go.Proofs.YtjnpcddbgfmpcaaGreatDoor
open Go Go.ChangeShapes Go.WideShapes Go.ChangeAt Go.RowKit Go.Joins Go.Deep
theorem YS:∀(k t:List UInt8),(0:UInt8)∉k→Lib.indexByte (k++0::t) 0=(k.length:Int)
 | [],t,_=>rfl
 | b::r,t,h=>by
  have hb:(b == 0)=false:=by
   rw[beq_eq_false_iff_ne]
   exact fun e=>h (by simp[e])
  have ih:=YS r t (fun e=>h (by simp[e]))
  rw[List.cons_append]
  unfold Lib.indexByte
  rw[ih,hb]
  have hn:((r.length:Int) == -1)=false:=by rw[beq_eq_false_iff_ne];omega
  rw[hn]
  simp
theorem Q5:∀(k:List UInt8),(0:UInt8)∉k→Lib.indexByte k 0 = -1
 | [],_=>rfl
 | b::r,h=>by
  have hb:(b == 0)=false:=by
   rw[beq_eq_false_iff_ne]
   exact fun e=>h (by simp[e])
  have ih:=Q5 r (fun e=>h (by simp[e]))
  unfold Lib.indexByte
  rw[ih,hb]
  rfl
theorem rG (k:ByteArray):yI (Q4 k)=0:=by
 unfold yI
 rw[Q5 _ (cR k)]
 rfl
theorem lW {n:Nat}:∀(l:List ByteArray),(∀k∈l,k.size≤n)→vY l≤(n+1)*l.length
 | [],_=>Nat.zero_le _
 | k::r,h=>by
  have ih:=lW r (fun z hz=>h z (by simp[hz]))
  have hk:=h k (by simp)
  unfold vY at ih⊢
  rw[List.map_cons,List.sum_cons,List.length_cons,Nat.mul_add]
  omega
def dD (N:List ByteArray) (s:ByteArray):Bool:=N.any fun y=>y.toList == s.toList
theorem tJ {N:List ByteArray} {k:Nat} {y:ByteArray} (s:ByteArray) (h:N[k]? = some y):(dD (N.take k) s || (y.toList == s.toList))=dD (N.take (k+1)) s:=by
 obtain⟨hl,hs⟩:=List.getElem?_eq_some_iff.1 h
 unfold dD
 rw[List.take_succ_eq_append_getElem hl,hs,List.any_append]
 simp
theorem had_iff {N:List ByteArray} {s:ByteArray}:dD N s=true↔s∈N:=by
 unfold dD
 rw[List.any_eq_true]
 constructor
 ·rintro ⟨y,hy,he⟩
  rw[YY,decide_eq_true_eq] at he
  rw[← he];exact hy
 ·intro h
  exact⟨s,h,by rw[YY];exact decide_eq_true rfl⟩
theorem had_no {N:List ByteArray} {s:ByteArray}:dD N s=false↔s∉N:=by
 rw[← had_iff,Bool.not_eq_true]
end Go.Proofs.YtjnpcddbgfmpcaaGreatDoor
