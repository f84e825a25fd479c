/-
  Texts of the proof.
-/
import Derived.Test.YtjnpcddbgfmpcaaGreatDoorBKeysPBX
import Derived.Lib.Strings
set_option linter.unusedVariables false
set_option linter.unusedSimpArgs false
namespace Go.Proofs.YtjnpcddbgfmpcaaGreatDoor
open Go Go.ChangeShapes Go.WideShapes Go.ChangeAt Go.RowKit Go.Joins Go.Deep
theorem Z9:∀(k t:List UInt8),(0:UInt8)∉k→Lib.indexByte (k++0::t) 0=(k.length:Int)
 | [],t,_=>rfl
 | b::r,t,h=>by
  have hb:(b == 0)=false:=by
   rw[beq_eq_false_iff_ne]
   exact fun e=>h (by simp[e])
  have ih:=Z9 r t (fun e=>h (by simp[e]))
  rw[List.cons_append]
  unfold Lib.indexByte
  rw[ih,hb]
  have hn:((r.length:Int) == -1)=false:=by rw[beq_eq_false_iff_ne];omega
  rw[hn]
  simp
theorem QI:∀(k:List UInt8),(0:UInt8)∉k→Lib.indexByte k 0 = -1
 | [],_=>rfl
 | b::r,h=>by
  have hb:(b == 0)=false:=by
   rw[beq_eq_false_iff_ne]
   exact fun e=>h (by simp[e])
  have ih:=QI r (fun e=>h (by simp[e]))
  unfold Lib.indexByte
  rw[ih,hb]
  rfl
theorem pC (k:ByteArray):qA (KU k)=0:=by
 unfold qA
 rw[QI _ (b7 k)]
 rfl
def JL (l:List ByteArray) (y7:Nat):List ByteArray:=l.map fun x=>KU (yH x y7)
theorem iZ (l:List ByteArray) (y7:Nat):(JL l y7).length=l.length:=by simp[JL]
theorem pD {l:List ByteArray} {k:Nat} {s:ByteArray} (h:l[k]? = some s) (y7:Nat):JL (l.take (k+1)) y7=JL (l.take k) y7++[KU (yH s y7)]:=by
 obtain⟨hl,hs⟩:=List.getElem?_eq_some_iff.1 h
 unfold JL
 rw[List.take_succ_eq_append_getElem hl,List.map_append,hs]
 rfl
theorem sJ {l:List ByteArray} {y7:Nat} {k:ByteArray} (h:k∈JL l y7):qA k=0∧k.size≤y7∧(0:UInt8)∉k.data.toList:=by
 obtain⟨x,_,rfl⟩:=List.mem_map.1 h
 exact⟨pC _,by rw[b6,qJ];omega,b7 _⟩
theorem b9 {n:Nat}:∀(l:List ByteArray),(∀k∈l,k.size≤n)→vS l≤(n+1)*l.length
 | [],_=>Nat.zero_le _
 | k::r,h=>by
  have ih:=b9 r (fun z hz=>h z (by simp[hz]))
  have hk:=h k (by simp)
  unfold vS at ih⊢
  rw[List.map_cons,List.sum_cons,List.length_cons,Nat.mul_add]
  omega
def cJ (N:List ByteArray) (s:ByteArray):Bool:=N.any fun y=>y.toList == s.toList
theorem sK {N:List ByteArray} {k:Nat} {y:ByteArray} (s:ByteArray) (h:N[k]? = some y):(cJ (N.take k) s || (y.toList == s.toList))=cJ (N.take (k+1)) s:=by
 obtain⟨hl,hs⟩:=List.getElem?_eq_some_iff.1 h
 unfold cJ
 rw[List.take_succ_eq_append_getElem hl,hs,List.any_append]
 simp
theorem had_iff {N:List ByteArray} {s:ByteArray}:cJ N s=true↔s∈N:=by
 unfold cJ
 rw[List.any_eq_true]
 constructor
 ·rintro ⟨y,hy,he⟩
  rw[QP,decide_eq_true_eq] at he
  rw[← he];exact hy
 ·intro h
  exact⟨s,h,by rw[QP];exact decide_eq_true rfl⟩
theorem had_no {N:List ByteArray} {s:ByteArray}:cJ N s=false↔s∉N:=by
 rw[← had_iff,Bool.not_eq_true]
def ZZ (l:List UInt8):ByteArray:=⟨l.toArray⟩
theorem Q8 (l:List UInt8):(ZZ l).size=l.length:=by
 show l.toArray.size=_
 simp
theorem pE (l:List UInt8):(ZZ l).data.toList=l:=by simp[ZZ]
theorem sL (l:List UInt8) (s:ByteArray):ZZ l++s++⟨#[0]⟩=ZZ (l++(s.data.toList++[0])):=by
 apply ByteArray.ext
 apply Array.ext'
 simp[ZZ]
theorem i2 (a b:List UInt8):Lib.hasPrefix (a++b) a=true:=by
 unfold Lib.hasPrefix
 rw[List.isPrefixOf_iff_prefix]
 exact List.prefix_append a b
theorem Q9:∀(l seen:List ByteArray),(wantB seen l).length≤vS l
 | [],_=>Nat.zero_le _
 | k::r,seen=>by
  have ih:=Q9 r (seen++[k])
  unfold vS at ih⊢
  unfold wantB
  rw[List.length_append,List.map_cons,List.sum_cons]
  split
  ·rw[List.length_nil];omega
  ·rw[List.length_append,List.length_singleton]
   have e:k.data.toList.length=k.size:=by
    rw[Array.length_toList];rfl
   rw[e];omega
end Go.Proofs.YtjnpcddbgfmpcaaGreatDoor
