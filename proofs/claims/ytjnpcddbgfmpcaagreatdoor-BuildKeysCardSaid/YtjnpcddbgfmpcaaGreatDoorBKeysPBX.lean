/-
  Texts of the proof.
-/
import Derived.Test.YtjnpcddbgfmpcaaGreatDoorBKeysPBW
import Derived.Lib.Replace
set_option linter.unusedVariables false
set_option linter.unusedSimpArgs false
namespace Go.Proofs.YtjnpcddbgfmpcaaGreatDoor
open Go Go.ChangeShapes Go.WideShapes Go.ChangeAt Go.RowKit Go.Joins Go.Deep
def J5 (b:UInt8):UInt8:=if b=0 then 45 else b
theorem dash_ne (b:UInt8):J5 b≠0:=by
 unfold J5
 split
 ·decide
 ·assumption
theorem eE {l:List UInt8} (h:(0:UInt8)∉l):l.map J5=l:=by
 induction l with
 | nil=>rfl
 | cons b r ih=>
  have hb:b≠0:=fun e=>h (by simp[e])
  rw[List.map_cons,ih (fun e=>h (by simp[e]))]
  unfold J5
  rw[if_neg hb]
theorem bZ (s:List UInt8) (i:Nat):Lib.occAt s [0] i=true↔s[i]? = some 0:=by
 unfold Lib.occAt
 have e:s[i]? = (s.drop i)[0]? := by rw[List.getElem?_drop,Nat.add_zero]
 rw[e]
 cases s.drop i with
 | nil=>simp[List.isPrefixOf]
 | cons b r=>
  simp only[List.isPrefixOf,List.getElem?_cons_zero,Option.some.injEq,Bool.and_true,beq_iff_eq]
  exact⟨fun h=>h.symm,fun h=>h.symm⟩
theorem eF:∀(n:Nat) (s:List UInt8),s.length < n→Lib.replaceK [0] [45] (Lib.countFrom [0] n s) s=s.map J5
 | 0,s,h=>absurd h (Nat.not_lt_zero _)
 | n+1,s,h=>by
  rcases Lib.index_spec s [0] with ⟨h1,h2⟩|⟨i,h1,h2,h3,h4⟩
  ·have hz:(0:UInt8)∉s:=fun hm=>by
    obtain⟨j,hj⟩:=List.getElem?_of_mem hm
    have hl:=(List.getElem?_eq_some_iff.1 hj).1
    have:=h2 j (by omega)
    rw[(bZ s j).2 hj] at this
    cases this
   unfold Lib.countFrom
   rw[h1,eE hz]
   rfl
  ·have hi:=(bZ s i).1 h3
   obtain⟨hil,hie⟩:=List.getElem?_eq_some_iff.1 hi
   have hne:((i:Int) == -1)=false:=by rw[beq_eq_false_iff_ne];omega
   have hz:(0:UInt8)∉s.take i:=fun hm=>by
    obtain⟨j,hj⟩:=List.getElem?_of_mem hm
    have hl:=(List.getElem?_eq_some_iff.1 hj).1
    rw[List.length_take] at hl
    rw[List.getElem?_take,if_pos (by omega)] at hj
    have:=h4 j (by omega)
    rw[(bZ s j).2 hj] at this
    cases this
   unfold Lib.countFrom
   rw[h1,hne,if_neg (by decide),Nat.add_comm 1,Lib.replaceK_hit [0] [45] _ s i h1]
   have hih:=eF n (s.drop (i+1)) (by rw[List.length_drop];omega)
   have e1:(((i:Int).toNat)+([0]:List UInt8).length)=i+1:=by simp
   rw[e1]
   show s.take i++[45]++Lib.replaceK [0] [45] _ (s.drop (i+1))=_
   rw[hih]
   have e2:s=s.take i++0::s.drop (i+1):=by
    have:=List.take_append_drop i s
    rw[List.drop_eq_getElem_cons hil,hie] at this
    exact this.symm
   have e3:s.map J5=(s.take i).map J5++J5 0::(s.drop (i+1)).map J5:=by
    conv=>lhs;rw[e2]
    rw[List.map_append,List.map_cons]
   rw[e3,eE hz,List.append_assoc]
   rfl
theorem pB (s:List UInt8):Lib.replaceAll s [0] [45]=s.map J5:=by
 unfold Lib.replaceAll Lib.replace Lib.replaceNum
 rw[if_neg (by decide),if_pos (.inl (by decide))]
 exact eF (s.length+1) s (by omega)
def KU (k:ByteArray):ByteArray:=⟨(k.data.toList.map J5).toArray⟩
theorem b6 (k:ByteArray):(KU k).size=k.size:=by
 show (k.data.toList.map J5).toArray.size=k.data.size
 simp
theorem b7 (k:ByteArray):(0:UInt8)∉(KU k).data.toList:=by
 intro h
 have e:(KU k).data.toList=k.data.toList.map J5:=by simp[KU]
 rw[e] at h
 obtain⟨b,_,hb⟩:=List.mem_map.1 h
 exact dash_ne b hb
open Classical in
theorem eG:∀(l seen:List ByteArray) (k:ByteArray),wantB seen (l++[k])=wantB seen l++(if k∈seen++l then [] else k.data.toList++[0])
 | [],seen,k=>by simp[wantB]
 | a::r,seen,k=>by
  rw[List.cons_append]
  simp only[wantB]
  have e:seen++[a]++r=seen++a::r:=by rw[List.append_assoc];rfl
  have h:=eG r (seen++[a]) k
  rw[e] at h
  rw[h,List.append_assoc]
theorem mH (A:BitVec 64):BitVec.ofInt 64 (IntKind.i64.wrap (A.toNat:Int))=A:=by
 apply BitVec.eq_of_toNat_eq
 have h:=A.isLt
 rw[BitVec.toNat_ofInt,IntKind.wrap_i64]
 omega
theorem mI (A:BitVec 64):(A ||| BitVec.ofInt 64 1) &&& BitVec.ofInt 64 1=BitVec.ofInt 64 1:=by
 apply BitVec.eq_of_getLsbD_eq
 intro i hi
 rw[BitVec.getLsbD_and,BitVec.getLsbD_or]
 cases BitVec.getLsbD A i<;>cases BitVec.getLsbD (BitVec.ofInt 64 1) i<;>rfl
theorem sI (fl:Int):onF (bits .or .i64 fl 1) 1=true:=by
 unfold onF bits
 dsimp only
 show (IntKind.i64.wrap ((BitVec.ofInt 64 (IntKind.i64.wrap ((BitVec.ofInt 64 fl ||| BitVec.ofInt 64 1).toNat:Int)) &&& BitVec.ofInt 64 1).toNat:Int) != 0)=true
 rw[mH,mI]
 decide
end Go.Proofs.YtjnpcddbgfmpcaaGreatDoor
namespace Go.Proofs.YtjnpcddbgfmpcaaGreatDoor
open Go Go.ChangeShapes Go.WideShapes Go.ChangeAt Go.RowKit Go.Joins Go.Deep
open Go.Proofs.YtjnpcddbgfmpcaaGreatDoor.Ft (V3 vV okV ValsAt inlineB legalB packF codeF typedF allF oneF allAt headF fitsL fitsV fitsF belowW isA unpackF)
end Go.Proofs.YtjnpcddbgfmpcaaGreatDoor
