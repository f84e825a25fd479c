/-
  Texts of the proof.
-/
import Derived.Test.YtjnpcddbgfmpcaaGreatDoorBMapsPBR
import Derived.Test.YtjnpcddbgfmpcaaGreatDoorBMapsPBV
set_option linter.unusedVariables false
set_option linter.unusedSimpArgs false
namespace Go.Proofs.YtjnpcddbgfmpcaaGreatDoor
open Go Go.ChangeShapes Go.WideShapes Go.ChangeAt Go.RowKit Go.Joins Go.Deep
open Go.Proofs.YtjnpcddbgfmpcaaGreatDoor.Ft (V3 vV okV ValsAt inlineB legalB packF codeF typedF allF oneF allAt headF fitsL fitsV fitsF belowW isA unpackF)
structure lZ (d:List UInt8) (at_ X:Int) (i:Nat) (k:ByteArray):Prop where
 num:∃off:Int,kC d (at_+i*X) X=(off,0)∧0≤off∧off≤at_+i*X∧∃t,d.drop (at_+i*X - off).toNat=k.data.toList++0::t
theorem tH {d:List UInt8} {at_ X:Int} {l:List ByteArray} (h:YZ d X at_ l=true) (hX:isW X=true) {i:Nat} {k:ByteArray} (hi:l[i]? = some k):lZ d at_ X i k:=by
 unfold YZ at h
 simp only[Bool.and_eq_true] at h
 have hk:=names_iff.1 h.2 i k hi
 rw[Nat.zero_add] at hk
 unfold aM at hk
 simp only[Bool.and_eq_true,decide_eq_true_eq] at hk
 obtain⟨⟨hf,_⟩,hh⟩:=hk
 unfold aI at hf
 simp only[Bool.and_eq_true,decide_eq_true_eq] at hf
 obtain⟨⟨hn,hle⟩,_⟩:=hf
 have hpos:=dR d (at_+(i:Int)*X) X
 unfold yZ at hn hle hh
 simp only[Bool.and_eq_true,decide_eq_true_eq] at hn
 have hm:min (kC d (at_+(i:Int)*X) X).1 9007199254740992=(kC d (at_+(i:Int)*X) X).1:=by omega
 dsimp only at hle hh
 rw[hm] at hle hh
 refine⟨⟨(kC d (at_+(i:Int)*X) X).1,Prod.ext rfl hn.1,hpos.1,hle,?_⟩⟩
 unfold bB at hh
 simp only[Bool.and_eq_true,decide_eq_true_eq] at hh
 obtain⟨⟨_,_⟩,he⟩:=hh
 refine⟨(d.drop (at_+(i:Int)*X - (kC d (at_+(i:Int)*X) X).1).toNat).drop (YG k).size,?_⟩
 have e:=List.take_append_drop (YG k).size (d.drop (at_+(i:Int)*X - (kC d (at_+(i:Int)*X) X).1).toNat)
 rw[he] at e
 have e2:(YG k).data.toList=k.data.toList++[0]:=by simp[YG]
 rw[e2,List.append_assoc] at e
 exact e.symm
end Go.Proofs.YtjnpcddbgfmpcaaGreatDoor
