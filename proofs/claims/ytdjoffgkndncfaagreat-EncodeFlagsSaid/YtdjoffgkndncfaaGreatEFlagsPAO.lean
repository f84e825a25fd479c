/-
  Texts of the proof.
-/
import Derived.Test.YtdjoffgkndncfaaGreatEFlagsPAG
import Derived.Test.YtdjoffgkndncfaaGreatEFlagsPAI
import Derived.Test.YtdjoffgkndncfaaGreatEFlagsPAN
set_option linter.unusedVariables false
set_option linter.unusedSimpArgs false
namespace Go.Proofs.YtdjoffgkndncfaaGreat
open Go Go.ChangeShapes Go.WideShapes Go.ChangeAt Go.RowKit Go.Joins Go.Deep
def Tr.fn:Tr→Int | .mk _ n _ _ _ _=>n
def Tr.fu:Tr→Int | .mk _ _ u _ _ _=>u
def Tr.fs:Tr→ByteArray | .mk _ _ _ s _ _=>s
def EMB:ByteArray:=⟨#[]⟩
def KT (d:List UInt8) (at_ w:Int):Int × Bool:=(min (vU d at_ w).1 9007199254740992,decide ((vU d at_ w).2=0) && decide ((vU d at_ w).1≤9007199254740992))
def aV (t:Tr) (k n u:Int) (s:ByteArray):Bool:=decide (t.kind=k) && decide (t.fn=n) && decide (t.fu=u) && decide (t.fs=s) && decide (t.keys.length=0) && decide (t.kids.length=0)
def QI (d:List UInt8) (at_ w sg un:Int) (t:Tr):Bool:=
 if (vU d at_ w).2≠0 then false else if t.kind=sg then aV t sg (fZ d at_ w).1 0 EMB else decide (t.kind=un) && aV t un 0 (vU d at_ w).1 EMB
def sG (d:List UInt8) (at_:Int) (s:ByteArray):Bool:=decide (0≤at_) && decide ((s.size:Int)≤d.length - at_) && decide ((d.drop at_.toNat).take s.size=s.data.toList)
def nullF (d:List UInt8) (pos par:Int) (t:Tr):Bool:=decide ((vU d pos par).2=0) && aV t 1 0 0 EMB
def intF (d:List UInt8) (pos par:Int) (t:Tr):Bool:=decide (t.kind=3) && QI d pos par 3 4 t
def uintF (d:List UInt8) (pos par:Int) (t:Tr):Bool:=decide (t.kind=4) && QI d pos par 3 4 t
def boolF (d:List UInt8) (pos par:Int) (t:Tr):Bool:=decide ((vU d pos par).2=0) && aV t 2 (if (vU d pos par).1=0 then 0 else 1) 0 EMB
def fD (s:ByteArray):ByteArray:=s++⟨#[0]⟩
def keyF (d:List UInt8) (at_:Int) (t:Tr):Bool:=aV t 5 0 0 t.fs && decide (vL t.fs=0) && sG d at_ (fD t.fs)
def textF (d:List UInt8) (typ width at_:Int) (t:Tr):Bool:=
 aV t (if typ=5 then 6 else 7) 0 0 t.fs && (KT d (at_ - width) width).2 && decide (at_ % width=0) && decide ((KT d (at_ - width) width).1=t.fs.size) && sG d at_ (if typ=5 then fD t.fs else t.fs)
def gJ (d:List UInt8) (typ width at_:Int) (t:Tr):Bool:=decide (t.kind=if typ=6 then 8 else 9) && decide (at_ % width=0) && QI d at_ width 8 9 t
end Go.Proofs.YtdjoffgkndncfaaGreat
