/-
  Texts of the proof.
-/
import Derived.Test.YtjnpcddbgfmpcaaGreatDoorBListsPAH
import Derived.Test.YtjnpcddbgfmpcaaGreatDoorBListsPAJ
import Derived.Test.YtjnpcddbgfmpcaaGreatDoorBListsPAQ
set_option linter.unusedVariables false
set_option linter.unusedSimpArgs false
namespace Go.Proofs.YtjnpcddbgfmpcaaGreatDoor
open Go Go.ChangeShapes Go.WideShapes Go.ChangeAt Go.RowKit Go.Joins Go.Deep
def Tr.fn:Tr→Int | .mk _ n _ _ _ _=>n
def Tr.fu:Tr→Int | .mk _ _ u _ _ _=>u
def Tr.fs:Tr→ByteArray | .mk _ _ _ s _ _=>s
def EMB:ByteArray:=⟨#[]⟩
def qV (d:List UInt8) (at_ w:Int):Int × Bool:=(min (yX d at_ w).1 9007199254740992,decide ((yX d at_ w).2=0) && decide ((yX d at_ w).1≤9007199254740992))
def YR (t:Tr) (k n u:Int) (s:ByteArray):Bool:=decide (t.kind=k) && decide (t.fn=n) && decide (t.fu=u) && decide (t.fs=s) && decide (t.keys.length=0) && decide (t.kids.length=0)
def QL (d:List UInt8) (at_ w sg un:Int) (t:Tr):Bool:=
 if (yX d at_ w).2≠0 then false else if t.kind=sg then YR t sg (a6 d at_ w).1 0 EMB else decide (t.kind=un) && YR t un 0 (yX d at_ w).1 EMB
def hasF (d:List UInt8) (at_:Int) (s:ByteArray):Bool:=decide (0≤at_) && decide ((s.size:Int)≤d.length - at_) && decide ((d.drop at_.toNat).take s.size=s.data.toList)
def nullF (d:List UInt8) (pos par:Int) (t:Tr):Bool:=decide ((yX d pos par).2=0) && YR t 1 0 0 EMB
def intF (d:List UInt8) (pos par:Int) (t:Tr):Bool:=decide (t.kind=3) && QL d pos par 3 4 t
def uintF (d:List UInt8) (pos par:Int) (t:Tr):Bool:=decide (t.kind=4) && QL d pos par 3 4 t
def boolF (d:List UInt8) (pos par:Int) (t:Tr):Bool:=decide ((yX d pos par).2=0) && YR t 2 (if (yX d pos par).1=0 then 0 else 1) 0 EMB
def cY (s:ByteArray):ByteArray:=s++⟨#[0]⟩
def keyF (d:List UInt8) (at_:Int) (t:Tr):Bool:=YR t 5 0 0 t.fs && decide (yL t.fs=0) && hasF d at_ (cY t.fs)
def textF (d:List UInt8) (typ width at_:Int) (t:Tr):Bool:=
 YR t (if typ=5 then 6 else 7) 0 0 t.fs && (qV d (at_ - width) width).2 && decide (at_ % width=0) && decide ((qV d (at_ - width) width).1=t.fs.size) && hasF d at_ (if typ=5 then cY t.fs else t.fs)
def apartF (d:List UInt8) (typ width at_:Int) (t:Tr):Bool:=decide (t.kind=if typ=6 then 8 else 9) && decide (at_ % width=0) && QL d at_ width 8 9 t
end Go.Proofs.YtjnpcddbgfmpcaaGreatDoor
