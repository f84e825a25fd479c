/-
  Texts of the proof.
-/
import Derived.Test.YtdjoffgkndncfaaGreatEOrderPAG
import Derived.Test.YtdjoffgkndncfaaGreatEOrderPAI
import Derived.Test.YtdjoffgkndncfaaGreatEOrderPAN
set_option linter.unusedVariables false
set_option linter.unusedSimpArgs false
namespace Go.Proofs.YtdjoffgkndncfaaGreat
open Go Go.ChangeShapes Go.WideShapes Go.ChangeAt Go.RowKit Go.Joins Go.Deep
def Tr.fn:Tr→Int | .mk _ n _ _ _ _=>n
def Tr.fu:Tr→Int | .mk _ _ u _ _ _=>u
def Tr.fs:Tr→ByteArray | .mk _ _ _ s _ _=>s
def EMB:ByteArray:=⟨#[]⟩
def jBl (d:List UInt8) (at_ w:Int):Int × Bool:=(min (jAy d at_ w).1 9007199254740992,decide ((jAy d at_ w).2=0) && decide ((jAy d at_ w).1≤9007199254740992))
def jEP (t:Tr) (k n u:Int) (s:ByteArray):Bool:=decide (t.kind=k) && decide (t.fn=n) && decide (t.fu=u) && decide (t.fs=s) && decide (t.keys.length=0) && decide (t.kids.length=0)
def jDF (d:List UInt8) (at_ w sg un:Int) (t:Tr):Bool:=
 if (jAy d at_ w).2≠0 then false else if t.kind=sg then jEP t sg (jGU d at_ w).1 0 EMB else decide (t.kind=un) && jEP t un 0 (jAy d at_ w).1 EMB
def jJr (d:List UInt8) (at_:Int) (s:ByteArray):Bool:=decide (0≤at_) && decide ((s.size:Int)≤d.length - at_) && decide ((d.drop at_.toNat).take s.size=s.data.toList)
def nullF (d:List UInt8) (pos par:Int) (t:Tr):Bool:=decide ((jAy d pos par).2=0) && jEP t 1 0 0 EMB
def intF (d:List UInt8) (pos par:Int) (t:Tr):Bool:=decide (t.kind=3) && jDF d pos par 3 4 t
def uintF (d:List UInt8) (pos par:Int) (t:Tr):Bool:=decide (t.kind=4) && jDF d pos par 3 4 t
def boolF (d:List UInt8) (pos par:Int) (t:Tr):Bool:=decide ((jAy d pos par).2=0) && jEP t 2 (if (jAy d pos par).1=0 then 0 else 1) 0 EMB
def jGB (s:ByteArray):ByteArray:=s++⟨#[0]⟩
def keyF (d:List UInt8) (at_:Int) (t:Tr):Bool:=jEP t 5 0 0 t.fs && decide (jAx t.fs=0) && jJr d at_ (jGB t.fs)
def textF (d:List UInt8) (typ width at_:Int) (t:Tr):Bool:=
 jEP t (if typ=5 then 6 else 7) 0 0 t.fs && (jBl d (at_ - width) width).2 && decide (at_ % width=0) && decide ((jBl d (at_ - width) width).1=t.fs.size) && jJr d at_ (if typ=5 then jGB t.fs else t.fs)
def jGb (d:List UInt8) (typ width at_:Int) (t:Tr):Bool:=decide (t.kind=if typ=6 then 8 else 9) && decide (at_ % width=0) && jDF d at_ width 8 9 t
end Go.Proofs.YtdjoffgkndncfaaGreat
