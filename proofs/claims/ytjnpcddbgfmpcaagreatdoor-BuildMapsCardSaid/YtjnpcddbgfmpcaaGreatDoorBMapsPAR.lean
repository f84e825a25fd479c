/-
  Texts of the proof.
-/
import Derived.Test.YtjnpcddbgfmpcaaGreatDoorBMapsPAH
import Derived.Test.YtjnpcddbgfmpcaaGreatDoorBMapsPAJ
import Derived.Test.YtjnpcddbgfmpcaaGreatDoorBMapsPAQ
set_option linter.unusedVariables false
set_option linter.unusedSimpArgs false
namespace Go.Proofs.YtjnpcddbgfmpcaaGreatDoor
open Go Go.ChangeShapes Go.WideShapes Go.ChangeAt Go.RowKit Go.Joins Go.Deep
def Tr.fn:Tr→Int | .mk _ n _ _ _ _=>n
def Tr.fu:Tr→Int | .mk _ _ u _ _ _=>u
def Tr.fs:Tr→ByteArray | .mk _ _ _ s _ _=>s
def EMB:ByteArray:=⟨#[]⟩
def yZ (d:List UInt8) (at_ w:Int):Int × Bool:=(min (kC d at_ w).1 9007199254740992,decide ((kC d at_ w).2=0) && decide ((kC d at_ w).1≤9007199254740992))
def YO (t:Tr) (k n u:Int) (s:ByteArray):Bool:=decide (t.kind=k) && decide (t.fn=n) && decide (t.fu=u) && decide (t.fs=s) && decide (t.keys.length=0) && decide (t.kids.length=0)
def J2 (d:List UInt8) (at_ w sg un:Int) (t:Tr):Bool:=
 if (kC d at_ w).2≠0 then false else if t.kind=sg then YO t sg (KE d at_ w).1 0 EMB else decide (t.kind=un) && YO t un 0 (kC d at_ w).1 EMB
def bB (d:List UInt8) (at_:Int) (s:ByteArray):Bool:=decide (0≤at_) && decide ((s.size:Int)≤d.length - at_) && decide ((d.drop at_.toNat).take s.size=s.data.toList)
def gV (d:List UInt8) (pos par:Int) (t:Tr):Bool:=decide ((kC d pos par).2=0) && YO t 1 0 0 EMB
def intF (d:List UInt8) (pos par:Int) (t:Tr):Bool:=decide (t.kind=3) && J2 d pos par 3 4 t
def bC (d:List UInt8) (pos par:Int) (t:Tr):Bool:=decide (t.kind=4) && J2 d pos par 3 4 t
def gW (d:List UInt8) (pos par:Int) (t:Tr):Bool:=decide ((kC d pos par).2=0) && YO t 2 (if (kC d pos par).1=0 then 0 else 1) 0 EMB
def YG (s:ByteArray):ByteArray:=s++⟨#[0]⟩
def keyF (d:List UInt8) (at_:Int) (t:Tr):Bool:=YO t 5 0 0 t.fs && decide (yI t.fs=0) && bB d at_ (YG t.fs)
def gX (d:List UInt8) (typ width at_:Int) (t:Tr):Bool:=
 YO t (if typ=5 then 6 else 7) 0 0 t.fs && (yZ d (at_ - width) width).2 && decide (at_ % width=0) && decide ((yZ d (at_ - width) width).1=t.fs.size) && bB d at_ (if typ=5 then YG t.fs else t.fs)
def bD (d:List UInt8) (typ width at_:Int) (t:Tr):Bool:=decide (t.kind=if typ=6 then 8 else 9) && decide (at_ % width=0) && J2 d at_ width 8 9 t
theorem dR (d:List UInt8) (at_ w:Int):0≤(kC d at_ w).1∧(kC d at_ w).1≤18446744073709551615∧((kC d at_ w).2≠0→(kC d at_ w).1=0):=by
 by_cases h:(kC d at_ w).2=0
 ·obtain⟨hx,h0,h1⟩:=rO h
  refine⟨h0,?_,fun h'=>absurd h h'⟩
  rcases YW hx with rfl|rfl|rfl|rfl<;>(simp at h1;omega)
 ·have e:(kC d at_ w).1=0:=by
   unfold kC at h⊢
   split
   ·rename_i hx
    rw[if_pos hx] at h
    split
    ·rfl
    ·rename_i hr;rw[if_neg hr] at h;simp at h
   ·rfl
  rw[e];exact⟨by omega,by omega,fun _=>rfl⟩
end Go.Proofs.YtjnpcddbgfmpcaaGreatDoor
