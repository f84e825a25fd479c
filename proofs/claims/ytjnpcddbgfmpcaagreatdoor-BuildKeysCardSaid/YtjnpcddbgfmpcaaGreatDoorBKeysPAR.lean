/-
  Texts of the proof.
-/
import Derived.Test.YtjnpcddbgfmpcaaGreatDoorBKeysPAH
import Derived.Test.YtjnpcddbgfmpcaaGreatDoorBKeysPAJ
import Derived.Test.YtjnpcddbgfmpcaaGreatDoorBKeysPAQ
set_option linter.unusedVariables false
set_option linter.unusedSimpArgs false
namespace Go.Proofs.YtjnpcddbgfmpcaaGreatDoor
open Go Go.ChangeShapes Go.WideShapes Go.ChangeAt Go.RowKit Go.Joins Go.Deep
def Tr.fn:Tr→Int | .mk _ n _ _ _ _=>n
def Tr.fu:Tr→Int | .mk _ _ u _ _ _=>u
def Tr.fs:Tr→ByteArray | .mk _ _ _ s _ _=>s
def EMB:ByteArray:=⟨#[]⟩
def qG (d:List UInt8) (at_ w:Int):Int × Bool:=(min (kP d at_ w).1 9007199254740992,decide ((kP d at_ w).2=0) && decide ((kP d at_ w).1≤9007199254740992))
def Z4 (t:Tr) (k n u:Int) (s:ByteArray):Bool:=decide (t.kind=k) && decide (t.fn=n) && decide (t.fu=u) && decide (t.fs=s) && decide (t.keys.length=0) && decide (t.kids.length=0)
def YZ (d:List UInt8) (at_ w sg un:Int) (t:Tr):Bool:=
 if (kP d at_ w).2≠0 then false else if t.kind=sg then Z4 t sg (aG d at_ w).1 0 EMB else decide (t.kind=un) && Z4 t un 0 (kP d at_ w).1 EMB
def gB (d:List UInt8) (at_:Int) (s:ByteArray):Bool:=decide (0≤at_) && decide ((s.size:Int)≤d.length - at_) && decide ((d.drop at_.toNat).take s.size=s.data.toList)
def nullF (d:List UInt8) (pos par:Int) (t:Tr):Bool:=decide ((kP d pos par).2=0) && Z4 t 1 0 0 EMB
def intF (d:List UInt8) (pos par:Int) (t:Tr):Bool:=decide (t.kind=3) && YZ d pos par 3 4 t
def uintF (d:List UInt8) (pos par:Int) (t:Tr):Bool:=decide (t.kind=4) && YZ d pos par 3 4 t
def boolF (d:List UInt8) (pos par:Int) (t:Tr):Bool:=decide ((kP d pos par).2=0) && Z4 t 2 (if (kP d pos par).1=0 then 0 else 1) 0 EMB
def Y0 (s:ByteArray):ByteArray:=s++⟨#[0]⟩
def keyF (d:List UInt8) (at_:Int) (t:Tr):Bool:=Z4 t 5 0 0 t.fs && decide (qA t.fs=0) && gB d at_ (Y0 t.fs)
def textF (d:List UInt8) (typ width at_:Int) (t:Tr):Bool:=
 Z4 t (if typ=5 then 6 else 7) 0 0 t.fs && (qG d (at_ - width) width).2 && decide (at_ % width=0) && decide ((qG d (at_ - width) width).1=t.fs.size) && gB d at_ (if typ=5 then Y0 t.fs else t.fs)
def apartF (d:List UInt8) (typ width at_:Int) (t:Tr):Bool:=decide (t.kind=if typ=6 then 8 else 9) && decide (at_ % width=0) && YZ d at_ width 8 9 t
theorem nL (d:List UInt8) (at_ w:Int):0≤(kP d at_ w).1∧(kP d at_ w).1≤18446744073709551615∧((kP d at_ w).2≠0→(kP d at_ w).1=0):=by
 by_cases h:(kP d at_ w).2=0
 ·obtain⟨hx,h0,h1⟩:=pM h
  refine⟨h0,?_,fun h'=>absurd h h'⟩
  rcases YD hx with rfl|rfl|rfl|rfl<;>(simp at h1;omega)
 ·have e:(kP d at_ w).1=0:=by
   unfold kP at h⊢
   split
   ·rename_i hx
    rw[if_pos hx] at h
    split
    ·rfl
    ·rename_i hr;rw[if_neg hr] at h;simp at h
   ·rfl
  rw[e];exact⟨by omega,by omega,fun _=>rfl⟩
end Go.Proofs.YtjnpcddbgfmpcaaGreatDoor
