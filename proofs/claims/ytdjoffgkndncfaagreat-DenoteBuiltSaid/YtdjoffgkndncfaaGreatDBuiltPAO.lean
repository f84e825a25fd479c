/-
  Texts of the proof.
-/
import Derived.Test.YtdjoffgkndncfaaGreatDBuiltPAG
import Derived.Test.YtdjoffgkndncfaaGreatDBuiltPAI
import Derived.Test.YtdjoffgkndncfaaGreatDBuiltPAN
set_option linter.unusedVariables false
set_option linter.unusedSimpArgs false
namespace Go.Proofs.YtdjoffgkndncfaaGreat
open Go Go.ChangeShapes Go.WideShapes Go.ChangeAt Go.RowKit Go.Joins Go.Deep
def Tr.fn:Tr→Int | .mk _ n _ _ _ _=>n
def Tr.fu:Tr→Int | .mk _ _ u _ _ _=>u
def Tr.fs:Tr→ByteArray | .mk _ _ _ s _ _=>s
def EMB:ByteArray:=⟨#[]⟩
def yE (d:List UInt8) (at_ w:Int):Int × Bool:=(min (k9 d at_ w).1 9007199254740992,decide ((k9 d at_ w).2=0) && decide ((k9 d at_ w).1≤9007199254740992))
def zU (t:Tr) (k n u:Int) (s:ByteArray):Bool:=decide (t.kind=k) && decide (t.fn=n) && decide (t.fu=u) && decide (t.fs=s) && decide (t.keys.length=0) && decide (t.kids.length=0)
def vR (d:List UInt8) (at_ w sg un:Int) (t:Tr):Bool:=
 if (k9 d at_ w).2≠0 then false else if t.kind=sg then zU t sg (KP d at_ w).1 0 EMB else decide (t.kind=un) && zU t un 0 (k9 d at_ w).1 EMB
def QI (d:List UInt8) (at_:Int) (s:ByteArray):Bool:=decide (0≤at_) && decide ((s.size:Int)≤d.length - at_) && decide ((d.drop at_.toNat).take s.size=s.data.toList)
def iI (d:List UInt8) (pos par:Int) (t:Tr):Bool:=decide ((k9 d pos par).2=0) && zU t 1 0 0 EMB
def intF (d:List UInt8) (pos par:Int) (t:Tr):Bool:=decide (t.kind=3) && vR d pos par 3 4 t
def iJ (d:List UInt8) (pos par:Int) (t:Tr):Bool:=decide (t.kind=4) && vR d pos par 3 4 t
def nJ (d:List UInt8) (pos par:Int) (t:Tr):Bool:=decide ((k9 d pos par).2=0) && zU t 2 (if (k9 d pos par).1=0 then 0 else 1) 0 EMB
def VU (s:ByteArray):ByteArray:=s++⟨#[0]⟩
def iK (d:List UInt8) (at_:Int) (t:Tr):Bool:=zU t 5 0 0 t.fs && decide (vG t.fs=0) && QI d at_ (VU t.fs)
def fC (d:List UInt8) (typ width at_:Int) (t:Tr):Bool:=
 zU t (if typ=5 then 6 else 7) 0 0 t.fs && (yE d (at_ - width) width).2 && decide (at_ % width=0) && decide ((yE d (at_ - width) width).1=t.fs.size) && QI d at_ (if typ=5 then VU t.fs else t.fs)
def Y5 (d:List UInt8) (typ width at_:Int) (t:Tr):Bool:=decide (t.kind=if typ=6 then 8 else 9) && decide (at_ % width=0) && vR d at_ width 8 9 t
def j6 (w:World) (v:Value) (d:List UInt8):Prop:=zC w v d∧d.length≤1048576∧∀ad n c,v=.slice (some ad) n c→ad.block < w.heap.size∧∃bl off,ad=⟨bl,off,none⟩
theorem j6.grew {w w':World} {v:Value} {d:List UInt8} (h:j6 w v d) (hg:jD w w'):j6 w' v d:=⟨h.1.grew hg,h.2.1,fun ad n c e=>⟨Nat.lt_of_lt_of_le (h.2.2 ad n c e).1 hg.size,(h.2.2 ad n c e).2⟩⟩
theorem j6.form {w:World} {v:Value} {d:List UInt8} (h:j6 w v d):∃a c,v=.slice a d.length c∧d.length≤c:=by
 obtain⟨⟨a,c,e,h1,_⟩,_⟩:=h;exact⟨a,c,e,h1⟩
theorem YB (d:List UInt8) (at_ w:Int):0≤(k9 d at_ w).1∧(k9 d at_ w).1≤18446744073709551615∧((k9 d at_ w).2≠0→(k9 d at_ w).1=0):=by
 by_cases h:(k9 d at_ w).2=0
 ·obtain⟨hx,h0,h1⟩:=sS h;refine⟨h0,?_,fun h'=>absurd h h'⟩;rcases yD hx with rfl|rfl|rfl|rfl<;>(simp at h1;omega)
 ·have e:(k9 d at_ w).1=0:=by
   unfold k9 at h⊢;split
   ·rename_i hx;rw[if_pos hx] at h;split
    ·rfl
    ·rename_i hr;rw[if_neg hr] at h;simp at h
   ·rfl
  rw[e];exact⟨by omega,by omega,fun _=>rfl⟩
end Go.Proofs.YtdjoffgkndncfaaGreat
