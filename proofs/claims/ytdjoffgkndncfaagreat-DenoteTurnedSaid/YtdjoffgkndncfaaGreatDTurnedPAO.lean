/-
  Texts of the proof.
-/
import Derived.Test.YtdjoffgkndncfaaGreatDTurnedPAG
import Derived.Test.YtdjoffgkndncfaaGreatDTurnedPAI
import Derived.Test.YtdjoffgkndncfaaGreatDTurnedPAN
set_option linter.unusedVariables false
set_option linter.unusedSimpArgs false
namespace Go.Proofs.YtdjoffgkndncfaaGreat
open Go Go.ChangeShapes Go.WideShapes Go.ChangeAt Go.RowKit Go.Joins Go.Deep
def Tr.fn:Tr→Int | .mk _ n _ _ _ _=>n
def Tr.fu:Tr→Int | .mk _ _ u _ _ _=>u
def Tr.fs:Tr→ByteArray | .mk _ _ _ s _ _=>s
def EMB:ByteArray:=⟨#[]⟩
def z6 (d:List UInt8) (at_ w:Int):Int × Bool:=(min (kJ d at_ w).1 9007199254740992,decide ((kJ d at_ w).2=0) && decide ((kJ d at_ w).1≤9007199254740992))
def zQ (t:Tr) (k n u:Int) (s:ByteArray):Bool:=decide (t.kind=k) && decide (t.fn=n) && decide (t.fu=u) && decide (t.fs=s) && decide (t.keys.length=0) && decide (t.kids.length=0)
def vZ (d:List UInt8) (at_ w sg un:Int) (t:Tr):Bool:=
 if (kJ d at_ w).2≠0 then false else if t.kind=sg then zQ t sg (KO d at_ w).1 0 EMB else decide (t.kind=un) && zQ t un 0 (kJ d at_ w).1 EMB
def aA (d:List UInt8) (at_:Int) (s:ByteArray):Bool:=decide (0≤at_) && decide ((s.size:Int)≤d.length - at_) && decide ((d.drop at_.toNat).take s.size=s.data.toList)
def oU (d:List UInt8) (pos par:Int) (t:Tr):Bool:=decide ((kJ d pos par).2=0) && zQ t 1 0 0 EMB
def intF (d:List UInt8) (pos par:Int) (t:Tr):Bool:=decide (t.kind=3) && vZ d pos par 3 4 t
def eQ (d:List UInt8) (pos par:Int) (t:Tr):Bool:=decide (t.kind=4) && vZ d pos par 3 4 t
def uX (d:List UInt8) (pos par:Int) (t:Tr):Bool:=decide ((kJ d pos par).2=0) && zQ t 2 (if (kJ d pos par).1=0 then 0 else 1) 0 EMB
def gW (s:ByteArray):ByteArray:=s++⟨#[0]⟩
def keyF (d:List UInt8) (at_:Int) (t:Tr):Bool:=zQ t 5 0 0 t.fs && decide (ZN t.fs=0) && aA d at_ (gW t.fs)
def iU (d:List UInt8) (typ width at_:Int) (t:Tr):Bool:=
 zQ t (if typ=5 then 6 else 7) 0 0 t.fs && (z6 d (at_ - width) width).2 && decide (at_ % width=0) && decide ((z6 d (at_ - width) width).1=t.fs.size) && aA d at_ (if typ=5 then gW t.fs else t.fs)
def cJ (d:List UInt8) (typ width at_:Int) (t:Tr):Bool:=decide (t.kind=if typ=6 then 8 else 9) && decide (at_ % width=0) && vZ d at_ width 8 9 t
def jX (w:World) (v:Value) (d:List UInt8):Prop:=kQ w v d∧d.length≤1048576∧∀ad n c,v=.slice (some ad) n c→ad.block < w.heap.size∧∃bl off,ad=⟨bl,off,none⟩
theorem jX.grew {w w':World} {v:Value} {d:List UInt8} (h:jX w v d) (hg:jD w w'):jX w' v d:=⟨h.1.grew hg,h.2.1,fun ad n c e=>⟨Nat.lt_of_lt_of_le (h.2.2 ad n c e).1 hg.size,(h.2.2 ad n c e).2⟩⟩
theorem jX.form {w:World} {v:Value} {d:List UInt8} (h:jX w v d):∃a c,v=.slice a d.length c∧d.length≤c:=by
 obtain⟨⟨a,c,e,h1,_⟩,_⟩:=h;exact⟨a,c,e,h1⟩
theorem ZF (d:List UInt8) (at_ w:Int):0≤(kJ d at_ w).1∧(kJ d at_ w).1≤18446744073709551615∧((kJ d at_ w).2≠0→(kJ d at_ w).1=0):=by
 by_cases h:(kJ d at_ w).2=0
 ·obtain⟨hx,h0,h1⟩:=aP h;refine⟨h0,?_,fun h'=>absurd h h'⟩;rcases zV hx with rfl|rfl|rfl|rfl<;>(simp at h1;omega)
 ·have e:(kJ d at_ w).1=0:=by
   unfold kJ at h⊢;split
   ·rename_i hx;rw[if_pos hx] at h;split
    ·rfl
    ·rename_i hr;rw[if_neg hr] at h;simp at h
   ·rfl
  rw[e];exact⟨by omega,by omega,fun _=>rfl⟩
end Go.Proofs.YtdjoffgkndncfaaGreat
