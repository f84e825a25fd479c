/-Texts-/
import Derived.Test.YtdjoffgkndncfaaGreatDOtherPAG
import Derived.Test.YtdjoffgkndncfaaGreatDOtherPAI
import Derived.Test.YtdjoffgkndncfaaGreatDOtherPAN
set_option linter.unusedVariables false
set_option linter.unusedSimpArgs false
namespace Go.Proofs.YtdjoffgkndncfaaGreat
open Go Go.ChangeShapes Go.WideShapes Go.ChangeAt Go.RowKit Go.Joins Go.Deep
variable {w:World} {v:Value} {d:List UInt8}
def Tr.fn:Tr→Int | .mk _ n _ _ _ _=>n
def Tr.fu:Tr→Int | .mk _ _ u _ _ _=>u
def Tr.fs:Tr→ByteArray | .mk _ _ _ s _ _=>s
def EMB:ByteArray:=⟨#[]⟩
def yF (d:List UInt8) (at_ w:Int):Int × Bool:=(min (k7 d at_ w).1 9007199254740992,decide ((k7 d at_ w).2=0) && decide ((k7 d at_ w).1≤9007199254740992))
def yB (t:Tr) (k n u:Int) (s:ByteArray):Bool:=decide (t.kind=k) && decide (t.fn=n) && decide (t.fu=u) && decide (t.fs=s) && decide (t.keys.length=0) && decide (t.kids.length=0)
def vU (d:List UInt8) (at_ w sg un:Int) (t:Tr):Bool:=
 if (k7 d at_ w).2≠0 then false else if t.kind=sg then yB t sg (JG d at_ w).1 0 EMB else decide (t.kind=un) && yB t un 0 (k7 d at_ w).1 EMB
def ZI (d:List UInt8) (at_:Int) (s:ByteArray):Bool:=decide (0≤at_) && decide ((s.size:Int)≤d.length - at_) && decide ((d.drop at_.toNat).take s.size=s.data.toList)
def dQ (d:List UInt8) (pos par:Int) (t:Tr):Bool:=decide ((k7 d pos par).2=0) && yB t 1 0 0 EMB
def sP (d:List UInt8) (pos par:Int) (t:Tr):Bool:=decide (t.kind=3) && vU d pos par 3 4 t
def dR (d:List UInt8) (pos par:Int) (t:Tr):Bool:=decide (t.kind=4) && vU d pos par 3 4 t
def gQ (d:List UInt8) (pos par:Int) (t:Tr):Bool:=decide ((k7 d pos par).2=0) && yB t 2 (if (k7 d pos par).1=0 then 0 else 1) 0 EMB
def YG (s:ByteArray):ByteArray:=s++⟨#[0]⟩
def fJ (d:List UInt8) (at_:Int) (t:Tr):Bool:=yB t 5 0 0 t.fs && decide (vD t.fs=0) && ZI d at_ (YG t.fs)
def VY (d:List UInt8) (typ width at_:Int) (t:Tr):Bool:=
 yB t (if typ=5 then 6 else 7) 0 0 t.fs && (yF d (at_ - width) width).2 && decide (at_ % width=0) && decide ((yF d (at_ - width) width).1=t.fs.size) && ZI d at_ (if typ=5 then YG t.fs else t.fs)
def ZA (d:List UInt8) (typ width at_:Int) (t:Tr):Bool:=decide (t.kind=if typ=6 then 8 else 9) && decide (at_ % width=0) && vU d at_ width 8 9 t
def j6 (w:World) (v:Value) (d:List UInt8):Prop:=zK w v d∧d.length≤1048576∧∀ad n c,v=.slice (some ad) n c→ad.block < w.heap.size∧∃bl off,ad=⟨bl,off,none⟩
theorem j6.grew {w':World} (h:j6 w v d) (hg:jC w w'):j6 w' v d:=⟨h.1.grew hg,h.2.1,λad n c e=>⟨qk (h.2.2 ad n c e).1 hg.size,(h.2.2 ad n c e).2⟩⟩
theorem j6.form (h:j6 w v d):∃a c,v=.slice a d.length c∧d.length≤c:=by
 obtain⟨⟨a,c,e,h1,_⟩,_⟩:=h;exact⟨a,c,e,h1⟩
theorem YP (d:List UInt8) (at_ w:Int):0≤(k7 d at_ w).1∧(k7 d at_ w).1≤18446744073709551615∧((k7 d at_ w).2≠0→(k7 d at_ w).1=0):=by
 by_cases h:(k7 d at_ w).2=0
 ·obtain⟨hx,h0,h1⟩:=uM h;refine⟨h0,?_,λh'=>absurd h h'⟩;rcases yL hx with rfl|rfl|rfl|rfl<;>(simp at h1;omega)
 have e:(k7 d at_ w).1=0:=by
  unfold k7 at h⊢;split
  ·rename_i hx;rw[zl hx] at h;split
   ·rfl
   rename_i hr;rw[ze hr] at h;simp at h
  rfl
 rw[e];exact⟨by omega,by omega,λ_=>rfl⟩
end Go.Proofs.YtdjoffgkndncfaaGreat
