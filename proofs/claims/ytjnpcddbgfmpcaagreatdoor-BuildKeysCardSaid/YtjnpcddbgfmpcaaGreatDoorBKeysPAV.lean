/-
  Texts of the proof.
-/
import Derived.Test.YtjnpcddbgfmpcaaGreatDoorBKeysPAT
import Derived.Test.YtjnpcddbgfmpcaaGreatDoorBKeysPAU
set_option linter.unusedVariables false
set_option linter.unusedSimpArgs false
namespace Go.Proofs.YtjnpcddbgfmpcaaGreatDoor
open Go Go.ChangeShapes Go.WideShapes Go.ChangeAt Go.RowKit Go.Joins Go.Deep
def yJ (t:Int):Int × Int:=if t=10 then (10,0) else if t=11 then (11,0) else if t=12 then (12,0) else if t=14 then (13,0) else if t=36 then (14,0) else if t=9 then (17,0) else if (Ft.elemF t).1=1 then (15,(Ft.elemF t).2.1) else (16,(Ft.elemF t).2.1)
def QQ (t:Int):Int:=if t=9 then 3 else if t=4∨t=6∨t=7∨0 < (Ft.elemF t).2.1 then 0 else 1
section
variable {P:Program} {mt kt et:TypeId}
end
def K2 (d:List UInt8) (typ pos par wid at_:Int) (t:Tr):Bool:=
 if typ=0 then nullF d pos par t else if typ=1 then intF d pos par t else if typ=2 then uintF d pos par t else if typ=26 then boolF d pos par t
 else if typ=4 then keyF d at_ t else if typ=5∨typ=25 then textF d typ wid at_ t else apartF d typ wid at_ t
def VB (typ:Int):Bool:=decide (typ=0) || decide (typ=1) || decide (typ=2) || decide (typ=26)
def eM (typ:Int):Bool:=decide (typ=4) || decide (typ=5) || decide (typ=25) || decide (typ=6) || decide (typ=7)
def VZ (d:List UInt8) (typ pos par wid lim:Int):Bool:=
 (qG d pos par).2 && decide ((qG d pos par).1≤pos) && decide (pos - (qG d pos par).1 - QQ typ*wid < lim)
def incB:List ByteArray→Bool
 | []=>true
 | [_]=>true
 | a::b::r=>ltS a b && incB (b::r)
def V4 (d:List UInt8) (pos w lim:Int) (k:ByteArray):Bool:=VZ d 4 pos w w lim && decide (qA k=0) && gB d (pos - (qG d pos w).1) (Y0 k)
def K4 (d:List UInt8) (w at_:Int):Nat→List ByteArray→Bool
 | _,[]=>true
 | i,k::r=>V4 d (at_+i*w) w (at_ - w) k && K4 d w at_ (i+1) r
def QR (d:List UInt8) (w at_:Int) (l:List ByteArray):Bool:=
 decide (at_ % w=0) && decide (at_+l.length*w≤d.length) && ((qG d (at_ - w) w).2 && decide ((qG d (at_ - w) w).1=l.length)) && K4 d w at_ 0 l
def keysF (d:List UInt8) (first w:Int) (l:List ByteArray):Bool:=
 (qG d first w).2 && (qG d (first+w) w).2 && isW (qG d (first+w) w).1 && decide ((qG d first w).1≤first) && decide (first - (qG d first w).1 - (qG d (first+w) w).1 < first) && incB l &&
  QR d (qG d (first+w) w).1 (first - (qG d first w).1) l
def ZQ (kd:Int):Bool:=decide (kd=10) || decide (kd=17)
def eN (d:List UInt8) (typ w at_:Int):Tr→Bool
 | .mk k n u s keys l=>
  decide (k=(yJ typ).1) && decide (n=0) && decide (u=0) && decide (s=EMB) && (decide ((yJ typ).1=17) || decide (keys.length=0)) && decide (at_ % w=0) &&
   decide (at_+l.length*w+(if ZQ (yJ typ).1=true then (l.length:Int) else 0)≤d.length) &&
   (if (yJ typ).2=0 then (qG d (at_ - w) w).2 && decide ((qG d (at_ - w) w).1=l.length) else decide ((l.length:Int)=(yJ typ).2)) &&
   (if (yJ typ).1=17 then decide (0≤at_ - 3*w) && decide (keys.length=l.length) && keysF d (at_ - 3*w) w keys else true)
def QS (typ w at_:Int):Int:=if (yJ typ).1=17 then at_ - 3*w else if (yJ typ).2=0 then at_ - w else at_
def K5 (d:List UInt8) (typ w at_ n:Int) (i:Nat):Int × Int × Int:=
 if ZQ (yJ typ).1=true then Ft.unpackF ((d[(at_+n*w+i).toNat]?).getD 0).toNat else ((Ft.elemF typ).1,w,0)
mutual
def VC (d:List UInt8) (typ pos par wid lim:Int):Tr→Bool
 | .mk k n u s keys l=>
  if (isW par && isW wid && Ft.legalB typ)=false then false
  else if Ft.inlineB typ=true then K2 d typ pos par wid 0 (.mk k n u s keys l)
  else if VZ d typ pos par wid lim=false then false
  else if eM typ=true then K2 d typ pos par wid (pos - (qG d pos par).1) (.mk k n u s keys l)
  else eN d typ wid (pos - (qG d pos par).1) (.mk k n u s keys l) && cX d typ wid (pos - (qG d pos par).1) l.length 0 l
def cX (d:List UInt8) (typ w at_ n:Int):Nat→List Tr→Bool
 | _,[]=>true
 | i,x::r=>(decide ((K5 d typ w at_ n i).2.2=0) && VC d (K5 d typ w at_ n i).1 (at_+i*w) w (K5 d typ w at_ n i).2.1 (QS typ w at_) x) && cX d typ w at_ n (i+1) r
end
def aM (d:List UInt8) (typ w at_:Int) (t:Tr):Bool:=eN d typ w at_ t && cX d typ w at_ t.kids.length 0 t.kids
theorem V5 (d:List UInt8) (typ pos par wid lim:Int) (t:Tr):VC d typ pos par wid lim t =
 if (isW par && isW wid && Ft.legalB typ)=false then false else if Ft.inlineB typ=true then K2 d typ pos par wid 0 t else if VZ d typ pos par wid lim=false then false
 else if eM typ=true then K2 d typ pos par wid (pos - (qG d pos par).1) t else aM d typ wid (pos - (qG d pos par).1) t:=by
 cases t;simp only[VC,aM,Tr.kids]
def okS:Tr→Prop | .mk k n u s keys l=>s.size≤1000∧(∀x∈keys,x.size≤1000)∧keys.length≤4096∧l.length≤4096∧∀x,x∈l→okS x
decreasing_by
 rename_i h
 have:=List.sizeOf_lt_of_mem h
 simp only[Tr.mk.sizeOf_spec]
 omega
theorem lD (t:Int) (h:(Ft.kindOf t).1≠0):0≤t∧t≤36:=Ft.legal_range (t:=t) (by unfold Ft.legalB;exact decide_eq_true h)
theorem gC (t:Int):Ft.inlineB t=VB t:=by
 by_cases h:0≤t∧t≤36
 ·obtain⟨k,rfl⟩:=Int.eq_ofNat_of_zero_le h.1
  have hk:k < 37:=by omega
  have:∀k:Fin 37,Ft.inlineB ((k:Nat):Int)=VB ((k:Nat):Int):=by decide +kernel
  exact this ⟨k,hk⟩
 ·have h1:VB t=false:=by unfold VB;rw[decide_eq_false (by omega),decide_eq_false (by omega),decide_eq_false (by omega),decide_eq_false (by omega)];rfl
  rw[h1]
  unfold Ft.inlineB
  refine decide_eq_false fun h2=>h (lD t (by omega))
end Go.Proofs.YtjnpcddbgfmpcaaGreatDoor
