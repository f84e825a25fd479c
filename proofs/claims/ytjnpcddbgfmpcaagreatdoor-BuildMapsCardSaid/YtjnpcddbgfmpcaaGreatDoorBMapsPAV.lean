/-
  Texts of the proof.
-/
import Derived.Test.YtjnpcddbgfmpcaaGreatDoorBMapsPAT
import Derived.Test.YtjnpcddbgfmpcaaGreatDoorBMapsPAU
set_option linter.unusedVariables false
set_option linter.unusedSimpArgs false
namespace Go.Proofs.YtjnpcddbgfmpcaaGreatDoor
open Go Go.ChangeShapes Go.WideShapes Go.ChangeAt Go.RowKit Go.Joins Go.Deep
def zI (t:Int):Int × Int:=if t=10 then (10,0) else if t=11 then (11,0) else if t=12 then (12,0) else if t=14 then (13,0) else if t=36 then (14,0) else if t=9 then (17,0) else if (Ft.elemF t).1=1 then (15,(Ft.elemF t).2.1) else (16,(Ft.elemF t).2.1)
def vW (t:Int):Int:=if t=9 then 3 else if t=4∨t=6∨t=7∨0 < (Ft.elemF t).2.1 then 0 else 1
section
variable {P:Program} {mt kt et:TypeId}
end
def qI (d:List UInt8) (typ pos par wid at_:Int) (t:Tr):Bool:=
 if typ=0 then gV d pos par t else if typ=1 then intF d pos par t else if typ=2 then bC d pos par t else if typ=26 then gW d pos par t
 else if typ=4 then keyF d at_ t else if typ=5∨typ=25 then gX d typ wid at_ t else bD d typ wid at_ t
def ZN (typ:Int):Bool:=decide (typ=0) || decide (typ=1) || decide (typ=2) || decide (typ=26)
def YH (typ:Int):Bool:=decide (typ=4) || decide (typ=5) || decide (typ=25) || decide (typ=6) || decide (typ=7)
def aI (d:List UInt8) (typ pos par wid lim:Int):Bool:=
 (yZ d pos par).2 && decide ((yZ d pos par).1≤pos) && decide (pos - (yZ d pos par).1 - vW typ*wid < lim)
def cU:List ByteArray→Bool
 | []=>true
 | [_]=>true
 | a::b::r=>ltS a b && cU (b::r)
def aM (d:List UInt8) (pos w lim:Int) (k:ByteArray):Bool:=aI d 4 pos w w lim && decide (yI k=0) && bB d (pos - (yZ d pos w).1) (YG k)
def ZO (d:List UInt8) (w at_:Int):Nat→List ByteArray→Bool
 | _,[]=>true
 | i,k::r=>aM d (at_+i*w) w (at_ - w) k && ZO d w at_ (i+1) r
def YZ (d:List UInt8) (w at_:Int) (l:List ByteArray):Bool:=
 decide (at_ % w=0) && decide (at_+l.length*w≤d.length) && ((yZ d (at_ - w) w).2 && decide ((yZ d (at_ - w) w).1=l.length)) && ZO d w at_ 0 l
def n7 (d:List UInt8) (first w:Int) (l:List ByteArray):Bool:=
 (yZ d first w).2 && (yZ d (first+w) w).2 && isW (yZ d (first+w) w).1 && decide ((yZ d first w).1≤first) && decide (first - (yZ d first w).1 - (yZ d (first+w) w).1 < first) && cU l &&
  YZ d (yZ d (first+w) w).1 (first - (yZ d first w).1) l
def v7 (kd:Int):Bool:=decide (kd=10) || decide (kd=17)
def fJ (d:List UInt8) (typ w at_:Int):Tr→Bool
 | .mk k n u s keys l=>
  decide (k=(zI typ).1) && decide (n=0) && decide (u=0) && decide (s=EMB) && (decide ((zI typ).1=17) || decide (keys.length=0)) && decide (at_ % w=0) &&
   decide (at_+l.length*w+(if v7 (zI typ).1=true then (l.length:Int) else 0)≤d.length) &&
   (if (zI typ).2=0 then (yZ d (at_ - w) w).2 && decide ((yZ d (at_ - w) w).1=l.length) else decide ((l.length:Int)=(zI typ).2)) &&
   (if (zI typ).1=17 then decide (0≤at_ - 3*w) && decide (keys.length=l.length) && n7 d (at_ - 3*w) w keys else true)
def ZP (typ w at_:Int):Int:=if (zI typ).1=17 then at_ - 3*w else if (zI typ).2=0 then at_ - w else at_
def KQ (d:List UInt8) (typ w at_ n:Int) (i:Nat):Int × Int × Int:=
 if v7 (zI typ).1=true then Ft.unpackF ((d[(at_+n*w+i).toNat]?).getD 0).toNat else ((Ft.elemF typ).1,w,0)
mutual
def QN (d:List UInt8) (typ pos par wid lim:Int):Tr→Bool
 | .mk k n u s keys l=>
  if (isW par && isW wid && Ft.legalB typ)=false then false
  else if Ft.inlineB typ=true then qI d typ pos par wid 0 (.mk k n u s keys l)
  else if aI d typ pos par wid lim=false then false
  else if YH typ=true then qI d typ pos par wid (pos - (yZ d pos par).1) (.mk k n u s keys l)
  else fJ d typ wid (pos - (yZ d pos par).1) (.mk k n u s keys l) && dS d typ wid (pos - (yZ d pos par).1) l.length 0 l
def dS (d:List UInt8) (typ w at_ n:Int):Nat→List Tr→Bool
 | _,[]=>true
 | i,x::r=>(decide ((KQ d typ w at_ n i).2.2=0) && QN d (KQ d typ w at_ n i).1 (at_+i*w) w (KQ d typ w at_ n i).2.1 (ZP typ w at_) x) && dS d typ w at_ n (i+1) r
end
def KG (d:List UInt8) (typ w at_:Int) (t:Tr):Bool:=fJ d typ w at_ t && dS d typ w at_ t.kids.length 0 t.kids
theorem aN (d:List UInt8) (typ pos par wid lim:Int) (t:Tr):QN d typ pos par wid lim t =
 if (isW par && isW wid && Ft.legalB typ)=false then false else if Ft.inlineB typ=true then qI d typ pos par wid 0 t else if aI d typ pos par wid lim=false then false
 else if YH typ=true then qI d typ pos par wid (pos - (yZ d pos par).1) t else KG d typ wid (pos - (yZ d pos par).1) t:=by
 cases t;simp only[QN,KG,Tr.kids]
def okS:Tr→Prop | .mk k n u s keys l=>s.size≤1000∧(∀x∈keys,x.size≤1000)∧keys.length≤4096∧l.length≤4096∧∀x,x∈l→okS x
decreasing_by
 rename_i h
 have:=List.sizeOf_lt_of_mem h
 simp only[Tr.mk.sizeOf_spec]
 omega
theorem mC (t:Int) (h:(Ft.kindOf t).1≠0):0≤t∧t≤36:=Ft.legal_range (t:=t) (by unfold Ft.legalB;exact decide_eq_true h)
theorem gY (t:Int):Ft.inlineB t=ZN t:=by
 by_cases h:0≤t∧t≤36
 ·obtain⟨k,rfl⟩:=Int.eq_ofNat_of_zero_le h.1
  have hk:k < 37:=by omega
  have:∀k:Fin 37,Ft.inlineB ((k:Nat):Int)=ZN ((k:Nat):Int):=by decide +kernel
  exact this ⟨k,hk⟩
 ·have h1:ZN t=false:=by unfold ZN;rw[decide_eq_false (by omega),decide_eq_false (by omega),decide_eq_false (by omega),decide_eq_false (by omega)];rfl
  rw[h1]
  unfold Ft.inlineB
  refine decide_eq_false fun h2=>h (mC t (by omega))
end Go.Proofs.YtjnpcddbgfmpcaaGreatDoor
