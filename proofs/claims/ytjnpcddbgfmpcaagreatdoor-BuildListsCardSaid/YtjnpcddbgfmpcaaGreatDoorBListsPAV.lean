/-
  Texts of the proof.
-/
import Derived.Test.YtjnpcddbgfmpcaaGreatDoorBListsPAT
import Derived.Test.YtjnpcddbgfmpcaaGreatDoorBListsPAU
set_option linter.unusedVariables false
set_option linter.unusedSimpArgs false
namespace Go.Proofs.YtjnpcddbgfmpcaaGreatDoor
open Go Go.ChangeShapes Go.WideShapes Go.ChangeAt Go.RowKit Go.Joins Go.Deep
def yI (t:Int):Int × Int:=if t=10 then (10,0) else if t=11 then (11,0) else if t=12 then (12,0) else if t=14 then (13,0) else if t=36 then (14,0) else if t=9 then (17,0) else if (Ft.elemF t).1=1 then (15,(Ft.elemF t).2.1) else (16,(Ft.elemF t).2.1)
def vZ (t:Int):Int:=if t=9 then 3 else if t=4∨t=6∨t=7∨0 < (Ft.elemF t).2.1 then 0 else 1
section
variable {P:Program} {mt kt et:TypeId}
end
def ZL (d:List UInt8) (typ pos par wid at_:Int) (t:Tr):Bool:=
 if typ=0 then nullF d pos par t else if typ=1 then intF d pos par t else if typ=2 then uintF d pos par t else if typ=26 then boolF d pos par t
 else if typ=4 then keyF d at_ t else if typ=5∨typ=25 then textF d typ wid at_ t else apartF d typ wid at_ t
def VU (typ:Int):Bool:=decide (typ=0) || decide (typ=1) || decide (typ=2) || decide (typ=26)
def bF (typ:Int):Bool:=decide (typ=4) || decide (typ=5) || decide (typ=25) || decide (typ=6) || decide (typ=7)
def bG (d:List UInt8) (typ pos par wid lim:Int):Bool:=
 (qV d pos par).2 && decide ((qV d pos par).1≤pos) && decide (pos - (qV d pos par).1 - vZ typ*wid < lim)
def incB:List ByteArray→Bool
 | []=>true
 | [_]=>true
 | a::b::r=>ltS a b && incB (b::r)
def fK (d:List UInt8) (pos w lim:Int) (k:ByteArray):Bool:=bG d 4 pos w w lim && decide (yL k=0) && hasF d (pos - (qV d pos w).1) (cY k)
def ZM (d:List UInt8) (w at_:Int):Nat→List ByteArray→Bool
 | _,[]=>true
 | i,k::r=>fK d (at_+i*w) w (at_ - w) k && ZM d w at_ (i+1) r
def fL (d:List UInt8) (w at_:Int) (l:List ByteArray):Bool:=
 decide (at_ % w=0) && decide (at_+l.length*w≤d.length) && ((qV d (at_ - w) w).2 && decide ((qV d (at_ - w) w).1=l.length)) && ZM d w at_ 0 l
def keysF (d:List UInt8) (first w:Int) (l:List ByteArray):Bool:=
 (qV d first w).2 && (qV d (first+w) w).2 && isW (qV d (first+w) w).1 && decide ((qV d first w).1≤first) && decide (first - (qV d first w).1 - (qV d (first+w) w).1 < first) && incB l &&
  fL d (qV d (first+w) w).1 (first - (qV d first w).1) l
def JA (kd:Int):Bool:=decide (kd=10) || decide (kd=17)
def fM (d:List UInt8) (typ w at_:Int):Tr→Bool
 | .mk k n u s keys l=>
  decide (k=(yI typ).1) && decide (n=0) && decide (u=0) && decide (s=EMB) && (decide ((yI typ).1=17) || decide (keys.length=0)) && decide (at_ % w=0) &&
   decide (at_+l.length*w+(if JA (yI typ).1=true then (l.length:Int) else 0)≤d.length) &&
   (if (yI typ).2=0 then (qV d (at_ - w) w).2 && decide ((qV d (at_ - w) w).1=l.length) else decide ((l.length:Int)=(yI typ).2)) &&
   (if (yI typ).1=17 then decide (0≤at_ - 3*w) && decide (keys.length=l.length) && keysF d (at_ - 3*w) w keys else true)
def ZN (typ w at_:Int):Int:=if (yI typ).1=17 then at_ - 3*w else if (yI typ).2=0 then at_ - w else at_
def KT (d:List UInt8) (typ w at_ n:Int) (i:Nat):Int × Int × Int:=
 if JA (yI typ).1=true then Ft.unpackF ((d[(at_+n*w+i).toNat]?).getD 0).toNat else ((Ft.elemF typ).1,w,0)
mutual
def VV (d:List UInt8) (typ pos par wid lim:Int):Tr→Bool
 | .mk k n u s keys l=>
  if (isW par && isW wid && Ft.legalB typ)=false then false
  else if Ft.inlineB typ=true then ZL d typ pos par wid 0 (.mk k n u s keys l)
  else if bG d typ pos par wid lim=false then false
  else if bF typ=true then ZL d typ pos par wid (pos - (qV d pos par).1) (.mk k n u s keys l)
  else fM d typ wid (pos - (qV d pos par).1) (.mk k n u s keys l) && dV d typ wid (pos - (qV d pos par).1) l.length 0 l
def dV (d:List UInt8) (typ w at_ n:Int):Nat→List Tr→Bool
 | _,[]=>true
 | i,x::r=>(decide ((KT d typ w at_ n i).2.2=0) && VV d (KT d typ w at_ n i).1 (at_+i*w) w (KT d typ w at_ n i).2.1 (ZN typ w at_) x) && dV d typ w at_ n (i+1) r
end
def QN (d:List UInt8) (typ w at_:Int) (t:Tr):Bool:=fM d typ w at_ t && dV d typ w at_ t.kids.length 0 t.kids
theorem aN (d:List UInt8) (typ pos par wid lim:Int) (t:Tr):VV d typ pos par wid lim t =
 if (isW par && isW wid && Ft.legalB typ)=false then false else if Ft.inlineB typ=true then ZL d typ pos par wid 0 t else if bG d typ pos par wid lim=false then false
 else if bF typ=true then ZL d typ pos par wid (pos - (qV d pos par).1) t else QN d typ wid (pos - (qV d pos par).1) t:=by
 cases t;simp only[VV,QN,Tr.kids]
def okS:Tr→Prop | .mk k n u s keys l=>s.size≤1000∧(∀x∈keys,x.size≤1000)∧keys.length≤4096∧l.length≤4096∧∀x,x∈l→okS x
decreasing_by
 rename_i h
 have:=List.sizeOf_lt_of_mem h
 simp only[Tr.mk.sizeOf_spec]
 omega
theorem l4 (t:Int) (h:(Ft.kindOf t).1≠0):0≤t∧t≤36:=Ft.legal_range (t:=t) (by unfold Ft.legalB;exact decide_eq_true h)
theorem gY (t:Int):Ft.inlineB t=VU t:=by
 by_cases h:0≤t∧t≤36
 ·obtain⟨k,rfl⟩:=Int.eq_ofNat_of_zero_le h.1
  have hk:k < 37:=by omega
  have:∀k:Fin 37,Ft.inlineB ((k:Nat):Int)=VU ((k:Nat):Int):=by decide +kernel
  exact this ⟨k,hk⟩
 ·have h1:VU t=false:=by unfold VU;rw[decide_eq_false (by omega),decide_eq_false (by omega),decide_eq_false (by omega),decide_eq_false (by omega)];rfl
  rw[h1]
  unfold Ft.inlineB
  refine decide_eq_false fun h2=>h (l4 t (by omega))
end Go.Proofs.YtjnpcddbgfmpcaaGreatDoor
