/-
  Texts of the proof.
-/
import Derived.Test.YtdjoffgkndncfaaGreatEFlagsPAQ
import Derived.Test.YtdjoffgkndncfaaGreatEFlagsPAR
set_option linter.unusedVariables false
set_option linter.unusedSimpArgs false
namespace Go.Proofs.YtdjoffgkndncfaaGreat
open Go Go.ChangeShapes Go.WideShapes Go.ChangeAt Go.RowKit Go.Joins Go.Deep
def qV (t:Int):Int × Int:=if t=10 then (10,0) else if t=11 then (11,0) else if t=12 then (12,0) else if t=14 then (13,0) else if t=36 then (14,0) else if t=9 then (17,0) else if (Ft.elemF t).1=1 then (15,(Ft.elemF t).2.1) else (16,(Ft.elemF t).2.1)
def vZ (t:Int):Int:=if t=9 then 3 else if t=4∨t=6∨t=7∨0 < (Ft.elemF t).2.1 then 0 else 1
section
variable {P:Program} {mt kt et:TypeId}
end
def VG (d:List UInt8) (typ pos par wid at_:Int) (t:Tr):Bool:=
 if typ=0 then nullF d pos par t else if typ=1 then intF d pos par t else if typ=2 then uintF d pos par t else if typ=26 then boolF d pos par t
 else if typ=4 then keyF d at_ t else if typ=5∨typ=25 then textF d typ wid at_ t else gJ d typ wid at_ t
def eC (typ:Int):Bool:=decide (typ=0) || decide (typ=1) || decide (typ=2) || decide (typ=26)
def fE (typ:Int):Bool:=decide (typ=4) || decide (typ=5) || decide (typ=25) || decide (typ=6) || decide (typ=7)
def gM (d:List UInt8) (typ pos par wid lim:Int):Bool:=
 (KT d pos par).2 && decide ((KT d pos par).1≤pos) && decide (pos - (KT d pos par).1 - vZ typ*wid < lim)
def incB:List ByteArray→Bool
 | []=>true
 | [_]=>true
 | a::b::r=>ltS a b && incB (b::r)
def pD (d:List UInt8) (pos w lim:Int) (k:ByteArray):Bool:=gM d 4 pos w w lim && decide (vL k=0) && sG d (pos - (KT d pos w).1) (fD k)
def VH (d:List UInt8) (w at_:Int):Nat→List ByteArray→Bool
 | _,[]=>true
 | i,k::r=>pD d (at_+i*w) w (at_ - w) k && VH d w at_ (i+1) r
def pE (d:List UInt8) (w at_:Int) (l:List ByteArray):Bool:=
 decide (at_ % w=0) && decide (at_+l.length*w≤d.length) && ((KT d (at_ - w) w).2 && decide ((KT d (at_ - w) w).1=l.length)) && VH d w at_ 0 l
def keysF (d:List UInt8) (first w:Int) (l:List ByteArray):Bool:=
 (KT d first w).2 && (KT d (first+w) w).2 && isW (KT d (first+w) w).1 && decide ((KT d first w).1≤first) && decide (first - (KT d first w).1 - (KT d (first+w) w).1 < first) && incB l &&
  pE d (KT d (first+w) w).1 (first - (KT d first w).1) l
def ZM (kd:Int):Bool:=decide (kd=10) || decide (kd=17)
def pF (d:List UInt8) (typ w at_:Int):Tr→Bool
 | .mk k n u s keys l=>
  decide (k=(qV typ).1) && decide (n=0) && decide (u=0) && decide (s=EMB) && (decide ((qV typ).1=17) || decide (keys.length=0)) && decide (at_ % w=0) &&
   decide (at_+l.length*w+(if ZM (qV typ).1=true then (l.length:Int) else 0)≤d.length) &&
   (if (qV typ).2=0 then (KT d (at_ - w) w).2 && decide ((KT d (at_ - w) w).1=l.length) else decide ((l.length:Int)=(qV typ).2)) &&
   (if (qV typ).1=17 then decide (0≤at_ - 3*w) && decide (keys.length=l.length) && keysF d (at_ - 3*w) w keys else true)
def VI (typ w at_:Int):Int:=if (qV typ).1=17 then at_ - 3*w else if (qV typ).2=0 then at_ - w else at_
def QJ (d:List UInt8) (typ w at_ n:Int) (i:Nat):Int × Int × Int:=
 if ZM (qV typ).1=true then Ft.unpackF ((d[(at_+n*w+i).toNat]?).getD 0).toNat else ((Ft.elemF typ).1,w,0)
mutual
def eD (d:List UInt8) (typ pos par wid lim:Int):Tr→Bool
 | .mk k n u s keys l=>
  if (isW par && isW wid && Ft.legalB typ)=false then false
  else if Ft.inlineB typ=true then VG d typ pos par wid 0 (.mk k n u s keys l)
  else if gM d typ pos par wid lim=false then false
  else if fE typ=true then VG d typ pos par wid (pos - (KT d pos par).1) (.mk k n u s keys l)
  else pF d typ wid (pos - (KT d pos par).1) (.mk k n u s keys l) && mQ d typ wid (pos - (KT d pos par).1) l.length 0 l
def mQ (d:List UInt8) (typ w at_ n:Int):Nat→List Tr→Bool
 | _,[]=>true
 | i,x::r=>(decide ((QJ d typ w at_ n i).2.2=0) && eD d (QJ d typ w at_ n i).1 (at_+i*w) w (QJ d typ w at_ n i).2.1 (VI typ w at_) x) && mQ d typ w at_ n (i+1) r
end
def b9 (d:List UInt8) (typ w at_:Int) (t:Tr):Bool:=pF d typ w at_ t && mQ d typ w at_ t.kids.length 0 t.kids
theorem fL (d:List UInt8) (typ pos par wid lim:Int) (t:Tr):eD d typ pos par wid lim t =
 if (isW par && isW wid && Ft.legalB typ)=false then false else if Ft.inlineB typ=true then VG d typ pos par wid 0 t else if gM d typ pos par wid lim=false then false
 else if fE typ=true then VG d typ pos par wid (pos - (KT d pos par).1) t else b9 d typ wid (pos - (KT d pos par).1) t:=by
 cases t;simp only[eD,b9,Tr.kids]
def okS:Tr→Prop | .mk k n u s keys l=>s.size≤1000∧(∀x∈keys,x.size≤1000)∧keys.length≤4096∧l.length≤4096∧∀x,x∈l→okS x
decreasing_by
 rename_i h
 have:=List.sizeOf_lt_of_mem h
 simp only[Tr.mk.sizeOf_spec]
 omega
theorem xA (t:Int) (h:(Ft.kindOf t).1≠0):0≤t∧t≤36:=Ft.legal_range (t:=t) (by unfold Ft.legalB;exact decide_eq_true h)
theorem sH (t:Int):Ft.inlineB t=eC t:=by
 by_cases h:0≤t∧t≤36
 ·obtain⟨k,rfl⟩:=Int.eq_ofNat_of_zero_le h.1
  have hk:k < 37:=by omega
  have:∀k:Fin 37,Ft.inlineB ((k:Nat):Int)=eC ((k:Nat):Int):=by decide +kernel
  exact this ⟨k,hk⟩
 ·have h1:eC t=false:=by unfold eC;rw[decide_eq_false (by omega),decide_eq_false (by omega),decide_eq_false (by omega),decide_eq_false (by omega)];rfl
  rw[h1]
  unfold Ft.inlineB
  refine decide_eq_false fun h2=>h (xA t (by omega))
theorem AZ (k n u:Int) (s:ByteArray) (keys:List ByteArray) (l:List Tr):okS (.mk k n u s keys l)↔s.size≤1000∧(∀x∈keys,x.size≤1000)∧keys.length≤4096∧l.length≤4096∧∀x,x∈l→okS x:=by rw[okS]
theorem cut_okS (jZ:Nat) (hlong:jZ≤1000):∀(m:Nat) (t:Tr) (left:Nat),t.size≤m→left≤4096→okS (vD jZ left t).1:=by
 intro m
 induction m with
 | zero=>intro t left h;have:=t.size_pos;omega
 | succ m ih=>
  intro t left h hl
  obtain⟨k,n,u,s,keys,l⟩:=t
  have qP:∀(l:List Tr) (left:Nat),(∀x∈l,x.size≤m)→left≤4096→(kI jZ left l).1.length≤left∧∀x∈(kI jZ left l).1,okS x:=by
   intro l
   induction l with
   | nil=>intro left _ _;simp[kI]
   | cons t r ihl=>
    intro left hx hl
    rw[kI]
    by_cases h0:left=0
    ·rw[if_pos h0];simp
    ·rw[if_neg h0]
     have hz:=QH jZ t (left - 1)
     have hp:=(vD jZ (left - 1) t).1.size_pos
     have h1:=ih t (left - 1) (hx t (by simp)) (by omega)
     have h2:=ihl (vD jZ (left - 1) t).2 (fun x hm=>hx x (by simp[hm])) (by omega)
     refine⟨by simp only[List.length_cons];have:=h2.1;omega,fun x hm=>?_⟩
     rcases List.mem_cons.1 hm with rfl|hm
     ·exact h1
     ·exact h2.2 x hm
  have hsz:∀x∈l,x.size≤m:=by
   intro x hx
   have:=yA hx
   simp only[Tr.size] at h
   omega
  have hk:=qP l left hsz hl
  rw[vD,AZ]
  refine⟨by rw[JU];omega,fun x hx=>?_,by unfold yX;rw[List.length_map,List.length_take];omega,by omega,hk.2⟩
  obtain⟨y,_,rfl⟩:=List.mem_map.1 hx
  rw[JU];omega
end Go.Proofs.YtdjoffgkndncfaaGreat
