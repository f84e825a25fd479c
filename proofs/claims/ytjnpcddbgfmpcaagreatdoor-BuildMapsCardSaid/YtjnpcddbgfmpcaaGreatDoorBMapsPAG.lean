/-
  Texts of the proof.
-/
import Derived.Test.YtjnpcddbgfmpcaaGreatDoorBMapsPAD
import Derived.Deep.Slices
import Derived.Deep.Strs
import Derived.Deep.Fields
import Derived.ChangeSame
set_option linter.unusedVariables false
set_option linter.unusedSimpArgs false
set_option maxRecDepth 100000
namespace Go.Proofs.YtjnpcddbgfmpcaaGreatDoor
open Go Go.ChangeShapes Go.WideShapes Go.ChangeAt Go.RowKit Go.Joins Go.Deep
inductive Tr where
 | mk (k n u:Int) (s:ByteArray) (keys:List ByteArray) (l:List Tr)
def Tr.kids:Tr→List Tr | .mk _ _ _ _ _ l=>l
def Tr.kind:Tr→Int | .mk k _ _ _ _ _=>k
def Tr.keys:Tr→List ByteArray | .mk _ _ _ _ ks _=>ks
def JN (x:Int):Prop:=-9223372036854775808≤x∧x≤9223372036854775807
def dJ (x:Int):Prop:=0≤x∧x≤18446744073709551615
def k9 (n:Nat):Prop:=n≤9223372036854775807
def kO (w:World) (v:Value) (l:List ByteArray):Prop:=
 ∃a c,v=.slice a l.length c∧l.length≤c∧k9 c∧(a=none→c=0)∧∀i s,l[i]? = some s→k9 s.size∧∃b off,a=some ⟨b,off,none⟩∧w.cell? ⟨b,off+i,none⟩=some (.string s)
def Cells6 (w:World) (b off:Nat) (v:Value):Prop:=
 ∃c0 c1 c2 c3 c4 c5,v=.agg #[c0,c1,c2,c3,c4,c5]∧w.cell? ⟨b,off,none⟩=some c0∧w.cell? ⟨b,off+1,none⟩=some c1∧w.cell? ⟨b,off+2,none⟩=some c2∧w.cell? ⟨b,off+3,none⟩=some c3∧w.cell? ⟨b,off+4,none⟩=some c4∧w.cell? ⟨b,off+5,none⟩=some c5
def RowsAt (w:World) (v:Value) (vs:List Value):Prop:=
 ∃a c,v=.slice a vs.length c∧vs.length≤c∧k9 c∧(a=none→c=0)∧∀i x,vs[i]? = some x→∃b off,a=some ⟨b,off,none⟩∧Cells6 w b (off+i*6) x
mutual
def NodeAt (w:World):Tr→Value→Prop
 | .mk k n u s keys l,v=>(JN k∧JN n∧dJ u∧k9 s.size)∧∃kv lv vs,v=.agg #[.int .i64 k,.int .i64 n,.int .u64 u,.string s,kv,lv]∧kO w kv keys∧RowsAt w lv vs∧rM w l vs
def rM (w:World):List Tr→List Value→Prop
 | [],vs=>vs=[]
 | t::r,vs=>∃v vr,vs=v::vr∧NodeAt w t v∧rM w r vr
end
section
variable {w w':World} {v:Value} {vs:List Value} {t:Tr} {l:List Tr}
theorem kO.grew {ks:List ByteArray} (h:kO w v ks) (hg:jA w w'):kO w' v ks:=by
 obtain⟨a,c,h1,h2,h3,h4,h5⟩:=h
 refine⟨a,c,h1,h2,h3,h4,fun i s hs=>?_⟩
 obtain⟨hz,b,off,e,hc⟩:=h5 i s hs
 exact⟨hz,b,off,e,hg.cell hc⟩
end
/-! ### how an argument reads -/
theorem l4:Tryz.prog.cellsOf 9=1:=by kernel_rfl
theorem QI (a:Addr) (b off i:Nat) (h:a=⟨b,off,none⟩):a.add i=⟨b,off+i,none⟩:=by
 subst h
 by_cases h0:i=0
 ·subst h0;simp[Addr.add]
 ·simp[Addr.add,h0]
section
variable {H:Type} {enc:TypeId × Value→H} {W:World}
theorem fH {fuel:Nat} {cs:List Value} {x:DataW H × List MemPlace} (h:DataW.trod enc Tryz.prog W 0 (fun _=>true) true fuel 22 cs=some x):∃v l,cs=[v]∧kO W v l:=by
 rcases Go.Deep.open_strs Tryz.underlying22 Tryz.underlying9 l4 h with ⟨rfl,_⟩|⟨a,len,cap,m,Sx,rfl,_,hl,hm,hmm,_,hi⟩
 ·exact⟨_,[],rfl,none,0,rfl,by simp,by unfold k9;omega,fun _=>rfl,by simp⟩
 ·have hmc:m=cap:=by simpa using hmm
  subst hmc
  refine⟨_,(List.range len).map Sx,rfl,some a,m,by simp,by simpa using hl,by unfold maxLen at hm;exact hm,(fun h=>by cases h),fun i s hs=>?_⟩
  have hil:i < len:=by have:=(List.getElem?_eq_some_iff.1 hs).1;simpa using this
  have hsx:Sx i=s:=by have:=(List.getElem?_eq_some_iff.1 hs).2;simpa using this
  obtain⟨hc,hz⟩:=hi i (by omega)
  rw[hsx] at hc hz
  have h0:=(hi 0 (by omega)).1
  obtain⟨b,off,spot⟩:=a
  obtain rfl:spot=none:=by simpa [Addr.add] using World.cell?_spot h0
  exact⟨hz,b,off,rfl,by rw[QI _ b off i rfl] at hc;exact hc⟩
end
end Go.Proofs.YtjnpcddbgfmpcaaGreatDoor
