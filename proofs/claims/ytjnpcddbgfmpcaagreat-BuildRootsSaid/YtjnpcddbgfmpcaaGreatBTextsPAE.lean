/-
  Texts of the proof.
-/
import Derived.Test.YtjnpcddbgfmpcaaGreatBTextsPAD
import Derived.Deep.Slices
import Derived.Deep.Strs
import Derived.Deep.Fields
import Derived.ChangeSame
set_option linter.unusedVariables false
set_option linter.unusedSimpArgs false
namespace Go.Proofs.YtjnpcddbgfmpcaaGreat
open Go Go.ChangeShapes Go.WideShapes Go.ChangeAt Go.RowKit Go.Joins Go.Deep
inductive Tr where
 | mk (k n u:Int) (s:ByteArray) (keys:List ByteArray) (l:List Tr)
def i64ok (x:Int):Prop:=-9223372036854775808≤x∧x≤9223372036854775807
def u64ok (x:Int):Prop:=0≤x∧x≤18446744073709551615
def zA (n:Nat):Prop:=n≤9223372036854775807
def kM (w:World) (v:Value) (l:List ByteArray):Prop:=
 ∃a c,v=.slice a l.length c∧l.length≤c∧zA c∧(a=none→c=0)∧∀i s,l[i]? = some s→zA s.size∧∃b off,a=some ⟨b,off,none⟩∧w.cell? ⟨b,off+i,none⟩=some (.string s)
def Cells6 (w:World) (b off:Nat) (v:Value):Prop:=
 ∃c0 c1 c2 c3 c4 c5,v=.agg #[c0,c1,c2,c3,c4,c5]∧w.cell? ⟨b,off,none⟩=some c0∧w.cell? ⟨b,off+1,none⟩=some c1∧w.cell? ⟨b,off+2,none⟩=some c2∧w.cell? ⟨b,off+3,none⟩=some c3∧w.cell? ⟨b,off+4,none⟩=some c4∧w.cell? ⟨b,off+5,none⟩=some c5
def RowsAt (w:World) (v:Value) (vs:List Value):Prop:=
 ∃a c,v=.slice a vs.length c∧vs.length≤c∧zA c∧(a=none→c=0)∧∀i x,vs[i]? = some x→∃b off,a=some ⟨b,off,none⟩∧Cells6 w b (off+i*6) x
mutual
def NodeAt (w:World):Tr→Value→Prop
 | .mk k n u s keys l,v=>(i64ok k∧i64ok n∧u64ok u∧zA s.size)∧∃kv lv vs,v=.agg #[.int .i64 k,.int .i64 n,.int .u64 u,.string s,kv,lv]∧kM w kv keys∧RowsAt w lv vs∧l5 w l vs
def l5 (w:World):List Tr→List Value→Prop
 | [],vs=>vs=[]
 | t::r,vs=>∃v vr,vs=v::vr∧NodeAt w t v∧l5 w r vr
end
section
variable {w w':World} {v:Value} {vs:List Value} {t:Tr} {l:List Tr}
theorem kM.grew {ks:List ByteArray} (h:kM w v ks) (hg:jB w w'):kM w' v ks:=by
 obtain⟨a,c,h1,h2,h3,h4,h5⟩:=h
 refine⟨a,c,h1,h2,h3,h4,fun i s hs=>?_⟩
 obtain⟨hz,b,off,e,hc⟩:=h5 i s hs
 exact⟨hz,b,off,e,hg.cell hc⟩
end
/-! ### how an argument reads -/
theorem QN (a:Addr) (b off i:Nat) (h:a=⟨b,off,none⟩):a.add i=⟨b,off+i,none⟩:=by
 subst h
 by_cases h0:i=0
 ·subst h0;simp[Addr.add]
 ·simp[Addr.add,h0]
section
variable {H:Type} {enc:TypeId × Value→H} {W:World}
theorem l6 {q:Int} (h:(Lit.int .i64 q).wf=true):i64ok q:=bounds_i64 h
theorem l7 {q:Int} (h:(Lit.int .u64 q).wf=true):u64ok q:=by
 simp[Lit.wf,IntKind.min,IntKind.max,IntKind.signed,IntKind.bits] at h
 unfold u64ok
 omega
end
end Go.Proofs.YtjnpcddbgfmpcaaGreat
