/-
  Texts of the proof.
-/
import Derived.Test.YtfbeepkogcmlmaaNormalKnownPAD
import Derived.Deep.Slices
import Derived.Deep.Strs
import Derived.Deep.Fields
import Derived.ChangeSame
set_option linter.unusedVariables false
set_option linter.unusedSimpArgs false
namespace Go.Proofs.Ytfbeepkogcmlmaa
open Go Go.ChangeShapes Go.WideShapes Go.ChangeAt Go.RowKit Go.Joins Go.Deep
inductive Tr where
 | mk (k n u:Int) (s:ByteArray) (keys:List ByteArray) (l:List Tr)
def Tr.kids:Tr→List Tr | .mk _ _ _ _ _ l=>l
def Tr.kind:Tr→Int | .mk k _ _ _ _ _=>k
mutual
def Tr.size:Tr→Nat | .mk _ _ _ _ _ l=>kI l+1
def kI:List Tr→Nat | []=>0 | t::r=>t.size+kI r
end
theorem Tr.size_pos (t:Tr):1≤t.size:=by cases t;simp[Tr.size]
theorem k9 {x:Tr} {l:List Tr} (h:x∈l):x.size≤kI l:=by
 induction l with
 | nil=>cases h
 | cons t r ih=>
  simp only[kI]
  rcases List.mem_cons.1 h with rfl|h
  ·omega
  ·have:=ih h;omega
theorem yM (l:List Tr):l.length≤kI l:=by
 induction l with
 | nil=>simp[kI]
 | cons t r ih=>have:=t.size_pos;simp only[kI,List.length_cons];omega
def jQ (x:Int):Prop:=-9223372036854775808≤x∧x≤9223372036854775807
def j9 (x:Int):Prop:=0≤x∧x≤18446744073709551615
def jI (n:Nat):Prop:=n≤9223372036854775807
def kO (w:World) (v:Value) (l:List ByteArray):Prop:=
 ∃a c,v=.slice a l.length c∧l.length≤c∧jI c∧(a=none→c=0)∧∀i s,l[i]? = some s→jI s.size∧∃b off,a=some ⟨b,off,none⟩∧w.cell? ⟨b,off+i,none⟩=some (.string s)
def kQ (w:World) (b off:Nat) (v:Value):Prop:=
 ∃c0 c1 c2 c3 c4 c5,v=.agg #[c0,c1,c2,c3,c4,c5]∧w.cell? ⟨b,off,none⟩=some c0∧w.cell? ⟨b,off+1,none⟩=some c1∧w.cell? ⟨b,off+2,none⟩=some c2∧w.cell? ⟨b,off+3,none⟩=some c3∧w.cell? ⟨b,off+4,none⟩=some c4∧w.cell? ⟨b,off+5,none⟩=some c5
def yT (w:World) (v:Value) (vs:List Value):Prop:=
 ∃a c,v=.slice a vs.length c∧vs.length≤c∧jI c∧(a=none→c=0)∧∀i x,vs[i]? = some x→∃b off,a=some ⟨b,off,none⟩∧kQ w b (off+i*6) x
mutual
def jL (w:World):Tr→Value→Prop
 | .mk k n u s keys l,v=>(jQ k∧jQ n∧j9 u∧jI s.size)∧∃kv lv vs,v=.agg #[.int .i64 k,.int .i64 n,.int .u64 u,.string s,kv,lv]∧kO w kv keys∧yT w lv vs∧k4 w l vs
def k4 (w:World):List Tr→List Value→Prop
 | [],vs=>vs=[]
 | t::r,vs=>∃v vr,vs=v::vr∧jL w t v∧k4 w r vr
end
section
variable {w w':World} {v:Value} {vs:List Value} {t:Tr} {l:List Tr}
theorem kO.grew {ks:List ByteArray} (h:kO w v ks) (hg:jC w w'):kO w' v ks:=by
 obtain⟨a,c,h1,h2,h3,h4,h5⟩:=h
 refine⟨a,c,h1,h2,h3,h4,fun i s hs=>?_⟩
 obtain⟨hz,b,off,e,hc⟩:=h5 i s hs
 exact⟨hz,b,off,e,hg.cell hc⟩
theorem kQ.grew {b off:Nat} (h:kQ w b off v) (hg:jC w w'):kQ w' b off v:=by
 obtain⟨c0,c1,c2,c3,c4,c5,e,h0,h1,h2,h3,h4,h5⟩:=h
 exact⟨c0,c1,c2,c3,c4,c5,e,hg.cell h0,hg.cell h1,hg.cell h2,hg.cell h3,hg.cell h4,hg.cell h5⟩
theorem yT.grew (h:yT w v vs) (hg:jC w w'):yT w' v vs:=by
 obtain⟨a,c,h1,h2,h3,h4,h5⟩:=h
 refine⟨a,c,h1,h2,h3,h4,fun i x hx=>?_⟩
 obtain⟨b,off,e,hc⟩:=h5 i x hx
 exact⟨b,off,e,hc.grew hg⟩
mutual
theorem jL.grew (hg:jC w w'):∀{t:Tr} {v:Value},jL w t v→jL w' t v
 | .mk k n u s keys l,v,⟨hb,kv,lv,vs,e,h1,h2,h3⟩=>⟨hb,kv,lv,vs,e,h1.grew hg,h2.grew hg,k4.grew hg h3⟩
theorem k4.grew (hg:jC w w'):∀{l:List Tr} {vs:List Value},k4 w l vs→k4 w' l vs
 | [],_,h=>h
 | t::r,_,⟨v,vr,e,h1,h2⟩=>⟨v,vr,e,jL.grew hg h1,k4.grew hg h2⟩
end
theorem k4.length (h:k4 w l vs):vs.length=l.length:=by
 induction l generalizing vs with
 | nil=>simp only[k4] at h;subst h;rfl
 | cons t r ih=>
  simp only[k4] at h
  obtain⟨v,vr,rfl,_,h2⟩:=h
  simp[ih h2]
theorem k4.get (h:k4 w l vs) {i:Nat} {x:Tr} (hx:l[i]? = some x):∃v,vs[i]? = some v∧jL w x v:=by
 induction l generalizing vs i with
 | nil=>simp at hx
 | cons t r ih=>
  simp only[k4] at h
  obtain⟨v,vr,rfl,h1,h2⟩:=h
  cases i with
  | zero=>simp at hx;subst hx;exact⟨v,rfl,h1⟩
  | succ i=>simpa using ih h2 (i:=i) (by simpa using hx)
end
/-! ### how an argument reads -/
theorem YJ (a:Addr) (b off i:Nat) (h:a=⟨b,off,none⟩):a.add i=⟨b,off+i,none⟩:=by
 subst h
 by_cases h0:i=0
 ·subst h0;simp[Addr.add]
 ·simp[Addr.add,h0]
section
variable {H:Type} {enc:TypeId × Value→H} {W:World}
end
end Go.Proofs.Ytfbeepkogcmlmaa
