/-
  Texts of the proof.
-/
import Derived.Test.YtdjoffgkndncfaaGreatDTurnedPAC
import Derived.Deep.Slices
import Derived.Deep.Strs
import Derived.Deep.Fields
import Derived.ChangeSame
set_option linter.unusedVariables false
set_option linter.unusedSimpArgs false
namespace Go.Proofs.YtdjoffgkndncfaaGreat
open Go Go.ChangeShapes Go.WideShapes Go.ChangeAt Go.RowKit Go.Joins Go.Deep
inductive Tr where
 | mk (k n u:Int) (s:ByteArray) (keys:List ByteArray) (l:List Tr)
def Tr.kids:Tr→List Tr | .mk _ _ _ _ _ l=>l
def Tr.kind:Tr→Int | .mk k _ _ _ _ _=>k
def Tr.keys:Tr→List ByteArray | .mk _ _ _ _ ks _=>ks
mutual
def Tr.size:Tr→Nat | .mk _ _ _ _ _ l=>yN l+1
def yN:List Tr→Nat | []=>0 | t::r=>t.size+yN r
end
theorem Tr.size_pos (t:Tr):1≤t.size:=by cases t;simp[Tr.size]
theorem YE {x:Tr} {l:List Tr} (h:x∈l):x.size≤yN l:=by
 induction l with
 | nil=>cases h
 | cons t r ih=>
  simp only[yN];rcases List.mem_cons.1 h with rfl|h
  ·omega
  ·have:=ih h;omega
theorem YS (l:List Tr):l.length≤yN l:=by
 induction l with
 | nil=>simp[yN]
 | cons t r ih=>have:=t.size_pos;simp only[yN,List.length_cons];omega
def kU (x:Int):Prop:=-9223372036854775808≤x∧x≤9223372036854775807
def qX (x:Int):Prop:=0≤x∧x≤18446744073709551615
def kV (n:Nat):Prop:=n≤9223372036854775807
def zH (w:World) (v:Value) (l:List ByteArray):Prop:=
 ∃a c,v=.slice a l.length c∧l.length≤c∧kV c∧(a=none→c=0)∧∀i s,l[i]? = some s→kV s.size∧∃b off,a=some ⟨b,off,none⟩∧w.cell? ⟨b,off+i,none⟩=some (.string s)
def yT (w:World) (b off:Nat) (v:Value):Prop:=
 ∃c0 c1 c2 c3 c4 c5,v=.agg #[c0,c1,c2,c3,c4,c5]∧w.cell? ⟨b,off,none⟩=some c0∧w.cell? ⟨b,off+1,none⟩=some c1∧w.cell? ⟨b,off+2,none⟩=some c2∧w.cell? ⟨b,off+3,none⟩=some c3∧w.cell? ⟨b,off+4,none⟩=some c4∧w.cell? ⟨b,off+5,none⟩=some c5
def vF (w:World) (v:Value) (vs:List Value):Prop:=
 ∃a c,v=.slice a vs.length c∧vs.length≤c∧kV c∧(a=none→c=0)∧∀i x,vs[i]? = some x→∃b off,a=some ⟨b,off,none⟩∧yT w b (off+i*6) x
mutual
def jO (w:World):Tr→Value→Prop
 | .mk k n u s keys l,v=>(kU k∧kU n∧qX u∧kV s.size)∧∃kv lv vs,v=.agg #[.int .i64 k,.int .i64 n,.int .u64 u,.string s,kv,lv]∧zH w kv keys∧vF w lv vs∧y9 w l vs
def y9 (w:World):List Tr→List Value→Prop
 | [],vs=>vs=[]
 | t::r,vs=>∃v vr,vs=v::vr∧jO w t v∧y9 w r vr
end
section
variable {w w':World} {v:Value} {vs:List Value} {t:Tr} {l:List Tr}
theorem zH.grew {ks:List ByteArray} (h:zH w v ks) (hg:jD w w'):zH w' v ks:=by
 obtain⟨a,c,h1,h2,h3,h4,h5⟩:=h;refine⟨a,c,h1,h2,h3,h4,fun i s hs=>?_⟩;obtain⟨hz,b,off,e,hc⟩:=h5 i s hs;exact⟨hz,b,off,e,hg.cell hc⟩
theorem yT.grew {b off:Nat} (h:yT w b off v) (hg:jD w w'):yT w' b off v:=by
 obtain⟨c0,c1,c2,c3,c4,c5,e,h0,h1,h2,h3,h4,h5⟩:=h;exact⟨c0,c1,c2,c3,c4,c5,e,hg.cell h0,hg.cell h1,hg.cell h2,hg.cell h3,hg.cell h4,hg.cell h5⟩
theorem vF.grew (h:vF w v vs) (hg:jD w w'):vF w' v vs:=by
 obtain⟨a,c,h1,h2,h3,h4,h5⟩:=h;refine⟨a,c,h1,h2,h3,h4,fun i x hx=>?_⟩;obtain⟨b,off,e,hc⟩:=h5 i x hx;exact⟨b,off,e,hc.grew hg⟩
mutual
theorem jO.grew (hg:jD w w'):∀{t:Tr} {v:Value},jO w t v→jO w' t v
 | .mk k n u s keys l,v,⟨hb,kv,lv,vs,e,h1,h2,h3⟩=>⟨hb,kv,lv,vs,e,h1.grew hg,h2.grew hg,y9.grew hg h3⟩
theorem y9.grew (hg:jD w w'):∀{l:List Tr} {vs:List Value},y9 w l vs→y9 w' l vs
 | [],_,h=>h
 | t::r,_,⟨v,vr,e,h1,h2⟩=>⟨v,vr,e,jO.grew hg h1,y9.grew hg h2⟩
end
theorem y9.length (h:y9 w l vs):vs.length=l.length:=by
 induction l generalizing vs with
 | nil=>simp only[y9] at h;subst h;rfl
 | cons t r ih=>
  simp only[y9] at h;obtain⟨v,vr,rfl,_,h2⟩:=h;simp[ih h2]
theorem y9.get (h:y9 w l vs) {i:Nat} {x:Tr} (hx:l[i]? = some x):∃v,vs[i]? = some v∧jO w x v:=by
 induction l generalizing vs i with
 | nil=>simp at hx
 | cons t r ih=>
  simp only[y9] at h;obtain⟨v,vr,rfl,h1,h2⟩:=h
  cases i with
  | zero=>simp at hx;subst hx;exact⟨v,rfl,h1⟩
  | succ i=>simpa using ih h2 (i:=i) gT
end
/-! ### how an argument reads -/
theorem dZ (a:Addr) (b off i:Nat) (h:a=⟨b,off,none⟩):a.add i=⟨b,off+i,none⟩:=by
 subst h;by_cases h0:i=0
 ·subst h0;simp[Addr.add]
 ·simp[Addr.add,h0]
section
variable {H:Type} {enc:TypeId × Value→H} {W:World}
theorem i64_of {q:Int} (h:(Lit.int .i64 q).wf=true):kU q:=bounds_i64 h
theorem u64_of {q:Int} (h:(Lit.int .u64 q).wf=true):qX q:=by
 simp[Lit.wf,IntKind.min,IntKind.max,IntKind.signed,IntKind.bits] at h;unfold qX;omega
end
end Go.Proofs.YtdjoffgkndncfaaGreat
