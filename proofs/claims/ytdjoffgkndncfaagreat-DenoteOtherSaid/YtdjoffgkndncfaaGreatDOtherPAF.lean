/-Texts-/
import Derived.Test.YtdjoffgkndncfaaGreatDOtherPAC
import Derived.Deep.Slices
import Derived.Deep.Strs
import Derived.Deep.Fields
import Derived.ChangeSame
set_option linter.unusedVariables false
set_option linter.unusedSimpArgs false
set_option maxRecDepth 100000
namespace Go.Proofs.YtdjoffgkndncfaaGreat
open Go.Proofs.Tryz
open Go Go.ChangeShapes Go.WideShapes Go.ChangeAt Go.RowKit Go.Joins Go.Deep
inductive Tr where
 | mk (k n u:Int) (s:ByteArray) (keys:List ByteArray) (l:List Tr)
def Tr.kids:Tr→List Tr | .mk _ _ _ _ _ l=>l
def Tr.kind:Tr→Int | .mk k _ _ _ _ _=>k
def Tr.keys:Tr→List ByteArray | .mk _ _ _ _ ks _=>ks
mutual
def Tr.size:Tr→Nat | .mk _ _ _ _ _ l=>zY l+1
def zY:List Tr→Nat | []=>0 | t::r=>t.size+zY r
end
theorem Tr.size_pos (t:Tr):1≤t.size:=by cases t;simp[Tr.size]
theorem JC {x:Tr} {l:List Tr} (h:x∈l):x.size≤zY l:=by
 induction l with
 | nil=>cases h
 | cons t r ih=>
  simp only[zY];rcases qp.1 h with rfl|h
  ·omega
  have:=ih h;omega
theorem K7 (l:List Tr):l.length≤zY l:=by
 induction l with
 | nil=>simp[zY]
 | cons t r ih=>have:=t.size_pos;simp only[zY,zz];omega
def kY (x:Int):Prop:=-9223372036854775808≤x∧x≤9223372036854775807
def KG (x:Int):Prop:=0≤x∧x≤18446744073709551615
def kI (n:Nat):Prop:=n≤9223372036854775807
def zB (w:World) (v:Value) (l:List ByteArray):Prop:=
 ∃a c,v=.slice a l.length c∧l.length≤c∧kI c∧(a=none→c=0)∧∀i s,l[i]? = some s→kI s.size∧∃b off,a=some ⟨b,off,none⟩∧w.cell? ⟨b,off+i,none⟩=some (.string s)
def yO (w:World) (b off:Nat) (v:Value):Prop:=
 ∃c0 c1 c2 c3 c4 c5,v=.agg #[c0,c1,c2,c3,c4,c5]∧w.cell? ⟨b,off,none⟩=some c0∧w.cell? ⟨b,off+1,none⟩=some c1∧w.cell? ⟨b,off+2,none⟩=some c2∧w.cell? ⟨b,off+3,none⟩=some c3∧w.cell? ⟨b,off+4,none⟩=some c4∧w.cell? ⟨b,off+5,none⟩=some c5
def y9 (w:World) (v:Value) (vs:List Value):Prop:=
 ∃a c,v=.slice a vs.length c∧vs.length≤c∧kI c∧(a=none→c=0)∧∀i x,vs[i]? = some x→∃b off,a=some ⟨b,off,none⟩∧yO w b (off+i*6) x
mutual
def jM (w:World):Tr→Value→Prop
 | .mk k n u s keys l,v=>(kY k∧kY n∧KG u∧kI s.size)∧∃kv lv vs,v=.agg #[.int .i64 k,.int .i64 n,.int .u64 u,.string s,kv,lv]∧zB w kv keys∧y9 w lv vs∧kZ w l vs
def kZ (w:World):List Tr→List Value→Prop
 | [],vs=>vs=[]
 | t::r,vs=>∃v vr,vs=v::vr∧jM w t v∧kZ w r vr
end
section
variable {w w':World} {v:Value} {vs:List Value} {t:Tr} {l:List Tr}
theorem zB.grew {ks:List ByteArray} (h:zB w v ks) (hg:jC w w'):zB w' v ks:=by
 obtain⟨a,c,h1,h2,h3,h4,h5⟩:=h;refine⟨a,c,h1,h2,h3,h4,λi s hs=>?_⟩;obtain⟨hz,b,off,e,hc⟩:=h5 i s hs;exact⟨hz,b,off,e,hg.cell hc⟩
theorem yO.grew {b off:Nat} (h:yO w b off v) (hg:jC w w'):yO w' b off v:=by
 obtain⟨c0,c1,c2,c3,c4,c5,e,h0,h1,h2,h3,h4,h5⟩:=h;exact⟨c0,c1,c2,c3,c4,c5,e,hg.cell h0,hg.cell h1,hg.cell h2,hg.cell h3,hg.cell h4,hg.cell h5⟩
theorem y9.grew (h:y9 w v vs) (hg:jC w w'):y9 w' v vs:=by
 obtain⟨a,c,h1,h2,h3,h4,h5⟩:=h;refine⟨a,c,h1,h2,h3,h4,λi x hx=>?_⟩;obtain⟨b,off,e,hc⟩:=h5 i x hx;exact⟨b,off,e,hc.grew hg⟩
mutual
theorem jM.grew (hg:jC w w'):∀{t:Tr} {v:Value},jM w t v→jM w' t v
 | .mk k n u s keys l,v,⟨hb,kv,lv,vs,e,h1,h2,h3⟩=>⟨hb,kv,lv,vs,e,h1.grew hg,h2.grew hg,kZ.grew hg h3⟩
theorem kZ.grew (hg:jC w w'):∀{l:List Tr} {vs:List Value},kZ w l vs→kZ w' l vs
 | [],_,h=>h
 | t::r,_,⟨v,vr,e,h1,h2⟩=>⟨v,vr,e,jM.grew hg h1,kZ.grew hg h2⟩
end
theorem kZ.length (h:kZ w l vs):vs.length=l.length:=by
 induction l generalizing vs with
 | nil=>simp only[kZ] at h;subst h;rfl
 | cons t r ih=>
  simp only[kZ] at h;obtain⟨v,vr,rfl,_,h2⟩:=h;simp[ih h2]
theorem kZ.get (h:kZ w l vs) {i:Nat} {x:Tr} (hx:l[i]? = some x):∃v,vs[i]? = some v∧jM w x v:=by
 induction l generalizing vs i with
 | nil=>simp at hx
 | cons t r ih=>
  simp only[kZ] at h;obtain⟨v,vr,rfl,h1,h2⟩:=h
  cases i with
  | zero=>simp at hx;subst hx;exact⟨v,rfl,h1⟩
  | succ i=>simpa using ih h2 (i:=i) eV
theorem kZ.mk (hl:vs.length=l.length) (h:∀(i:Nat) (x:Tr) (v:Value),l[i]? = some x→vs[i]? = some v→jM w x v):kZ w l vs:=by
 induction l generalizing vs with
 | nil=>simp only[kZ];exact List.length_eq_zero_iff.1 hl
 | cons t r ih=>
  cases vs with
  | nil=>simp at hl
  | cons v vr=>
   simp only[kZ];exact⟨v,vr,rfl,h 0 t v rfl rfl,ih (by simpa using hl) (λi x v hx hv=>h (i+1) x v eV (by simpa using hv))⟩
theorem kZ.snoc {x:Tr} (h:kZ w l vs) (hx:jM w x v):kZ w (l++[x]) (vs++[v]):=by
 induction l generalizing vs with
 | nil=>simp only[kZ] at h;subst h;simp[kZ,hx]
 | cons t r ih=>
  simp only[kZ] at h;obtain⟨v',vr,rfl,h1,h2⟩:=h;simp only[qz,kZ];exact⟨v',vr++[v],rfl,h1,ih h2⟩
end
/-! ### how an argument reads -/
theorem lJ:Tryz.prog.cellsOf 26=6:=by kernel_rfl
theorem A9:Tryz.prog.cellsOf 3=1:=by kernel_rfl
theorem BA:Tryz.prog.cellsOf 2=1:=by kernel_rfl
theorem BB:Tryz.prog.cellsOf 22=1:=by kernel_rfl
theorem lK:Tryz.prog.cellsOf 9=1:=by kernel_rfl
theorem uJ:Tryz.prog.cellsOf 23=1:=by kernel_rfl
theorem r7:Tryz.prog.cellsOf 24=1:=by kernel_rfl
theorem VB (a:Addr) (b off i:Nat) (h:a=⟨b,off,none⟩):a.add i=⟨b,off+i,none⟩:=by
 subst h;by_cases h0:i=0
 ·subst h0;simp[Addr.add]
 simp[Addr.add,h0]
section
variable {H:Type} {enc:TypeId × Value→H} {W:World}
theorem r8 {fuel:Nat} {cs:List Value} {x:DataW H × List MemPlace} (h:DataW.trod enc prog W 0 (λ_=>true) true fuel 23 cs=some x):∃v l,cs=[v]∧zB W v l:=by
 rcases Go.Deep.open_strs underlying23 underlying9 lK h with ⟨rfl,_⟩|⟨a,len,cap,m,Sx,rfl,_,hl,hm,hmm,_,hi⟩
 ·exact⟨_,[],rfl,none,0,rfl,by simp,by unfold kI;omega,λ_=>rfl,by simp⟩
 have hmc:m=cap:=by simpa using hmm
 subst hmc;refine⟨_,(List.range len).map Sx,rfl,some a,m,by simp,by simpa using hl,by unfold maxLen at hm;exact hm,(λh=>by cases h),λi s hs=>?_⟩;have hil:i < len:=by have:=(zi.1 hs).1;simpa using this
 have hsx:Sx i=s:=by have:=(zi.1 hs).2;simpa using this
 obtain⟨hc,hz⟩:=hi i zo;rw[hsx] at hc hz;have h0:=(hi 0 zo).1;obtain⟨b,off,spot⟩:=a;obtain rfl:spot=none:=by simpa [Addr.add] using World.cell?_spot h0
 exact⟨hz,b,off,rfl,by rw[VB _ b off i rfl] at hc;exact hc⟩
theorem lL {q:Int} (h:(Lit.int .i64 q).wf=true):kY q:=bounds_i64 h
theorem u64_of {q:Int} (h:(Lit.int .u64 q).wf=true):KG q:=by
 simp[Lit.wf,IntKind.min,IntKind.max,IntKind.signed,IntKind.bits] at h;unfold KG;omega
theorem r9:∀(fuel:Nat) (cs:List Value) (x:DataW H × List MemPlace),DataW.trod enc prog W 0 (λ_=>true) true fuel 26 cs=some x →
 ∃c0 c1 c2 c3 c4 c5 t,cs=[c0,c1,c2,c3,c4,c5]∧jM W t (.agg #[c0,c1,c2,c3,c4,c5]):=by
 intro fuel
 induction fuel using Nat.strongRecOn with
 | _ fuel ih=>
  intro cs x h;obtain⟨xs,n1,e1,_,hcl,kE,hg⟩:=DataW.trod_struct underlying26 h;rw[lJ] at hcl
  match cs,hcl with
  | [c0,c1,c2,c3,c4,c5],_=>
   match xs,kE with
   | [y0,y1,y2,y3,y4,y5],_=>
    have g0:=hg 0 _ rfl;have g1:=hg 1 _ rfl;have g2:=hg 2 _ rfl;have g3:=hg 3 _ rfl;have g4:=hg 4 _ rfl;have g5:=hg 5 _ rfl;simp[A9,BA,BB,lK,uJ,r7] at g0 g1 g2 g3 g4 g5;obtain⟨x0,e0,_,w0⟩:=DataW.trod_int underlying3 g0;obtain⟨x1,e1',_,w1⟩:=DataW.trod_int underlying2 g1;obtain⟨x2,e2,_,w2⟩:=DataW.trod_int underlying22 g2;obtain⟨x3,e3,_,w3⟩:=DataW.trod_string underlying9 g3;obtain⟨kv,keys,e4,hks⟩:=r8 g4;simp at e0 e1' e2 e3 e4;subst e0 e1' e2 e3 e4
    have jK:∃lv vs l,c5=lv∧y9 W lv vs∧kZ W l vs:=by
     rcases DataW.trod_slice underlying24 g5 with ⟨hcs,_⟩|⟨a,len,cap,elems,rest,n2,e5,hcs,_,_,hl,hm,hel,hi,hr,_⟩
     ·simp at hcs;exact⟨_,[],[],hcs,⟨none,0,rfl,by simp,by unfold kI;omega,λ_=>rfl,by simp⟩,by simp[kZ]⟩
     simp at hcs;rw[lJ] at hi
     have hex:∀i,i < len→∃p:Tr × Value,jM W p.1 p.2∧∃b off,a=⟨b,off,none⟩∧yO W b (off+i*6) p.2:=by
      intro i hil;have hi':=hi i hil;rw[za zo] at hi';obtain⟨cs',hc,ht⟩:=Option.bind_eq_some_iff.1 hi';obtain⟨d0,d1,d2,d3,d4,d5,t,rfl,hn⟩:=ih n2 zo _ _ ht;obtain⟨_,_,hat⟩:=World.cells?_some hc
      have hspot:a.spot=none:=by
       have h0:=hi 0 zo;rw[za zo] at h0;obtain⟨cs0,hc0,ht0⟩:=Option.bind_eq_some_iff.1 h0;obtain⟨_,_,hat0⟩:=World.cells?_some hc0;have q:=hat0 0 zo;have hz:(a.add (0*6)).add 0=a:=(by simp[Addr.add]);rw[hz] at q
       cases hq:cs0[0]? with
       | none=>rw[hq] at q;exact absurd (by simpa using ql Option.isSome q) (by
        have:=(World.cells?_some hc0).2.1
        rw[List.getElem?_eq_none_iff] at hq;omega)
       | some u=>rw[hq] at q;exact World.cell?_spot q
      obtain⟨b,off,spot⟩:=a;subst hspot;have q0:=hat 0 zo;have q1:=hat 1 zo;have q2:=hat 2 zo;have q3:=hat 3 zo;have q4:=hat 4 zo;have q5:=hat 5 zo;rw[VB _ b off (i*6) rfl,VB _ b (off+i*6) _ rfl] at q0 q1 q2 q3 q4 q5;exact⟨(t,_),hn,b,off,rfl,d0,d1,d2,d3,d4,d5,rfl,by simpa using q0,by simpa using q1,by simpa using q2,by simpa using q3,by simpa using q4,by simpa using q5⟩
     have:Inhabited (Tr × Value):=⟨(.mk 0 0 0 ByteArray.empty [] [],.bool true)⟩;obtain⟨f,hf⟩:=choose_lt hex;refine⟨_,(List.range len).map λi=>(f i).2,(List.range len).map λi=>(f i).1,hcs,⟨some a,cap,by simp,by simpa using hl,by unfold maxLen at hm;exact hm,(λh=>by cases h),λi x hx=>?_⟩,?_⟩
     ·have hil:i < len:=(by have:=(zi.1 hx).1;simpa using this);have hxe:(f i).2=x:=(by have:=(zi.1 hx).2;simpa using this);obtain⟨_,b,off,e,hc⟩:=hf i hil;rw[hxe] at hc;exact⟨b,off,by rw[e],hc⟩
     refine kZ.mk zp2 λi x v hx hv=>?_;have hil:i < len:=(by have:=(zi.1 hx).1;simpa using this);have hxe:(f i).1=x:=(by have:=(zi.1 hx).2;simpa using this);have hve:(f i).2=v:=(by have:=(zi.1 hv).2;simpa using this);have:=(hf i hil).1
     rwa [hxe,hve] at this
    obtain⟨lv,vs,l,e5,hr,hk⟩:=jK;subst e5;exact⟨_,_,_,_,_,_,.mk x0 x1 x2 x3 keys l,rfl,⟨lL w0,lL w1,u64_of w2,by unfold maxLen at w3;exact w3⟩,_,_,vs,rfl,hks,hr,hk⟩
theorem EF {base:Nat} {v:Value} {d:DataW H} {p:List MemPlace} (o:Value.okWide prog W .any base 26 v) (k:DataW.Trod enc prog W 0 (λ_=>true) true 26 v d p):∃t,jM W t v:=by
 simp only[Value.okWide,underlying26] at o;obtain⟨cs,rfl,hsz,_⟩:=o;obtain⟨fuel,hf⟩:=k;obtain⟨c0,c1,c2,c3,c4,c5,t,e,hn⟩:=r9 fuel _ _ hf;simp[Value.cells] at e;obtain⟨l⟩:=cs;simp at e;subst e;exact⟨t,hn⟩
end
end Go.Proofs.YtdjoffgkndncfaaGreat
