/-
  Texts of the proof.
-/
import Derived.Test.YtfbeepkogcmlmaaNormalKnownPAJ
import Derived.Test.YtfbeepkogcmlmaaNormalKnownPAL
set_option linter.unusedVariables false
set_option linter.unusedSimpArgs false
namespace Go.Proofs.Ytfbeepkogcmlmaa
open Go Go.ChangeShapes Go.WideShapes Go.ChangeAt Go.RowKit Go.Joins Go.Deep
/-! ### sorting by key -/
def KT {α:Type} (x:ByteArray × α):List (ByteArray × α)→List (ByteArray × α)
 | []=>[x]
 | y::r=>if ltS x.1 y.1=true then x::y::r else y::KT x r
def yC {α:Type} (l:List (ByteArray × α)):List (ByteArray × α):=l.foldr KT []
section
variable {α β:Type}
theorem J7 (x:ByteArray × α):∀l:List (ByteArray × α),(KT x l).Perm (x::l)
 | []=>.refl _
 | y::r=>by
  unfold KT
  split
  ·exact .refl _
  ·exact ((J7 x r).cons y).trans (.swap x y r)
theorem yF:∀l:List (ByteArray × α),(yC l).Perm l
 | []=>.refl _
 | x::r=>(J7 x (yC r)).trans ((yF r).cons x)
theorem KK (x:ByteArray × α):∀l:List (ByteArray × α),l.Pairwise (fun a b=>ltS a.1 b.1=true)→(∀y∈l,y.1≠x.1)→(KT x l).Pairwise (fun a b=>ltS a.1 b.1=true)
 | [],_,_=>by simp[KT]
 | y::r,h,hne=>by
  obtain⟨h1,h2⟩:=List.pairwise_cons.1 h
  unfold KT
  split
  ·rename_i hlt
   refine List.pairwise_cons.2 ⟨fun z hz=>?_,h⟩
   rcases List.mem_cons.1 hz with rfl|hz
   ·exact hlt
   ·exact yX hlt (h1 z hz)
  ·rename_i hnl
   have hyx:ltS y.1 x.1=true:=by
    cases hq:ltS y.1 x.1
    ·exact absurd (vJ hq (by simpa using hnl)) (hne y (by simp))
    ·rfl
   refine List.pairwise_cons.2 ⟨fun z hz=>?_,KK x r h2 (fun z hz=>hne z (by simp[hz]))⟩
   rcases List.mem_cons.1 ((J7 x r).mem_iff.1 hz) with rfl|hz
   ·exact hyx
   ·exact h1 z hz
theorem qV:∀l:List (ByteArray × α),(l.map Prod.fst).Nodup→(yC l).Pairwise (fun a b=>ltS a.1 b.1=true)
 | [],_=>List.Pairwise.nil
 | x::r,h=>by
  obtain⟨h1,h2⟩:=List.nodup_cons.1 (by simpa using h:(x.1::r.map Prod.fst).Nodup)
  exact KK x (yC r) (qV r h2) (fun y hy e=>h1 (List.mem_map.2 ⟨y,(yF r).mem_iff.1 hy,e⟩))
theorem qW:∀(l m:List (ByteArray × α)),l.Perm m→l.Pairwise (fun a b=>ltS a.1 b.1=true)→m.Pairwise (fun a b=>ltS a.1 b.1=true)→l=m
 | [],m,hp,_,_=>by simpa using hp
 | x::r,[],hp,_,_=>by simp at hp
 | x::r,y::q,hp,h1,h2=>by
  obtain⟨a1,a2⟩:=List.pairwise_cons.1 h1
  obtain⟨b1,b2⟩:=List.pairwise_cons.1 h2
  have hxy:x=y:=by
   rcases List.mem_cons.1 (hp.mem_iff.1 (by simp:x∈x::r)) with h|h
   ·exact h
   ·rcases List.mem_cons.1 (hp.mem_iff.2 (by simp:y∈y::q)) with h'|h'
    ·exact h'.symm
    ·have e1:=b1 x h
     have e2:=a1 y h'
     have:=yX e1 e2
     rw[qE] at this;cases this
  subst hxy
  rw[qW r q (List.Perm.cons_inv hp) a2 b2]
theorem QE (f:α→β) (x:ByteArray × α):∀l:List (ByteArray × α),(KT x l).map (fun p=>(p.1,f p.2))=KT (x.1,f x.2) (l.map fun p=>(p.1,f p.2))
 | []=>rfl
 | y::r=>by
  simp only[KT,List.map_cons]
  split
  ·rfl
  ·simp[QE f x r]
theorem vL (f:α→β):∀l:List (ByteArray × α),(yC l).map (fun p=>(p.1,f p.2))=yC (l.map fun p=>(p.1,f p.2))
 | []=>rfl
 | x::r=>by
  show (KT x (yC r)).map _=KT _ (yC (r.map _))
  rw[QE,vL f r]
end
mutual
def kB:Tr→Tr | .mk k n u s keys l=>if k=17 then .mk k n u s ((yC (keys.zip (zV l))).map Prod.fst) ((yC (keys.zip (zV l))).map Prod.snd) else .mk k n u s keys (zV l)
def zV:List Tr→List Tr | []=>[] | t::r=>kB t::zV r
end
theorem k7:∀l:List Tr,zV l=l.map kB
 | []=>rfl
 | t::r=>by simp[zV,k7 r]
theorem Q9 {α:Type} {keys:List ByteArray} {l:List α} (hl:keys.length=l.length) {p:List (Fin keys.length)} (hp:p.Perm (List.finRange keys.length)) (hs:∀(i j:Nat) x y,i < j→p[i]? = some x→p[j]? = some y→ltS keys[x] keys[y]=true) (z:ByteArray × α) :
 p.map (fun x=>(keys.zip l).getD x.1 z)=yC (keys.zip l):=by
 have hz:(keys.zip l).length=keys.length:=by simp[hl]
 have hfst:∀x:Fin keys.length,((keys.zip l).getD x.1 z).1=keys[x]:=fun x=>by
  rw[List.getD_eq_getElem?_getD,List.getElem?_eq_getElem (by rw[hz];exact x.2)]
  simp
 have qH:(List.finRange keys.length).map (fun x=>(keys.zip l).getD x.1 z)=keys.zip l:=by
  apply List.ext_getElem (by simp[hl])
  intro i h1 h2
  rw[List.getElem_map,List.getElem_finRange]
  simp only[Fin.cast_mk] at *
  rw[List.getD_eq_getElem?_getD,List.getElem?_eq_getElem (by simpa using h2)]
  rfl
 have hnd:keys.Nodup:=JJ hp hs
 refine qW _ _ (((hp.map _).trans (by rw[qH])).trans (yF _).symm) ?_ (qV _ (by rw[List.map_fst_zip (by omega)];exact hnd))
 rw[List.pairwise_iff_getElem]
 intro i j h1 h2 hij
 rw[List.getElem_map,List.getElem_map,hfst,hfst]
 exact hs i j _ _ hij (List.getElem?_eq_getElem (by simpa using h1)) (List.getElem?_eq_getElem (by simpa using h2))
/-! ### trees that can be sorted -/
mutual
def okT:Tr→Prop | .mk k n u s keys l=>(k=17→keys.Nodup∧keys.length=l.length)∧keys.length≤4096∧l.length≤4096∧okL l
def okL:List Tr→Prop | []=>True | t::r=>okT t∧okL r
end
theorem VO {l:List Tr} (h:okL l) {x:Tr} (hx:x∈l):okT x:=by
 induction l with
 | nil=>cases hx
 | cons t r ih=>
  simp only[okL] at h
  rcases List.mem_cons.1 hx with rfl|hx
  ·exact h.1
  ·exact ih h.2 hx
mutual
theorem VP:∀{t:Tr},okT t→Few t
 | .mk k n u s keys l,h=>by
  simp only[okT] at h
  simp only[Few]
  exact⟨h.2.1,h.2.2.1,VQ h.2.2.2⟩
theorem VQ:∀{l:List Tr},okL l→ZU l
 | [],_=>trivial
 | t::r,h=>by
  simp only[okL] at h
  simp only[ZU]
  exact⟨VP h.1,VQ h.2⟩
end
theorem vF:∀(L:List (Nat × Tr)) (c:Nat),yZ c L=0→(L≠[]→L.length+c≤4096)∧∀p∈L,p.1 < 64∧jJ p.2=true∧kU p.2=0
 | [],c,_=>⟨fun h=>absurd rfl h,by simp⟩
 | (b,x)::r,c,h=>by
  simp only[yZ] at h
  by_cases h1:4096 < c+1
  ·rw[if_pos h1] at h;cases h
  rw[if_neg h1] at h
  by_cases h2:64≤b
  ·rw[if_pos h2] at h;cases h
  rw[if_neg h2] at h
  by_cases h3:jJ x=false
  ·rw[if_pos h3] at h;cases h
  rw[if_neg h3] at h
  by_cases h4:kU x≠0
  ·rw[if_pos h4] at h;exact absurd h h4
  rw[if_neg h4] at h
  obtain⟨i1,i2⟩:=vF r (c+1) h
  refine⟨fun _=>?_,fun p hp=>?_⟩
  ·by_cases hr:r=[]
   ·subst hr;simp;omega
   ·have:=i1 hr;simp only[List.length_cons];omega
  ·rcases List.mem_cons.1 hp with rfl|hp
   ·exact⟨by show b < 64;omega,by simpa using h3,by simpa using h4⟩
   ·exact i2 p hp
theorem JA:∀(l had:List ByteArray),kH had l=0→l.Nodup∧(∀k∈l,zF k=false∧k∉had)
 | [],_,_=>⟨List.nodup_nil,by simp⟩
 | k::r,had,h=>by
  simp only[kH] at h
  by_cases h1:zF k=true
  ·rw[if_pos h1] at h;cases h
  rw[if_neg h1] at h
  by_cases h2:zZ k had=true
  ·rw[if_pos h2] at h;cases h
  rw[if_neg h2] at h
  obtain⟨i1,i2⟩:=JA r (had++[k]) h
  refine⟨List.nodup_cons.2 ⟨fun hk=>(i2 k hk).2 (by simp),i1⟩,fun x hx=>?_⟩
  rcases List.mem_cons.1 hx with rfl|hx
  ·exact⟨by simpa using h1,fun hm=>h2 ((vI _ _).2 hm)⟩
  ·exact⟨(i2 x hx).1,fun hm=>(i2 x hx).2 (by simp[hm])⟩
theorem bA {k n u:Int} {s:ByteArray} {keys:List ByteArray} {l:List Tr} (h1:jJ (.mk k n u s keys l)=true) (h2:kU (.mk k n u s keys l)=0):(k=17→keys.Nodup∧keys.length=l.length)∧(k≠17→keys=[]):=by
 constructor
 ·rintro rfl
  simp only[kU] at h2
  rw[if_neg (by simp)] at h2
  refine⟨(JA _ _ h2).1,?_⟩
  simp only[jJ,Bool.and_eq_true,Bool.or_eq_true,decide_eq_true_eq] at h1
  have h3:=h1.1.1.2
  simpa using h3
 ·intro hk
  simp only[jJ,Bool.and_eq_true,Bool.or_eq_true,decide_eq_true_eq] at h1
  have hu:jK k≠8:=by
   have h17:=h1.1.1.1.1.1.1.1.1
   unfold jK
   repeat' split
   all_goals omega
  rcases h1.1.1.1.1.2 with h|h
  ·exact absurd h hu
  ·exact List.length_eq_zero_iff.1 h
mutual
theorem bE:∀(t:Tr) (b:Nat),t.size≤4096→(∀p∈qP b t,jJ p.2=true∧kU p.2=0)→okT t
 | .mk k n u s keys l,b,hz,h=>by
  simp only[qP,List.mem_cons] at h
  have h0:=h _ (.inl rfl)
  have hk:=bA h0.1 h0.2
  simp only[Tr.size] at hz
  have hl:=yM l
  simp only[okT]
  refine⟨hk.1,?_,by omega,bF l (b+1) (by omega) (fun p hp=>h p (.inr hp))⟩
  by_cases e:k=17
  ·have:=(hk.1 e).2;omega
  ·rw[hk.2 e];simp
theorem bF:∀(l:List Tr) (b:Nat),kI l≤4096→(∀p∈y6 b l,jJ p.2=true∧kU p.2=0)→okL l
 | [],_,_,_=>trivial
 | t::r,b,hz,h=>by
  simp only[kI] at hz
  simp only[y6,List.mem_append] at h
  simp only[okL]
  exact⟨bE t b (by omega) (fun p hp=>h p (.inl hp)),bF r b (by omega) (fun p hp=>h p (.inr hp))⟩
end
theorem Z8 {t:Tr} (h:kL t=0):okT t∧t.size≤4096:=by
 obtain⟨h1,h2⟩:=vF _ 0 h
 have hz:t.size≤4096:=by
  have:=h1 (by cases t;simp[qP])
  rw[vD] at this
  omega
 exact⟨bE t 0 hz (fun p hp=>(h2 p hp).2),hz⟩
/-! ### rows under a store -/
theorem Z9:∀(vs:List Value) (i:Nat),(∀x∈vs,qX x)→i < vs.length→∀c0 c1 c2 c3 c4 c5:Value,
 ((((((vs.flatMap zK).set (i*6) c0).set (i*6+1) c1).set (i*6+2) c2).set (i*6+3) c3).set (i*6+4) c4).set (i*6+5) c5=(vs.set i (.agg #[c0,c1,c2,c3,c4,c5])).flatMap zK
 | [],_,_,h=>by simp at h
 | y::r,i,h6,h=>by
  intro c0 c1 c2 c3 c4 c5
  obtain⟨k,n,u,s,a4,n4,q4,a5,n5,q5,rfl⟩:=h6 y (by simp)
  cases i with
  | zero=>simp[zK]
  | succ i=>
   have ih:=Z9 r i (fun x hx=>h6 x (by simp[hx])) (by simpa using h) c0 c1 c2 c3 c4 c5
   simp only[List.flatMap_cons,zq3]
   rw[← ih]
   have e:∀(q:Nat),(i+1)*6+q=i*6+q+6:=fun q=>by omega
   rw[show (i+1)*6=i*6+6 by omega]
   simp[zK,Nat.add_assoc,show ∀q:Nat,i*6+(6+q)=i*6+q+6 from fun q=>by omega]
theorem kK.stored {w:World} {B g cap n i:Nat} {vs:List Value} (h:kK w B (.slice (some ⟨g,0,none⟩) n cap) vs) (hi:i < vs.length) {x:Value} (hx:qX x) {c0 c1 c2 c3 c4 c5:Value} (e:x=.agg #[c0,c1,c2,c3,c4,c5]) :
 kK ((((((w.setCell ⟨g,i*6,none⟩ c0).setCell ⟨g,i*6+1,none⟩ c1).setCell ⟨g,i*6+2,none⟩ c2).setCell ⟨g,i*6+3,none⟩ c3).setCell ⟨g,i*6+4,none⟩ c4).setCell ⟨g,i*6+5,none⟩ c5) B (.slice (some ⟨g,0,none⟩) n cap) (vs.set i x):=by
 obtain⟨hr,h6⟩:=h
 have hn:n=vs.length:=by
  obtain⟨a,c,e,_⟩:=jT hr
  injection e
 subst hn
 have q:=(((((hr.stored (i*6) c0).1.stored (i*6+1) c1).1.stored (i*6+2) c2).1.stored (i*6+3) c3).1.stored (i*6+4) c4).1.stored (i*6+5) c5
 rw[Z9 vs i h6 hi,← e] at q
 refine⟨by rw[List.length_set];exact q.1,fun y hy=>?_⟩
 rcases List.mem_or_eq_of_mem_set hy with hy|rfl
 ·exact h6 y hy
 ·exact hx
theorem kD.stored {w:World} {B g cap n:Nat} {ss:List ByteArray} (h:kD w B (.slice (some ⟨g,0,none⟩) n cap) ss) (i:Nat) (x:ByteArray) :
 kD (w.setCell ⟨g,i,none⟩ (.string x)) B (.slice (some ⟨g,0,none⟩) n cap) (ss.set i x):=by
 have hn:n=ss.length:=by
  obtain⟨a,c,e,_⟩:=jT h
  injection e
 subst hn
 have q:=(World.ownsRow.stored h i (.string x)).1
 unfold kD
 rw[List.length_set,List.map_set]
 exact q
theorem KL {w:World} {B:Nat} {e:TypeId} {size n g c:Nat} {xs:List Value} (h:w.ownsRow B e size (.slice (some ⟨g,0,none⟩) n c) n xs) (j:Nat):w.frozen? ⟨g,j,none⟩=false:=by
 rcases h.2 with ⟨q,_⟩|⟨g',cap,cur,q,_,hg,_⟩
 ·cases q
 ·cases q;exact frozen_of_row w g j cur e hg
/-! ### children in another order -/
section
variable {w:World} {B:Nat}
theorem j4.idx:∀{l:List Tr} {vs:List Value} {S:Nat→Prop},j4 w B l vs S→∃f:Nat→Nat→Prop,(∀i g,f i g→S g)∧(∀i j g,i≠j→f i g→¬f j g)∧∀i x v,l[i]? = some x→vs[i]? = some v→jW w B x v (f i)
 | [],_,_,_=>⟨fun _ _=>False,fun _ _ h=>h.elim,fun _ _ _ _ h=>h.elim,by simp⟩
 | t::r,_,S,h=>by
  simp only[j4] at h
  obtain⟨v,vr,S1,S2,rfl,h1,h2,h3,h4,h5⟩:=h
  obtain⟨f,f1,f2,f3⟩:=j4.idx h5
  refine⟨fun i=>match i with | 0=>S1 | i+1=>f i,?_,?_,?_⟩
  ·intro i g hg
   cases i with
   | zero=>exact h1 g hg
   | succ i=>exact h2 g (f1 i g hg)
  ·intro i j g hij hi hj
   cases i with
   | zero=>
    cases j with
    | zero=>exact hij rfl
    | succ j=>exact h3 g hi (f1 j g hj)
   | succ i=>
    cases j with
    | zero=>exact h3 g hj (f1 i g hi)
    | succ j=>exact f2 i j g (by omega) hi hj
  ·intro i x u hx hu
   cases i with
   | zero=>simp at hx hu;subst hx hu;exact h4
   | succ i=>exact f3 i x u (by simpa using hx) (by simpa using hu)
theorem j4.of_idx:∀{l:List Tr} {vs:List Value} {S:Nat→Prop} (f:Nat→Nat→Prop),vs.length=l.length→(∀i g,f i g→S g)→(∀i j g,i≠j→f i g→¬f j g)→(∀i x v,l[i]? = some x→vs[i]? = some v→jW w B x v (f i))→j4 w B l vs S
 | [],vs,_,_,hl,_,_,_=>List.length_eq_zero_iff.1 hl
 | t::r,[],_,_,hl,_,_,_=>by simp at hl
 | t::r,v::vr,S,f,hl,h1,h2,h3=>by
  simp only[j4]
  refine⟨v,vr,f 0,fun g=>∃i,f (i+1) g,rfl,h1 0,fun g ⟨i,hi⟩=>h1 _ g hi,fun g hg ⟨i,hi⟩=>h2 0 (i+1) g (by omega) hg hi,h3 0 t v rfl rfl,?_⟩
  exact j4.of_idx (fun i=>f (i+1)) (by simpa using hl) (fun i g hg=>⟨i,hg⟩) (fun i j g hij hi hj=>h2 (i+1) (j+1) g (by omega) hi hj) (fun i x u hx hu=>h3 (i+1) x u (by simpa using hx) (by simpa using hu))
theorem j4.perm {l:List Tr} {vs:List Value} {S:Nat→Prop} (h:j4 w B l vs S) {n:Nat} (hn:l.length=n) {p:List (Fin n)} (hp:p.Perm (List.finRange n)) (zt:Tr) (zv:Value) :
 j4 w B (p.map fun x=>l.getD x.1 zt) (p.map fun x=>vs.getD x.1 zv) S:=by
 have hl:=h.length
 obtain⟨f,f1,f2,f3⟩:=h.idx
 have hnd:p.Nodup:=hp.nodup_iff.2 (List.nodup_finRange n)
 refine j4.of_idx (fun i g=>∃q,p[i]? = some q∧f q.1 g) (by simp) (fun i g ⟨q,_,hq⟩=>f1 _ g hq) ?_ ?_
 ·rintro i j g hij ⟨q,hq,hf⟩ ⟨q',hq',hf'⟩
  refine f2 q.1 q'.1 g (fun e=>hij ?_) hf hf'
  obtain⟨hi,hi'⟩:=List.getElem?_eq_some_iff.1 hq
  obtain⟨hj,hj'⟩:=List.getElem?_eq_some_iff.1 hq'
  have hpw:=List.pairwise_iff_getElem.1 hnd
  rcases Nat.lt_trichotomy i j with h|h|h
  ·exact absurd (by rw[hi',hj'];exact Fin.ext e) (hpw i j hi hj h)
  ·exact h
  ·exact absurd (by rw[hi',hj'];exact Fin.ext e.symm) (hpw j i hj hi h)
 ·intro i x v hx hv
  rw[List.getElem?_map] at hx hv
  cases hq:p[i]? with
  | none=>rw[hq] at hx;cases hx
  | some q=>
   rw[hq] at hx hv
   simp only[Option.map_some,Option.some.injEq] at hx hv
   have hlt:q.1 < l.length:=by omega
   have:=f3 q.1 x v (by rw[← hx,List.getD_eq_getElem?_getD,List.getElem?_eq_getElem hlt];rfl) (by rw[← hv,List.getD_eq_getElem?_getD,List.getElem?_eq_getElem (by omega)];rfl)
   exact this.mono (fun g hg=>⟨q,rfl,hg⟩)
end
end Go.Proofs.Ytfbeepkogcmlmaa
