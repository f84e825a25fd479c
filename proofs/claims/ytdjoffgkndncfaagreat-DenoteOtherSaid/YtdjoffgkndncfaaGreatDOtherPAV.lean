/-Texts-/
import Derived.Test.YtdjoffgkndncfaaGreatDOtherPAN
import Derived.Test.YtdjoffgkndncfaaGreatDOtherPAU
set_option linter.unusedVariables false
set_option linter.unusedSimpArgs false
namespace Go.Proofs.YtdjoffgkndncfaaGreat
open Go Go.ChangeShapes Go.WideShapes Go.ChangeAt Go.RowKit Go.Joins Go.Deep
variable {keys:List ByteArray} {l:List Tr} {n B g cap:Nat} {w:World}
/-! ### sorting by key -/
def iS {α:Type} (x:ByteArray × α):List (ByteArray × α)→List (ByteArray × α)
 | []=>[x]
 | y::r=>if ltS x.1 y.1=true then x::y::r else y::iS x r
def vW {α:Type} (l:List (ByteArray × α)):List (ByteArray × α):=l.foldr iS []
section
variable {α β:Type}
theorem fL (x:ByteArray × α):∀l:List (ByteArray × α),(iS x l).Perm (x::l)
 | []=>.refl _
 | y::r=>by
  unfold iS;split
  ·exact .refl _
  exact ((fL x r).cons y).trans (.swap x y r)
theorem qT:∀l:List (ByteArray × α),(vW l).Perm l
 | []=>.refl _
 | x::r=>(fL x (vW r)).trans ((qT r).cons x)
theorem gT (x:ByteArray × α):∀l:List (ByteArray × α),l.Pairwise (λa b=>ltS a.1 b.1=true)→(∀y∈l,y.1≠x.1)→(iS x l).Pairwise (λa b=>ltS a.1 b.1=true)
 | [],_,_=>by simp[iS]
 | y::r,h,hne=>by
  obtain⟨h1,h2⟩:=List.pairwise_cons.1 h;unfold iS;split
  ·rename_i hlt;refine List.pairwise_cons.2 ⟨λz hz=>?_,h⟩;rcases qp.1 hz with rfl|hz
   ·exact hlt
   exact QW hlt (h1 z hz)
  rename_i hnl
  have hyx:ltS y.1 x.1=true:=by
   cases hq:ltS y.1 x.1
   ·exact absurd (fG hq (by simpa using hnl)) (hne y zp2)
   rfl
  refine List.pairwise_cons.2 ⟨λz hz=>?_,gT x r h2 (λz hz=>hne z (by simp[hz]))⟩;rcases qp.1 ((fL x r).mem_iff.1 hz) with rfl|hz
  ·exact hyx
  exact h1 z hz
theorem ZB:∀l:List (ByteArray × α),(l.map Prod.fst).Nodup→(vW l).Pairwise (λa b=>ltS a.1 b.1=true)
 | [],_=>List.Pairwise.nil
 | x::r,h=>by
  obtain⟨h1,h2⟩:=List.nodup_cons.1 (by simpa using h:(x.1::r.map Prod.fst).Nodup);exact gT x (vW r) (ZB r h2) (λy hy e=>h1 (qh.2 ⟨y,(qT r).mem_iff.1 hy,e⟩))
theorem YH:∀(l m:List (ByteArray × α)),l.Perm m→l.Pairwise (λa b=>ltS a.1 b.1=true)→m.Pairwise (λa b=>ltS a.1 b.1=true)→l=m
 | [],m,hp,_,_=>by simpa using hp
 | x::r,[],hp,_,_=>by simp at hp
 | x::r,y::q,hp,h1,h2=>by
  obtain⟨a1,a2⟩:=List.pairwise_cons.1 h1;obtain⟨b1,b2⟩:=List.pairwise_cons.1 h2
  have hxy:x=y:=by
   rcases qp.1 (hp.mem_iff.1 (by simp:x∈x::r)) with h|h
   ·exact h
   rcases qp.1 (hp.mem_iff.2 (by simp:y∈y::q)) with h'|h'
   ·exact h'.symm
   have e1:=b1 x h;have e2:=a1 y h';have:=QW e1 e2;rw[ZP] at this;cases this
  subst hxy;rw[YH r q (List.Perm.cons_inv hp) a2 b2]
theorem uZ (f:α→β) (x:ByteArray × α):∀l:List (ByteArray × α),(iS x l).map (λp=>(p.1,f p.2))=iS (x.1,f x.2) (l.map λp=>(p.1,f p.2))
 | []=>rfl
 | y::r=>by
  simp only[iS,List.map_cons];split
  ·rfl
  simp[uZ f x r]
theorem bL (f:α→β):∀l:List (ByteArray × α),(vW l).map (λp=>(p.1,f p.2))=vW (l.map λp=>(p.1,f p.2))
 | []=>rfl
 | x::r=>by
  show (iS x (vW r)).map _=iS _ (vW (r.map _));rw[uZ,bL f r]
end
mutual
def zP:Tr→Tr | .mk k n u s keys l=>if k=17 then .mk k n u s ((vW (keys.zip (ZK l))).map Prod.fst) ((vW (keys.zip (ZK l))).map Prod.snd) else .mk k n u s keys (ZK l)
def ZK:List Tr→List Tr | []=>[] | t::r=>zP t::ZK r
end
theorem yW:∀l:List Tr,ZK l=l.map zP
 | []=>rfl
 | t::r=>by simp[ZK,yW r]
theorem lX {α:Type} {l:List α} (hl:keys.length=l.length) {p:List (Fin keys.length)} (hp:p.Perm (List.finRange keys.length)) (hs:∀(i j:Nat) x y,i < j→p[i]? = some x→p[j]? = some y→ltS keys[x] keys[y]=true) (z:ByteArray × α) :
 p.map (λx=>(keys.zip l).getD x.1 z)=vW (keys.zip l):=by
 have hz:(keys.zip l).length=keys.length:=by simp[hl]
 have hfst:∀x:Fin keys.length,((keys.zip l).getD x.1 z).1=keys[x]:=λx=>by
  rw[zw,za (by rw[hz];exact x.2)];simp
 have qG:(List.finRange keys.length).map (λx=>(keys.zip l).getD x.1 z)=keys.zip l:=by
  apply List.ext_getElem (by simp[hl]);intro i h1 h2;rw[List.getElem_map,List.getElem_finRange];simp only[Fin.cast_mk] at *;rw[zw,za (by simpa using h2)];rfl
 have hnd:keys.Nodup:=dO hp hs;refine YH _ _ (((hp.map _).trans (by rw[qG])).trans (qT _).symm) ?_ (ZB _ (by rw[List.map_fst_zip (by omega)];exact hnd));rw[List.pairwise_iff_getElem];intro i j h1 h2 hij;rw[List.getElem_map,List.getElem_map,hfst,hfst];exact hs i j _ _ hij (za (by simpa using h1)) (za (by simpa using h2))
/-! ### trees that can be sorted -/
mutual
def okT:Tr→Prop | .mk k n u s keys l=>(k=17→keys.Nodup∧keys.length=l.length)∧keys.length≤4096∧l.length≤4096∧okL l
def okL:List Tr→Prop | []=>True | t::r=>okT t∧okL r
end
theorem DH (h:okL l) {x:Tr} (hx:x∈l):okT x:=by
 induction l with
 | nil=>cases hx
 | cons t r ih=>
  simp only[okL] at h;rcases qp.1 hx with rfl|hx
  ·exact h.1
  exact ih h.2 hx
mutual
theorem DI:∀{t:Tr},okT t→Few t
 | .mk k n u s keys l,h=>by
  simp only[okT] at h;simp only[Few];exact⟨h.2.1,h.2.2.1,DJ h.2.2.2⟩
theorem DJ:∀{l:List Tr},okL l→sH l
 | [],_=>trivial
 | t::r,h=>by
  simp only[okL] at h;simp only[sH];exact⟨DI h.1,DJ h.2⟩
end
theorem aG:∀(L:List (Nat × Tr)) (c:Nat),ZQ c L=0→(L≠[]→L.length+c≤4096)∧∀p∈L,p.1 < 64∧zD p.2=true∧qH p.2=0
 | [],c,_=>⟨λh=>absurd rfl h,by simp⟩
 | (b,x)::r,c,h=>by
  simp only[ZQ] at h;by_cases h1:4096 < c+1
  ·rw[zl h1] at h;cases h
  rw[ze h1] at h;by_cases h2:64≤b
  ·rw[zl h2] at h;cases h
  rw[ze h2] at h;by_cases h3:zD x=false
  ·rw[zl h3] at h;cases h
  rw[ze h3] at h;by_cases h4:qH x≠0
  ·rw[zl h4] at h;exact absurd h h4
  rw[ze h4] at h;obtain⟨i1,i2⟩:=aG r (c+1) h;refine⟨λ_=>?_,λp hp=>?_⟩
  ·by_cases hr:r=[]
   ·subst hr;simp;omega
   have:=i1 hr;simp only[zz];omega
  rcases qp.1 hp with rfl|hp
  ·exact⟨by show b < 64;omega,by simpa using h3,by simpa using h4⟩
  exact i2 p hp
theorem lY:∀(l had:List ByteArray),J7 had l=0→l.Nodup∧(∀k∈l,JI k=false∧k∉had)
 | [],_,_=>⟨List.nodup_nil,by simp⟩
 | k::r,had,h=>by
  simp only[J7] at h;by_cases h1:JI k=true
  ·rw[zl h1] at h;cases h
  rw[ze h1] at h;by_cases h2:aE k had=true
  ·rw[zl h2] at h;cases h
  rw[ze h2] at h;obtain⟨i1,i2⟩:=lY r (had++[k]) h;refine⟨List.nodup_cons.2 ⟨λhk=>(i2 k hk).2 zp2,i1⟩,λx hx=>?_⟩;rcases qp.1 hx with rfl|hx
  ·exact⟨by simpa using h1,λhm=>h2 ((fD _ _).2 hm)⟩
  exact⟨(i2 x hx).1,λhm=>(i2 x hx).2 (by simp[hm])⟩
theorem LJ {k n u:Int} {s:ByteArray} (h1:zD (.mk k n u s keys l)=true) (h2:qH (.mk k n u s keys l)=0):(k=17→keys.Nodup∧keys.length=l.length)∧(k≠17→keys=[]):=by
 constructor
 ·rintro rfl;simp only[qH] at h2;rw[ze zp2] at h2;refine⟨(lY _ _ h2).1,?_⟩;simp only[zD,zg,qv,zp] at h1;have h3:=h1.1.1.2;simpa using h3
 intro hk;simp only[zD,zg,qv,zp] at h1
 have hu:k9 k≠8:=by
  have h17:=h1.1.1.1.1.1.1.1.1;unfold k9
  repeat' split
  all_goals omega
 rcases h1.1.1.1.1.2 with h|h
 ·exact absurd h hu
 exact List.length_eq_zero_iff.1 h
mutual
theorem LK:∀(t:Tr) (b:Nat),t.size≤4096→(∀p∈vP b t,zD p.2=true∧qH p.2=0)→okT t
 | .mk k n u s keys l,b,hz,h=>by
  simp only[vP,qp] at h;have h0:=h _ (.inl rfl);have hk:=LJ h0.1 h0.2;simp only[Tr.size] at hz;have hl:=K7 l;simp only[okT];refine⟨hk.1,?_,by omega,LL l (b+1) zo (λp hp=>h p (.inr hp))⟩;by_cases e:k=17
  ·have:=(hk.1 e).2;omega
  rw[hk.2 e];simp
theorem LL:∀(l:List Tr) (b:Nat),zY l≤4096→(∀p∈JL b l,zD p.2=true∧qH p.2=0)→okL l
 | [],_,_,_=>trivial
 | t::r,b,hz,h=>by
  simp only[zY] at hz;simp only[JL,xf] at h;simp only[okL];exact⟨LK t b zo (λp hp=>h p (.inl hp)),LL r b zo (λp hp=>h p (.inr hp))⟩
end
theorem pC {t:Tr} (h:JZ t=0):okT t∧t.size≤4096:=by
 obtain⟨h1,h2⟩:=aG _ 0 h
 have hz:t.size≤4096:=by
  have:=h1 (by cases t;simp[vP]);rw[vB] at this;omega
 exact⟨LK t 0 hz (λp hp=>(h2 p hp).2),hz⟩
/-! ### rows under a store -/
theorem pD:∀(vs:List Value) (i:Nat),(∀x∈vs,QV x)→i < vs.length→∀c0 c1 c2 c3 c4 c5:Value,
 ((((((vs.flatMap vO).set (i*6) c0).set (i*6+1) c1).set (i*6+2) c2).set (i*6+3) c3).set (i*6+4) c4).set (i*6+5) c5=(vs.set i (.agg #[c0,c1,c2,c3,c4,c5])).flatMap vO
 | [],_,_,h=>by simp at h
 | y::r,i,h6,h=>by
  intro c0 c1 c2 c3 c4 c5;obtain⟨k,n,u,s,a4,n4,q4,a5,n5,q5,rfl⟩:=h6 y zp2
  cases i with
  | zero=>simp[vO]
  | succ i=>
   have ih:=pD r i (λx hx=>h6 x oL) tZ c0 c1 c2 c3 c4 c5;simp only[List.flatMap_cons,zq3];rw[← ih];have e:∀(q:Nat),(i+1)*6+q=i*6+q+6:=λq=>by omega
   rw[show (i+1)*6=i*6+6 by omega];simp[vO,Nat.add_assoc,show ∀q:Nat,i*6+(6+q)=i*6+q+6 from λq=>by omega]
theorem yM.stored {i:Nat} {vs:List Value} (h:yM w B (.slice (some ⟨g,0,none⟩) n cap) vs) (hi:i < vs.length) {x:Value} (hx:QV x) {c0 c1 c2 c3 c4 c5:Value} (e:x=.agg #[c0,c1,c2,c3,c4,c5]) :
 yM ((((((w.setCell ⟨g,i*6,none⟩ c0).setCell ⟨g,i*6+1,none⟩ c1).setCell ⟨g,i*6+2,none⟩ c2).setCell ⟨g,i*6+3,none⟩ c3).setCell ⟨g,i*6+4,none⟩ c4).setCell ⟨g,i*6+5,none⟩ c5) B (.slice (some ⟨g,0,none⟩) n cap) (vs.set i x):=by
 obtain⟨hr,h6⟩:=h
 have hn:n=vs.length:=by
  obtain⟨a,c,e,_⟩:=jR hr;injection e
 subst hn;have q:=(((((hr.stored (i*6) c0).1.stored (i*6+1) c1).1.stored (i*6+2) c2).1.stored (i*6+3) c3).1.stored (i*6+4) c4).1.stored (i*6+5) c5;rw[pD vs i h6 hi,← e] at q;refine⟨by rw[yf];exact q.1,λy hy=>?_⟩;rcases List.mem_or_eq_of_mem_set hy with hy|rfl
 ·exact h6 y hy
 exact hx
theorem zG.stored {ss:List ByteArray} (h:zG w B (.slice (some ⟨g,0,none⟩) n cap) ss) (i:Nat) (x:ByteArray) :
 zG (w.setCell ⟨g,i,none⟩ (.string x)) B (.slice (some ⟨g,0,none⟩) n cap) (ss.set i x):=by
 have hn:n=ss.length:=by
  obtain⟨a,c,e,_⟩:=jR h;injection e
 subst hn;have q:=(World.ownsRow.stored h i (.string x)).1;unfold zG;rw[yf,List.map_set];exact q
theorem gU {e:TypeId} {size c:Nat} {xs:List Value} (h:w.ownsRow B e size (.slice (some ⟨g,0,none⟩) n c) n xs) (j:Nat):w.frozen? ⟨g,j,none⟩=false:=by
 rcases h.2 with ⟨q,_⟩|⟨g',cap,cur,q,_,hg,_⟩
 ·cases q
 cases q;exact frozen_of_row w g j cur e hg
/-! ### children in another order -/
section
variable {w:World} {B:Nat}
theorem zH.idx:∀{l:List Tr} {vs:List Value} {S:Nat→Prop},zH w B l vs S→∃f:Nat→Nat→Prop,(∀i g,f i g→S g)∧(∀i j g,i≠j→f i g→¬f j g)∧∀i x v,l[i]? = some x→vs[i]? = some v→qA w B x v (f i)
 | [],_,_,_=>⟨λ_ _=>False,λ_ _ h=>h.elim,λ_ _ _ _ h=>h.elim,by simp⟩
 | t::r,_,S,h=>by
  simp only[zH] at h;obtain⟨v,vr,S1,S2,rfl,h1,h2,h3,h4,h5⟩:=h;obtain⟨f,f1,f2,f3⟩:=zH.idx h5;refine⟨λi=>match i with | 0=>S1 | i+1=>f i,?_,?_,?_⟩
  ·intro i g hg
   cases i with
   | zero=>exact h1 g hg
   | succ i=>exact h2 g (f1 i g hg)
  ·intro i j g hij hi hj
   cases i with
   | zero=>
    cases j with
    | zero=>exact hij rfl
    | succ j=>exact h3 g hi (f1 j g hj)
   | succ i=>
    cases j with
    | zero=>exact h3 g hj (f1 i g hi)
    | succ j=>exact f2 i j g zo hi hj
  intro i x u hx hu
  cases i with
  | zero=>simp at hx hu;subst hx hu;exact h4
  | succ i=>exact f3 i x u eV (by simpa using hu)
theorem zH.of_idx:∀{l:List Tr} {vs:List Value} {S:Nat→Prop} (f:Nat→Nat→Prop),vs.length=l.length→(∀i g,f i g→S g)→(∀i j g,i≠j→f i g→¬f j g)→(∀i x v,l[i]? = some x→vs[i]? = some v→qA w B x v (f i))→zH w B l vs S
 | [],vs,_,_,hl,_,_,_=>List.length_eq_zero_iff.1 hl
 | t::r,[],_,_,hl,_,_,_=>by simp at hl
 | t::r,v::vr,S,f,hl,h1,h2,h3=>by
  simp only[zH];refine⟨v,vr,f 0,λg=>∃i,f (i+1) g,rfl,h1 0,λg ⟨i,hi⟩=>h1 _ g hi,λg hg ⟨i,hi⟩=>h2 0 (i+1) g zo hg hi,h3 0 t v rfl rfl,?_⟩;exact zH.of_idx (λi=>f (i+1)) (by simpa using hl) (λi g hg=>⟨i,hg⟩) (λi j g hij hi hj=>h2 (i+1) (j+1) g zo hi hj) (λi x u hx hu=>h3 (i+1) x u eV (by simpa using hu))
theorem zH.perm {l:List Tr} {vs:List Value} {S:Nat→Prop} (h:zH w B l vs S) {n:Nat} (hn:l.length=n) {p:List (Fin n)} (hp:p.Perm (List.finRange n)) (zt:Tr) (zv:Value) :
 zH w B (p.map λx=>l.getD x.1 zt) (p.map λx=>vs.getD x.1 zv) S:=by
 have hl:=h.length;obtain⟨f,f1,f2,f3⟩:=h.idx;have hnd:p.Nodup:=hp.nodup_iff.2 (List.nodup_finRange n);refine zH.of_idx (λi g=>∃q,p[i]? = some q∧f q.1 g) zp2 (λi g ⟨q,_,hq⟩=>f1 _ g hq) ?_ ?_
 ·rintro i j g hij ⟨q,hq,hf⟩ ⟨q',hq',hf'⟩;refine f2 q.1 q'.1 g (λe=>hij ?_) hf hf';obtain⟨hi,hi'⟩:=zi.1 hq;obtain⟨hj,hj'⟩:=zi.1 hq';have hpw:=List.pairwise_iff_getElem.1 hnd;rcases Nat.lt_trichotomy i j with h|h|h
  ·exact absurd (by rw[hi',hj'];exact Fin.ext e) (hpw i j hi hj h)
  ·exact h
  exact absurd (by rw[hi',hj'];exact Fin.ext e.symm) (hpw j i hj hi h)
 intro i x v hx hv;rw[xj] at hx hv
 cases hq:p[i]? with
 | none=>rw[hq] at hx;cases hx
 | some q=>
  rw[hq] at hx hv;simp only[Option.map_some,ya] at hx hv;have hlt:q.1 < l.length:=by omega
  have:=f3 q.1 x v (by rw[← hx,zw,za hlt];rfl) (by rw[← hv,zw,za (by omega)];rfl);exact this.mono (λg hg=>⟨q,rfl,hg⟩)
end
end Go.Proofs.YtdjoffgkndncfaaGreat
