/-
  Texts of the proof.
-/
import Derived.Test.YtdjoffgkndncfaaGreatDBuiltPAN
import Derived.Test.YtdjoffgkndncfaaGreatDBuiltPAU
set_option linter.unusedVariables false
set_option linter.unusedSimpArgs false
namespace Go.Proofs.YtdjoffgkndncfaaGreat
open Go Go.ChangeShapes Go.WideShapes Go.ChangeAt Go.RowKit Go.Joins Go.Deep
/-! ### sorting by key -/
def gJ {α:Type} (x:ByteArray × α):List (ByteArray × α)→List (ByteArray × α)
 | []=>[x]
 | y::r=>if ltS x.1 y.1=true then x::y::r else y::gJ x r
def vK {α:Type} (l:List (ByteArray × α)):List (ByteArray × α):=l.foldr gJ []
section
variable {α β:Type}
theorem eE (x:ByteArray × α):∀l:List (ByteArray × α),(gJ x l).Perm (x::l)
 | []=>.refl _
 | y::r=>by
  unfold gJ;split
  ·exact .refl _
  ·exact ((eE x r).cons y).trans (.swap x y r)
theorem qU:∀l:List (ByteArray × α),(vK l).Perm l
 | []=>.refl _
 | x::r=>(eE x (vK r)).trans ((qU r).cons x)
theorem fG (x:ByteArray × α):∀l:List (ByteArray × α),l.Pairwise (fun a b=>ltS a.1 b.1=true)→(∀y∈l,y.1≠x.1)→(gJ x l).Pairwise (fun a b=>ltS a.1 b.1=true)
 | [],_,_=>by simp[gJ]
 | y::r,h,hne=>by
  obtain⟨h1,h2⟩:=List.pairwise_cons.1 h;unfold gJ;split
  ·rename_i hlt;refine List.pairwise_cons.2 ⟨fun z hz=>?_,h⟩;rcases List.mem_cons.1 hz with rfl|hz
   ·exact hlt
   ·exact QG hlt (h1 z hz)
  ·rename_i hnl
   have hyx:ltS y.1 x.1=true:=by
    cases hq:ltS y.1 x.1
    ·exact absurd (d8 hq (by simpa using hnl)) (hne y zp2)
    ·rfl
   refine List.pairwise_cons.2 ⟨fun z hz=>?_,fG x r h2 (fun z hz=>hne z (by simp[hz]))⟩;rcases List.mem_cons.1 ((eE x r).mem_iff.1 hz) with rfl|hz
   ·exact hyx
   ·exact h1 z hz
theorem Z3:∀l:List (ByteArray × α),(l.map Prod.fst).Nodup→(vK l).Pairwise (fun a b=>ltS a.1 b.1=true)
 | [],_=>List.Pairwise.nil
 | x::r,h=>by
  obtain⟨h1,h2⟩:=List.nodup_cons.1 (by simpa using h:(x.1::r.map Prod.fst).Nodup);exact fG x (vK r) (Z3 r h2) (fun y hy e=>h1 (List.mem_map.2 ⟨y,(qU r).mem_iff.1 hy,e⟩))
theorem QX:∀(l m:List (ByteArray × α)),l.Perm m→l.Pairwise (fun a b=>ltS a.1 b.1=true)→m.Pairwise (fun a b=>ltS a.1 b.1=true)→l=m
 | [],m,hp,_,_=>by simpa using hp
 | x::r,[],hp,_,_=>by simp at hp
 | x::r,y::q,hp,h1,h2=>by
  obtain⟨a1,a2⟩:=List.pairwise_cons.1 h1;obtain⟨b1,b2⟩:=List.pairwise_cons.1 h2
  have hxy:x=y:=by
   rcases List.mem_cons.1 (hp.mem_iff.1 (by simp:x∈x::r)) with h|h
   ·exact h
   ·rcases List.mem_cons.1 (hp.mem_iff.2 (by simp:y∈y::q)) with h'|h'
    ·exact h'.symm
    ·have e1:=b1 x h;have e2:=a1 y h';have:=QG e1 e2;rw[ZC] at this;cases this
  subst hxy;rw[QX r q (List.Perm.cons_inv hp) a2 b2]
theorem tF (f:α→β) (x:ByteArray × α):∀l:List (ByteArray × α),(gJ x l).map (fun p=>(p.1,f p.2))=gJ (x.1,f x.2) (l.map fun p=>(p.1,f p.2))
 | []=>rfl
 | y::r=>by
  simp only[gJ,List.map_cons];split
  ·rfl
  ·simp[tF f x r]
theorem aQ (f:α→β):∀l:List (ByteArray × α),(vK l).map (fun p=>(p.1,f p.2))=vK (l.map fun p=>(p.1,f p.2))
 | []=>rfl
 | x::r=>by
  show (gJ x (vK r)).map _=gJ _ (vK (r.map _));rw[tF,aQ f r]
end
mutual
def zX:Tr→Tr | .mk k n u s keys l=>if k=17 then .mk k n u s ((vK (keys.zip (ZT l))).map Prod.fst) ((vK (keys.zip (ZT l))).map Prod.snd) else .mk k n u s keys (ZT l)
def ZT:List Tr→List Tr | []=>[] | t::r=>zX t::ZT r
end
theorem yY:∀l:List Tr,ZT l=l.map zX
 | []=>rfl
 | t::r=>by simp[ZT,yY r]
theorem iP {α:Type} {keys:List ByteArray} {l:List α} (hl:keys.length=l.length) {p:List (Fin keys.length)} (hp:p.Perm (List.finRange keys.length)) (hs:∀(i j:Nat) x y,i < j→p[i]? = some x→p[j]? = some y→ltS keys[x] keys[y]=true) (z:ByteArray × α) :
 p.map (fun x=>(keys.zip l).getD x.1 z)=vK (keys.zip l):=by
 have hz:(keys.zip l).length=keys.length:=by simp[hl]
 have hfst:∀x:Fin keys.length,((keys.zip l).getD x.1 z).1=keys[x]:=fun x=>by
  rw[List.getD_eq_getElem?_getD,List.getElem?_eq_getElem (by rw[hz];exact x.2)];simp
 have qK:(List.finRange keys.length).map (fun x=>(keys.zip l).getD x.1 z)=keys.zip l:=by
  apply List.ext_getElem (by simp[hl]);intro i h1 h2;rw[List.getElem_map,List.getElem_finRange];simp only[Fin.cast_mk] at *;rw[List.getD_eq_getElem?_getD,List.getElem?_eq_getElem (by simpa using h2)];rfl
 have hnd:keys.Nodup:=cO hp hs;refine QX _ _ (((hp.map _).trans (by rw[qK])).trans (qU _).symm) ?_ (Z3 _ (by rw[List.map_fst_zip (by omega)];exact hnd));rw[List.pairwise_iff_getElem];intro i j h1 h2 hij;rw[List.getElem_map,List.getElem_map,hfst,hfst];exact hs i j _ _ hij (List.getElem?_eq_getElem (by simpa using h1)) (List.getElem?_eq_getElem (by simpa using h2))
/-! ### trees that can be sorted -/
mutual
def okT:Tr→Prop | .mk k n u s keys l=>(k=17→keys.Nodup∧keys.length=l.length)∧keys.length≤4096∧l.length≤4096∧okL l
def okL:List Tr→Prop | []=>True | t::r=>okT t∧okL r
end
theorem BR {l:List Tr} (h:okL l) {x:Tr} (hx:x∈l):okT x:=by
 induction l with
 | nil=>cases hx
 | cons t r ih=>
  simp only[okL] at h;rcases List.mem_cons.1 hx with rfl|hx
  ·exact h.1
  ·exact ih h.2 hx
mutual
theorem BT:∀{t:Tr},okT t→Few t
 | .mk k n u s keys l,h=>by
  simp only[okT] at h;simp only[Few];exact⟨h.2.1,h.2.2.1,BU h.2.2.2⟩
theorem BU:∀{l:List Tr},okL l→FewL l
 | [],_=>trivial
 | t::r,h=>by
  simp only[okL] at h;simp only[FewL];exact⟨BT h.1,BU h.2⟩
end
theorem VZ:∀(L:List (Nat × Tr)) (c:Nat),ZE c L=0→(L≠[]→L.length+c≤4096)∧∀p∈L,p.1 < 64∧kY p.2=true∧y8 p.2=0
 | [],c,_=>⟨fun h=>absurd rfl h,by simp⟩
 | (b,x)::r,c,h=>by
  simp only[ZE] at h;by_cases h1:4096 < c+1
  ·rw[if_pos h1] at h;cases h
  rw[if_neg h1] at h;by_cases h2:64≤b
  ·rw[if_pos h2] at h;cases h
  rw[if_neg h2] at h;by_cases h3:kY x=false
  ·rw[if_pos h3] at h;cases h
  rw[if_neg h3] at h;by_cases h4:y8 x≠0
  ·rw[if_pos h4] at h;exact absurd h h4
  rw[if_neg h4] at h;obtain⟨i1,i2⟩:=VZ r (c+1) h;refine⟨fun _=>?_,fun p hp=>?_⟩
  ·by_cases hr:r=[]
   ·subst hr;simp;omega
   ·have:=i1 hr;simp only[List.length_cons];omega
  ·rcases List.mem_cons.1 hp with rfl|hp
   ·exact⟨by show b < 64;omega,by simpa using h3,by simpa using h4⟩
   ·exact i2 p hp
theorem iQ:∀(l had:List ByteArray),JQ had l=0→l.Nodup∧(∀k∈l,vU k=false∧k∉had)
 | [],_,_=>⟨List.nodup_nil,by simp⟩
 | k::r,had,h=>by
  simp only[JQ] at h;by_cases h1:vU k=true
  ·rw[if_pos h1] at h;cases h
  rw[if_neg h1] at h;by_cases h2:VT k had=true
  ·rw[if_pos h2] at h;cases h
  rw[if_neg h2] at h;obtain⟨i1,i2⟩:=iQ r (had++[k]) h;refine⟨List.nodup_cons.2 ⟨fun hk=>(i2 k hk).2 zp2,i1⟩,fun x hx=>?_⟩;rcases List.mem_cons.1 hx with rfl|hx
  ·exact⟨by simpa using h1,fun hm=>h2 ((dY _ _).2 hm)⟩
  ·exact⟨(i2 x hx).1,fun hm=>(i2 x hx).2 (by simp[hm])⟩
theorem FI {k n u:Int} {s:ByteArray} {keys:List ByteArray} {l:List Tr} (h1:kY (.mk k n u s keys l)=true) (h2:y8 (.mk k n u s keys l)=0):(k=17→keys.Nodup∧keys.length=l.length)∧(k≠17→keys=[]):=by
 constructor
 ·rintro rfl;simp only[y8] at h2;rw[if_neg zp2] at h2;refine⟨(iQ _ _ h2).1,?_⟩;simp only[kY,Bool.and_eq_true,Bool.or_eq_true,decide_eq_true_eq] at h1;have h3:=h1.1.1.2;simpa using h3
 ·intro hk;simp only[kY,Bool.and_eq_true,Bool.or_eq_true,decide_eq_true_eq] at h1
  have hu:kV k≠8:=by
   have h17:=h1.1.1.1.1.1.1.1.1;unfold kV
   repeat' split
   all_goals omega
  rcases h1.1.1.1.1.2 with h|h
  ·exact absurd h hu
  ·exact List.length_eq_zero_iff.1 h
mutual
theorem FJ:∀(t:Tr) (b:Nat),t.size≤4096→(∀p∈J6 b t,kY p.2=true∧y8 p.2=0)→okT t
 | .mk k n u s keys l,b,hz,h=>by
  simp only[J6,List.mem_cons] at h;have h0:=h _ (.inl rfl);have hk:=FI h0.1 h0.2;simp only[Tr.size] at hz;have hl:=KO l;simp only[okT];refine⟨hk.1,?_,by omega,FK l (b+1) zo (fun p hp=>h p (.inr hp))⟩;by_cases e:k=17
  ·have:=(hk.1 e).2;omega
  ·rw[hk.2 e];simp
theorem FK:∀(l:List Tr) (b:Nat),yG l≤4096→(∀p∈J7 b l,kY p.2=true∧y8 p.2=0)→okL l
 | [],_,_,_=>trivial
 | t::r,b,hz,h=>by
  simp only[yG] at hz;simp only[J7,List.mem_append] at h;simp only[okL];exact⟨FJ t b zo (fun p hp=>h p (.inl hp)),FK r b zo (fun p hp=>h p (.inr hp))⟩
end
theorem nO {t:Tr} (h:JI t=0):okT t∧t.size≤4096:=by
 obtain⟨h1,h2⟩:=VZ _ 0 h
 have hz:t.size≤4096:=by
  have:=h1 (by cases t;simp[J6]);rw[VX] at this;omega
 exact⟨FJ t 0 hz (fun p hp=>(h2 p hp).2),hz⟩
/-! ### rows under a store -/
theorem nP:∀(vs:List Value) (i:Nat),(∀x∈vs,VE x)→i < vs.length→∀c0 c1 c2 c3 c4 c5:Value,
 ((((((vs.flatMap vM).set (i*6) c0).set (i*6+1) c1).set (i*6+2) c2).set (i*6+3) c3).set (i*6+4) c4).set (i*6+5) c5=(vs.set i (.agg #[c0,c1,c2,c3,c4,c5])).flatMap vM
 | [],_,_,h=>by simp at h
 | y::r,i,h6,h=>by
  intro c0 c1 c2 c3 c4 c5;obtain⟨k,n,u,s,a4,n4,q4,a5,n5,q5,rfl⟩:=h6 y zp2
  cases i with
  | zero=>simp[vM]
  | succ i=>
   have ih:=nP r i (fun x hx=>h6 x (by simp[hx])) r8 c0 c1 c2 c3 c4 c5;simp only[List.flatMap_cons,zq3];rw[← ih];have e:∀(q:Nat),(i+1)*6+q=i*6+q+6:=fun q=>by omega
   rw[show (i+1)*6=i*6+6 by omega];simp[vM,Nat.add_assoc,show ∀q:Nat,i*6+(6+q)=i*6+q+6 from fun q=>by omega]
theorem qD.stored {w:World} {B g cap n i:Nat} {vs:List Value} (h:qD w B (.slice (some ⟨g,0,none⟩) n cap) vs) (hi:i < vs.length) {x:Value} (hx:VE x) {c0 c1 c2 c3 c4 c5:Value} (e:x=.agg #[c0,c1,c2,c3,c4,c5]) :
 qD ((((((w.setCell ⟨g,i*6,none⟩ c0).setCell ⟨g,i*6+1,none⟩ c1).setCell ⟨g,i*6+2,none⟩ c2).setCell ⟨g,i*6+3,none⟩ c3).setCell ⟨g,i*6+4,none⟩ c4).setCell ⟨g,i*6+5,none⟩ c5) B (.slice (some ⟨g,0,none⟩) n cap) (vs.set i x):=by
 obtain⟨hr,h6⟩:=h
 have hn:n=vs.length:=by
  obtain⟨a,c,e,_⟩:=jX hr;injection e
 subst hn;have q:=(((((hr.stored (i*6) c0).1.stored (i*6+1) c1).1.stored (i*6+2) c2).1.stored (i*6+3) c3).1.stored (i*6+4) c4).1.stored (i*6+5) c5;rw[nP vs i h6 hi,← e] at q;refine⟨by rw[List.length_set];exact q.1,fun y hy=>?_⟩;rcases List.mem_or_eq_of_mem_set hy with hy|rfl
 ·exact h6 y hy
 ·exact hx
theorem zV.stored {w:World} {B g cap n:Nat} {ss:List ByteArray} (h:zV w B (.slice (some ⟨g,0,none⟩) n cap) ss) (i:Nat) (x:ByteArray) :
 zV (w.setCell ⟨g,i,none⟩ (.string x)) B (.slice (some ⟨g,0,none⟩) n cap) (ss.set i x):=by
 have hn:n=ss.length:=by
  obtain⟨a,c,e,_⟩:=jX h;injection e
 subst hn;have q:=(World.ownsRow.stored h i (.string x)).1;unfold zV;rw[List.length_set,List.map_set];exact q
theorem fH {w:World} {B:Nat} {e:TypeId} {size n g c:Nat} {xs:List Value} (h:w.ownsRow B e size (.slice (some ⟨g,0,none⟩) n c) n xs) (j:Nat):w.frozen? ⟨g,j,none⟩=false:=by
 rcases h.2 with ⟨q,_⟩|⟨g',cap,cur,q,_,hg,_⟩
 ·cases q
 ·cases q;exact frozen_of_row w g j cur e hg
/-! ### children in another order -/
section
variable {w:World} {B:Nat}
theorem zE.idx:∀{l:List Tr} {vs:List Value} {S:Nat→Prop},zE w B l vs S→∃f:Nat→Nat→Prop,(∀i g,f i g→S g)∧(∀i j g,i≠j→f i g→¬f j g)∧∀i x v,l[i]? = some x→vs[i]? = some v→qJ w B x v (f i)
 | [],_,_,_=>⟨fun _ _=>False,fun _ _ h=>h.elim,fun _ _ _ _ h=>h.elim,by simp⟩
 | t::r,_,S,h=>by
  simp only[zE] at h;obtain⟨v,vr,S1,S2,rfl,h1,h2,h3,h4,h5⟩:=h;obtain⟨f,f1,f2,f3⟩:=zE.idx h5;refine⟨fun i=>match i with | 0=>S1 | i+1=>f i,?_,?_,?_⟩
  ·intro i g hg
   cases i with
   | zero=>exact h1 g hg
   | succ i=>exact h2 g (f1 i g hg)
  ·intro i j g hij hi hj
   cases i with
   | zero=>
    cases j with
    | zero=>exact hij rfl
    | succ j=>exact h3 g hi (f1 j g hj)
   | succ i=>
    cases j with
    | zero=>exact h3 g hj (f1 i g hi)
    | succ j=>exact f2 i j g zo hi hj
  ·intro i x u hx hu
   cases i with
   | zero=>simp at hx hu;subst hx hu;exact h4
   | succ i=>exact f3 i x u dP (by simpa using hu)
theorem zE.of_idx:∀{l:List Tr} {vs:List Value} {S:Nat→Prop} (f:Nat→Nat→Prop),vs.length=l.length→(∀i g,f i g→S g)→(∀i j g,i≠j→f i g→¬f j g)→(∀i x v,l[i]? = some x→vs[i]? = some v→qJ w B x v (f i))→zE w B l vs S
 | [],vs,_,_,hl,_,_,_=>List.length_eq_zero_iff.1 hl
 | t::r,[],_,_,hl,_,_,_=>by simp at hl
 | t::r,v::vr,S,f,hl,h1,h2,h3=>by
  simp only[zE];refine⟨v,vr,f 0,fun g=>∃i,f (i+1) g,rfl,h1 0,fun g ⟨i,hi⟩=>h1 _ g hi,fun g hg ⟨i,hi⟩=>h2 0 (i+1) g zo hg hi,h3 0 t v rfl rfl,?_⟩;exact zE.of_idx (fun i=>f (i+1)) (by simpa using hl) (fun i g hg=>⟨i,hg⟩) (fun i j g hij hi hj=>h2 (i+1) (j+1) g zo hi hj) (fun i x u hx hu=>h3 (i+1) x u dP (by simpa using hu))
theorem zE.perm {l:List Tr} {vs:List Value} {S:Nat→Prop} (h:zE w B l vs S) {n:Nat} (hn:l.length=n) {p:List (Fin n)} (hp:p.Perm (List.finRange n)) (zt:Tr) (zv:Value) :
 zE w B (p.map fun x=>l.getD x.1 zt) (p.map fun x=>vs.getD x.1 zv) S:=by
 have hl:=h.length;obtain⟨f,f1,f2,f3⟩:=h.idx;have hnd:p.Nodup:=hp.nodup_iff.2 (List.nodup_finRange n);refine zE.of_idx (fun i g=>∃q,p[i]? = some q∧f q.1 g) zp2 (fun i g ⟨q,_,hq⟩=>f1 _ g hq) ?_ ?_
 ·rintro i j g hij ⟨q,hq,hf⟩ ⟨q',hq',hf'⟩;refine f2 q.1 q'.1 g (fun e=>hij ?_) hf hf';obtain⟨hi,hi'⟩:=List.getElem?_eq_some_iff.1 hq;obtain⟨hj,hj'⟩:=List.getElem?_eq_some_iff.1 hq';have hpw:=List.pairwise_iff_getElem.1 hnd;rcases Nat.lt_trichotomy i j with h|h|h
  ·exact absurd (by rw[hi',hj'];exact Fin.ext e) (hpw i j hi hj h)
  ·exact h
  ·exact absurd (by rw[hi',hj'];exact Fin.ext e.symm) (hpw j i hj hi h)
 ·intro i x v hx hv;rw[List.getElem?_map] at hx hv
  cases hq:p[i]? with
  | none=>rw[hq] at hx;cases hx
  | some q=>
   rw[hq] at hx hv;simp only[Option.map_some,Option.some.injEq] at hx hv;have hlt:q.1 < l.length:=by omega
   have:=f3 q.1 x v (by rw[← hx,List.getD_eq_getElem?_getD,List.getElem?_eq_getElem hlt];rfl) (by rw[← hv,List.getD_eq_getElem?_getD,List.getElem?_eq_getElem (by omega)];rfl);exact this.mono (fun g hg=>⟨q,rfl,hg⟩)
end
end Go.Proofs.YtdjoffgkndncfaaGreat
