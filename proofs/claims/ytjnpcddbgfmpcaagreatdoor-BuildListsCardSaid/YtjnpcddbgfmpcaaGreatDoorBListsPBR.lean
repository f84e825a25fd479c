/-
  Texts of the proof.
-/
import Derived.Test.YtjnpcddbgfmpcaaGreatDoorBListsPBA
import Derived.Test.YtjnpcddbgfmpcaaGreatDoorBListsPBP
set_option linter.unusedVariables false
set_option linter.unusedSimpArgs false
namespace Go.Proofs.YtjnpcddbgfmpcaaGreatDoor
open Go Go.ChangeShapes Go.WideShapes Go.ChangeAt Go.RowKit Go.Joins Go.Deep
open Go.Proofs.YtjnpcddbgfmpcaaGreatDoor.Ft (V3 vV okV ValsAt inlineB legalB packF codeF typedF allF oneF allAt headF fitsL fitsV fitsF belowW isA unpackF)
def nV (d:List UInt8) (typ wid at_:Int) (t:Tr):Bool:=if bF typ=true then ZL d typ 0 0 wid at_ t else QN d typ wid at_ t
theorem sO {typ:Int} (h:bF typ=true):typ=4∨typ=5∨typ=25∨typ=6∨typ=7:=by
 unfold bF at h
 simp only[Bool.or_eq_true,decide_eq_true_eq] at h
 omega
theorem sP {d:List UInt8} {typ pos par wid at_:Int} {t:Tr} (h:bF typ=true):ZL d typ pos par wid at_ t=ZL d typ 0 0 wid at_ t:=by
 rcases sO h with rfl|rfl|rfl|rfl|rfl<;>rfl
def nearV (v:V3) (t:Tr):Prop:=
 (v=(0,1,0)∧t=.mk 1 0 0 EMB [] [])∨(∃b:Bool,v=zW b∧t=.mk 2 (if b then 1 else 0) 0 EMB [] []) ∨
 (∃n,gU n∧v=y4 n∧t=.mk 3 n 0 EMB [] [])∨(∃u,gV u∧v=y5 u∧t=.mk 4 0 u EMB [] [])
structure farV (d:List UInt8) (v:V3) (t:Tr):Prop where
 far:inlineB v.1=false
 legal:legalB v.1=true
 isw:isW v.2.1=true
 n0:0≤v.2.2
 n1:v.2.2≤d.length
 lim:v.2.2 - vZ v.1*v.2.1 < d.length
 body:∀e,nV (d++e) v.1 v.2.1 v.2.2 t=true
def vB (d:List UInt8) (v:V3) (t:Tr):Prop:=nearV v t∨farV d v t
theorem vB.more {d:List UInt8} {v:V3} {t:Tr} (h:vB d v t) (e:List UInt8):vB (d++e) v t:=by
 rcases h with h|h
 ·exact .inl h
 ·refine .inr ⟨h.far,h.legal,h.isw,h.n0,?_,?_,fun f=>by rw[List.append_assoc];exact h.body _⟩
  ·have:=h.n1;rw[List.length_append];omega
  ·have:=h.lim;rw[List.length_append];omega
theorem JX {v:V3} {t:Tr} (h:nearV v t):inlineB v.1=true∧legalB v.1=true∧isW v.2.1=true∧0≤v.2.2∧v.2.2≤18446744073709551615:=by
 rcases h with ⟨rfl,_⟩|⟨b,rfl,_⟩|⟨n,hn,rfl,_⟩|⟨u,hu,rfl,_⟩
 ·exact⟨by decide,by decide,rfl,by decide,by decide⟩
 ·cases b<;>exact⟨by decide,by decide,rfl,by decide,by decide⟩
 ·exact⟨by show inlineB 1=true;decide,by show legalB 1=true;decide,cF n,by show 0≤n % _;omega,by show n % _≤_;omega⟩
 ·unfold gV at hu
  exact⟨by show inlineB 2=true;decide,by show legalB 2=true;decide,ZZ _,hu.1,hu.2⟩
theorem vB.near {d:List UInt8} {v:V3} {t:Tr} (h:vB d v t) (hd:d.length≤1048576):JG d.length v:=by
 rcases h with h|h
 ·obtain⟨h1,h2,h3,h4,h5⟩:=JX h
  refine⟨?_,⟨h4,h5⟩,fun _=>(kN h3).2,fun e=>(by rw[h1] at e;cases e)⟩
  unfold jW;rw[if_pos h2,if_pos h1]
 ·have h1:=h.n1
  refine⟨?_,And.intro h.n0 (by omega),fun e=>(by rw[h.far] at e;cases e),fun _=>h.n1⟩
  unfold jW;rw[if_pos h.legal,if_neg (by rw[h.far];decide),if_pos h.isw]
theorem sgn_num {n x:Int} (hx:isW x=true) (hn:gU n) (hw:ZV n≤x):sgnF (k7 (n % 18446744073709551616) x) x=n:=by
 unfold gU at hn
 unfold ZV at hw
 rcases kH hx with rfl|rfl|rfl|rfl
 all_goals
  unfold k7 sgnF
  simp only[Int.reduceToNat,Nat.reduceMul,Nat.reduceSub,Int.reducePow]
  split at hw
  ·split<;>omega
  split at hw
  ·split<;>omega
  split at hw
  ·split<;>omega
  ·split<;>omega
theorem low_uns {u x:Int} (hx:isW x=true) (hu:gV u) (hw:Ft.widthOf u.toNat≤x):k7 u x=u:=by
 unfold gV at hu
 unfold Ft.widthOf at hw
 have p8:(2:Nat) ^ 8=256:=by decide
 have p16:(2:Nat) ^ 16=65536:=by decide
 have p32:(2:Nat) ^ 32=4294967296:=by decide
 rw[p8,p16,p32] at hw
 rcases kH hx with rfl|rfl|rfl|rfl
 all_goals
  unfold k7
  simp only[Int.reduceToNat,Nat.reduceMul,Int.reducePow]
  repeat' split at hw
  all_goals omega
theorem JL (k n u:Int) (s:ByteArray):YR (.mk k n u s [] []) k n u s=true:=bare_iff.2 rfl
theorem cJ {d:List UInt8} {p x u:Int} (h:yX d p x=(u,0)) (h1:u≤9007199254740992):qV d p x=(u,true):=by
 unfold qV
 rw[h]
 simp only[Int.min_eq_left h1,decide_true,Bool.true_and,decide_eq_true h1]
theorem sQ {x p:Int} {v:V3} (h:inlineB v.1=false):JF x p v=p - v.2.2:=by unfold JF;rw[h];simp
theorem pC {x p:Int} {v:V3} (h:inlineB v.1=true):JF x p v=k7 v.2.2 x:=by unfold JF;rw[if_pos h]
theorem eR {d0 e:List UInt8} {v:V3} {t:Tr} {p x lim:Int} (h:vB d0 v t) (hx:isW x=true) (hl:yX (d0++e) p x=(JF x p v,0)) (hi:inlineB v.1=true→v.2.1≤x) (hp:(d0.length:Int)≤p) (hp2:p≤9007199254740992) (hlim:(d0.length:Int)≤lim) :
 VV (d0++e) v.1 p x (if inlineB v.1 then x else v.2.1) lim t=true:=by
 rw[aN]
 rcases h with h|h
 ·obtain⟨h1,h2,h3,h4,h5⟩:=JX h
  rw[if_pos h1,if_neg (by rw[hx,h2];decide),if_pos h1]
  have hwd:=hi h1
  rw[pC h1] at hl
  rcases h with ⟨rfl,rfl⟩|⟨b,rfl,rfl⟩|⟨n,hn,rfl,rfl⟩|⟨u,hu,rfl,rfl⟩
  ·show nullF _ p x _=true
   unfold nullF
   rw[hl,JL]
   rfl
  ·show boolF _ p x _=true
   unfold boolF
   rw[hl]
   have hp:=kN hx
   have h0:k7 (zW b).2.2 x=if b then 1 else 0:=by
    rcases kH hx with rfl|rfl|rfl|rfl<;>cases b<;>decide
   rw[h0]
   cases b
   ·simp only[Bool.false_eq_true,if_false,if_true];rw[JL];rfl
   ·simp only[if_true];rw[if_neg (by decide),JL];rfl
  ·rw[show ZL (d0++e) (y4 n).1 p x x 0 (.mk 3 n 0 EMB [] [])=intF (d0++e) p x (.mk 3 n 0 EMB [] []) from rfl]
   unfold intF QL
   rw[mI hl,hl]
   rw[show (y4 n).2.2=n % 18446744073709551616 from rfl,sgn_num hx hn hwd]
   simp only[Tr.kind,JL,ne_eq,not_true_eq_false,if_false,if_true,decide_true,Bool.and_self]
  ·rw[show ZL (d0++e) (y5 u).1 p x x 0 (.mk 4 0 u EMB [] [])=uintF (d0++e) p x (.mk 4 0 u EMB [] []) from rfl]
   unfold uintF QL
   rw[hl]
   rw[show (y5 u).2.2=u from rfl,low_uns hx hu hwd]
   simp only[Tr.kind,JL,ne_eq,not_true_eq_false,if_false,decide_true,Bool.and_self]
   rw[if_neg (by decide)]
   rfl
 ·rw[h.far]
  simp only[Bool.false_eq_true,if_false]
  rw[if_neg (by rw[hx,h.isw,h.legal];decide)]
  have hN:=h.n0
  have hN1:=h.n1
  rw[sQ h.far] at hl
  have hnum:=cJ hl (by omega)
  have hfb:bG (d0++e) v.1 p x v.2.1 lim=true:=by
   unfold bG
   rw[hnum]
   have:=h.lim
   simp only[Bool.true_and,Bool.and_eq_true,decide_eq_true_eq]
   omega
  rw[if_neg (by rw[hfb];decide),hnum]
  have hb:=h.body e
  unfold nV at hb
  rw[show p - (p - v.2.2,true).1=v.2.2 by simp only;omega]
  split
  ·rename_i hf
   rw[if_pos hf] at hb
   rw[sP hf];exact hb
  ·rename_i hf
   rw[if_neg hf] at hb
   exact hb
theorem sR {d:List UInt8} {p x w1 w2 lim:Int} {t:Tr} (h1:isW w1=true) (h2:isW w2=true):VV d 4 p x w1 lim t=VV d 4 p x w2 lim t:=by
 have ha:vZ 4=0:=by decide
 have hfb:bG d 4 p x w1 lim=bG d 4 p x w2 lim:=by unfold bG;rw[ha];simp
 rw[aN,aN,h1,h2,hfb]
 rfl
structure HeldB (x p:Int) (jS:Bool) (b X:List UInt8) (l:List V3):Prop where
 head:X.take b.length=b
 len:(X.length:Int)=p+x*l.length+(if jS then (l.length:Int) else 0)
 elem:∀(k:Nat) (v:V3),l[k]? = some v→yX X (p+k*x) x=(JF x (p+k*x) v,0)
 tag:jS=true→∀(k:Nat) (v:V3),l[k]? = some v→X[(p+l.length*x).toNat+k]? = some (qD x v)
theorem heldB {b:List UInt8} {l:List V3} {x p:Int} {len jS:Bool} (hn:b.length≤1048576) (hl:l.length≤1048576) (h:∀v∈l,JG b.length v) (hx:allF l (0,0,0) b.length (if len then 1 else 0)=x) (hp:(b.length:Int)+j9 b x+(if len then x else 0)=p) :
 isW x=true∧HeldB x p jS b (b++(yD x len jS b l).flatten) l∧(p - (if len then x else 0)) % x=0∧(b.length:Int)≤p - (if len then x else 0)∧p - (if len then x else 0) < b.length+x∧(len=true→yX (b++(yD x len jS b l).flatten) (p - x) x=((l.length:Int),0))∧(∀v∈l,inlineB v.1=true→v.2.1≤x):=by
 obtain⟨_,x0,hw,qN⟩:=YF (n:=b.length) (ahead:=if len then 1 else 0) (by cases len<;>simp) (by omega) (by omega) hl h
 rw[hx] at hw qN
 have hwp:=kN hw
 have hfit:fitsL l b.length (if len then 1 else 0) x=true:=by
  have h:=qN
  unfold allAt at h
  simp only[Bool.and_eq_true] at h
  exact h.2
 have hpad:=QG (l:=b) hw
 have hpe:=bQ hw b
 have hfe:fitE x p l:=QW hw l (if len then 1 else 0) p (by rw[← hp,hpe];cases len<;>simp) (by cases len<;>simp) hfit
 have hlenf:len=true→(l.length:Int) < 2 ^ (8*x.toNat):=by
  intro hl1
  subst hl1
  have h:=qN
  unfold allAt headF at h
  simp only[Bool.and_eq_true,belowW] at h
  have:=h.1.1
  simpa using this
 have hpieces:(yD x len jS b l).flatten=(kA (j9 b x)++(if len then kI x.toNat l.length else []))++(J1 x p l).flatten++(if jS then l.map (qD x) else []):=by
  unfold yD
  rw[hp]
  cases len<;>cases jS<;>simp[QX]
 have hAl:((b++(kA (j9 b x)++(if len then kI x.toNat l.length else []))).length:Int)=p:=by
  rw[← hp]
  cases len<;>simp[jY,j7]<;>omega
 have hEl:=vU hw l p
 refine⟨hw,⟨?_,?_,?_,?_⟩,?_,?_,?_,?_,?_⟩
 ·exact List.take_left' rfl
 ·rw[hpieces]
  rw[← List.append_assoc,← List.append_assoc,List.length_append,List.length_append]
  cases jS
  ·simp only[Bool.false_eq_true,if_false,List.length_nil] at hAl⊢;omega
  ·simp only[if_true,List.length_map] at hAl⊢;omega
 ·intro k v hk
  obtain⟨A,C,hA,hAk⟩:=fT hw l p k v hk
  have hb:=bR l p k v hfe hk
  refine KJ (A:=b++(kA (j9 b x)++(if len then kI x.toNat l.length else []))++A) (C:=C++(if jS then l.map (qD x) else [])) hw ?_ ?_ hb.1 hb.2
  ·rw[hpieces,hA];simp only[List.append_assoc]
  ·rw[List.length_append];omega
 ·intro ht k v hk
  subst ht
  have hXl:(b++(kA (j9 b x)++(if len then kI x.toNat l.length else []))++(J1 x p l).flatten).length=(p+l.length*x).toNat:=by
   rw[List.length_append]
   have:(l.length:Int)*x=x*l.length:=Int.mul_comm _ _
   omega
  rw[hpieces,← List.append_assoc,← List.append_assoc,← hXl,List.getElem?_append_right (by omega),Nat.add_sub_cancel_left,if_pos rfl,List.getElem?_map,hk]
  rfl
 ·have:p - (if len then x else 0)=((b.length:Int)+x - 1) / x*x:=by rw[← hp,← hpe];cases len<;>simp<;>omega
  rw[this]
  exact Int.mul_emod_left _ _
 ·rw[← hp];cases len<;>simp<;>omega
 ·rw[← hp];cases len<;>simp<;>omega
 ·intro hl1
  subst hl1
  simp only[if_true] at hp hpieces hAl⊢
  refine KJ (A:=b++kA (j9 b x)) (C:=(J1 x p l).flatten++(if jS then l.map (qD x) else [])) hw ?_ ?_ (by omega) (hlenf rfl)
  ·rw[hpieces];simp only[List.append_assoc,Int.toNat_natCast]
  ·rw[List.length_append,jY];omega
 ·intro v hv hi
  obtain⟨k,hk,hkv⟩:=List.getElem_of_mem hv
  have:=VI l _ _ x k v hfit (by rw[List.getElem?_eq_getElem hk,hkv])
  unfold fitsV fitsF at this
  rw[if_pos hi] at this
  exact of_decide_eq_true this
def zP (d:List UInt8) (l:List V3) (ts:List Tr):Prop:=l.length=ts.length∧∀(i:Nat) v t,l[i]? = some v→ts[i]? = some t→vB d v t
theorem zP.more {d:List UInt8} {l:List V3} {ts:List Tr} (h:zP d l ts) (e:List UInt8):zP (d++e) l ts:=⟨h.1,fun i v t hv ht=>(h.2 i v t hv ht).more e⟩
theorem zP.near {d:List UInt8} {l:List V3} {ts:List Tr} (h:zP d l ts) (hd:d.length≤1048576):∀v∈l,JG d.length v:=by
 intro v hv
 obtain⟨k,hk,rfl⟩:=List.getElem_of_mem hv
 have hk2:k < ts.length:=by rw[← h.1];exact hk
 exact (h.2 k _ _ (List.getElem?_eq_getElem hk) (List.getElem?_eq_getElem hk2)).near hd
theorem zP.nil (d:List UInt8):zP d [] []:=⟨rfl,fun i v t h=>by simp at h⟩
theorem zP.cons {d:List UInt8} {v:V3} {t:Tr} {l:List V3} {ts:List Tr} (h:vB d v t) (hl:zP d l ts):zP d (v::l) (t::ts):=by
 refine⟨by simp[hl.1],fun i x y hx hy=>?_⟩
 cases i with
 | zero=>simp at hx hy;subst hx hy;exact h
 | succ i=>exact hl.2 i x y (by simpa using hx) (by simpa using hy)
theorem lC {X e:List UInt8} {i:Nat} {c:UInt8} (h:X[i]? = some c):(X++e)[i]? = some c:=by
 rw[List.getElem?_append_left (List.getElem?_eq_some_iff.1 h).1];exact h
theorem eS {b:List UInt8} {l:List V3} {ts:List Tr} {x p typ kd many:Int} {len jS:Bool} (ht:zP b l ts) (hn:b.length≤1048576) (hl:l.length≤65536) (hx:allF l (0,0,0) b.length (if len then 1 else 0)=x) (hp:(b.length:Int)+j9 b x+(if len then x else 0)=p)
 (hs:yI typ=(kd,many)) (h17:kd≠17) (hg:JA kd=jS) (hm:if len then many=0 else many≠0∧(ts.length:Int)=many) (hty:jS=false→∀v∈l,v.1=(Ft.elemF typ).1∧(inlineB v.1=true∨v.1=4)) (e:List UInt8) :
 QN (b++(yD x len jS b l).flatten++e) typ x p (.mk kd 0 0 EMB [] ts)=true:=by
 obtain⟨hw,hH,hmod,hge,hlt,kE,hin⟩:=heldB (jS:=jS) hn (by omega) (ht.near hn) hx hp
 have hwp:=kN hw
 have hpl:(b.length:Int)≤p:=by cases len<;>simp at hge<;>omega
 have hpu:p < b.length+x+x:=by cases len<;>simp at hlt<;>omega
 have hmul0:0≤x*(l.length:Int):=Int.mul_nonneg (by omega) (by omega)
 have hmul8:x*(l.length:Int)≤8*l.length:=Int.mul_le_mul_of_nonneg_right hwp.2 (by omega)
 have hcomm:(l.length:Int)*x=x*l.length:=Int.mul_comm _ _
 obtain⟨hl1,hl2⟩:=ht
 obtain⟨R,hR⟩:∃R,(yD x len jS b l).flatten=R:=⟨_,rfl⟩
 rw[hR] at hH kE⊢
 have hmany:(kd,many).2=many:=rfl
 unfold QN
 simp only[Tr.kids,Bool.and_eq_true]
 refine⟨front_iff.2 ⟨by rw[hs],rfl,rfl,rfl,fun _=>rfl,?_,?_,?_,fun h=>by rw[hs] at h;exact absurd h h17⟩,kids_iff.2 fun j t hj=>?_⟩
 ·cases len
  ·simpa using hmod
  ·simp only[if_true] at hmod
   have:p=(p - x)+x:=by omega
   rw[this,Int.add_emod_right];exact hmod
 ·rw[hs,hg,← hl1]
  have:=hH.len
  rw[List.length_append]
  cases jS
  ·simp only[Bool.false_eq_true,if_false] at this⊢;omega
  ·simp only[if_true] at this⊢;omega
 ·rw[hs]
  dsimp only
  cases len
  ·simp only[Bool.false_eq_true,if_false] at hm
   rw[if_neg hm.1];exact hm.2
  ·simp only[if_true] at hm
   rw[if_pos hm,cJ (vI (kE rfl)) (by omega),hl1]
   exact⟨rfl,rfl⟩
 ·rw[Nat.zero_add]
  obtain⟨v,hv⟩:∃v,l[j]? = some v:=by
   have:j < ts.length:=(List.getElem?_eq_some_iff.1 hj).1
   exact⟨_,List.getElem?_eq_getElem (by omega)⟩
  have hjl:j < l.length:=(List.getElem?_eq_some_iff.1 hv).1
  have htv:=hl2 j v t hv hj
  have hjx:0≤(j:Int)*x:=Int.mul_nonneg (by omega) (by omega)
  have hjx8:(j:Int)*x≤j*8:=Int.mul_le_mul_of_nonneg_left hwp.2 (by omega)
  have hload:=vI (Z:=e) (hH.elem j v hv)
  have hfirst:(b.length:Int)≤ZN typ x p:=by
   unfold ZN
   rw[hs]
   dsimp only
   rw[if_neg h17]
   cases len
   ·simp only[Bool.false_eq_true,if_false] at hm
    rw[if_neg hm.1];exact hpl
   ·simp only[if_true] at hm hge
    rw[if_pos hm];exact hge
  have hE:=eR (e:=R++e) htv hw (by rw[← List.append_assoc];exact hload) (hin v (List.mem_of_getElem? hv)) (by omega) (by omega) hfirst
  rw[← List.append_assoc] at hE
  unfold KT
  rw[hs,hg,← hl1]
  cases jS
  ·simp only[Bool.false_eq_true,if_false]
   obtain⟨e1,e2⟩:=hty rfl v (List.mem_of_getElem? hv)
   rw[← e1]
   refine⟨trivial,?_⟩
   rcases e2 with e2|e2
   ·rw[if_pos e2] at hE;exact hE
   ·have hi4:inlineB v.1=false:=by rw[e2];decide
    rw[hi4] at hE
    simp only[Bool.false_eq_true,if_false] at hE
    have hw4:isW v.2.1=true:=by
     rcases htv with h|h
     ·exact (JX h).2.2.1
     ·exact h.isw
    rw[e2] at hE⊢
    rw[sR hw hw4];exact hE
  ·simp only[if_true]
   have hT:=lC (e:=e) (hH.tag rfl j v hv)
   have hq:(p+(l.length:Int)*x+(j:Int)).toNat=(p+(l.length:Int)*x).toNat+j:=by omega
   rw[hq,hT]
   simp only[Option.getD_some]
   have hle:jW v=0:=(htv.near hn).1
   rw[bS hw hle]
   exact⟨rfl,hE⟩
structure aF (d:List UInt8) (v:V3) (names:List ByteArray):Prop where
 typ:v.1=14
 isw:isW v.2.1=true
 n0:0≤v.2.2
 n1:v.2.2≤d.length
 lim:v.2.2 - v.2.1 < d.length
 body:∀e,fL (d++e) v.2.1 v.2.2 names=true
theorem aF.more {d:List UInt8} {v:V3} {names:List ByteArray} (h:aF d v names) (e:List UInt8):aF (d++e) v names:=
 ⟨h.typ,h.isw,h.n0,by have:=h.n1;rw[List.length_append];omega,by have:=h.lim;rw[List.length_append];omega,fun f=>by rw[List.append_assoc];exact h.body _⟩
def YM (k:ByteArray):Tr:=.mk 5 0 0 k [] []
theorem mT {b:List UInt8} {l:List V3} {names:List ByteArray} {x p:Int} (ht:zP b l (names.map YM)) (h4:∀v∈l,v.1=4) (hn:b.length≤1048576) (hl:l.length≤65536) (hx:allF l (0,0,0) b.length 1=x) (hp:(b.length:Int)+j9 b x+x=p) (e:List UInt8) :
 fL (b++(yD x true false b l).flatten++e) x p names=true:=by
 have hL:=eS (len:=true) (jS:=false) (typ:=14) (kd:=13) (many:=0) ht hn hl (by simpa using hx) (by simpa using hp) (by decide) (by decide) (by decide) (by simp) (fun _ v hv=>⟨by rw[h4 v hv];decide,.inr (h4 v hv)⟩) e
 unfold QN at hL
 simp only[Tr.kids,Bool.and_eq_true] at hL
 obtain⟨h1,h2⟩:=hL
 have hF:=front_iff.1 h1
 have hfx:=hF.fix
 have hrm:=hF.room
 have hmy:=hF.many
 have e14:yI 14=(13,0):=by decide
 rw[e14] at hrm hmy
 simp only[if_true,List.length_map] at hmy
 rw[List.length_map,show JA (13,0).1=false by decide] at hrm
 simp only[Bool.false_eq_true,if_false,Int.add_zero] at hrm
 generalize b++(yD x true false b l).flatten++e=D at *
 unfold fL
 simp only[Bool.and_eq_true,decide_eq_true_eq]
 refine⟨⟨⟨hfx,hrm⟩,hmy⟩,names_iff.2 fun j k hk=>?_⟩
 have hkk:=kids_iff.1 h2 j (YM k) (by rw[List.getElem?_map,hk];rfl)
 unfold KT at hkk
 rw[e14,show JA (13,0).1=false by decide] at hkk
 simp only[Bool.false_eq_true,if_false,true_and,Nat.zero_add,show (Ft.elemF 14).1=4 by decide] at hkk
 have hfirst:ZN 14 x p=p - x:=by unfold ZN;rw[e14];rfl
 rw[hfirst] at hkk
 rw[Nat.zero_add]
 obtain⟨_,hc⟩:=l8 hkk
 rcases hc with ⟨hnr,_⟩|⟨_,hfb,_,hlk⟩|⟨_,_,hft,_⟩
 ·exact absurd hnr (by decide)
 ·unfold fK
  rw[hfb,Bool.true_and]
  have hkf:keyF D (p+(j:Int)*x - (qV D (p+(j:Int)*x) x).1) (YM k)=true:=hlk
  unfold keyF at hkf
  simp only[Bool.and_eq_true] at hkf⊢
  exact⟨hkf.1.2,hkf.2⟩
 ·exact absurd hft (by decide)
theorem sS {b:List UInt8} {k:V3} {l:List V3} {ts:List Tr} {names:List ByteArray} {x p:Int} (ht:zP b l ts) (hk:aF b k names) (hi:incB names=true) (hnl:names.length=ts.length) (hn:b.length≤1048576) (hl:l.length≤65536)
 (hx:allF l k b.length 3=x) (hp:(b.length:Int)+j9 b x+3*x=p) (e:List UInt8):QN (b++(qE x k b l).flatten++e) 9 x p (.mk 17 0 0 EMB names ts)=true:=by
 have hK:V5 b.length k:=⟨hk.typ,hk.isw,hk.n0,hk.n1⟩
 obtain⟨hw,hH,hmod,hge,hlt,hin,hkn⟩:=heldM hn (by omega) (ht.near hn) hK hx hp
 have hwp:=kN hw
 have hkp:=kN hk.isw
 have hmul0:0≤x*(l.length:Int):=Int.mul_nonneg (by omega) (by omega)
 have hmul8:x*(l.length:Int)≤8*l.length:=Int.mul_le_mul_of_nonneg_right hwp.2 (by omega)
 have hcomm:(l.length:Int)*x=x*l.length:=Int.mul_comm _ _
 obtain⟨hl1,hl2⟩:=ht
 obtain⟨R,hR⟩:∃R,(qE x k b l).flatten=R:=⟨_,rfl⟩
 rw[hR] at hH⊢
 have hs:yI 9=(17,0):=by decide
 have hg:JA 17=true:=by decide
 have hk0:=hk.n0
 have hk1:=hk.n1
 have hk2:=hk.lim
 have hbody:=hk.body (R++e)
 rw[← List.append_assoc] at hbody
 unfold QN
 simp only[Tr.kids,Bool.and_eq_true]
 refine⟨front_iff.2 ⟨by rw[hs],rfl,rfl,rfl,fun h=>absurd (by rw[hs]) h,?_,?_,?_,fun _=>⟨by omega,hnl,?_⟩⟩,kids_iff.2 fun j t hj=>?_⟩
 ·have:p=(p - 3*x)+3*x:=by omega
  rw[this,Int.add_mul_emod_self_right];exact hmod
 ·rw[hs,hg,← hl1]
  have:=hH.len
  rw[List.length_append]
  simp only[if_true]
  omega
 ·rw[hs]
  dsimp only
  rw[if_pos rfl,cJ (vI hH.many) (by omega),hl1]
  exact⟨rfl,rfl⟩
 ·have n1:=cJ (vI (Z:=e) hH.off) (by omega)
  have n2:=cJ (vI (Z:=e) hH.wide) (by omega)
  have e2:p - 3*x+x=p - 2*x:=by omega
  unfold keysF
  rw[e2,n1,n2]
  simp only[hk.isw,hi,Bool.true_and,Bool.and_true,Bool.and_eq_true,decide_eq_true_eq]
  have e3:p - 3*x - (p - 3*x - k.2.2)=k.2.2:=by omega
  rw[e3]
  exact⟨⟨by omega,by omega⟩,hbody⟩
 ·rw[Nat.zero_add]
  obtain⟨v,hv⟩:∃v,l[j]? = some v:=by
   have:j < ts.length:=(List.getElem?_eq_some_iff.1 hj).1
   exact⟨_,List.getElem?_eq_getElem (by omega)⟩
  have hjl:j < l.length:=(List.getElem?_eq_some_iff.1 hv).1
  have htv:=hl2 j v t hv hj
  have hjx:0≤(j:Int)*x:=Int.mul_nonneg (by omega) (by omega)
  have hjx8:(j:Int)*x≤j*8:=Int.mul_le_mul_of_nonneg_left hwp.2 (by omega)
  have hload:=vI (Z:=e) (hH.elem j v hv)
  have hfirst:(b.length:Int)≤ZN 9 x p:=by
   unfold ZN
   rw[hs]
   simp only[if_true]
   exact hge
  have hE:=eR (e:=R++e) htv hw (by rw[← List.append_assoc];exact hload) (hin v (List.mem_of_getElem? hv)) (by omega) (by omega) hfirst
  rw[← List.append_assoc] at hE
  unfold KT
  rw[hs,hg,← hl1]
  simp only[if_true]
  have hT:=lC (e:=e) (hH.tag j v hv)
  have hq:(p+(l.length:Int)*x+(j:Int)).toNat=(p+(l.length:Int)*x).toNat+j:=by omega
  rw[hq,hT]
  simp only[Option.getD_some]
  have hle:jW v=0:=(htv.near hn).1
  rw[bS hw hle]
  exact⟨rfl,hE⟩
structure Inv (x:BS):Prop where
 e0:x.e=0
 s0:x.s.2=0
 keys:∀z∈x.keys,vB x.s.1 (4,1,z.2) (YM z.1)∧zN x.names z.2=z.1
 texts:∀z∈x.texts,vB x.s.1 (5,Ft.widthOf z.1.size,z.2) (.mk 6 0 0 z.1 [] [])
 lists:∀z∈x.lists,0≤z.2∧∃v names,x.vals[z.2.toNat]? = some v∧aF x.s.1 v names∧j4 names=z.1∧∀k∈names,yL k=0
 names:∀z∈x.names,z.1 < x.s.1.length
 vals:x.vals.length≤x.s.1.length
theorem Inv.s {x:BS} (h:Inv x):x.s=(x.s.1,0):=by
 have:=h.s0
 rw[← this]
theorem Inv.new:Inv BS.new:=⟨rfl,rfl,fun z h=>absurd h List.not_mem_nil,fun z h=>absurd h List.not_mem_nil,fun z h=>absurd h List.not_mem_nil,fun z h=>absurd h List.not_mem_nil,Nat.zero_le _⟩
theorem Inv.ext {x:BS} (h:Inv x) (e:List UInt8) (k:List V3):Inv {x with s:=(x.s.1++e,0),stk:=k}:=
 ⟨h.e0,rfl,fun z hz=>⟨(h.keys z hz).1.more e,(h.keys z hz).2⟩,fun z hz=>(h.texts z hz).more e,fun z hz=>by
  obtain⟨h0,v,nm,h1,h2,h3⟩:=h.lists z hz
  exact⟨h0,v,nm,h1,h2.more e,h3⟩,fun z hz=>by
  have:=h.names z hz
  show z.1 < ((x.s.1++e).length:Int)
  rw[List.length_append];omega,by
  have:=h.vals
  show x.vals.length≤(x.s.1++e).length
  rw[List.length_append];omega⟩
theorem Inv.stk {x:BS} (h:Inv x) (k:List V3):Inv {x with stk:=k}:=by
 have:=h.ext [] k
 rw[List.append_nil,← h.s] at this
 exact this
structure cX (x x':BS) (t:Tr) (c:Nat):Prop where
 inv:Inv x'
 grow:∃e,x'.s.1=x.s.1++e∧e.length≤c
 push:∃v,x'.stk=x.stk++[v]∧vB x'.s.1 v t
 nms:∀a:Int,a < x.s.1.length→zN x'.names a=zN x.names a
theorem lD {l:k8} {k:ByteArray} {a:Int} (h:zF l k=(a,true)):(k,a)∈l:=by
 unfold zF at h
 split at h
 ·rename_i hh
  have hlt:=aO hh
  have hg:(KG l).getD (kZ l k) 0=(l[kZ l k]).2:=by simp[KG,List.getD_eq_getElem?_getD,hlt]
  rw[hg] at h
  injection h with h1 h2
  have h3:=of_decide_eq_true hh
  unfold yB at h3
  rw[List.getElem?_map,List.getElem?_eq_getElem hlt] at h3
  simp only[Option.map_some,Option.some.injEq] at h3
  have:l[kZ l k]=(k,a):=Prod.ext h3 h1
  rw[← this]
  exact List.getElem_mem hlt
 ·injection h with _ h2;cases h2
theorem eT {names:List (Int × ByteArray)} {a b:Int} {k:ByteArray} (h:a≠b):zN (names++[(b,k)]) a=zN names a:=by
 unfold zN
 rw[List.find?_append]
 cases names.find? (fun q=>decide (q.1=a)) with
 | some q=>rfl
 | none=>
  have:List.find? (fun q:Int × ByteArray=>decide (q.1=a)) [(b,k)]=none:=by simp[Ne.symm h]
  rw[this];rfl
theorem eU {names:List (Int × ByteArray)} {b:Int} {k:ByteArray} (h:∀z∈names,z.1≠b):zN (names++[(b,k)]) b=k:=by
 unfold zN
 rw[List.find?_append]
 have:names.find? (fun q=>decide (q.1=b))=none:=by
  rw[List.find?_eq_none]
  intro z hz
  simpa using h z hz
 rw[this]
 simp
theorem VR (k:ByteArray):jO [k,⟨#[0]⟩]=(cY k).data.toList:=by
 rw[oF]
 simp[jO]
theorem sT {b e:List UInt8} {s:ByteArray} {at_:Int} (h:at_=b.length):hasF (b++s.data.toList++e) at_ s=true:=by
 subst h
 rw[has_iff]
 refine⟨by omega,?_,?_⟩
 ·rw[List.length_append,List.length_append,YD];omega
 ·rw[Int.toNat_natCast,List.append_assoc,List.drop_left,← YD,List.take_left' rfl]
theorem pD {b:List UInt8} {k:ByteArray} (hk:yL k=0):vB (b++jO [k,⟨#[0]⟩]) (4,1,(b.length:Int)) (YM k):=by
 refine .inr ⟨by show inlineB 4=false;decide,by show legalB 4=true;decide,rfl,by show (0:Int)≤b.length;omega,?_,?_,fun e=>?_⟩
 ·show (b.length:Int)≤_
  rw[List.length_append];omega
 ·show (b.length:Int) - vZ 4*1 < _
  rw[show vZ 4=0 by decide,List.length_append]
  have:=Y5 k
  omega
 ·show keyF _ _ _=true
  unfold keyF
  rw[VR]
  show (YR (YM k) 5 0 0 k && decide (yL k=0) && hasF (b++(cY k).data.toList++e) (b.length:Int) (cY k))=true
  rw[sT rfl]
  simp only[YM,JL,hk,decide_true,Bool.and_self]
theorem Y8 {x:BS} (h:x.e=0):x.fail 0=x:=by
 obtain⟨s,e,stk,a,b,c,d,f⟩:=x
 dsimp only at h
 subst h
 rfl
theorem put_ok {most:Int} {sh:Bool} {k:ByteArray} {x:BS} (h:Inv x) (hk:yL k=0) (hr:(x.s.1.length:Int)+(k.size+1)≤most) :
 ∃a e,(x.put most sh k).1=(4,1,a)∧Inv (x.put most sh k).2∧(x.put most sh k).2.s.1=x.s.1++e∧e.length≤k.size+1∧(x.put most sh k).2.stk=x.stk∧vB (x.put most sh k).2.s.1 (4,1,a) (YM k)∧zN (x.put most sh k).2.names a=k ∧
  ∀c:Int,c < x.s.1.length→zN (x.put most sh k).2.names c=zN x.names c:=by
 unfold BS.put
 dsimp only
 rw[hk,Y8 h.e0,if_neg (by rw[h.e0];decide)]
 by_cases hg:((zF x.keys k).2 && sh)=true
 ·rw[if_pos hg]
  rw[Bool.and_eq_true] at hg
  have hm:zF x.keys k=((zF x.keys k).1,true):=by rw[← hg.1]
  have h1:=h.keys _ (lD hm)
  exact⟨_,[],rfl,h,by simp,Nat.zero_le _,rfl,h1.1,h1.2,fun c _=>rfl⟩
 ·rw[if_neg hg]
  have hsz:(jO [k,⟨#[0]⟩]).length=k.size+1:=by rw[VR,YD,dU]
  have hs:j6 most (jO [k,⟨#[0]⟩]) x.s=(x.s.1++jO [k,⟨#[0]⟩],0):=by
   have:=q7 most x.s.1 (jO [k,⟨#[0]⟩]) (by rw[hsz];omega)
   rw[← h.s] at this
   exact this
  have ht:=pD (b:=x.s.1) hk
  have hnb:∀z∈x.names,z.1≠(x.s.1.length:Int):=fun z hz e=>by have:=h.names z hz;omega
  refine⟨_,jO [k,⟨#[0]⟩],rfl,?_,by dsimp only;rw[hs],by rw[hsz];exact Nat.le_refl _,rfl,by dsimp only;rw[hs];exact ht,eU hnb,fun c hc=>eT (by omega)⟩
  dsimp only
  rw[hs]
  refine⟨rfl,rfl,fun z hz=>?_,fun z hz=>(h.texts z hz).more _,fun z hz=>?_,fun z hz=>?_,by have:=h.vals;show x.vals.length≤(x.s.1++_).length;rw[List.length_append];omega⟩
  ·rcases QZ hz with hz|⟨rfl,_⟩
   ·have h1:=h.keys z hz
    have hlt:z.2 < (x.s.1.length:Int):=by
     rcases h1.1 with hq|hq
     ·exact absurd (JX hq).1 (by show ¬inlineB 4=true;decide)
     ·have:=hq.lim
      rw[show ((4:Int),(1:Int),z.2).1=4 from rfl,show vZ 4=0 by decide] at this
      simpa using this
    refine⟨h1.1.more _,?_⟩
    show zN (x.names++[((x.s.1.length:Int),k)]) z.2=z.1
    rw[eT (by omega)]
    exact h1.2
   ·exact⟨ht,eU hnb⟩
  ·obtain⟨h0,v,nm,h1,h2,h3⟩:=h.lists z hz
   exact⟨h0,v,nm,h1,h2.more _,h3⟩
  ·show z.1 < ((x.s.1++jO [k,⟨#[0]⟩]).length:Int)
   rw[List.length_append,hsz]
   rcases List.mem_append.1 hz with hz|hz
   ·have:=h.names z hz;omega
   ·obtain rfl:=List.mem_singleton.1 hz
    show (x.s.1.length:Int) < _
    omega
theorem Q3 {x:BS} (h:Inv x) (v:V3) (hl:x.stk.length+1≤65536):x.push v={x with stk:=x.stk++[v]}:=aR h.e0 h.s0 hl
theorem Y9 {el:Int} {v:V3} (h:v.1=el) (hl:jW v=0):j5 el v=0:=by
 unfold j5
 rw[h]
 simpa using hl
theorem vec_ok {most elem many typ kd:Int} {len jS:Bool} {T:V3→Int} {l:List V3} {ts:List Tr} {x:BS} (h:Inv x) (ht:zP x.s.1 l ts) (hv:∀s,kW most elem many l s=zE most T len jS typ 0 l s) (hT:∀v∈l,T v=0)
 (hs:yI typ=(kd,if len then 0 else (ts.length:Int))) (h17:kd≠17) (hg:JA kd=jS) (hne:len=false→ts≠[]) (hty:jS=false→∀v∈l,v.1=(Ft.elemF typ).1∧(inlineB v.1=true∨v.1=4))
 (hl:x.stk.length+1≤65536) (hll:l.length≤65536) (hr:(x.s.1.length:Int)+(15+9*l.length:Nat)≤most) (hmost:most≤1048576) (hfar:inlineB typ=false∧legalB typ=true∧bF typ=false∧vZ typ=if len then 1 else 0) :
 cX x (x.vector most elem many l) (.mk kd 0 0 EMB [] ts) (15+9*l.length):=by
 have hb:x.s.1.length≤1048576:=by omega
 obtain⟨b,hbe⟩:∃b,x.s.1=b:=⟨_,rfl⟩
 have hxs:x.s=(b,0):=by rw[h.s,hbe]
 rw[hbe] at ht hr hb
 obtain⟨X,hX⟩:∃X,allF l (0,0,0) b.length (if len then 1 else 0)=X:=⟨_,rfl⟩
 obtain⟨p,hp⟩:∃p,(b.length:Int)+j9 b X+(if len then X else 0)=p:=⟨_,rfl⟩
 obtain⟨hw,hH,hmod,hge,hlt,kE,hin⟩:=heldB (jS:=jS) hb (by omega) (ht.near hb) hX hp
 have hwp:=kN hw
 have hle:=iH hw len jS b l
 have hput:=aP (most:=most) (T:=T) (len:=len) (jS:=jS) (kind:=typ) hT hb (by omega) (ht.near hb) hX (by omega)
 have hpl:=qK hw len jS b l
 have hbody:=eS (many:=if len then 0 else (ts.length:Int)) ht hb hll hX hp hs h17 hg (by cases len<;>simp;exact hne rfl) hty
 rw[hp] at hput
 obtain⟨R,hR⟩:∃R,(yD X len jS b l).flatten=R:=⟨_,rfl⟩
 rw[hR] at hput hpl hH hbody
 have hI:=h.ext R x.stk
 have hx:x.vector most elem many l={x with s:=(b++R,0),stk:=x.stk++[(typ,X,p)]}:=by
  unfold BS.vector
  rw[if_pos h.e0,hv,hxs,hput]
  dsimp only
  rw[hbe] at hI
  rw[Y8 (x:={x with s:=(b++R,0)}) h.e0]
  exact Q3 (x:={x with s:=(b++R,0)}) hI _ hl
 rw[hx]
 have hI2:=h.ext R (x.stk++[(typ,X,p)])
 rw[hbe] at hI2
 have hXl:=hH.len
 have hmul0:0≤X*(l.length:Int):=Int.mul_nonneg (by omega) (by omega)
 refine⟨hI2,⟨R,by rw[hbe],by omega⟩,⟨_,rfl,.inr ⟨hfar.1,hfar.2.1,hw,?_,?_,?_,fun e=>?_⟩⟩,fun a _=>rfl⟩
 ·show 0≤p
  rw[← hp];cases len<;>simp<;>omega
 ·show p≤((b++R).length:Int)
  cases jS<;>simp at hXl<;>simp<;>omega
 ·show p - vZ typ*X < ((b++R).length:Int)
  rw[hfar.2.2.2,hXl]
  cases len
  ·have h1:1≤(l.length:Int):=by
    have:=hne rfl
    have h2:=ht.1
    have:ts.length≠0:=fun e=>this (List.length_eq_zero_iff.1 e)
    omega
   have h2:(1:Int)*1≤X*l.length:=Int.mul_le_mul (by omega) h1 (by omega) (by omega)
   cases jS<;>simp<;>omega
  ·cases jS<;>simp<;>omega
 ·show nV (b++R++e) typ X p _=true
  unfold nV
  rw[hfar.2.2.1]
  exact hbody e
theorem vp_of {most el many typ:Int} (hel:el≠-1) (ht:(typedF el many).1=typ) (l:List V3) (s:St):kW most el many l s=zE most (j5 el) (decide (many=0)) false typ 0 l s:=by
 unfold kW
 rw[if_neg hel,ht]
theorem sU {most el typ kd:Int} {l:List V3} {ts:List Tr} {x:BS} (h:Inv x) (ht:zP x.s.1 l ts) (hel:el≠-1) (hty:(typedF el 0).1=typ) (hs:yI typ=(kd,0)) (h17:kd≠17) (hg:JA kd=false) (he:∀v∈l,v.1=el) (hel2:(Ft.elemF typ).1=el∧(inlineB el=true∨el=4))
 (hl:x.stk.length+1≤65536) (hll:l.length≤65536) (hr:(x.s.1.length:Int)+(15+9*l.length:Nat)≤most) (hmost:most≤1048576) (hfar:inlineB typ=false∧legalB typ=true∧bF typ=false∧vZ typ=1):cX x (x.vector most el 0 l) (.mk kd 0 0 EMB [] ts) (15+9*l.length):=
 vec_ok (len:=true) (jS:=false) h ht (fun s=>vp_of hel hty l s) (fun v hv=>Y9 (he v hv) (ht.near (by omega) v hv).1) hs h17 hg (fun e=>by cases e) (fun _ v hv=>⟨by rw[he v hv,hel2.1],by rw[he v hv];exact hel2.2⟩) hl hll hr hmost hfar
def vX (l:List ByteArray):Nat:=(l.map fun k=>k.size+1).sum
theorem cK {most:Int} {sh:Bool}:∀(l:List ByteArray) {x:BS},Inv x→(∀k∈l,yL k=0)→(x.s.1.length:Int)+vX l≤most →
 ∃e,Inv (x.putAll most sh l).2∧(x.putAll most sh l).2.s.1=x.s.1++e∧e.length≤vX l∧(x.putAll most sh l).2.stk=x.stk∧zP (x.putAll most sh l).2.s.1 (x.putAll most sh l).1 (l.map YM)∧(∀v∈(x.putAll most sh l).1,v.1=4)∧∀c:Int,c < x.s.1.length→zN (x.putAll most sh l).2.names c=zN x.names c
 | [],x,h,_,_=>⟨[],h,by simp[BS.putAll],Nat.zero_le _,rfl,zP.nil _,by simp[BS.putAll],fun _ _=>rfl⟩
 | k::r,x,h,hk,hr=>by
  simp only[vX,List.map_cons,List.sum_cons] at hr
  obtain⟨a,e,h1,h2,h3,h4,h5,h6,h7,h8⟩:=put_ok (most:=most) (sh:=sh) h (hk k (by simp)) (by omega)
  have kE:(x.put most sh k).2.s.1.length=x.s.1.length+e.length:=by rw[h3,List.length_append]
  obtain⟨e2,g1,g2,g3,g4,g5,g6,g7⟩:=cK (most:=most) (sh:=sh) r h2 (fun q hq=>hk q (by simp[hq])) (by unfold vX;omega)
  simp only[BS.putAll]
  refine⟨e++e2,g1,by rw[g2,h3,List.append_assoc],by rw[List.length_append];simp only[vX,List.map_cons,List.sum_cons] at g3⊢;omega,by rw[g4,h5],?_,?_,fun c hc=>?_⟩
  ·refine zP.cons ?_ g5
   rw[g2,h1]
   exact h6.more _
  ·intro v hv
   rcases List.mem_cons.1 hv with rfl|hv
   ·rw[h1]
   ·exact g6 v hv
  ·rw[g7 c (by omega),h8 c hc]
theorem keyVec_ok {most:Int} {sh:Bool} {l:List ByteArray} {x:BS} (h:Inv x) (hk:∀k∈l,yL k=0) (hl:x.stk.length+1≤65536) (hll:l.length≤65536) (hr:(x.s.1.length:Int)+(vX l+(15+9*l.length):Nat)≤most) (hmost:most≤1048576) :
 cX x (x.keyVec most sh l) (.mk 13 0 0 EMB [] (l.map YM)) (vX l+(15+9*l.length)):=by
 obtain⟨e,h1,h2,h3,h4,h5,h6,h7⟩:=cK (most:=most) (sh:=sh) l h hk (by omega)
 unfold BS.keyVec
 rw[if_pos h.e0]
 have kE:(x.putAll most sh l).2.s.1.length=x.s.1.length+e.length:=by rw[h2,List.length_append]
 have hn:(x.putAll most sh l).1.length=l.length:=by rw[h5.1,List.length_map]
 generalize hY:x.putAll most sh l=Y at *
 have hP:=sU (most:=most) (el:=4) (typ:=14) (kd:=13) h1 h5 (by decide) (by decide +kernel) (by decide) (by decide) (by decide) h6 ⟨by decide,.inr rfl⟩ (by rw[h4];exact hl) (by omega) (by rw[hn];omega) hmost (by decide)
 obtain⟨e2,g1,g2⟩:=hP.grow
 obtain⟨v,g3,g4⟩:=hP.push
 refine⟨hP.inv,⟨e++e2,by rw[g1,h2,List.append_assoc],by rw[List.length_append];rw[hn] at g2;omega⟩,⟨v,by rw[g3,h4],g4⟩,fun a ha=>?_⟩
 rw[hP.nms a (by omega),h7 a ha]
/-! ### what names a list of keys -/
theorem cL:∀{a b A B:List UInt8},(0:UInt8)∉a→(0:UInt8)∉b→a++0::A=b++0::B→a=b∧A=B
 | [],[],A,B,_,_,h=>by simp at h;exact⟨rfl,h⟩
 | [],y::b,A,B,_,hb,h=>by simp at h;exact absurd h.1 (fun e=>hb (by simp[← e]))
 | x::a,[],A,B,ha,_,h=>by simp at h;exact absurd h.1 (fun e=>ha (by simp[e]))
 | x::a,y::b,A,B,ha,hb,h=>by
  simp only[List.cons_append,List.cons.injEq] at h
  obtain⟨h1,h2⟩:=cL (fun e=>ha (by simp[e])) (fun e=>hb (by simp[e])) h.2
  exact⟨by rw[h.1,h1],h2⟩
theorem YU (l:List ByteArray):(j4 l).data.toList=l.flatMap fun k=>k.data.toList++[0]:=by
 have:∀(l:List ByteArray) (a:ByteArray),(l.foldl (fun a k=>a++(k++⟨#[0]⟩)) a).data.toList=a.data.toList++l.flatMap fun k=>k.data.toList++[0]:=by
  intro l
  induction l with
  | nil=>intro a;simp
  | cons k r ih=>intro a;rw[List.foldl_cons,ih];simp
 have h:=this l ByteArray.empty
 have he:ByteArray.empty.data.toList=[]:=rfl
 rw[he,List.nil_append] at h
 exact h
theorem lE:∀{a b:List ByteArray},(∀k∈a,yL k=0)→(∀k∈b,yL k=0)→j4 a=j4 b→a=b:=by
 have key:∀{a b:List ByteArray},(∀k∈a,yL k=0)→(∀k∈b,yL k=0)→(a.flatMap fun k=>k.data.toList++[0])=(b.flatMap fun k=>k.data.toList++[(0:UInt8)])→a=b:=by
  intro a
  induction a with
  | nil=>
   intro b _ _ h
   cases b with
   | nil=>rfl
   | cons y b=>simp at h
  | cons x a ih=>
   intro b ha hb h
   cases b with
   | nil=>simp at h
   | cons y b=>
    simp only[List.flatMap_cons,List.append_assoc,List.cons_append,List.nil_append] at h
    obtain⟨h1,h2⟩:=cL (g9 (ha x (by simp))) (g9 (hb y (by simp))) h
    rw[bytes_inj h1,ih (fun k hk=>ha k (by simp[hk])) (fun k hk=>hb k (by simp[hk])) h2]
 intro a b ha hb h
 refine key ha hb ?_
 rw[← YU,← YU,h]
theorem mU {most:Int} {sh:Bool} {x:BS} {keys:List V3} {names:List ByteArray} (h:Inv x) (hk:zP x.s.1 keys (names.map YM)) (h4:∀v∈keys,v.1=4) (hz:∀k∈names,yL k=0) (hll:keys.length≤65536) (hr:(x.s.1.length:Int)+(15+9*keys.length:Nat)≤most) (hmost:most≤1048576) :
 let g:=zF x.lists (j4 names)
 let x1:BS:=if g.2 && sh then x else
  let q:=kW most 4 0 keys x.s
  ({x with s:=q.2,e:=kG x.e q.1.2,lists:=zC (j4 names) x.vals.length x.lists,vals:=x.vals++[q.1.1]}:BS)
 let i:Int:=if g.2 && sh then g.1 else x.vals.length
 ∃e,Inv x1∧x1.s.1=x.s.1++e∧e.length≤15+9*keys.length∧x1.stk=x.stk∧x1.names=x.names∧aF x1.s.1 (x1.vals.getD i.toNat (0,0,0)) names:=by
 dsimp only
 by_cases hg:((zF x.lists (j4 names)).2 && sh)=true
 ·rw[if_pos hg,if_pos hg]
  rw[Bool.and_eq_true] at hg
  have hm:zF x.lists (j4 names)=((zF x.lists (j4 names)).1,true):=by rw[← hg.1]
  obtain⟨h0,v,nm,h1,h2,h3,h5⟩:=h.lists _ (lD hm)
  have:nm=names:=lE h5 hz h3
  subst this
  refine⟨[],h,by simp,Nat.zero_le _,rfl,rfl,?_⟩
  rw[List.getD_eq_getElem?_getD,h1]
  exact h2
 ·rw[if_neg hg,if_neg hg]
  have hb:x.s.1.length≤1048576:=by omega
  obtain⟨b,hbe⟩:∃b,x.s.1=b:=⟨_,rfl⟩
  have hxs:x.s=(b,0):=by rw[h.s,hbe]
  rw[hbe] at hk hr hb
  obtain⟨X,hX⟩:∃X,allF keys (0,0,0) b.length 1=X:=⟨_,rfl⟩
  obtain⟨p,hp⟩:∃p,(b.length:Int)+j9 b X+X=p:=⟨_,rfl⟩
  obtain⟨hw,hH,hmod,hge,hlt,kE,hin⟩:=heldB (len:=true) (jS:=false) hb (by omega) (hk.near hb) (by simpa using hX) (by simpa using hp)
  have hwp:=kN hw
  have hle:=iH hw true false b keys
  have hput:=aP (most:=most) (T:=j5 4) (len:=true) (jS:=false) (kind:=14) (fun v hv=>Y9 (h4 v hv) (hk.near hb v hv).1) hb (by omega) (hk.near hb) (by simpa using hX) (by omega)
  have hpl:=qK hw true false b keys
  have hbody:=mT hk h4 hb hll hX hp
  have hvp:kW most 4 0 keys x.s=(((14,X,p),0),(b++(yD X true false b keys).flatten,0)):=by
   rw[vp_of (typ:=14) (by decide) (by decide +kernel),hxs]
   have:((b.length:Int)+j9 b X+if true=true then X else 0)=p:=by rw[if_pos rfl];exact hp
   rw[this] at hput
   exact hput
  rw[hvp]
  obtain⟨R,hR⟩:∃R,(yD X true false b keys).flatten=R:=⟨_,rfl⟩
  rw[hR] at hpl hH hbody⊢
  dsimp only
  have hI:=h.ext R x.stk
  rw[hbe] at hI
  have hXl:=hH.len
  simp only[Bool.false_eq_true,if_false,Int.add_zero] at hXl
  have hmul0:0≤X*(keys.length:Int):=Int.mul_nonneg (by omega) (by omega)
  have hKV:aF (b++R) (14,X,p) names:=⟨rfl,hw,by show 0≤p;omega,by show p≤((b++R).length:Int);omega,by show p - X < ((b++R).length:Int);omega,fun e=>hbody e⟩
  refine⟨R,⟨by show kG x.e 0=0;rw[h.e0];rfl,rfl,hI.keys,hI.texts,fun z hz'=>?_,hI.names,by have h1:=h.vals;rw[hbe] at h1;show (x.vals++[(14,X,p)]).length≤(b++R).length;rw[List.length_append,List.length_singleton];omega⟩,by rw[hbe],by omega,rfl,rfl,?_⟩
  ·rcases QZ hz' with hz'|⟨rfl,_⟩
   ·obtain⟨h0,v,nm,h1,h2,h3⟩:=hI.lists z hz'
    refine⟨h0,v,nm,?_,h2,h3⟩
    show (x.vals++[(14,X,p)])[z.2.toNat]? = some v
    rw[List.getElem?_append_left (List.getElem?_eq_some_iff.1 h1).1];exact h1
   ·refine⟨by show (0:Int)≤x.vals.length;omega,(14,X,p),names,?_,hKV,rfl,hz⟩
    show (x.vals++[(14,X,p)])[((x.vals.length:Nat):Int).toNat]? = _
    rw[Int.toNat_natCast,List.getElem?_append_right (Nat.le_refl _)];simp
  ·show aF (b++R) ((x.vals++[(14,X,p)]).getD ((x.vals.length:Nat):Int).toNat (0,0,0)) names
   rw[Int.toNat_natCast,List.getD_eq_getElem?_getD,List.getElem?_append_right (Nat.le_refl _)]
   simpa using hKV
theorem sV {most:Int} {sh:Bool} {x:BS} {keys vals:List V3} {names:List ByteArray} {ts:List Tr} (h:Inv x) (hk:zP x.s.1 keys (names.map YM)) (h4:∀v∈keys,v.1=4) (hz:∀k∈names,yL k=0) (hi:incB names=true) (hv:zP x.s.1 vals ts) (hnl:names.length=ts.length)
 (hl:x.stk.length+1≤65536) (hll:keys.length≤65536) (hr:(x.s.1.length:Int)+(46+18*keys.length:Nat)≤most) (hmost:most≤1048576) :
 cX x (x.table most sh (j4 names) keys vals) (.mk 17 0 0 EMB names ts) (46+18*keys.length):=by
 obtain⟨e,h1,h2,h3,h5,h6,h7⟩:=mU (most:=most) (sh:=sh) h hk h4 hz hll (by omega) hmost
 unfold BS.table
 dsimp only at h1 h2 h3 h5 h6 h7⊢
 generalize (if ((zF x.lists (j4 names)).2 && sh)=true then x else {s:=(kW most 4 0 keys x.s).2,e:=kG x.e (kW most 4 0 keys x.s).1.2,stk:=x.stk,keys:=x.keys,texts:=x.texts,lists:=zC (j4 names) (x.vals.length:Int) x.lists,names:=x.names,vals:=x.vals++[(kW most 4 0 keys x.s).1.1]}:BS)=x1 at *
 generalize x1.vals.getD (if ((zF x.lists (j4 names)).2 && sh)=true then (zF x.lists (j4 names)).1 else (x.vals.length:Int)).toNat (0,0,0)=k at *
 rw[if_pos h1.e0]
 have hkl:keys.length=names.length:=by have:=hk.1;rw[List.length_map] at this;exact this
 have hvn:=hv.1
 have kE:x1.s.1.length=x.s.1.length+e.length:=by rw[h2,List.length_append]
 have hv1:zP x1.s.1 vals ts:=by rw[h2];exact hv.more e
 have hb:x1.s.1.length≤1048576:=by omega
 obtain⟨b,hbe⟩:∃b,x1.s.1=b:=⟨_,rfl⟩
 have hxs:x1.s=(b,0):=by rw[h1.s,hbe]
 rw[hbe] at hv1 hb h7 kE
 have hK:V5 b.length k:=⟨h7.typ,h7.isw,h7.n0,h7.n1⟩
 obtain⟨X,hX⟩:∃X,allF vals k b.length 3=X:=⟨_,rfl⟩
 obtain⟨p,hp⟩:∃p,(b.length:Int)+j9 b X+3*X=p:=⟨_,rfl⟩
 obtain⟨hw,hH,hmod,hge,hlt,hin,hkn⟩:=heldM hb (by omega) (hv1.near hb) hK hX hp
 have hwp:=kN hw
 have hle:=lenM_le hw b vals
 have hput:=nP (most:=most) hb (by omega) (hv1.near hb) hK hX (by omega)
 rw[hp] at hput
 have hpl:=JV hw k b vals
 have hbody:=sS hv1 h7 hi hnl hb (by omega) hX hp
 obtain⟨R,hR⟩:∃R,(qE X k b vals).flatten=R:=⟨_,rfl⟩
 rw[hR] at hput hpl hH hbody
 rw[hxs,hput]
 dsimp only
 have hI:=h1.ext R x1.stk
 rw[hbe] at hI
 rw[Y8 (x:={x1 with s:=(b++R,0)}) h1.e0,Q3 (x:={x1 with s:=(b++R,0)}) hI _ (by dsimp only;rw[h5];exact hl)]
 have hI2:=h1.ext R (x1.stk++[(9,X,p)])
 rw[hbe] at hI2
 have hXl:=hH.len
 have hmul0:0≤X*(vals.length:Int):=Int.mul_nonneg (by omega) (by omega)
 refine⟨hI2,⟨e++R,by show b++R=_;rw[← hbe,h2,List.append_assoc],by rw[List.length_append];omega⟩,⟨(9,X,p),by show x1.stk++_=_;rw[h5],.inr ⟨by show inlineB 9=false;decide,by show legalB 9=true;decide,hw,by show 0≤p;omega,by show p≤((b++R).length:Int);omega,?_,fun f=>?_⟩⟩,fun a _=>by show zN x1.names a=_;rw[h6]⟩
 ·show p - vZ 9*X < ((b++R).length:Int)
  rw[show vZ 9=3 by decide];omega
 ·exact hbody f
/-! ### the stack's end as a map's entries -/
def KM (es:List (V3 × V3)):List V3:=es.flatMap fun p=>[p.1,p.2]
theorem QA (names:List (Int × ByteArray)):∀es:List (V3 × V3),kD names (KM es)=es.map fun p=>(zN names p.1.2.2,p.1,p.2)
 | []=>rfl
 | p::r=>by
  show (zN names p.1.2.2,p.1,p.2)::kD names (KM r)=_
  rw[QA names r];rfl
theorem Z2:∀es:List (V3 × V3),(∀p∈es,p.1.1=4)→yE (KM es)=true
 | [],_=>rfl
 | p::r,h=>by
  show (decide (p.1.1=4) && yE (KM r))=true
  rw[Z2 r fun q hq=>h q (by simp[hq]),h p (by simp)];rfl
theorem lF (es:List (V3 × V3)):(KM es).length=2*es.length:=by
 induction es with
 | nil=>rfl
 | cons p r ih=>show (p.1::p.2::KM r).length=_;simp only[List.length_cons,ih];omega
theorem lG:∀{l:List ByteArray},l.Pairwise (fun a b=>ltS a b=true)→incB l=true
 | [],_=>rfl
 | [_],_=>rfl
 | a::b::r,h=>by
  obtain⟨h1,h2⟩:=List.pairwise_cons.1 h
  show (ltS a b && incB (b::r))=true
  rw[h1 b (by simp),lG h2];rfl
theorem gD (l:List ByteArray) (k:ByteArray) (hs:l.Pairwise fun a b=>ltS a b=true):∀(n lo hi:Nat),hi - lo≤n→lo≤hi→hi≤l.length→(∀(j:Nat) x,j < lo→l[j]? = some x→ltS x k=true)→(∀(j:Nat) x,hi≤j→l[j]? = some x→ltS x k=false) →
 zT l k lo hi≤l.length∧(∀(j:Nat) x,j < zT l k lo hi→l[j]? = some x→ltS x k=true)∧(∀(j:Nat) x,zT l k lo hi≤j→l[j]? = some x→ltS x k=false):=by
 intro n
 induction n with
 | zero=>
  intro lo hi h1 h2 h3 hl hr
  have e:hi=lo:=by omega
  subst e
  unfold zT
  rw[if_neg (by omega)]
  exact⟨h3,hl,hr⟩
 | succ n ih=>
  intro lo hi h1 h2 h3 hl hr
  by_cases hlt:lo < hi
  ·unfold zT
   rw[if_pos hlt]
   have hm:lo+(hi - lo) / 2 < l.length:=by omega
   have hg:l.getD (lo+(hi - lo) / 2) ByteArray.empty=l[lo+(hi - lo) / 2]:=by rw[List.getD_eq_getElem?_getD,List.getElem?_eq_getElem hm];rfl
   rw[hg]
   split
   ·rename_i hc
    refine ih _ _ (by omega) (by omega) h3 (fun j x hj hx=>?_) hr
    obtain⟨hj2,hx2⟩:=List.getElem?_eq_some_iff.1 hx
    rcases Nat.lt_or_ge j (lo+(hi - lo) / 2) with h|h
    ·have:=List.pairwise_iff_getElem.1 hs j (lo+(hi - lo) / 2) hj2 hm h
     rw[hx2] at this
     exact qP this hc
    ·have e:j=lo+(hi - lo) / 2:=by omega
     subst e
     rw[← hx2];exact hc
   ·rename_i hc
    refine ih _ _ (by omega) (by omega) (by omega) hl (fun j x hj hx=>?_)
    obtain⟨hj2,hx2⟩:=List.getElem?_eq_some_iff.1 hx
    rcases Nat.lt_or_ge (lo+(hi - lo) / 2) j with h|h
    ·have hp:=List.pairwise_iff_getElem.1 hs (lo+(hi - lo) / 2) j hm hj2 h
     rw[hx2] at hp
     cases hc2:ltS x k with
     | false=>rfl
     | true=>exact absurd (qP hp hc2) hc
    ·have e:j=lo+(hi - lo) / 2:=by omega
     subst e
     rw[← hx2];simpa using hc
  ·unfold zT
   rw[if_neg hlt]
   have e:hi=lo:=by omega
   subst e
   exact⟨h3,hl,hr⟩
def ZA (l:k8):Prop:=(yB l).Pairwise fun a b=>ltS a b=true
theorem V7 {l:k8} (hs:ZA l) (k:ByteArray):(∀(j:Nat) x,j < kZ l k→(yB l)[j]? = some x→ltS x k=true)∧(∀(j:Nat) x,kZ l k≤j→(yB l)[j]? = some x→ltS x k=false):=by
 have hl:=qC l
 obtain⟨_,h2,h3⟩:=gD (yB l) k hs l.length 0 l.length (by omega) (by omega) (by omega) (fun j _ h=>by omega) (fun j y h hy=>by have:=(List.getElem?_eq_some_iff.1 hy).1;omega)
 exact⟨h2,h3⟩
theorem KN {l:k8} (hs:ZA l) (k:ByteArray):KU l k=true↔k∈yB l:=by
 obtain⟨h2,h3⟩:=V7 hs k
 constructor
 ·intro h
  exact List.mem_of_getElem? (of_decide_eq_true h)
 ·intro h
  obtain⟨i,hi⟩:=List.getElem?_of_mem h
  have e:kZ l k=i:=by
   rcases Nat.lt_trichotomy i (kZ l k) with h|h|h
   ·have:=h2 i k h hi;rw[vF] at this;cases this
   ·exact h.symm
   ·obtain⟨hil,hxe⟩:=List.getElem?_eq_some_iff.1 hi
    have hpl:kZ l k < (yB l).length:=by omega
    have h4:=h3 (kZ l k) _ (Nat.le_refl _) (List.getElem?_eq_getElem hpl)
    have h5:=List.pairwise_iff_getElem.1 hs (kZ l k) i hpl hil h
    rw[hxe] at h5
    rw[h5] at h4;cases h4
  unfold KU
  rw[e,hi]
  exact decide_eq_true rfl
theorem pE {l:k8} (hs:ZA l) (k:ByteArray) (a:Int):ZA (zC k a l):=by
 unfold zC
 split
 ·exact hs
 ·split
  ·exact hs
  ·rename_i hn hh
   obtain⟨h2,h3⟩:=V7 hs k
   have hle:=dX l k
   have hlk:=qC l
   unfold ZA
   rw[VF]
   unfold J0
   rw[List.pairwise_append]
   refine⟨List.Pairwise.sublist (List.take_sublist _ _) hs,List.pairwise_cons.2 ⟨fun x hx=>?_,List.Pairwise.sublist (List.drop_sublist _ _) hs⟩,fun x hx y hy=>?_⟩
   ·obtain⟨i,hi⟩:=List.getElem?_of_mem hx
    rw[List.getElem?_drop] at hi
    have h4:=h3 _ x (by omega) hi
    cases hc:ltS k x with
    | true=>rfl
    | false=>
     have e:=KF hc h4
     exact absurd ((KN hs k).2 (by rw[e];exact List.mem_of_getElem? hi)) hh
   ·obtain⟨i,hi⟩:=List.getElem?_of_mem hx
    obtain⟨hil,_⟩:=List.getElem?_eq_some_iff.1 hi
    rw[List.length_take] at hil
    rw[List.getElem?_take,if_pos (by omega)] at hi
    have hxk:=h2 i x (by omega) hi
    rcases List.mem_cons.1 hy with rfl|hy
    ·exact hxk
    ·obtain⟨j,hj⟩:=List.getElem?_of_mem hy
     rw[List.getElem?_drop] at hj
     have h4:=h3 _ y (by omega) hj
     cases hc:ltS k y with
     | true=>exact qP hxk hc
     | false=>
      have e:=KF hc h4
      exact absurd ((KN hs k).2 (by rw[e];exact List.mem_of_getElem? hj)) hh
theorem pF {l:k8} {k:ByteArray} {a:Int} (h0:0≤a) (h1:a≤9007199254740991) (z:ByteArray):z∈yB (zC k a l)↔z∈yB l∨(z=k)∨False:=by
 unfold zC
 rw[if_neg (by omega)]
 split
 ·rename_i hh
  constructor
  ·exact .inl
  ·rintro (h|rfl|h)
   ·exact h
   ·exact List.mem_of_getElem? (of_decide_eq_true hh)
   ·exact h.elim
 ·rw[VF]
  unfold J0
  have e:z∈yB l↔z∈(yB l).take (kZ l k)∨z∈(yB l).drop (kZ l k):=by
   rw[← List.mem_append,List.take_append_drop]
  rw[e]
  simp only[List.mem_append,List.mem_cons,or_false]
  constructor
  ·rintro (h|rfl|h)
   ·exact .inl (.inl h)
   ·exact .inr rfl
   ·exact .inl (.inr h)
  ·rintro ((h|h)|rfl)
   ·exact .inl h
   ·exact .inr (.inr h)
   ·exact .inr (.inl rfl)
open Classical in
theorem sW {most:Int} {k:ByteArray} {x:BS} (h:Inv x) (hr:ZA x.keys) (hk:yL k=0) (hm:(x.s.1.length:Int)+(k.size+1)≤most) (hmost:most≤1048576) :
 (x.put most true k).2.s.1=x.s.1++(if k∈yB x.keys then [] else k.data.toList++[0])∧ZA (x.put most true k).2.keys∧∀z,z∈yB (x.put most true k).2.keys↔z∈yB x.keys∨z=k:=by
 unfold BS.put
 dsimp only
 rw[hk,Y8 h.e0,if_neg (by rw[h.e0];decide)]
 have hg:(zF x.keys k).2=KU x.keys k:=by
  unfold zF
  split
  ·rename_i hh;exact hh.symm
  ·rename_i hh;simpa using hh
 rw[hg,Bool.and_true]
 by_cases hh:KU x.keys k=true
 ·rw[if_pos hh,if_pos ((KN hr k).1 hh)]
  refine⟨by simp,hr,fun z=>?_⟩
  constructor
  ·exact .inl
  ·rintro (h|rfl)
   ·exact h
   ·exact (KN hr z).1 hh
 ·rw[if_neg hh,if_neg (fun e=>hh ((KN hr k).2 e))]
  have hsz:(jO [k,⟨#[0]⟩]).length=k.size+1:=by rw[VR,YD,dU]
  have hs:j6 most (jO [k,⟨#[0]⟩]) x.s=(x.s.1++jO [k,⟨#[0]⟩],0):=by
   have:=q7 most x.s.1 (jO [k,⟨#[0]⟩]) (by rw[hsz];omega)
   rw[← h.s] at this
   exact this
  have hb:jO [k,⟨#[0]⟩]=k.data.toList++[0]:=by simp[jO]
  refine⟨by dsimp only;rw[hs,hb],pE hr _ _,fun z=>?_⟩
  dsimp only
  rw[pF (by omega) (by omega)]
  simp
end Go.Proofs.YtjnpcddbgfmpcaaGreatDoor
