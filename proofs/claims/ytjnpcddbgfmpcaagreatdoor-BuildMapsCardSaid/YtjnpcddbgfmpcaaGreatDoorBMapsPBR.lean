/-
  Texts of the proof.
-/
import Derived.Test.YtjnpcddbgfmpcaaGreatDoorBMapsPBA
import Derived.Test.YtjnpcddbgfmpcaaGreatDoorBMapsPBP
set_option linter.unusedVariables false
set_option linter.unusedSimpArgs false
namespace Go.Proofs.YtjnpcddbgfmpcaaGreatDoor
open Go Go.ChangeShapes Go.WideShapes Go.ChangeAt Go.RowKit Go.Joins Go.Deep
open Go.Proofs.YtjnpcddbgfmpcaaGreatDoor.Ft (V3 vV okV ValsAt inlineB legalB packF codeF typedF allF oneF allAt headF fitsL fitsV fitsF belowW isA unpackF)
def eQ (d:List UInt8) (typ wid at_:Int) (t:Tr):Bool:=if YH typ=true then qI d typ 0 0 wid at_ t else KG d typ wid at_ t
theorem sW {typ:Int} (h:YH typ=true):typ=4∨typ=5∨typ=25∨typ=6∨typ=7:=by
 unfold YH at h
 simp only[Bool.or_eq_true,decide_eq_true_eq] at h
 omega
theorem sX {d:List UInt8} {typ pos par wid at_:Int} {t:Tr} (h:YH typ=true):qI d typ pos par wid at_ t=qI d typ 0 0 wid at_ t:=by
 rcases sW h with rfl|rfl|rfl|rfl|rfl<;>rfl
def nearV (v:V3) (t:Tr):Prop:=
 (v=(0,1,0)∧t=.mk 1 0 0 EMB [] [])∨(∃b:Bool,v=zU b∧t=.mk 2 (if b then 1 else 0) 0 EMB [] []) ∨
 (∃n,JN n∧v=y4 n∧t=.mk 3 n 0 EMB [] [])∨(∃u,dJ u∧v=yR u∧t=.mk 4 0 u EMB [] [])
structure farV (d:List UInt8) (v:V3) (t:Tr):Prop where
 far:inlineB v.1=false
 legal:legalB v.1=true
 isw:isW v.2.1=true
 n0:0≤v.2.2
 n1:v.2.2≤d.length
 lim:v.2.2 - vW v.1*v.2.1 < d.length
 body:∀e,eQ (d++e) v.1 v.2.1 v.2.2 t=true
def qG (d:List UInt8) (v:V3) (t:Tr):Prop:=nearV v t∨farV d v t
theorem qG.more {d:List UInt8} {v:V3} {t:Tr} (h:qG d v t) (e:List UInt8):qG (d++e) v t:=by
 rcases h with h|h
 ·exact .inl h
 ·refine .inr ⟨h.far,h.legal,h.isw,h.n0,?_,?_,fun f=>by rw[List.append_assoc];exact h.body _⟩
  ·have:=h.n1;rw[List.length_append];omega
  ·have:=h.lim;rw[List.length_append];omega
theorem JX {v:V3} {t:Tr} (h:nearV v t):inlineB v.1=true∧legalB v.1=true∧isW v.2.1=true∧0≤v.2.2∧v.2.2≤18446744073709551615:=by
 rcases h with ⟨rfl,_⟩|⟨b,rfl,_⟩|⟨n,hn,rfl,_⟩|⟨u,hu,rfl,_⟩
 ·exact⟨by decide,by decide,rfl,by decide,by decide⟩
 ·cases b<;>exact⟨by decide,by decide,rfl,by decide,by decide⟩
 ·exact⟨by show inlineB 1=true;decide,by show legalB 1=true;decide,cC n,by show 0≤n % _;omega,by show n % _≤_;omega⟩
 ·unfold dJ at hu
  exact⟨by show inlineB 2=true;decide,by show legalB 2=true;decide,Z1 _,hu.1,hu.2⟩
theorem qG.near {d:List UInt8} {v:V3} {t:Tr} (h:qG d v t) (hd:d.length≤1048576):ZG d.length v:=by
 rcases h with h|h
 ·obtain⟨h1,h2,h3,h4,h5⟩:=JX h
  refine⟨?_,⟨h4,h5⟩,fun _=>(kI h3).2,fun e=>(by rw[h1] at e;cases e)⟩
  unfold jY;rw[if_pos h2,if_pos h1]
 ·have h1:=h.n1
  refine⟨?_,And.intro h.n0 (by omega),fun e=>(by rw[h.far] at e;cases e),fun _=>h.n1⟩
  unfold jY;rw[if_pos h.legal,if_neg (by rw[h.far];decide),if_pos h.isw]
theorem sgn_num {n x:Int} (hx:isW x=true) (hn:JN n) (hw:ZX n≤x):sgnF (kY (n % 18446744073709551616) x) x=n:=by
 unfold JN at hn
 unfold ZX at hw
 rcases kJ hx with rfl|rfl|rfl|rfl
 all_goals
  unfold kY sgnF
  simp only[Int.reduceToNat,Nat.reduceMul,Nat.reduceSub,Int.reducePow]
  split at hw
  ·split<;>omega
  split at hw
  ·split<;>omega
  split at hw
  ·split<;>omega
  ·split<;>omega
theorem low_uns {u x:Int} (hx:isW x=true) (hu:dJ u) (hw:Ft.widthOf u.toNat≤x):kY u x=u:=by
 unfold dJ at hu
 unfold Ft.widthOf at hw
 have p8:(2:Nat) ^ 8=256:=by decide
 have p16:(2:Nat) ^ 16=65536:=by decide
 have p32:(2:Nat) ^ 32=4294967296:=by decide
 rw[p8,p16,p32] at hw
 rcases kJ hx with rfl|rfl|rfl|rfl
 all_goals
  unfold kY
  simp only[Int.reduceToNat,Nat.reduceMul,Int.reducePow]
  repeat' split at hw
  all_goals omega
theorem JJ (k n u:Int) (s:ByteArray):YO (.mk k n u s [] []) k n u s=true:=bare_iff.2 rfl
theorem cE {d:List UInt8} {p x u:Int} (h:kC d p x=(u,0)) (h1:u≤9007199254740992):yZ d p x=(u,true):=by
 unfold yZ
 rw[h]
 simp only[Int.min_eq_left h1,decide_true,Bool.true_and,decide_eq_true h1]
theorem sY {x p:Int} {v:V3} (h:inlineB v.1=false):JD x p v=p - v.2.2:=by unfold JD;rw[h];simp
theorem pR {x p:Int} {v:V3} (h:inlineB v.1=true):JD x p v=kY v.2.2 x:=by unfold JD;rw[if_pos h]
theorem eR {d0 e:List UInt8} {v:V3} {t:Tr} {p x lim:Int} (h:qG d0 v t) (hx:isW x=true) (hl:kC (d0++e) p x=(JD x p v,0)) (hi:inlineB v.1=true→v.2.1≤x) (hp:(d0.length:Int)≤p) (hp2:p≤9007199254740992) (hlim:(d0.length:Int)≤lim) :
 QN (d0++e) v.1 p x (if inlineB v.1 then x else v.2.1) lim t=true:=by
 rw[aN]
 rcases h with h|h
 ·obtain⟨h1,h2,h3,h4,h5⟩:=JX h
  rw[if_pos h1,if_neg (by rw[hx,h2];decide),if_pos h1]
  have hwd:=hi h1
  rw[pR h1] at hl
  rcases h with ⟨rfl,rfl⟩|⟨b,rfl,rfl⟩|⟨n,hn,rfl,rfl⟩|⟨u,hu,rfl,rfl⟩
  ·show gV _ p x _=true
   unfold gV
   rw[hl,JJ]
   rfl
  ·show gW _ p x _=true
   unfold gW
   rw[hl]
   have hp:=kI hx
   have h0:kY (zU b).2.2 x=if b then 1 else 0:=by
    rcases kJ hx with rfl|rfl|rfl|rfl<;>cases b<;>decide
   rw[h0]
   cases b
   ·simp only[Bool.false_eq_true,if_false,if_true];rw[JJ];rfl
   ·simp only[if_true];rw[if_neg (by decide),JJ];rfl
  ·rw[show qI (d0++e) (y4 n).1 p x x 0 (.mk 3 n 0 EMB [] [])=intF (d0++e) p x (.mk 3 n 0 EMB [] []) from rfl]
   unfold intF J2
   rw[mP hl,hl]
   rw[show (y4 n).2.2=n % 18446744073709551616 from rfl,sgn_num hx hn hwd]
   simp only[Tr.kind,JJ,ne_eq,not_true_eq_false,if_false,if_true,decide_true,Bool.and_self]
  ·rw[show qI (d0++e) (yR u).1 p x x 0 (.mk 4 0 u EMB [] [])=bC (d0++e) p x (.mk 4 0 u EMB [] []) from rfl]
   unfold bC J2
   rw[hl]
   rw[show (yR u).2.2=u from rfl,low_uns hx hu hwd]
   simp only[Tr.kind,JJ,ne_eq,not_true_eq_false,if_false,decide_true,Bool.and_self]
   rw[if_neg (by decide)]
   rfl
 ·rw[h.far]
  simp only[Bool.false_eq_true,if_false]
  rw[if_neg (by rw[hx,h.isw,h.legal];decide)]
  have hN:=h.n0
  have hN1:=h.n1
  rw[sY h.far] at hl
  have hnum:=cE hl (by omega)
  have hfb:aI (d0++e) v.1 p x v.2.1 lim=true:=by
   unfold aI
   rw[hnum]
   have:=h.lim
   simp only[Bool.true_and,Bool.and_eq_true,decide_eq_true_eq]
   omega
  rw[if_neg (by rw[hfb];decide),hnum]
  have hb:=h.body e
  unfold eQ at hb
  rw[show p - (p - v.2.2,true).1=v.2.2 by simp only;omega]
  split
  ·rename_i hf
   rw[if_pos hf] at hb
   rw[sX hf];exact hb
  ·rename_i hf
   rw[if_neg hf] at hb
   exact hb
theorem sZ {d:List UInt8} {p x w1 w2 lim:Int} {t:Tr} (h1:isW w1=true) (h2:isW w2=true):QN d 4 p x w1 lim t=QN d 4 p x w2 lim t:=by
 have ha:vW 4=0:=by decide
 have hfb:aI d 4 p x w1 lim=aI d 4 p x w2 lim:=by unfold aI;rw[ha];simp
 rw[aN,aN,h1,h2,hfb]
 rfl
structure HeldB (x p:Int) (jT:Bool) (b X:List UInt8) (l:List V3):Prop where
 head:X.take b.length=b
 len:(X.length:Int)=p+x*l.length+(if jT then (l.length:Int) else 0)
 elem:∀(k:Nat) (v:V3),l[k]? = some v→kC X (p+k*x) x=(JD x (p+k*x) v,0)
 tag:jT=true→∀(k:Nat) (v:V3),l[k]? = some v→X[(p+l.length*x).toNat+k]? = some (qC x v)
theorem heldB {b:List UInt8} {l:List V3} {x p:Int} {len jT:Bool} (hn:b.length≤1048576) (hl:l.length≤1048576) (h:∀v∈l,ZG b.length v) (hx:allF l (0,0,0) b.length (if len then 1 else 0)=x) (hp:(b.length:Int)+j5 b x+(if len then x else 0)=p) :
 isW x=true∧HeldB x p jT b (b++(yW x len jT b l).flatten) l∧(p - (if len then x else 0)) % x=0∧(b.length:Int)≤p - (if len then x else 0)∧p - (if len then x else 0) < b.length+x∧(len=true→kC (b++(yW x len jT b l).flatten) (p - x) x=((l.length:Int),0))∧(∀v∈l,inlineB v.1=true→v.2.1≤x):=by
 obtain⟨_,x0,hw,q8⟩:=VJ (n:=b.length) (ahead:=if len then 1 else 0) (by cases len<;>simp) (by omega) (by omega) hl h
 rw[hx] at hw q8
 have hwp:=kI hw
 have hfit:fitsL l b.length (if len then 1 else 0) x=true:=by
  have h:=q8
  unfold allAt at h
  simp only[Bool.and_eq_true] at h
  exact h.2
 have hpad:=QH (l:=b) hw
 have hpe:=bQ hw b
 have hfe:fitE x p l:=QW hw l (if len then 1 else 0) p (by rw[← hp,hpe];cases len<;>simp) (by cases len<;>simp) hfit
 have hlenf:len=true→(l.length:Int) < 2 ^ (8*x.toNat):=by
  intro hl1
  subst hl1
  have h:=q8
  unfold allAt headF at h
  simp only[Bool.and_eq_true,belowW] at h
  have:=h.1.1
  simpa using this
 have hpieces:(yW x len jT b l).flatten=(j6 (j5 b x)++(if len then kH x.toNat l.length else []))++(J0 x p l).flatten++(if jT then l.map (qC x) else []):=by
  unfold yW
  rw[hp]
  cases len<;>cases jT<;>simp[QX]
 have hAl:((b++(j6 (j5 b x)++(if len then kH x.toNat l.length else []))).length:Int)=p:=by
  rw[← hp]
  cases len<;>simp[jX,j9]<;>omega
 have hEl:=vR hw l p
 refine⟨hw,⟨?_,?_,?_,?_⟩,?_,?_,?_,?_,?_⟩
 ·exact List.take_left' rfl
 ·rw[hpieces]
  rw[← List.append_assoc,← List.append_assoc,List.length_append,List.length_append]
  cases jT
  ·simp only[Bool.false_eq_true,if_false,List.length_nil] at hAl⊢;omega
  ·simp only[if_true,List.length_map] at hAl⊢;omega
 ·intro k v hk
  obtain⟨A,C,hA,hAk⟩:=fR hw l p k v hk
  have hb:=bR l p k v hfe hk
  refine JU (A:=b++(j6 (j5 b x)++(if len then kH x.toNat l.length else []))++A) (C:=C++(if jT then l.map (qC x) else [])) hw ?_ ?_ hb.1 hb.2
  ·rw[hpieces,hA];simp only[List.append_assoc]
  ·rw[List.length_append];omega
 ·intro ht k v hk
  subst ht
  have hXl:(b++(j6 (j5 b x)++(if len then kH x.toNat l.length else []))++(J0 x p l).flatten).length=(p+l.length*x).toNat:=by
   rw[List.length_append]
   have:(l.length:Int)*x=x*l.length:=Int.mul_comm _ _
   omega
  rw[hpieces,← List.append_assoc,← List.append_assoc,← hXl,List.getElem?_append_right (by omega),Nat.add_sub_cancel_left,if_pos rfl,List.getElem?_map,hk]
  rfl
 ·have:p - (if len then x else 0)=((b.length:Int)+x - 1) / x*x:=by rw[← hp,← hpe];cases len<;>simp<;>omega
  rw[this]
  exact Int.mul_emod_left _ _
 ·rw[← hp];cases len<;>simp<;>omega
 ·rw[← hp];cases len<;>simp<;>omega
 ·intro hl1
  subst hl1
  simp only[if_true] at hp hpieces hAl⊢
  refine JU (A:=b++j6 (j5 b x)) (C:=(J0 x p l).flatten++(if jT then l.map (qC x) else [])) hw ?_ ?_ (by omega) (hlenf rfl)
  ·rw[hpieces];simp only[List.append_assoc,Int.toNat_natCast]
  ·rw[List.length_append,jX];omega
 ·intro v hv hi
  obtain⟨k,hk,hkv⟩:=List.getElem_of_mem hv
  have:=VK l _ _ x k v hfit (by rw[List.getElem?_eq_getElem hk,hkv])
  unfold fitsV fitsF at this
  rw[if_pos hi] at this
  exact of_decide_eq_true this
def zP (d:List UInt8) (l:List V3) (ts:List Tr):Prop:=l.length=ts.length∧∀(i:Nat) v t,l[i]? = some v→ts[i]? = some t→qG d v t
theorem zP.more {d:List UInt8} {l:List V3} {ts:List Tr} (h:zP d l ts) (e:List UInt8):zP (d++e) l ts:=⟨h.1,fun i v t hv ht=>(h.2 i v t hv ht).more e⟩
theorem zP.near {d:List UInt8} {l:List V3} {ts:List Tr} (h:zP d l ts) (hd:d.length≤1048576):∀v∈l,ZG d.length v:=by
 intro v hv
 obtain⟨k,hk,rfl⟩:=List.getElem_of_mem hv
 have hk2:k < ts.length:=by rw[← h.1];exact hk
 exact (h.2 k _ _ (List.getElem?_eq_getElem hk) (List.getElem?_eq_getElem hk2)).near hd
theorem zP.nil (d:List UInt8):zP d [] []:=⟨rfl,fun i v t h=>by simp at h⟩
theorem zP.cons {d:List UInt8} {v:V3} {t:Tr} {l:List V3} {ts:List Tr} (h:qG d v t) (hl:zP d l ts):zP d (v::l) (t::ts):=by
 refine⟨by simp[hl.1],fun i x y hx hy=>?_⟩
 cases i with
 | zero=>simp at hx hy;subst hx hy;exact h
 | succ i=>exact hl.2 i x y (by simpa using hx) (by simpa using hy)
theorem lF {X e:List UInt8} {i:Nat} {c:UInt8} (h:X[i]? = some c):(X++e)[i]? = some c:=by
 rw[List.getElem?_append_left (List.getElem?_eq_some_iff.1 h).1];exact h
theorem eS {b:List UInt8} {l:List V3} {ts:List Tr} {x p typ kd many:Int} {len jT:Bool} (ht:zP b l ts) (hn:b.length≤1048576) (hl:l.length≤65536) (hx:allF l (0,0,0) b.length (if len then 1 else 0)=x) (hp:(b.length:Int)+j5 b x+(if len then x else 0)=p)
 (hs:zI typ=(kd,many)) (h17:kd≠17) (hg:v7 kd=jT) (hm:if len then many=0 else many≠0∧(ts.length:Int)=many) (hty:jT=false→∀v∈l,v.1=(Ft.elemF typ).1∧(inlineB v.1=true∨v.1=4)) (e:List UInt8) :
 KG (b++(yW x len jT b l).flatten++e) typ x p (.mk kd 0 0 EMB [] ts)=true:=by
 obtain⟨hw,hH,hmod,hge,hlt,j8,hin⟩:=heldB (jT:=jT) hn (by omega) (ht.near hn) hx hp
 have hwp:=kI hw
 have hpl:(b.length:Int)≤p:=by cases len<;>simp at hge<;>omega
 have hpu:p < b.length+x+x:=by cases len<;>simp at hlt<;>omega
 have hmul0:0≤x*(l.length:Int):=Int.mul_nonneg (by omega) (by omega)
 have hmul8:x*(l.length:Int)≤8*l.length:=Int.mul_le_mul_of_nonneg_right hwp.2 (by omega)
 have hcomm:(l.length:Int)*x=x*l.length:=Int.mul_comm _ _
 obtain⟨hl1,hl2⟩:=ht
 obtain⟨R,hR⟩:∃R,(yW x len jT b l).flatten=R:=⟨_,rfl⟩
 rw[hR] at hH j8⊢
 have hmany:(kd,many).2=many:=rfl
 unfold KG
 simp only[Tr.kids,Bool.and_eq_true]
 refine⟨front_iff.2 ⟨by rw[hs],rfl,rfl,rfl,fun _=>rfl,?_,?_,?_,fun h=>by rw[hs] at h;exact absurd h h17⟩,kids_iff.2 fun j t hj=>?_⟩
 ·cases len
  ·simpa using hmod
  ·simp only[if_true] at hmod
   have:p=(p - x)+x:=by omega
   rw[this,Int.add_emod_right];exact hmod
 ·rw[hs,hg,← hl1]
  have:=hH.len
  rw[List.length_append]
  cases jT
  ·simp only[Bool.false_eq_true,if_false] at this⊢;omega
  ·simp only[if_true] at this⊢;omega
 ·rw[hs]
  dsimp only
  cases len
  ·simp only[Bool.false_eq_true,if_false] at hm
   rw[if_neg hm.1];exact hm.2
  ·simp only[if_true] at hm
   rw[if_pos hm,cE (vF (j8 rfl)) (by omega),hl1]
   exact⟨rfl,rfl⟩
 ·rw[Nat.zero_add]
  obtain⟨v,hv⟩:∃v,l[j]? = some v:=by
   have:j < ts.length:=(List.getElem?_eq_some_iff.1 hj).1
   exact⟨_,List.getElem?_eq_getElem (by omega)⟩
  have hjl:j < l.length:=(List.getElem?_eq_some_iff.1 hv).1
  have htv:=hl2 j v t hv hj
  have hjx:0≤(j:Int)*x:=Int.mul_nonneg (by omega) (by omega)
  have hjx8:(j:Int)*x≤j*8:=Int.mul_le_mul_of_nonneg_left hwp.2 (by omega)
  have hload:=vF (Z:=e) (hH.elem j v hv)
  have hfirst:(b.length:Int)≤ZP typ x p:=by
   unfold ZP
   rw[hs]
   dsimp only
   rw[if_neg h17]
   cases len
   ·simp only[Bool.false_eq_true,if_false] at hm
    rw[if_neg hm.1];exact hpl
   ·simp only[if_true] at hm hge
    rw[if_pos hm];exact hge
  have hE:=eR (e:=R++e) htv hw (by rw[← List.append_assoc];exact hload) (hin v (List.mem_of_getElem? hv)) (by omega) (by omega) hfirst
  rw[← List.append_assoc] at hE
  unfold KQ
  rw[hs,hg,← hl1]
  cases jT
  ·simp only[Bool.false_eq_true,if_false]
   obtain⟨e1,e2⟩:=hty rfl v (List.mem_of_getElem? hv)
   rw[← e1]
   refine⟨trivial,?_⟩
   rcases e2 with e2|e2
   ·rw[if_pos e2] at hE;exact hE
   ·have hi4:inlineB v.1=false:=by rw[e2];decide
    rw[hi4] at hE
    simp only[Bool.false_eq_true,if_false] at hE
    have hw4:isW v.2.1=true:=by
     rcases htv with h|h
     ·exact (JX h).2.2.1
     ·exact h.isw
    rw[e2] at hE⊢
    rw[sZ hw hw4];exact hE
  ·simp only[if_true]
   have hT:=lF (e:=e) (hH.tag rfl j v hv)
   have hq:(p+(l.length:Int)*x+(j:Int)).toNat=(p+(l.length:Int)*x).toNat+j:=by omega
   rw[hq,hT]
   simp only[Option.getD_some]
   have hle:jY v=0:=(htv.near hn).1
   rw[Y4 hw hle]
   exact⟨rfl,hE⟩
structure aD (d:List UInt8) (v:V3) (names:List ByteArray):Prop where
 typ:v.1=14
 isw:isW v.2.1=true
 n0:0≤v.2.2
 n1:v.2.2≤d.length
 lim:v.2.2 - v.2.1 < d.length
 body:∀e,YZ (d++e) v.2.1 v.2.2 names=true
theorem aD.more {d:List UInt8} {v:V3} {names:List ByteArray} (h:aD d v names) (e:List UInt8):aD (d++e) v names:=
 ⟨h.typ,h.isw,h.n0,by have:=h.n1;rw[List.length_append];omega,by have:=h.lim;rw[List.length_append];omega,fun f=>by rw[List.append_assoc];exact h.body _⟩
def ZH (k:ByteArray):Tr:=.mk 5 0 0 k [] []
theorem m8 {b:List UInt8} {l:List V3} {names:List ByteArray} {x p:Int} (ht:zP b l (names.map ZH)) (h4:∀v∈l,v.1=4) (hn:b.length≤1048576) (hl:l.length≤65536) (hx:allF l (0,0,0) b.length 1=x) (hp:(b.length:Int)+j5 b x+x=p) (e:List UInt8) :
 YZ (b++(yW x true false b l).flatten++e) x p names=true:=by
 have hL:=eS (len:=true) (jT:=false) (typ:=14) (kd:=13) (many:=0) ht hn hl (by simpa using hx) (by simpa using hp) (by decide) (by decide) (by decide) (by simp) (fun _ v hv=>⟨by rw[h4 v hv];decide,.inr (h4 v hv)⟩) e
 unfold KG at hL
 simp only[Tr.kids,Bool.and_eq_true] at hL
 obtain⟨h1,h2⟩:=hL
 have hF:=front_iff.1 h1
 have hfx:=hF.fix
 have hrm:=hF.room
 have hmy:=hF.many
 have e14:zI 14=(13,0):=by decide
 rw[e14] at hrm hmy
 simp only[if_true,List.length_map] at hmy
 rw[List.length_map,show v7 (13,0).1=false by decide] at hrm
 simp only[Bool.false_eq_true,if_false,Int.add_zero] at hrm
 generalize b++(yW x true false b l).flatten++e=D at *
 unfold YZ
 simp only[Bool.and_eq_true,decide_eq_true_eq]
 refine⟨⟨⟨hfx,hrm⟩,hmy⟩,names_iff.2 fun j k hk=>?_⟩
 have hkk:=kids_iff.1 h2 j (ZH k) (by rw[List.getElem?_map,hk];rfl)
 unfold KQ at hkk
 rw[e14,show v7 (13,0).1=false by decide] at hkk
 simp only[Bool.false_eq_true,if_false,true_and,Nat.zero_add,show (Ft.elemF 14).1=4 by decide] at hkk
 have hfirst:ZP 14 x p=p - x:=by unfold ZP;rw[e14];rfl
 rw[hfirst] at hkk
 rw[Nat.zero_add]
 obtain⟨_,hc⟩:=bG hkk
 rcases hc with ⟨hnr,_⟩|⟨_,hfb,_,hlk⟩|⟨_,_,hft,_⟩
 ·exact absurd hnr (by decide)
 ·unfold aM
  rw[hfb,Bool.true_and]
  have hkf:keyF D (p+(j:Int)*x - (yZ D (p+(j:Int)*x) x).1) (ZH k)=true:=hlk
  unfold keyF at hkf
  simp only[Bool.and_eq_true] at hkf⊢
  exact⟨hkf.1.2,hkf.2⟩
 ·exact absurd hft (by decide)
theorem s7 {b:List UInt8} {k:V3} {l:List V3} {ts:List Tr} {names:List ByteArray} {x p:Int} (ht:zP b l ts) (hk:aD b k names) (hi:cU names=true) (hnl:names.length=ts.length) (hn:b.length≤1048576) (hl:l.length≤65536)
 (hx:allF l k b.length 3=x) (hp:(b.length:Int)+j5 b x+3*x=p) (e:List UInt8):KG (b++(qK x k b l).flatten++e) 9 x p (.mk 17 0 0 EMB names ts)=true:=by
 have hK:V4 b.length k:=⟨hk.typ,hk.isw,hk.n0,hk.n1⟩
 obtain⟨hw,hH,hmod,hge,hlt,hin,hkn⟩:=heldM hn (by omega) (ht.near hn) hK hx hp
 have hwp:=kI hw
 have hkp:=kI hk.isw
 have hmul0:0≤x*(l.length:Int):=Int.mul_nonneg (by omega) (by omega)
 have hmul8:x*(l.length:Int)≤8*l.length:=Int.mul_le_mul_of_nonneg_right hwp.2 (by omega)
 have hcomm:(l.length:Int)*x=x*l.length:=Int.mul_comm _ _
 obtain⟨hl1,hl2⟩:=ht
 obtain⟨R,hR⟩:∃R,(qK x k b l).flatten=R:=⟨_,rfl⟩
 rw[hR] at hH⊢
 have hs:zI 9=(17,0):=by decide
 have hg:v7 17=true:=by decide
 have hk0:=hk.n0
 have hk1:=hk.n1
 have hk2:=hk.lim
 have hbody:=hk.body (R++e)
 rw[← List.append_assoc] at hbody
 unfold KG
 simp only[Tr.kids,Bool.and_eq_true]
 refine⟨front_iff.2 ⟨by rw[hs],rfl,rfl,rfl,fun h=>absurd (by rw[hs]) h,?_,?_,?_,fun _=>⟨by omega,hnl,?_⟩⟩,kids_iff.2 fun j t hj=>?_⟩
 ·have:p=(p - 3*x)+3*x:=by omega
  rw[this,Int.add_mul_emod_self_right];exact hmod
 ·rw[hs,hg,← hl1]
  have:=hH.len
  rw[List.length_append]
  simp only[if_true]
  omega
 ·rw[hs]
  dsimp only
  rw[if_pos rfl,cE (vF hH.many) (by omega),hl1]
  exact⟨rfl,rfl⟩
 ·have n1:=cE (vF (Z:=e) hH.off) (by omega)
  have n2:=cE (vF (Z:=e) hH.wide) (by omega)
  have e2:p - 3*x+x=p - 2*x:=by omega
  unfold n7
  rw[e2,n1,n2]
  simp only[hk.isw,hi,Bool.true_and,Bool.and_true,Bool.and_eq_true,decide_eq_true_eq]
  have e3:p - 3*x - (p - 3*x - k.2.2)=k.2.2:=by omega
  rw[e3]
  exact⟨⟨by omega,by omega⟩,hbody⟩
 ·rw[Nat.zero_add]
  obtain⟨v,hv⟩:∃v,l[j]? = some v:=by
   have:j < ts.length:=(List.getElem?_eq_some_iff.1 hj).1
   exact⟨_,List.getElem?_eq_getElem (by omega)⟩
  have hjl:j < l.length:=(List.getElem?_eq_some_iff.1 hv).1
  have htv:=hl2 j v t hv hj
  have hjx:0≤(j:Int)*x:=Int.mul_nonneg (by omega) (by omega)
  have hjx8:(j:Int)*x≤j*8:=Int.mul_le_mul_of_nonneg_left hwp.2 (by omega)
  have hload:=vF (Z:=e) (hH.elem j v hv)
  have hfirst:(b.length:Int)≤ZP 9 x p:=by
   unfold ZP
   rw[hs]
   simp only[if_true]
   exact hge
  have hE:=eR (e:=R++e) htv hw (by rw[← List.append_assoc];exact hload) (hin v (List.mem_of_getElem? hv)) (by omega) (by omega) hfirst
  rw[← List.append_assoc] at hE
  unfold KQ
  rw[hs,hg,← hl1]
  simp only[if_true]
  have hT:=lF (e:=e) (hH.tag j v hv)
  have hq:(p+(l.length:Int)*x+(j:Int)).toNat=(p+(l.length:Int)*x).toNat+j:=by omega
  rw[hq,hT]
  simp only[Option.getD_some]
  have hle:jY v=0:=(htv.near hn).1
  rw[Y4 hw hle]
  exact⟨rfl,hE⟩
structure Inv (x:BS):Prop where
 e0:x.e=0
 s0:x.s.2=0
 keys:∀z∈x.keys,qG x.s.1 (4,1,z.2) (ZH z.1)∧zM x.names z.2=z.1
 texts:∀z∈x.texts,qG x.s.1 (5,Ft.widthOf z.1.size,z.2) (.mk 6 0 0 z.1 [] [])
 lists:∀z∈x.lists,0≤z.2∧∃v names,x.vals[z.2.toNat]? = some v∧aD x.s.1 v names∧kF names=z.1∧∀k∈names,yI k=0
 names:∀z∈x.names,z.1 < x.s.1.length
 vals:x.vals.length≤x.s.1.length
theorem Inv.s {x:BS} (h:Inv x):x.s=(x.s.1,0):=by
 have:=h.s0
 rw[← this]
theorem Inv.new:Inv BS.new:=⟨rfl,rfl,fun z h=>absurd h List.not_mem_nil,fun z h=>absurd h List.not_mem_nil,fun z h=>absurd h List.not_mem_nil,fun z h=>absurd h List.not_mem_nil,Nat.zero_le _⟩
theorem Inv.ext {x:BS} (h:Inv x) (e:List UInt8) (k:List V3):Inv {x with s:=(x.s.1++e,0),stk:=k}:=
 ⟨h.e0,rfl,fun z hz=>⟨(h.keys z hz).1.more e,(h.keys z hz).2⟩,fun z hz=>(h.texts z hz).more e,fun z hz=>by
  obtain⟨h0,v,nm,h1,h2,h3⟩:=h.lists z hz
  exact⟨h0,v,nm,h1,h2.more e,h3⟩,fun z hz=>by
  have:=h.names z hz
  show z.1 < ((x.s.1++e).length:Int)
  rw[List.length_append];omega,by
  have:=h.vals
  show x.vals.length≤(x.s.1++e).length
  rw[List.length_append];omega⟩
theorem Inv.stk {x:BS} (h:Inv x) (k:List V3):Inv {x with stk:=k}:=by
 have:=h.ext [] k
 rw[List.append_nil,← h.s] at this
 exact this
structure Z6 (x x':BS) (t:Tr) (c:Nat):Prop where
 inv:Inv x'
 grow:∃e,x'.s.1=x.s.1++e∧e.length≤c
 push:∃v,x'.stk=x.stk++[v]∧qG x'.s.1 v t
 nms:∀a:Int,a < x.s.1.length→zM x'.names a=zM x.names a
theorem lG {l:zR} {k:ByteArray} {a:Int} (h:yB l k=(a,true)):(k,a)∈l:=by
 unfold yB at h
 split at h
 ·rename_i hh
  have hlt:=aO hh
  have hg:(KH l).getD (yJ l k) 0=(l[yJ l k]).2:=by simp[KH,List.getD_eq_getElem?_getD,hlt]
  rw[hg] at h
  injection h with h1 h2
  have h3:=of_decide_eq_true hh
  unfold ZB at h3
  rw[List.getElem?_map,List.getElem?_eq_getElem hlt] at h3
  simp only[Option.map_some,Option.some.injEq] at h3
  have:l[yJ l k]=(k,a):=Prod.ext h3 h1
  rw[← this]
  exact List.getElem_mem hlt
 ·injection h with _ h2;cases h2
theorem eT {names:List (Int × ByteArray)} {a b:Int} {k:ByteArray} (h:a≠b):zM (names++[(b,k)]) a=zM names a:=by
 unfold zM
 rw[List.find?_append]
 cases names.find? (fun q=>decide (q.1=a)) with
 | some q=>rfl
 | none=>
  have:List.find? (fun q:Int × ByteArray=>decide (q.1=a)) [(b,k)]=none:=by simp[Ne.symm h]
  rw[this];rfl
theorem eU {names:List (Int × ByteArray)} {b:Int} {k:ByteArray} (h:∀z∈names,z.1≠b):zM (names++[(b,k)]) b=k:=by
 unfold zM
 rw[List.find?_append]
 have:names.find? (fun q=>decide (q.1=b))=none:=by
  rw[List.find?_eq_none]
  intro z hz
  simpa using h z hz
 rw[this]
 simp
theorem eV (k:ByteArray):jP [k,⟨#[0]⟩]=(YG k).data.toList:=by
 rw[oV]
 simp[jP]
theorem s8 {b e:List UInt8} {s:ByteArray} {at_:Int} (h:at_=b.length):bB (b++s.data.toList++e) at_ s=true:=by
 subst h
 rw[has_iff]
 refine⟨by omega,?_,?_⟩
 ·rw[List.length_append,List.length_append,VG];omega
 ·rw[Int.toNat_natCast,List.append_assoc,List.drop_left,← VG,List.take_left' rfl]
theorem pS {b:List UInt8} {k:ByteArray} (hk:yI k=0):qG (b++jP [k,⟨#[0]⟩]) (4,1,(b.length:Int)) (ZH k):=by
 refine .inr ⟨by show inlineB 4=false;decide,by show legalB 4=true;decide,rfl,by show (0:Int)≤b.length;omega,?_,?_,fun e=>?_⟩
 ·show (b.length:Int)≤_
  rw[List.length_append];omega
 ·show (b.length:Int) - vW 4*1 < _
  rw[show vW 4=0 by decide,List.length_append]
  have:=Y7 k
  omega
 ·show keyF _ _ _=true
  unfold keyF
  rw[eV]
  show (YO (ZH k) 5 0 0 k && decide (yI k=0) && bB (b++(YG k).data.toList++e) (b.length:Int) (YG k))=true
  rw[s8 rfl]
  simp only[ZH,JJ,hk,decide_true,Bool.and_self]
theorem m9 {x:BS} (h:x.e=0):x.fail 0=x:=by
 obtain⟨s,e,stk,a,b,c,d,f⟩:=x
 dsimp only at h
 subst h
 rfl
theorem put_ok {most:Int} {sh:Bool} {k:ByteArray} {x:BS} (h:Inv x) (hk:yI k=0) (hr:(x.s.1.length:Int)+(k.size+1)≤most) :
 ∃a e,(x.put most sh k).1=(4,1,a)∧Inv (x.put most sh k).2∧(x.put most sh k).2.s.1=x.s.1++e∧e.length≤k.size+1∧(x.put most sh k).2.stk=x.stk∧qG (x.put most sh k).2.s.1 (4,1,a) (ZH k)∧zM (x.put most sh k).2.names a=k ∧
  ∀c:Int,c < x.s.1.length→zM (x.put most sh k).2.names c=zM x.names c:=by
 unfold BS.put
 dsimp only
 rw[hk,m9 h.e0,if_neg (by rw[h.e0];decide)]
 by_cases hg:((yB x.keys k).2 && sh)=true
 ·rw[if_pos hg]
  rw[Bool.and_eq_true] at hg
  have hm:yB x.keys k=((yB x.keys k).1,true):=by rw[← hg.1]
  have h1:=h.keys _ (lG hm)
  exact⟨_,[],rfl,h,by simp,Nat.zero_le _,rfl,h1.1,h1.2,fun c _=>rfl⟩
 ·rw[if_neg hg]
  have hsz:(jP [k,⟨#[0]⟩]).length=k.size+1:=by rw[eV,VG,oU]
  have hs:kA most (jP [k,⟨#[0]⟩]) x.s=(x.s.1++jP [k,⟨#[0]⟩],0):=by
   have:=vL most x.s.1 (jP [k,⟨#[0]⟩]) (by rw[hsz];omega)
   rw[← h.s] at this
   exact this
  have ht:=pS (b:=x.s.1) hk
  have hnb:∀z∈x.names,z.1≠(x.s.1.length:Int):=fun z hz e=>by have:=h.names z hz;omega
  refine⟨_,jP [k,⟨#[0]⟩],rfl,?_,by dsimp only;rw[hs],by rw[hsz];exact Nat.le_refl _,rfl,by dsimp only;rw[hs];exact ht,eU hnb,fun c hc=>eT (by omega)⟩
  dsimp only
  rw[hs]
  refine⟨rfl,rfl,fun z hz=>?_,fun z hz=>(h.texts z hz).more _,fun z hz=>?_,fun z hz=>?_,by have:=h.vals;show x.vals.length≤(x.s.1++_).length;rw[List.length_append];omega⟩
  ·rcases QZ hz with hz|⟨rfl,_⟩
   ·have h1:=h.keys z hz
    have hlt:z.2 < (x.s.1.length:Int):=by
     rcases h1.1 with hq|hq
     ·exact absurd (JX hq).1 (by show ¬inlineB 4=true;decide)
     ·have:=hq.lim
      rw[show ((4:Int),(1:Int),z.2).1=4 from rfl,show vW 4=0 by decide] at this
      simpa using this
    refine⟨h1.1.more _,?_⟩
    show zM (x.names++[((x.s.1.length:Int),k)]) z.2=z.1
    rw[eT (by omega)]
    exact h1.2
   ·exact⟨ht,eU hnb⟩
  ·obtain⟨h0,v,nm,h1,h2,h3⟩:=h.lists z hz
   exact⟨h0,v,nm,h1,h2.more _,h3⟩
  ·show z.1 < ((x.s.1++jP [k,⟨#[0]⟩]).length:Int)
   rw[List.length_append,hsz]
   rcases List.mem_append.1 hz with hz|hz
   ·have:=h.names z hz;omega
   ·obtain rfl:=List.mem_singleton.1 hz
    show (x.s.1.length:Int) < _
    omega
theorem Q2 {x:BS} (h:Inv x) (v:V3) (hl:x.stk.length+1≤65536):x.push v={x with stk:=x.stk++[v]}:=push_ok h.e0 h.s0 hl
theorem key_ok {most:Int} {sh:Bool} {k:ByteArray} {x:BS} (h:Inv x) (hk:yI k=0) (hr:(x.s.1.length:Int)+(k.size+1)≤most) (hl:x.stk.length+1≤65536) :
 Z6 x (x.key most sh k) (ZH k) (k.size+1)∧∃a,(x.key most sh k).stk=x.stk++[(4,1,a)]∧zM (x.key most sh k).names a=k∧a < (x.key most sh k).s.1.length:=by
 obtain⟨a,e,h1,h2,h3,h4,h5,h6,h7,h8⟩:=put_ok (sh:=sh) h hk hr
 have hx:x.key most sh k={(x.put most sh k).2 with stk:=x.stk++[(4,1,a)]}:=by
  unfold BS.key
  rw[if_pos h.e0,Q2 h2 _ (by rw[h5];exact hl),h1,h5]
 rw[hx]
 have hlt:a < ((x.put most sh k).2.s.1.length:Int):=by
  rcases h6 with hq|hq
  ·exact absurd (JX hq).1 (by show ¬inlineB 4=true;decide)
  ·have:=hq.lim
   rw[show ((4:Int),(1:Int),a).1=4 from rfl,show vW 4=0 by decide] at this
   simpa using this
 exact⟨⟨h2.stk _,⟨e,h3,h4⟩,⟨_,rfl,h6⟩,h8⟩,a,rfl,h7,hlt⟩
theorem pT {x:BS} {v:V3} {t:Tr} (h:Inv x) (hv:nearV v t) (hl:x.stk.length+1≤65536):Z6 x (x.inline v) t 0:=by
 have hx:x.inline v={x with stk:=x.stk++[v]}:=by unfold BS.inline;rw[if_pos h.e0,Q2 h v hl]
 rw[hx]
 exact⟨h.stk _,⟨[],by simp,Nat.le_refl _⟩,⟨v,rfl,.inl hv⟩,fun a _=>rfl⟩
theorem cF {el:Int} {v:V3} (h:v.1=el) (hl:jY v=0):j4 el v=0:=by
 unfold j4
 rw[h]
 simpa using hl
theorem vec_ok {most elem many typ kd:Int} {len jT:Bool} {T:V3→Int} {l:List V3} {ts:List Tr} {x:BS} (h:Inv x) (ht:zP x.s.1 l ts) (hv:∀s,kZ most elem many l s=zE most T len jT typ 0 l s) (hT:∀v∈l,T v=0)
 (hs:zI typ=(kd,if len then 0 else (ts.length:Int))) (h17:kd≠17) (hg:v7 kd=jT) (hne:len=false→ts≠[]) (hty:jT=false→∀v∈l,v.1=(Ft.elemF typ).1∧(inlineB v.1=true∨v.1=4))
 (hl:x.stk.length+1≤65536) (hll:l.length≤65536) (hr:(x.s.1.length:Int)+(15+9*l.length:Nat)≤most) (hmost:most≤1048576) (hfar:inlineB typ=false∧legalB typ=true∧YH typ=false∧vW typ=if len then 1 else 0) :
 Z6 x (x.vector most elem many l) (.mk kd 0 0 EMB [] ts) (15+9*l.length):=by
 have hb:x.s.1.length≤1048576:=by omega
 obtain⟨b,hbe⟩:∃b,x.s.1=b:=⟨_,rfl⟩
 have hxs:x.s=(b,0):=by rw[h.s,hbe]
 rw[hbe] at ht hr hb
 obtain⟨X,hX⟩:∃X,allF l (0,0,0) b.length (if len then 1 else 0)=X:=⟨_,rfl⟩
 obtain⟨p,hp⟩:∃p,(b.length:Int)+j5 b X+(if len then X else 0)=p:=⟨_,rfl⟩
 obtain⟨hw,hH,hmod,hge,hlt,j8,hin⟩:=heldB (jT:=jT) hb (by omega) (ht.near hb) hX hp
 have hwp:=kI hw
 have hle:=iI hw len jT b l
 have hput:=oC (most:=most) (T:=T) (len:=len) (jT:=jT) (kind:=typ) hT hb (by omega) (ht.near hb) hX (by omega)
 have hpl:=J7 hw len jT b l
 have hbody:=eS (many:=if len then 0 else (ts.length:Int)) ht hb hll hX hp hs h17 hg (by cases len<;>simp;exact hne rfl) hty
 rw[hp] at hput
 obtain⟨R,hR⟩:∃R,(yW X len jT b l).flatten=R:=⟨_,rfl⟩
 rw[hR] at hput hpl hH hbody
 have hI:=h.ext R x.stk
 have hx:x.vector most elem many l={x with s:=(b++R,0),stk:=x.stk++[(typ,X,p)]}:=by
  unfold BS.vector
  rw[if_pos h.e0,hv,hxs,hput]
  dsimp only
  rw[hbe] at hI
  rw[m9 (x:={x with s:=(b++R,0)}) h.e0]
  exact Q2 (x:={x with s:=(b++R,0)}) hI _ hl
 rw[hx]
 have hI2:=h.ext R (x.stk++[(typ,X,p)])
 rw[hbe] at hI2
 have hXl:=hH.len
 have hmul0:0≤X*(l.length:Int):=Int.mul_nonneg (by omega) (by omega)
 refine⟨hI2,⟨R,by rw[hbe],by omega⟩,⟨_,rfl,.inr ⟨hfar.1,hfar.2.1,hw,?_,?_,?_,fun e=>?_⟩⟩,fun a _=>rfl⟩
 ·show 0≤p
  rw[← hp];cases len<;>simp<;>omega
 ·show p≤((b++R).length:Int)
  cases jT<;>simp at hXl<;>simp<;>omega
 ·show p - vW typ*X < ((b++R).length:Int)
  rw[hfar.2.2.2,hXl]
  cases len
  ·have h1:1≤(l.length:Int):=by
    have:=hne rfl
    have h2:=ht.1
    have:ts.length≠0:=fun e=>this (List.length_eq_zero_iff.1 e)
    omega
   have h2:(1:Int)*1≤X*l.length:=Int.mul_le_mul (by omega) h1 (by omega) (by omega)
   cases jT<;>simp<;>omega
  ·cases jT<;>simp<;>omega
 ·show eQ (b++R++e) typ X p _=true
  unfold eQ
  rw[hfar.2.2.1]
  exact hbody e
theorem vp_of {most el many typ:Int} (hel:el≠-1) (ht:(typedF el many).1=typ) (l:List V3) (s:St):kZ most el many l s=zE most (j4 el) (decide (many=0)) false typ 0 l s:=by
 unfold kZ
 rw[if_neg hel,ht]
theorem s9 {most el typ kd:Int} {l:List V3} {ts:List Tr} {x:BS} (h:Inv x) (ht:zP x.s.1 l ts) (hel:el≠-1) (hty:(typedF el 0).1=typ) (hs:zI typ=(kd,0)) (h17:kd≠17) (hg:v7 kd=false) (he:∀v∈l,v.1=el) (hel2:(Ft.elemF typ).1=el∧(inlineB el=true∨el=4))
 (hl:x.stk.length+1≤65536) (hll:l.length≤65536) (hr:(x.s.1.length:Int)+(15+9*l.length:Nat)≤most) (hmost:most≤1048576) (hfar:inlineB typ=false∧legalB typ=true∧YH typ=false∧vW typ=1):Z6 x (x.vector most el 0 l) (.mk kd 0 0 EMB [] ts) (15+9*l.length):=
 vec_ok (len:=true) (jT:=false) h ht (fun s=>vp_of hel hty l s) (fun v hv=>cF (he v hv) (ht.near (by omega) v hv).1) hs h17 hg (fun e=>by cases e) (fun _ v hv=>⟨by rw[he v hv,hel2.1],by rw[he v hv];exact hel2.2⟩) hl hll hr hmost hfar
def vY (l:List ByteArray):Nat:=(l.map fun k=>k.size+1).sum
theorem cG {most:Int} {sh:Bool}:∀(l:List ByteArray) {x:BS},Inv x→(∀k∈l,yI k=0)→(x.s.1.length:Int)+vY l≤most →
 ∃e,Inv (x.putAll most sh l).2∧(x.putAll most sh l).2.s.1=x.s.1++e∧e.length≤vY l∧(x.putAll most sh l).2.stk=x.stk∧zP (x.putAll most sh l).2.s.1 (x.putAll most sh l).1 (l.map ZH)∧(∀v∈(x.putAll most sh l).1,v.1=4)∧∀c:Int,c < x.s.1.length→zM (x.putAll most sh l).2.names c=zM x.names c
 | [],x,h,_,_=>⟨[],h,by simp[BS.putAll],Nat.zero_le _,rfl,zP.nil _,by simp[BS.putAll],fun _ _=>rfl⟩
 | k::r,x,h,hk,hr=>by
  simp only[vY,List.map_cons,List.sum_cons] at hr
  obtain⟨a,e,h1,h2,h3,h4,h5,h6,h7,h8⟩:=put_ok (most:=most) (sh:=sh) h (hk k (by simp)) (by omega)
  have j8:(x.put most sh k).2.s.1.length=x.s.1.length+e.length:=by rw[h3,List.length_append]
  obtain⟨e2,g1,g2,g3,g4,g5,g6,g7⟩:=cG (most:=most) (sh:=sh) r h2 (fun q hq=>hk q (by simp[hq])) (by unfold vY;omega)
  simp only[BS.putAll]
  refine⟨e++e2,g1,by rw[g2,h3,List.append_assoc],by rw[List.length_append];simp only[vY,List.map_cons,List.sum_cons] at g3⊢;omega,by rw[g4,h5],?_,?_,fun c hc=>?_⟩
  ·refine zP.cons ?_ g5
   rw[g2,h1]
   exact h6.more _
  ·intro v hv
   rcases List.mem_cons.1 hv with rfl|hv
   ·rw[h1]
   ·exact g6 v hv
  ·rw[g7 c (by omega),h8 c hc]
theorem keyVec_ok {most:Int} {sh:Bool} {l:List ByteArray} {x:BS} (h:Inv x) (hk:∀k∈l,yI k=0) (hl:x.stk.length+1≤65536) (hll:l.length≤65536) (hr:(x.s.1.length:Int)+(vY l+(15+9*l.length):Nat)≤most) (hmost:most≤1048576) :
 Z6 x (x.keyVec most sh l) (.mk 13 0 0 EMB [] (l.map ZH)) (vY l+(15+9*l.length)):=by
 obtain⟨e,h1,h2,h3,h4,h5,h6,h7⟩:=cG (most:=most) (sh:=sh) l h hk (by omega)
 unfold BS.keyVec
 rw[if_pos h.e0]
 have j8:(x.putAll most sh l).2.s.1.length=x.s.1.length+e.length:=by rw[h2,List.length_append]
 have hn:(x.putAll most sh l).1.length=l.length:=by rw[h5.1,List.length_map]
 generalize hY:x.putAll most sh l=Y at *
 have hP:=s9 (most:=most) (el:=4) (typ:=14) (kd:=13) h1 h5 (by decide) (by decide +kernel) (by decide) (by decide) (by decide) h6 ⟨by decide,.inr rfl⟩ (by rw[h4];exact hl) (by omega) (by rw[hn];omega) hmost (by decide)
 obtain⟨e2,g1,g2⟩:=hP.grow
 obtain⟨v,g3,g4⟩:=hP.push
 refine⟨hP.inv,⟨e++e2,by rw[g1,h2,List.append_assoc],by rw[List.length_append];rw[hn] at g2;omega⟩,⟨v,by rw[g3,h4],g4⟩,fun a ha=>?_⟩
 rw[hP.nms a (by omega),h7 a ha]
/-! ### what names a list of keys -/
theorem cH:∀{a b A B:List UInt8},(0:UInt8)∉a→(0:UInt8)∉b→a++0::A=b++0::B→a=b∧A=B
 | [],[],A,B,_,_,h=>by simp at h;exact⟨rfl,h⟩
 | [],y::b,A,B,_,hb,h=>by simp at h;exact absurd h.1 (fun e=>hb (by simp[← e]))
 | x::a,[],A,B,ha,_,h=>by simp at h;exact absurd h.1 (fun e=>ha (by simp[e]))
 | x::a,y::b,A,B,ha,hb,h=>by
  simp only[List.cons_append,List.cons.injEq] at h
  obtain⟨h1,h2⟩:=cH (fun e=>ha (by simp[e])) (fun e=>hb (by simp[e])) h.2
  exact⟨by rw[h.1,h1],h2⟩
theorem YR (l:List ByteArray):(kF l).data.toList=l.flatMap fun k=>k.data.toList++[0]:=by
 have:∀(l:List ByteArray) (a:ByteArray),(l.foldl (fun a k=>a++(k++⟨#[0]⟩)) a).data.toList=a.data.toList++l.flatMap fun k=>k.data.toList++[0]:=by
  intro l
  induction l with
  | nil=>intro a;simp
  | cons k r ih=>intro a;rw[List.foldl_cons,ih];simp
 have h:=this l ByteArray.empty
 have he:ByteArray.empty.data.toList=[]:=rfl
 rw[he,List.nil_append] at h
 exact h
theorem lH:∀{a b:List ByteArray},(∀k∈a,yI k=0)→(∀k∈b,yI k=0)→kF a=kF b→a=b:=by
 have key:∀{a b:List ByteArray},(∀k∈a,yI k=0)→(∀k∈b,yI k=0)→(a.flatMap fun k=>k.data.toList++[0])=(b.flatMap fun k=>k.data.toList++[(0:UInt8)])→a=b:=by
  intro a
  induction a with
  | nil=>
   intro b _ _ h
   cases b with
   | nil=>rfl
   | cons y b=>simp at h
  | cons x a ih=>
   intro b ha hb h
   cases b with
   | nil=>simp at h
   | cons y b=>
    simp only[List.flatMap_cons,List.append_assoc,List.cons_append,List.nil_append] at h
    obtain⟨h1,h2⟩:=cH (hQ (ha x (by simp))) (hQ (hb y (by simp))) h
    rw[bytes_inj h1,ih (fun k hk=>ha k (by simp[hk])) (fun k hk=>hb k (by simp[hk])) h2]
 intro a b ha hb h
 refine key ha hb ?_
 rw[← YR,← YR,h]
theorem nA {most:Int} {sh:Bool} {x:BS} {keys:List V3} {names:List ByteArray} (h:Inv x) (hk:zP x.s.1 keys (names.map ZH)) (h4:∀v∈keys,v.1=4) (hz:∀k∈names,yI k=0) (hll:keys.length≤65536) (hr:(x.s.1.length:Int)+(15+9*keys.length:Nat)≤most) (hmost:most≤1048576) :
 let g:=yB x.lists (kF names)
 let x1:BS:=if g.2 && sh then x else
  let q:=kZ most 4 0 keys x.s
  ({x with s:=q.2,e:=kL x.e q.1.2,lists:=zL (kF names) x.vals.length x.lists,vals:=x.vals++[q.1.1]}:BS)
 let i:Int:=if g.2 && sh then g.1 else x.vals.length
 ∃e,Inv x1∧x1.s.1=x.s.1++e∧e.length≤15+9*keys.length∧x1.stk=x.stk∧x1.names=x.names∧aD x1.s.1 (x1.vals.getD i.toNat (0,0,0)) names:=by
 dsimp only
 by_cases hg:((yB x.lists (kF names)).2 && sh)=true
 ·rw[if_pos hg,if_pos hg]
  rw[Bool.and_eq_true] at hg
  have hm:yB x.lists (kF names)=((yB x.lists (kF names)).1,true):=by rw[← hg.1]
  obtain⟨h0,v,nm,h1,h2,h3,h5⟩:=h.lists _ (lG hm)
  have:nm=names:=lH h5 hz h3
  subst this
  refine⟨[],h,by simp,Nat.zero_le _,rfl,rfl,?_⟩
  rw[List.getD_eq_getElem?_getD,h1]
  exact h2
 ·rw[if_neg hg,if_neg hg]
  have hb:x.s.1.length≤1048576:=by omega
  obtain⟨b,hbe⟩:∃b,x.s.1=b:=⟨_,rfl⟩
  have hxs:x.s=(b,0):=by rw[h.s,hbe]
  rw[hbe] at hk hr hb
  obtain⟨X,hX⟩:∃X,allF keys (0,0,0) b.length 1=X:=⟨_,rfl⟩
  obtain⟨p,hp⟩:∃p,(b.length:Int)+j5 b X+X=p:=⟨_,rfl⟩
  obtain⟨hw,hH,hmod,hge,hlt,j8,hin⟩:=heldB (len:=true) (jT:=false) hb (by omega) (hk.near hb) (by simpa using hX) (by simpa using hp)
  have hwp:=kI hw
  have hle:=iI hw true false b keys
  have hput:=oC (most:=most) (T:=j4 4) (len:=true) (jT:=false) (kind:=14) (fun v hv=>cF (h4 v hv) (hk.near hb v hv).1) hb (by omega) (hk.near hb) (by simpa using hX) (by omega)
  have hpl:=J7 hw true false b keys
  have hbody:=m8 hk h4 hb hll hX hp
  have hvp:kZ most 4 0 keys x.s=(((14,X,p),0),(b++(yW X true false b keys).flatten,0)):=by
   rw[vp_of (typ:=14) (by decide) (by decide +kernel),hxs]
   have:((b.length:Int)+j5 b X+if true=true then X else 0)=p:=by rw[if_pos rfl];exact hp
   rw[this] at hput
   exact hput
  rw[hvp]
  obtain⟨R,hR⟩:∃R,(yW X true false b keys).flatten=R:=⟨_,rfl⟩
  rw[hR] at hpl hH hbody⊢
  dsimp only
  have hI:=h.ext R x.stk
  rw[hbe] at hI
  have hXl:=hH.len
  simp only[Bool.false_eq_true,if_false,Int.add_zero] at hXl
  have hmul0:0≤X*(keys.length:Int):=Int.mul_nonneg (by omega) (by omega)
  have hKV:aD (b++R) (14,X,p) names:=⟨rfl,hw,by show 0≤p;omega,by show p≤((b++R).length:Int);omega,by show p - X < ((b++R).length:Int);omega,fun e=>hbody e⟩
  refine⟨R,⟨by show kL x.e 0=0;rw[h.e0];rfl,rfl,hI.keys,hI.texts,fun z hz'=>?_,hI.names,by have h1:=h.vals;rw[hbe] at h1;show (x.vals++[(14,X,p)]).length≤(b++R).length;rw[List.length_append,List.length_singleton];omega⟩,by rw[hbe],by omega,rfl,rfl,?_⟩
  ·rcases QZ hz' with hz'|⟨rfl,_⟩
   ·obtain⟨h0,v,nm,h1,h2,h3⟩:=hI.lists z hz'
    refine⟨h0,v,nm,?_,h2,h3⟩
    show (x.vals++[(14,X,p)])[z.2.toNat]? = some v
    rw[List.getElem?_append_left (List.getElem?_eq_some_iff.1 h1).1];exact h1
   ·refine⟨by show (0:Int)≤x.vals.length;omega,(14,X,p),names,?_,hKV,rfl,hz⟩
    show (x.vals++[(14,X,p)])[((x.vals.length:Nat):Int).toNat]? = _
    rw[Int.toNat_natCast,List.getElem?_append_right (Nat.le_refl _)];simp
  ·show aD (b++R) ((x.vals++[(14,X,p)]).getD ((x.vals.length:Nat):Int).toNat (0,0,0)) names
   rw[Int.toNat_natCast,List.getD_eq_getElem?_getD,List.getElem?_append_right (Nat.le_refl _)]
   simpa using hKV
theorem tA {most:Int} {sh:Bool} {x:BS} {keys vals:List V3} {names:List ByteArray} {ts:List Tr} (h:Inv x) (hk:zP x.s.1 keys (names.map ZH)) (h4:∀v∈keys,v.1=4) (hz:∀k∈names,yI k=0) (hi:cU names=true) (hv:zP x.s.1 vals ts) (hnl:names.length=ts.length)
 (hl:x.stk.length+1≤65536) (hll:keys.length≤65536) (hr:(x.s.1.length:Int)+(46+18*keys.length:Nat)≤most) (hmost:most≤1048576) :
 Z6 x (x.table most sh (kF names) keys vals) (.mk 17 0 0 EMB names ts) (46+18*keys.length):=by
 obtain⟨e,h1,h2,h3,h5,h6,h7⟩:=nA (most:=most) (sh:=sh) h hk h4 hz hll (by omega) hmost
 unfold BS.table
 dsimp only at h1 h2 h3 h5 h6 h7⊢
 generalize (if ((yB x.lists (kF names)).2 && sh)=true then x else {s:=(kZ most 4 0 keys x.s).2,e:=kL x.e (kZ most 4 0 keys x.s).1.2,stk:=x.stk,keys:=x.keys,texts:=x.texts,lists:=zL (kF names) (x.vals.length:Int) x.lists,names:=x.names,vals:=x.vals++[(kZ most 4 0 keys x.s).1.1]}:BS)=x1 at *
 generalize x1.vals.getD (if ((yB x.lists (kF names)).2 && sh)=true then (yB x.lists (kF names)).1 else (x.vals.length:Int)).toNat (0,0,0)=k at *
 rw[if_pos h1.e0]
 have hkl:keys.length=names.length:=by have:=hk.1;rw[List.length_map] at this;exact this
 have hvn:=hv.1
 have j8:x1.s.1.length=x.s.1.length+e.length:=by rw[h2,List.length_append]
 have hv1:zP x1.s.1 vals ts:=by rw[h2];exact hv.more e
 have hb:x1.s.1.length≤1048576:=by omega
 obtain⟨b,hbe⟩:∃b,x1.s.1=b:=⟨_,rfl⟩
 have hxs:x1.s=(b,0):=by rw[h1.s,hbe]
 rw[hbe] at hv1 hb h7 j8
 have hK:V4 b.length k:=⟨h7.typ,h7.isw,h7.n0,h7.n1⟩
 obtain⟨X,hX⟩:∃X,allF vals k b.length 3=X:=⟨_,rfl⟩
 obtain⟨p,hp⟩:∃p,(b.length:Int)+j5 b X+3*X=p:=⟨_,rfl⟩
 obtain⟨hw,hH,hmod,hge,hlt,hin,hkn⟩:=heldM hb (by omega) (hv1.near hb) hK hX hp
 have hwp:=kI hw
 have hle:=lenM_le hw b vals
 have hput:=putM_ok (most:=most) hb (by omega) (hv1.near hb) hK hX (by omega)
 rw[hp] at hput
 have hpl:=ZW hw k b vals
 have hbody:=s7 hv1 h7 hi hnl hb (by omega) hX hp
 obtain⟨R,hR⟩:∃R,(qK X k b vals).flatten=R:=⟨_,rfl⟩
 rw[hR] at hput hpl hH hbody
 rw[hxs,hput]
 dsimp only
 have hI:=h1.ext R x1.stk
 rw[hbe] at hI
 rw[m9 (x:={x1 with s:=(b++R,0)}) h1.e0,Q2 (x:={x1 with s:=(b++R,0)}) hI _ (by dsimp only;rw[h5];exact hl)]
 have hI2:=h1.ext R (x1.stk++[(9,X,p)])
 rw[hbe] at hI2
 have hXl:=hH.len
 have hmul0:0≤X*(vals.length:Int):=Int.mul_nonneg (by omega) (by omega)
 refine⟨hI2,⟨e++R,by show b++R=_;rw[← hbe,h2,List.append_assoc],by rw[List.length_append];omega⟩,⟨(9,X,p),by show x1.stk++_=_;rw[h5],.inr ⟨by show inlineB 9=false;decide,by show legalB 9=true;decide,hw,by show 0≤p;omega,by show p≤((b++R).length:Int);omega,?_,fun f=>?_⟩⟩,fun a _=>by show zM x1.names a=_;rw[h6]⟩
 ·show p - vW 9*X < ((b++R).length:Int)
  rw[show vW 9=3 by decide];omega
 ·exact hbody f
/-! ### the stack's end as a map's entries -/
def ZE (es:List (V3 × V3)):List V3:=es.flatMap fun p=>[p.1,p.2]
theorem cI (names:List (Int × ByteArray)):∀es:List (V3 × V3),kE names (ZE es)=es.map fun p=>(zM names p.1.2.2,p.1,p.2)
 | []=>rfl
 | p::r=>by
  show (zM names p.1.2.2,p.1,p.2)::kE names (ZE r)=_
  rw[cI names r];rfl
theorem V6:∀es:List (V3 × V3),(∀p∈es,p.1.1=4)→yC (ZE es)=true
 | [],_=>rfl
 | p::r,h=>by
  show (decide (p.1.1=4) && yC (ZE r))=true
  rw[V6 r fun q hq=>h q (by simp[hq]),h p (by simp)];rfl
theorem lI (es:List (V3 × V3)):(ZE es).length=2*es.length:=by
 induction es with
 | nil=>rfl
 | cons p r ih=>show (p.1::p.2::ZE r).length=_;simp only[List.length_cons,ih];omega
theorem lJ:∀{l:List ByteArray},l.Pairwise (fun a b=>ltS a b=true)→cU l=true
 | [],_=>rfl
 | [_],_=>rfl
 | a::b::r,h=>by
  obtain⟨h1,h2⟩:=List.pairwise_cons.1 h
  show (ltS a b && cU (b::r))=true
  rw[h1 b (by simp),lJ h2];rfl
end Go.Proofs.YtjnpcddbgfmpcaaGreatDoor
