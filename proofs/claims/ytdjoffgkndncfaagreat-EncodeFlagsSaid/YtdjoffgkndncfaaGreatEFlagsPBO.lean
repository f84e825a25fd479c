/-
  Texts of the proof.
-/
import Derived.Test.YtdjoffgkndncfaaGreatEFlagsPAX
import Derived.Test.YtdjoffgkndncfaaGreatEFlagsPBM
set_option linter.unusedVariables false
set_option linter.unusedSimpArgs false
namespace Go.Proofs.YtdjoffgkndncfaaGreat
open Go Go.ChangeShapes Go.WideShapes Go.ChangeAt Go.RowKit Go.Joins Go.Deep
open Go.Proofs.YtdjoffgkndncfaaGreat.Ft (V3 vV okV ValsAt inlineB legalB packF codeF typedF allF oneF allAt headF fitsL fitsV fitsF belowW isA unpackF)
def BE (d:List UInt8) (typ wid at_:Int) (t:Tr):Bool:=if fE typ=true then VG d typ 0 0 wid at_ t else b9 d typ wid at_ t
theorem FS {typ:Int} (h:fE typ=true):typ=4∨typ=5∨typ=25∨typ=6∨typ=7:=by
 unfold fE at h
 simp only[Bool.or_eq_true,decide_eq_true_eq] at h
 omega
theorem FT {d:List UInt8} {typ pos par wid at_:Int} {t:Tr} (h:fE typ=true):VG d typ pos par wid at_ t=VG d typ 0 0 wid at_ t:=by
 rcases FS h with rfl|rfl|rfl|rfl|rfl<;>rfl
def BF (v:V3) (t:Tr):Prop:=
 (v=(0,1,0)∧t=.mk 1 0 0 EMB [] [])∨(∃b:Bool,v=yQ b∧t=.mk 2 (if b then 1 else 0) 0 EMB [] []) ∨
 (∃n,qH n∧v=qX n∧t=.mk 3 n 0 EMB [] [])∨(∃u,vT u∧v=qY u∧t=.mk 4 0 u EMB [] [])
structure farV (d:List UInt8) (v:V3) (t:Tr):Prop where
 far:inlineB v.1=false
 legal:legalB v.1=true
 isw:isW v.2.1=true
 n0:0≤v.2.2
 n1:v.2.2≤d.length
 lim:v.2.2 - vZ v.1*v.2.1 < d.length
 body:∀e,BE (d++e) v.1 v.2.1 v.2.2 t=true
def YK (d:List UInt8) (v:V3) (t:Tr):Prop:=BF v t∨farV d v t
theorem YK.more {d:List UInt8} {v:V3} {t:Tr} (h:YK d v t) (e:List UInt8):YK (d++e) v t:=by
 rcases h with h|h
 ·exact .inl h
 ·refine .inr ⟨h.far,h.legal,h.isw,h.n0,?_,?_,fun f=>by rw[List.append_assoc];exact h.body _⟩
  ·have:=h.n1;rw[List.length_append];omega
  ·have:=h.lim;rw[List.length_append];omega
theorem YL {v:V3} {t:Tr} (h:BF v t):inlineB v.1=true∧legalB v.1=true∧isW v.2.1=true∧0≤v.2.2∧v.2.2≤18446744073709551615:=by
 rcases h with ⟨rfl,_⟩|⟨b,rfl,_⟩|⟨n,hn,rfl,_⟩|⟨u,hu,rfl,_⟩
 ·exact⟨by decide,by decide,rfl,by decide,by decide⟩
 ·cases b<;>exact⟨by decide,by decide,rfl,by decide,by decide⟩
 ·exact⟨by show inlineB 1=true;decide,by show legalB 1=true;decide,bO n,by show 0≤n % _;omega,by show n % _≤_;omega⟩
 ·unfold vT at hu
  exact⟨by show inlineB 2=true;decide,by show legalB 2=true;decide,vY _,hu.1,hu.2⟩
theorem YK.near {d:List UInt8} {v:V3} {t:Tr} (h:YK d v t) (hd:d.length≤1048576):aO d.length v:=by
 rcases h with h|h
 ·obtain⟨h1,h2,h3,h4,h5⟩:=YL h
  refine⟨?_,⟨h4,h5⟩,fun _=>(zH h3).2,fun e=>(by rw[h1] at e;cases e)⟩
  unfold kL;rw[if_pos h2,if_pos h1]
 ·have h1:=h.n1
  refine⟨?_,And.intro h.n0 (by omega),fun e=>(by rw[h.far] at e;cases e),fun _=>h.n1⟩
  unfold kL;rw[if_pos h.legal,if_neg (by rw[h.far];decide),if_pos h.isw]
theorem BG {n x:Int} (hx:isW x=true) (hn:qH n) (hw:QT n≤x):sgnF (zX (n % 18446744073709551616) x) x=n:=by
 unfold qH at hn
 unfold QT at hw
 rcases zN hx with rfl|rfl|rfl|rfl
 all_goals
  unfold zX sgnF
  simp only[Int.reduceToNat,Nat.reduceMul,Nat.reduceSub,Int.reducePow]
  split at hw
  ·split<;>omega
  split at hw
  ·split<;>omega
  split at hw
  ·split<;>omega
  ·split<;>omega
theorem BH {u x:Int} (hx:isW x=true) (hu:vT u) (hw:Ft.widthOf u.toNat≤x):zX u x=u:=by
 unfold vT at hu
 unfold Ft.widthOf at hw
 have p8:(2:Nat) ^ 8=256:=by decide
 have p16:(2:Nat) ^ 16=65536:=by decide
 have p32:(2:Nat) ^ 32=4294967296:=by decide
 rw[p8,p16,p32] at hw
 rcases zN hx with rfl|rfl|rfl|rfl
 all_goals
  unfold zX
  simp only[Int.reduceToNat,Nat.reduceMul,Int.reducePow]
  repeat' split at hw
  all_goals omega
theorem JG (k n u:Int) (s:ByteArray):aV (.mk k n u s [] []) k n u s=true:=bare_iff.2 rfl
theorem dW {d:List UInt8} {p x u:Int} (h:vU d p x=(u,0)) (h1:u≤9007199254740992):KT d p x=(u,true):=by
 unfold KT
 rw[h]
 simp only[Int.min_eq_left h1,decide_true,Bool.true_and,decide_eq_true h1]
theorem FU {x p:Int} {v:V3} (h:inlineB v.1=false):Z4 x p v=p - v.2.2:=by unfold Z4;rw[h];simp
theorem DA {x p:Int} {v:V3} (h:inlineB v.1=true):Z4 x p v=zX v.2.2 x:=by unfold Z4;rw[if_pos h]
theorem n9 {d0 e:List UInt8} {v:V3} {t:Tr} {p x lim:Int} (h:YK d0 v t) (hx:isW x=true) (hl:vU (d0++e) p x=(Z4 x p v,0)) (hi:inlineB v.1=true→v.2.1≤x) (hp:(d0.length:Int)≤p) (hp2:p≤9007199254740992) (hlim:(d0.length:Int)≤lim) :
 eD (d0++e) v.1 p x (if inlineB v.1 then x else v.2.1) lim t=true:=by
 rw[fL]
 rcases h with h|h
 ·obtain⟨h1,h2,h3,h4,h5⟩:=YL h
  rw[if_pos h1,if_neg (by rw[hx,h2];decide),if_pos h1]
  have hwd:=hi h1
  rw[DA h1] at hl
  rcases h with ⟨rfl,rfl⟩|⟨b,rfl,rfl⟩|⟨n,hn,rfl,rfl⟩|⟨u,hu,rfl,rfl⟩
  ·show nullF _ p x _=true
   unfold nullF
   rw[hl,JG]
   rfl
  ·show boolF _ p x _=true
   unfold boolF
   rw[hl]
   have hp:=zH hx
   have h0:zX (yQ b).2.2 x=if b then 1 else 0:=by
    rcases zN hx with rfl|rfl|rfl|rfl<;>cases b<;>decide
   rw[h0]
   cases b
   ·simp only[Bool.false_eq_true,if_false,if_true];rw[JG];rfl
   ·simp only[if_true];rw[if_neg (by decide),JG];rfl
  ·rw[show VG (d0++e) (qX n).1 p x x 0 (.mk 3 n 0 EMB [] [])=intF (d0++e) p x (.mk 3 n 0 EMB [] []) from rfl]
   unfold intF QI
   rw[iF hl,hl]
   rw[show (qX n).2.2=n % 18446744073709551616 from rfl,BG hx hn hwd]
   simp only[Tr.kind,JG,ne_eq,not_true_eq_false,if_false,if_true,decide_true,Bool.and_self]
  ·rw[show VG (d0++e) (qY u).1 p x x 0 (.mk 4 0 u EMB [] [])=uintF (d0++e) p x (.mk 4 0 u EMB [] []) from rfl]
   unfold uintF QI
   rw[hl]
   rw[show (qY u).2.2=u from rfl,BH hx hu hwd]
   simp only[Tr.kind,JG,ne_eq,not_true_eq_false,if_false,decide_true,Bool.and_self]
   rw[if_neg (by decide)]
   rfl
 ·rw[h.far]
  simp only[Bool.false_eq_true,if_false]
  rw[if_neg (by rw[hx,h.isw,h.legal];decide)]
  have hN:=h.n0
  have hN1:=h.n1
  rw[FU h.far] at hl
  have hnum:=dW hl (by omega)
  have hfb:gM (d0++e) v.1 p x v.2.1 lim=true:=by
   unfold gM
   rw[hnum]
   have:=h.lim
   simp only[Bool.true_and,Bool.and_eq_true,decide_eq_true_eq]
   omega
  rw[if_neg (by rw[hfb];decide),hnum]
  have hb:=h.body e
  unfold BE at hb
  rw[show p - (p - v.2.2,true).1=v.2.2 by simp only;omega]
  split
  ·rename_i hf
   rw[if_pos hf] at hb
   rw[FT hf];exact hb
  ·rename_i hf
   rw[if_neg hf] at hb
   exact hb
theorem FV {d:List UInt8} {p x w1 w2 lim:Int} {t:Tr} (h1:isW w1=true) (h2:isW w2=true):eD d 4 p x w1 lim t=eD d 4 p x w2 lim t:=by
 have ha:vZ 4=0:=by decide
 have hfb:gM d 4 p x w1 lim=gM d 4 p x w2 lim:=by unfold gM;rw[ha];simp
 rw[fL,fL,h1,h2,hfb]
 rfl
structure HeldB (x p:Int) (jX:Bool) (b X:List UInt8) (l:List V3):Prop where
 head:X.take b.length=b
 len:(X.length:Int)=p+x*l.length+(if jX then (l.length:Int) else 0)
 elem:∀(k:Nat) (v:V3),l[k]? = some v→vU X (p+k*x) x=(Z4 x (p+k*x) v,0)
 tag:jX=true→∀(k:Nat) (v:V3),l[k]? = some v→X[(p+l.length*x).toNat+k]? = some (J1 x v)
theorem heldB {b:List UInt8} {l:List V3} {x p:Int} {len jX:Bool} (hn:b.length≤1048576) (hl:l.length≤1048576) (h:∀v∈l,aO b.length v) (hx:allF l (0,0,0) b.length (if len then 1 else 0)=x) (hp:(b.length:Int)+kH b x+(if len then x else 0)=p) :
 isW x=true∧HeldB x p jX b (b++(JJ x len jX b l).flatten) l∧(p - (if len then x else 0)) % x=0∧(b.length:Int)≤p - (if len then x else 0)∧p - (if len then x else 0) < b.length+x∧(len=true→vU (b++(JJ x len jX b l).flatten) (p - x) x=((l.length:Int),0))∧(∀v∈l,inlineB v.1=true→v.2.1≤x):=by
 obtain⟨_,x0,hw,y6⟩:=dM (n:=b.length) (ahead:=if len then 1 else 0) (by cases len<;>simp) (by omega) (by omega) hl h
 rw[hx] at hw y6
 have hwp:=zH hw
 have hfit:fitsL l b.length (if len then 1 else 0) x=true:=by
  have h:=y6
  unfold allAt at h
  simp only[Bool.and_eq_true] at h
  exact h.2
 have hpad:=bX (l:=b) hw
 have hpe:=dK hw b
 have hfe:fitE x p l:=cK hw l (if len then 1 else 0) p (by rw[← hp,hpe];cases len<;>simp) (by cases len<;>simp) hfit
 have hlenf:len=true→(l.length:Int) < 2 ^ (8*x.toNat):=by
  intro hl1
  subst hl1
  have h:=y6
  unfold allAt headF at h
  simp only[Bool.and_eq_true,belowW] at h
  have:=h.1.1
  simpa using this
 have hpieces:(JJ x len jX b l).flatten=(kJ (kH b x)++(if len then zA x.toNat l.length else []))++(YO x p l).flatten++(if jX then l.map (J1 x) else []):=by
  unfold JJ
  rw[hp]
  cases len<;>cases jX<;>simp[cL]
 have hAl:((b++(kJ (kH b x)++(if len then zA x.toNat l.length else []))).length:Int)=p:=by
  rw[← hp]
  cases len<;>simp[jT,kD]<;>omega
 have hEl:=ZR hw l p
 refine⟨hw,⟨?_,?_,?_,?_⟩,?_,?_,?_,?_,?_⟩
 ·exact List.take_left' rfl
 ·rw[hpieces]
  rw[← List.append_assoc,← List.append_assoc,List.length_append,List.length_append]
  cases jX
  ·simp only[Bool.false_eq_true,if_false,List.length_nil] at hAl⊢;omega
  ·simp only[if_true,List.length_map] at hAl⊢;omega
 ·intro k v hk
  obtain⟨A,C,hA,hAk⟩:=pS hw l p k v hk
  have hb:=iD l p k v hfe hk
  refine ZS (A:=b++(kJ (kH b x)++(if len then zA x.toNat l.length else []))++A) (C:=C++(if jX then l.map (J1 x) else [])) hw ?_ ?_ hb.1 hb.2
  ·rw[hpieces,hA];simp only[List.append_assoc]
  ·rw[List.length_append];omega
 ·intro ht k v hk
  subst ht
  have hXl:(b++(kJ (kH b x)++(if len then zA x.toNat l.length else []))++(YO x p l).flatten).length=(p+l.length*x).toNat:=by
   rw[List.length_append]
   have:(l.length:Int)*x=x*l.length:=Int.mul_comm _ _
   omega
  rw[hpieces,← List.append_assoc,← List.append_assoc,← hXl,List.getElem?_append_right (by omega),Nat.add_sub_cancel_left,if_pos rfl,List.getElem?_map,hk]
  rfl
 ·have:p - (if len then x else 0)=((b.length:Int)+x - 1) / x*x:=by rw[← hp,← hpe];cases len<;>simp<;>omega
  rw[this]
  exact Int.mul_emod_left _ _
 ·rw[← hp];cases len<;>simp<;>omega
 ·rw[← hp];cases len<;>simp<;>omega
 ·intro hl1
  subst hl1
  simp only[if_true] at hp hpieces hAl⊢
  refine ZS (A:=b++kJ (kH b x)) (C:=(YO x p l).flatten++(if jX then l.map (J1 x) else [])) hw ?_ ?_ (by omega) (hlenf rfl)
  ·rw[hpieces];simp only[List.append_assoc,Int.toNat_natCast]
  ·rw[List.length_append,jT];omega
 ·intro v hv hi
  obtain⟨k,hk,hkv⟩:=List.getElem_of_mem hv
  have:=dN l _ _ x k v hfit (by rw[List.getElem?_eq_getElem hk,hkv])
  unfold fitsV fitsF at this
  rw[if_pos hi] at this
  exact of_decide_eq_true this
def zL (d:List UInt8) (l:List V3) (ts:List Tr):Prop:=l.length=ts.length∧∀(i:Nat) v t,l[i]? = some v→ts[i]? = some t→YK d v t
theorem zL.more {d:List UInt8} {l:List V3} {ts:List Tr} (h:zL d l ts) (e:List UInt8):zL (d++e) l ts:=⟨h.1,fun i v t hv ht=>(h.2 i v t hv ht).more e⟩
theorem zL.near {d:List UInt8} {l:List V3} {ts:List Tr} (h:zL d l ts) (hd:d.length≤1048576):∀v∈l,aO d.length v:=by
 intro v hv
 obtain⟨k,hk,rfl⟩:=List.getElem_of_mem hv
 have hk2:k < ts.length:=by rw[← h.1];exact hk
 exact (h.2 k _ _ (List.getElem?_eq_getElem hk) (List.getElem?_eq_getElem hk2)).near hd
theorem zL.nil (d:List UInt8):zL d [] []:=⟨rfl,fun i v t h=>by simp at h⟩
theorem zL.cons {d:List UInt8} {v:V3} {t:Tr} {l:List V3} {ts:List Tr} (h:YK d v t) (hl:zL d l ts):zL d (v::l) (t::ts):=by
 refine⟨by simp[hl.1],fun i x y hx hy=>?_⟩
 cases i with
 | zero=>simp at hx hy;subst hx hy;exact h
 | succ i=>exact hl.2 i x y (by simpa using hx) (by simpa using hy)
theorem uH {X e:List UInt8} {i:Nat} {c:UInt8} (h:X[i]? = some c):(X++e)[i]? = some c:=by
 rw[List.getElem?_append_left (List.getElem?_eq_some_iff.1 h).1];exact h
theorem oA {b:List UInt8} {l:List V3} {ts:List Tr} {x p typ kd many:Int} {len jX:Bool} (ht:zL b l ts) (hn:b.length≤1048576) (hl:l.length≤65536) (hx:allF l (0,0,0) b.length (if len then 1 else 0)=x) (hp:(b.length:Int)+kH b x+(if len then x else 0)=p)
 (hs:qV typ=(kd,many)) (h17:kd≠17) (hg:ZM kd=jX) (hm:if len then many=0 else many≠0∧(ts.length:Int)=many) (hty:jX=false→∀v∈l,v.1=(Ft.elemF typ).1∧(inlineB v.1=true∨v.1=4)) (e:List UInt8) :
 b9 (b++(JJ x len jX b l).flatten++e) typ x p (.mk kd 0 0 EMB [] ts)=true:=by
 obtain⟨hw,hH,hmod,hge,hlt,kQ,hin⟩:=heldB (jX:=jX) hn (by omega) (ht.near hn) hx hp
 have hwp:=zH hw
 have hpl:(b.length:Int)≤p:=by cases len<;>simp at hge<;>omega
 have hpu:p < b.length+x+x:=by cases len<;>simp at hlt<;>omega
 have hmul0:0≤x*(l.length:Int):=Int.mul_nonneg (by omega) (by omega)
 have hmul8:x*(l.length:Int)≤8*l.length:=Int.mul_le_mul_of_nonneg_right hwp.2 (by omega)
 have hcomm:(l.length:Int)*x=x*l.length:=Int.mul_comm _ _
 obtain⟨hl1,hl2⟩:=ht
 obtain⟨R,hR⟩:∃R,(JJ x len jX b l).flatten=R:=⟨_,rfl⟩
 rw[hR] at hH kQ⊢
 have hmany:(kd,many).2=many:=rfl
 unfold b9
 simp only[Tr.kids,Bool.and_eq_true]
 refine⟨front_iff.2 ⟨by rw[hs],rfl,rfl,rfl,fun _=>rfl,?_,?_,?_,fun h=>by rw[hs] at h;exact absurd h h17⟩,kids_iff.2 fun j t hj=>?_⟩
 ·cases len
  ·simpa using hmod
  ·simp only[if_true] at hmod
   have:p=(p - x)+x:=by omega
   rw[this,Int.add_emod_right];exact hmod
 ·rw[hs,hg,← hl1]
  have:=hH.len
  rw[List.length_append]
  cases jX
  ·simp only[Bool.false_eq_true,if_false] at this⊢;omega
  ·simp only[if_true] at this⊢;omega
 ·rw[hs]
  dsimp only
  cases len
  ·simp only[Bool.false_eq_true,if_false] at hm
   rw[if_neg hm.1];exact hm.2
  ·simp only[if_true] at hm
   rw[if_pos hm,dW (ZH (kQ rfl)) (by omega),hl1]
   exact⟨rfl,rfl⟩
 ·rw[Nat.zero_add]
  obtain⟨v,hv⟩:∃v,l[j]? = some v:=by
   have:j < ts.length:=(List.getElem?_eq_some_iff.1 hj).1
   exact⟨_,List.getElem?_eq_getElem (by omega)⟩
  have hjl:j < l.length:=(List.getElem?_eq_some_iff.1 hv).1
  have htv:=hl2 j v t hv hj
  have hjx:0≤(j:Int)*x:=Int.mul_nonneg (by omega) (by omega)
  have hjx8:(j:Int)*x≤j*8:=Int.mul_le_mul_of_nonneg_left hwp.2 (by omega)
  have hload:=ZH (Z:=e) (hH.elem j v hv)
  have hfirst:(b.length:Int)≤VI typ x p:=by
   unfold VI
   rw[hs]
   dsimp only
   rw[if_neg h17]
   cases len
   ·simp only[Bool.false_eq_true,if_false] at hm
    rw[if_neg hm.1];exact hpl
   ·simp only[if_true] at hm hge
    rw[if_pos hm];exact hge
  have hE:=n9 (e:=R++e) htv hw (by rw[← List.append_assoc];exact hload) (hin v (List.mem_of_getElem? hv)) (by omega) (by omega) hfirst
  rw[← List.append_assoc] at hE
  unfold QJ
  rw[hs,hg,← hl1]
  cases jX
  ·simp only[Bool.false_eq_true,if_false]
   obtain⟨e1,e2⟩:=hty rfl v (List.mem_of_getElem? hv)
   rw[← e1]
   refine⟨trivial,?_⟩
   rcases e2 with e2|e2
   ·rw[if_pos e2] at hE;exact hE
   ·have hi4:inlineB v.1=false:=by rw[e2];decide
    rw[hi4] at hE
    simp only[Bool.false_eq_true,if_false] at hE
    have hw4:isW v.2.1=true:=by
     rcases htv with h|h
     ·exact (YL h).2.2.1
     ·exact h.isw
    rw[e2] at hE⊢
    rw[FV hw hw4];exact hE
  ·simp only[if_true]
   have hT:=uH (e:=e) (hH.tag rfl j v hv)
   have hq:(p+(l.length:Int)*x+(j:Int)).toNat=(p+(l.length:Int)*x).toNat+j:=by omega
   rw[hq,hT]
   simp only[Option.getD_some]
   have hle:kL v=0:=(htv.near hn).1
   rw[iE hw hle]
   exact⟨rfl,hE⟩
structure eW (d:List UInt8) (v:V3) (names:List ByteArray):Prop where
 typ:v.1=14
 isw:isW v.2.1=true
 n0:0≤v.2.2
 n1:v.2.2≤d.length
 lim:v.2.2 - v.2.1 < d.length
 body:∀e,pE (d++e) v.2.1 v.2.2 names=true
theorem eW.more {d:List UInt8} {v:V3} {names:List ByteArray} (h:eW d v names) (e:List UInt8):eW (d++e) v names:=
 ⟨h.typ,h.isw,h.n0,by have:=h.n1;rw[List.length_append];omega,by have:=h.lim;rw[List.length_append];omega,fun f=>by rw[List.append_assoc];exact h.body _⟩
def Q8 (k:ByteArray):Tr:=.mk 5 0 0 k [] []
theorem x7 {b:List UInt8} {l:List V3} {names:List ByteArray} {x p:Int} (ht:zL b l (names.map Q8)) (h4:∀v∈l,v.1=4) (hn:b.length≤1048576) (hl:l.length≤65536) (hx:allF l (0,0,0) b.length 1=x) (hp:(b.length:Int)+kH b x+x=p) (e:List UInt8) :
 pE (b++(JJ x true false b l).flatten++e) x p names=true:=by
 have hL:=oA (len:=true) (jX:=false) (typ:=14) (kd:=13) (many:=0) ht hn hl (by simpa using hx) (by simpa using hp) (by decide) (by decide) (by decide) (by simp) (fun _ v hv=>⟨by rw[h4 v hv];decide,.inr (h4 v hv)⟩) e
 unfold b9 at hL
 simp only[Tr.kids,Bool.and_eq_true] at hL
 obtain⟨h1,h2⟩:=hL
 have hF:=front_iff.1 h1
 have hfx:=hF.fix
 have hrm:=hF.room
 have hmy:=hF.many
 have e14:qV 14=(13,0):=by decide
 rw[e14] at hrm hmy
 simp only[if_true,List.length_map] at hmy
 rw[List.length_map,show ZM (13,0).1=false by decide] at hrm
 simp only[Bool.false_eq_true,if_false,Int.add_zero] at hrm
 generalize b++(JJ x true false b l).flatten++e=D at *
 unfold pE
 simp only[Bool.and_eq_true,decide_eq_true_eq]
 refine⟨⟨⟨hfx,hrm⟩,hmy⟩,names_iff.2 fun j k hk=>?_⟩
 have hkk:=kids_iff.1 h2 j (Q8 k) (by rw[List.getElem?_map,hk];rfl)
 unfold QJ at hkk
 rw[e14,show ZM (13,0).1=false by decide] at hkk
 simp only[Bool.false_eq_true,if_false,true_and,Nat.zero_add,show (Ft.elemF 14).1=4 by decide] at hkk
 have hfirst:VI 14 x p=p - x:=by unfold VI;rw[e14];rfl
 rw[hfirst] at hkk
 rw[Nat.zero_add]
 obtain⟨_,hc⟩:=xI hkk
 rcases hc with ⟨hnr,_⟩|⟨_,hfb,_,hlk⟩|⟨_,_,hft,_⟩
 ·exact absurd hnr (by decide)
 ·unfold pD
  rw[hfb,Bool.true_and]
  have hkf:keyF D (p+(j:Int)*x - (KT D (p+(j:Int)*x) x).1) (Q8 k)=true:=hlk
  unfold keyF at hkf
  simp only[Bool.and_eq_true] at hkf⊢
  exact⟨hkf.1.2,hkf.2⟩
 ·exact absurd hft (by decide)
theorem FW {b:List UInt8} {k:V3} {l:List V3} {ts:List Tr} {names:List ByteArray} {x p:Int} (ht:zL b l ts) (hk:eW b k names) (hi:incB names=true) (hnl:names.length=ts.length) (hn:b.length≤1048576) (hl:l.length≤65536)
 (hx:allF l k b.length 3=x) (hp:(b.length:Int)+kH b x+3*x=p) (e:List UInt8):b9 (b++(KI x k b l).flatten++e) 9 x p (.mk 17 0 0 EMB names ts)=true:=by
 have hK:eN b.length k:=⟨hk.typ,hk.isw,hk.n0,hk.n1⟩
 obtain⟨hw,hH,hmod,hge,hlt,hin,hkn⟩:=heldM hn (by omega) (ht.near hn) hK hx hp
 have hwp:=zH hw
 have hkp:=zH hk.isw
 have hmul0:0≤x*(l.length:Int):=Int.mul_nonneg (by omega) (by omega)
 have hmul8:x*(l.length:Int)≤8*l.length:=Int.mul_le_mul_of_nonneg_right hwp.2 (by omega)
 have hcomm:(l.length:Int)*x=x*l.length:=Int.mul_comm _ _
 obtain⟨hl1,hl2⟩:=ht
 obtain⟨R,hR⟩:∃R,(KI x k b l).flatten=R:=⟨_,rfl⟩
 rw[hR] at hH⊢
 have hs:qV 9=(17,0):=by decide
 have hg:ZM 17=true:=by decide
 have hk0:=hk.n0
 have hk1:=hk.n1
 have hk2:=hk.lim
 have hbody:=hk.body (R++e)
 rw[← List.append_assoc] at hbody
 unfold b9
 simp only[Tr.kids,Bool.and_eq_true]
 refine⟨front_iff.2 ⟨by rw[hs],rfl,rfl,rfl,fun h=>absurd (by rw[hs]) h,?_,?_,?_,fun _=>⟨by omega,hnl,?_⟩⟩,kids_iff.2 fun j t hj=>?_⟩
 ·have:p=(p - 3*x)+3*x:=by omega
  rw[this,Int.add_mul_emod_self_right];exact hmod
 ·rw[hs,hg,← hl1]
  have:=hH.len
  rw[List.length_append]
  simp only[if_true]
  omega
 ·rw[hs]
  dsimp only
  rw[if_pos rfl,dW (ZH hH.many) (by omega),hl1]
  exact⟨rfl,rfl⟩
 ·have n1:=dW (ZH (Z:=e) hH.off) (by omega)
  have n2:=dW (ZH (Z:=e) hH.wide) (by omega)
  have e2:p - 3*x+x=p - 2*x:=by omega
  unfold keysF
  rw[e2,n1,n2]
  simp only[hk.isw,hi,Bool.true_and,Bool.and_true,Bool.and_eq_true,decide_eq_true_eq]
  have e3:p - 3*x - (p - 3*x - k.2.2)=k.2.2:=by omega
  rw[e3]
  exact⟨⟨by omega,by omega⟩,hbody⟩
 ·rw[Nat.zero_add]
  obtain⟨v,hv⟩:∃v,l[j]? = some v:=by
   have:j < ts.length:=(List.getElem?_eq_some_iff.1 hj).1
   exact⟨_,List.getElem?_eq_getElem (by omega)⟩
  have hjl:j < l.length:=(List.getElem?_eq_some_iff.1 hv).1
  have htv:=hl2 j v t hv hj
  have hjx:0≤(j:Int)*x:=Int.mul_nonneg (by omega) (by omega)
  have hjx8:(j:Int)*x≤j*8:=Int.mul_le_mul_of_nonneg_left hwp.2 (by omega)
  have hload:=ZH (Z:=e) (hH.elem j v hv)
  have hfirst:(b.length:Int)≤VI 9 x p:=by
   unfold VI
   rw[hs]
   simp only[if_true]
   exact hge
  have hE:=n9 (e:=R++e) htv hw (by rw[← List.append_assoc];exact hload) (hin v (List.mem_of_getElem? hv)) (by omega) (by omega) hfirst
  rw[← List.append_assoc] at hE
  unfold QJ
  rw[hs,hg,← hl1]
  simp only[if_true]
  have hT:=uH (e:=e) (hH.tag j v hv)
  have hq:(p+(l.length:Int)*x+(j:Int)).toNat=(p+(l.length:Int)*x).toNat+j:=by omega
  rw[hq,hT]
  simp only[Option.getD_some]
  have hle:kL v=0:=(htv.near hn).1
  rw[iE hw hle]
  exact⟨rfl,hE⟩
def ZU (jA jC k n u:Int) (s:ByteArray) (x:BS):BS:=
 if k=1 then x.inline (0,1,0) else if k=2 then x.inline (yQ (decide (n=1))) else if k=3 then x.inline (qX n) else if k=4 then x.inline (qY u)
 else if k=8 then x.apart jA 6 (qX n) else if k=9 then x.apart jA 7 (qY u) else if k=5 then x.key jA (onF jC 1) s else if k=6 then x.str jA (onF jC 2) s else if k=7 then x.blob jA s else x
mutual
def kG (jA jC:Int):Tr→BS→BS
 | .mk k n u s keys l,x=>
  if k=11 then x.vector jA 1 0 (l.map fun t=>qX t.fn) else if k=12 then x.vector jA 2 0 (l.map fun t=>qY t.fu)
  else if k=14 then x.vector jA 26 0 (l.map fun t=>yQ (decide (t.fn=1))) else if k=13 then x.keyVec jA (onF jC 1) (l.map Tr.fs)
  else if k=15 then x.fixed jA 1 (l.map fun t=>qX t.fn) else if k=16 then x.fixed jA 2 (l.map fun t=>qY t.fu)
  else if k=10 then (yK jA jC l x).endVec jA x.stk.length
  else if k=17 then (yN jA jC l keys x).endMap jA (onF jC 4) x.stk.length
  else ZU jA jC k n u s x
def yK (jA jC:Int):List Tr→BS→BS
 | [],x=>x
 | t::r,x=>yK jA jC r (kG jA jC t x)
def yN (jA jC:Int):List Tr→List ByteArray→BS→BS
 | [],_,x=>x
 | t::r,ks,x=>yN jA jC r ks.tail (kG jA jC t (x.key jA (onF jC 1) (ks.headD EMB)))
end
mutual
def K9:Tr→Nat | .mk k n u s keys l=>64+s.size+(keys.map fun k=>k.size+32).sum+JE l
def JE:List Tr→Nat | []=>0 | t::r=>K9 t+32+JE r
end
structure Inv (x:BS):Prop where
 e0:x.e=0
 s0:x.s.2=0
 keys:∀z∈x.keys,YK x.s.1 (4,1,z.2) (Q8 z.1)∧z6 x.names z.2=z.1
 texts:∀z∈x.texts,YK x.s.1 (5,Ft.widthOf z.1.size,z.2) (.mk 6 0 0 z.1 [] [])
 lists:∀z∈x.lists,0≤z.2∧∃v names,x.vals[z.2.toNat]? = some v∧eW x.s.1 v names∧kO names=z.1∧∀k∈names,vL k=0
 names:∀z∈x.names,z.1 < x.s.1.length
 vals:x.vals.length≤x.s.1.length
theorem Inv.s {x:BS} (h:Inv x):x.s=(x.s.1,0):=by
 have:=h.s0
 rw[← this]
theorem Inv.new:Inv BS.new:=⟨rfl,rfl,fun z h=>absurd h List.not_mem_nil,fun z h=>absurd h List.not_mem_nil,fun z h=>absurd h List.not_mem_nil,fun z h=>absurd h List.not_mem_nil,Nat.zero_le _⟩
theorem Inv.ext {x:BS} (h:Inv x) (e:List UInt8) (k:List V3):Inv {x with s:=(x.s.1++e,0),stk:=k}:=
 ⟨h.e0,rfl,fun z hz=>⟨(h.keys z hz).1.more e,(h.keys z hz).2⟩,fun z hz=>(h.texts z hz).more e,fun z hz=>by
  obtain⟨h0,v,nm,h1,h2,h3⟩:=h.lists z hz
  exact⟨h0,v,nm,h1,h2.more e,h3⟩,fun z hz=>by
  have:=h.names z hz
  show z.1 < ((x.s.1++e).length:Int)
  rw[List.length_append];omega,by
  have:=h.vals
  show x.vals.length≤(x.s.1++e).length
  rw[List.length_append];omega⟩
theorem Inv.stk {x:BS} (h:Inv x) (k:List V3):Inv {x with stk:=k}:=by
 have:=h.ext [] k
 rw[List.append_nil,← h.s] at this
 exact this
structure qW (x x':BS) (t:Tr) (c:Nat):Prop where
 inv:Inv x'
 grow:∃e,x'.s.1=x.s.1++e∧e.length≤c
 push:∃v,x'.stk=x.stk++[v]∧YK x'.s.1 v t
 nms:∀a:Int,a < x.s.1.length→z6 x'.names a=z6 x.names a
theorem VZ {l:qF} {k:ByteArray} {a:Int} (h:yT l k=(a,true)):(k,a)∈l:=by
 unfold yT at h
 split at h
 ·rename_i hh
  have hlt:=fM hh
  have hg:(Y6 l).getD (vN l k) 0=(l[vN l k]).2:=by simp[Y6,List.getD_eq_getElem?_getD,hlt]
  rw[hg] at h
  injection h with h1 h2
  have h3:=of_decide_eq_true hh
  unfold Q5 at h3
  rw[List.getElem?_map,List.getElem?_eq_getElem hlt] at h3
  simp only[Option.map_some,Option.some.injEq] at h3
  have:l[vN l k]=(k,a):=Prod.ext h3 h1
  rw[← this]
  exact List.getElem_mem hlt
 ·injection h with _ h2;cases h2
theorem oB {names:List (Int × ByteArray)} {a b:Int} {k:ByteArray} (h:a≠b):z6 (names++[(b,k)]) a=z6 names a:=by
 unfold z6
 rw[List.find?_append]
 cases names.find? (fun q=>decide (q.1=a)) with
 | some q=>rfl
 | none=>
  have:List.find? (fun q:Int × ByteArray=>decide (q.1=a)) [(b,k)]=none:=by simp[Ne.symm h]
  rw[this];rfl
theorem oC {names:List (Int × ByteArray)} {b:Int} {k:ByteArray} (h:∀z∈names,z.1≠b):z6 (names++[(b,k)]) b=k:=by
 unfold z6
 rw[List.find?_append]
 have:names.find? (fun q=>decide (q.1=b))=none:=by
  rw[List.find?_eq_none]
  intro z hz
  simpa using h z hz
 rw[this]
 simp
theorem dX (k:ByteArray):jQ [k,⟨#[0]⟩]=(fD k).data.toList:=by
 rw[CJ]
 simp[jQ]
theorem iV {b e:List UInt8} {s:ByteArray} {at_:Int} (h:at_=b.length):sG (b++s.data.toList++e) at_ s=true:=by
 subst h
 rw[has_iff]
 refine⟨by omega,?_,?_⟩
 ·rw[List.length_append,List.length_append,dI];omega
 ·rw[Int.toNat_natCast,List.append_assoc,List.drop_left,← dI,List.take_left' rfl]
theorem DB {b:List UInt8} {k:ByteArray} (hk:vL k=0):YK (b++jQ [k,⟨#[0]⟩]) (4,1,(b.length:Int)) (Q8 k):=by
 refine .inr ⟨by show inlineB 4=false;decide,by show legalB 4=true;decide,rfl,by show (0:Int)≤b.length;omega,?_,?_,fun e=>?_⟩
 ·show (b.length:Int)≤_
  rw[List.length_append];omega
 ·show (b.length:Int) - vZ 4*1 < _
  rw[show vZ 4=0 by decide,List.length_append]
  have:=bM k
  omega
 ·show keyF _ _ _=true
  unfold keyF
  rw[dX]
  show (aV (Q8 k) 5 0 0 k && decide (vL k=0) && sG (b++(fD k).data.toList++e) (b.length:Int) (fD k))=true
  rw[iV rfl]
  simp only[Q8,JG,hk,decide_true,Bool.and_self]
theorem x8 {x:BS} (h:x.e=0):x.fail 0=x:=by
 obtain⟨s,e,stk,a,b,c,d,f⟩:=x
 dsimp only at h
 subst h
 rfl
theorem put_ok {jA:Int} {sh:Bool} {k:ByteArray} {x:BS} (h:Inv x) (hk:vL k=0) (hr:(x.s.1.length:Int)+(k.size+1)≤jA) :
 ∃a e,(x.put jA sh k).1=(4,1,a)∧Inv (x.put jA sh k).2∧(x.put jA sh k).2.s.1=x.s.1++e∧e.length≤k.size+1∧(x.put jA sh k).2.stk=x.stk∧YK (x.put jA sh k).2.s.1 (4,1,a) (Q8 k)∧z6 (x.put jA sh k).2.names a=k ∧
  ∀c:Int,c < x.s.1.length→z6 (x.put jA sh k).2.names c=z6 x.names c:=by
 unfold BS.put
 dsimp only
 rw[hk,x8 h.e0,if_neg (by rw[h.e0];decide)]
 by_cases hg:((yT x.keys k).2 && sh)=true
 ·rw[if_pos hg]
  rw[Bool.and_eq_true] at hg
  have hm:yT x.keys k=((yT x.keys k).1,true):=by rw[← hg.1]
  have h1:=h.keys _ (VZ hm)
  exact⟨_,[],rfl,h,by simp,Nat.zero_le _,rfl,h1.1,h1.2,fun c _=>rfl⟩
 ·rw[if_neg hg]
  have hsz:(jQ [k,⟨#[0]⟩]).length=k.size+1:=by rw[dX,dI,CB]
  have hs:kU jA (jQ [k,⟨#[0]⟩]) x.s=(x.s.1++jQ [k,⟨#[0]⟩],0):=by
   have:=JP jA x.s.1 (jQ [k,⟨#[0]⟩]) (by rw[hsz];omega)
   rw[← h.s] at this
   exact this
  have ht:=DB (b:=x.s.1) hk
  have hnb:∀z∈x.names,z.1≠(x.s.1.length:Int):=fun z hz e=>by have:=h.names z hz;omega
  refine⟨_,jQ [k,⟨#[0]⟩],rfl,?_,by dsimp only;rw[hs],by rw[hsz];exact Nat.le_refl _,rfl,by dsimp only;rw[hs];exact ht,oC hnb,fun c hc=>oB (by omega)⟩
  dsimp only
  rw[hs]
  refine⟨rfl,rfl,fun z hz=>?_,fun z hz=>(h.texts z hz).more _,fun z hz=>?_,fun z hz=>?_,by have:=h.vals;show x.vals.length≤(x.s.1++_).length;rw[List.length_append];omega⟩
  ·rcases ZT hz with hz|⟨rfl,_⟩
   ·have h1:=h.keys z hz
    have hlt:z.2 < (x.s.1.length:Int):=by
     rcases h1.1 with hq|hq
     ·exact absurd (YL hq).1 (by show ¬inlineB 4=true;decide)
     ·have:=hq.lim
      rw[show ((4:Int),(1:Int),z.2).1=4 from rfl,show vZ 4=0 by decide] at this
      simpa using this
    refine⟨h1.1.more _,?_⟩
    show z6 (x.names++[((x.s.1.length:Int),k)]) z.2=z.1
    rw[oB (by omega)]
    exact h1.2
   ·exact⟨ht,oC hnb⟩
  ·obtain⟨h0,v,nm,h1,h2,h3⟩:=h.lists z hz
   exact⟨h0,v,nm,h1,h2.more _,h3⟩
  ·show z.1 < ((x.s.1++jQ [k,⟨#[0]⟩]).length:Int)
   rw[List.length_append,hsz]
   rcases List.mem_append.1 hz with hz|hz
   ·have:=h.names z hz;omega
   ·obtain rfl:=List.mem_singleton.1 hz
    show (x.s.1.length:Int) < _
    omega
theorem QB {x:BS} (h:Inv x) (v:V3) (hl:x.stk.length+1≤65536):x.push v={x with stk:=x.stk++[v]}:=BB h.e0 h.s0 hl
theorem x9 {jA:Int} {sh:Bool} {k:ByteArray} {x:BS} (h:Inv x) (hk:vL k=0) (hr:(x.s.1.length:Int)+(k.size+1)≤jA) (hl:x.stk.length+1≤65536) :
 qW x (x.key jA sh k) (Q8 k) (k.size+1)∧∃a,(x.key jA sh k).stk=x.stk++[(4,1,a)]∧z6 (x.key jA sh k).names a=k∧a < (x.key jA sh k).s.1.length:=by
 obtain⟨a,e,h1,h2,h3,h4,h5,h6,h7,h8⟩:=put_ok (sh:=sh) h hk hr
 have hx:x.key jA sh k={(x.put jA sh k).2 with stk:=x.stk++[(4,1,a)]}:=by
  unfold BS.key
  rw[if_pos h.e0,QB h2 _ (by rw[h5];exact hl),h1,h5]
 rw[hx]
 have hlt:a < ((x.put jA sh k).2.s.1.length:Int):=by
  rcases h6 with hq|hq
  ·exact absurd (YL hq).1 (by show ¬inlineB 4=true;decide)
  ·have:=hq.lim
   rw[show ((4:Int),(1:Int),a).1=4 from rfl,show vZ 4=0 by decide] at this
   simpa using this
 exact⟨⟨h2.stk _,⟨e,h3,h4⟩,⟨_,rfl,h6⟩,h8⟩,a,rfl,h7,hlt⟩
theorem aK {x:BS} {v:V3} {t:Tr} (h:Inv x) (hv:BF v t) (hl:x.stk.length+1≤65536):qW x (x.inline v) t 0:=by
 have hx:x.inline v={x with stk:=x.stk++[v]}:=by unfold BS.inline;rw[if_pos h.e0,QB h v hl]
 rw[hx]
 exact⟨h.stk _,⟨[],by simp,Nat.le_refl _⟩,⟨v,rfl,.inl hv⟩,fun a _=>rfl⟩
theorem FX {jA w:Int} {b:List UInt8} (hw:isW w=true) (h:(b.length:Int)+7≤jA):jK jA w (b,0)=(b++kJ (kH b w),0):=iL hw (by have:=cP b hw;omega)
theorem BI {w:Int} (hw:isW w=true) (b:List UInt8):((b.length:Int)+kH b w) % w=0:=by rw[dK hw];exact Int.mul_emod_left _ _
theorem uI {jA:Int} {x:BS} {v:V3} {sg:Int} {t:Tr} (h:Inv x) (hl:x.stk.length+1≤65536) (hr:(x.s.1.length:Int)+15≤jA) (vF:jA≤1048576)
 (hv:(sg=6∧∃n,qH n∧v=qX n∧t=.mk 8 n 0 EMB [] [])∨(sg=7∧∃u,vT u∧v=qY u∧t=.mk 9 0 u EMB [] [])):qW x (x.apart jA sg v) t 64:=by
 have hw:isW v.2.1=true:=by
  rcases hv with ⟨_,n,_,rfl,_⟩|⟨_,u,_,rfl,_⟩
  ·exact bO n
  ·exact vY _
 have hwp:=zH hw
 have hpad:=cP x.s.1 hw
 obtain⟨b,hb⟩:∃b,x.s.1=b:=⟨_,rfl⟩
 have hxs:x.s=(b,0):=by rw[h.s,hb]
 rw[hb] at hr hpad
 have e1:jK jA v.2.1 x.s=(b++kJ (kH b v.2.1),0):=by rw[hxs];exact FX hw (by omega)
 have hlow:=xQ v.2.2 v.2.1
 have e2:kE jA v.2.1 (zX v.2.2 v.2.1) (jK jA v.2.1 x.s)=(b++(kJ (kH b v.2.1)++zA v.2.1.toNat (zX v.2.2 v.2.1).toNat),0):=by
  rw[e1,ZQ hw hlow.2,JP _ _ _ (by rw[List.length_append,jT,kD];omega),List.append_assoc]
 have e3:(((jK jA v.2.1 x.s).1.length:Nat):Int)=(b.length:Int)+kH b v.2.1:=by rw[e1];dsimp only;rw[List.length_append,jT];omega
 obtain⟨E,hE⟩:∃E,kJ (kH b v.2.1)++zA v.2.1.toNat (zX v.2.2 v.2.1).toNat=E:=⟨_,rfl⟩
 rw[hE] at e2
 have hEl:(E.length:Int)=kH b v.2.1+v.2.1:=by rw[← hE,List.length_append,jT,kD];omega
 have hI:=h.ext E x.stk
 rw[hb] at hI
 have hx:x.apart jA sg v={x with s:=(b++E,0),stk:=x.stk++[(sg,v.2.1,(b.length:Int)+kH b v.2.1)]}:=by
  unfold BS.apart
  rw[if_pos h.e0]
  dsimp only
  rw[e2,e3]
  exact QB (x:={x with s:=(b++E,0)}) hI _ hl
 rw[hx]
 have hload:∀e,vU (b++E++e) ((b.length:Int)+kH b v.2.1) v.2.1=(zX v.2.2 v.2.1,0):=fun e=>ZS (A:=b++kJ (kH b v.2.1)) (C:=e) hw (by rw[← hE];simp only[List.append_assoc]) (by rw[List.length_append,jT];omega) hlow.1 hlow.2
 have hI2:=h.ext E (x.stk++[(sg,v.2.1,(b.length:Int)+kH b v.2.1)])
 rw[hb] at hI2
 refine⟨hI2,⟨E,by rw[hb],by omega⟩,⟨_,rfl,.inr ?_⟩,fun a _=>rfl⟩
 have hmod:=BI hw b
 have kQ:(((b++E).length:Nat):Int)=b.length+kH b v.2.1+v.2.1:=by rw[List.length_append];omega
 rcases hv with ⟨rfl,n,hn,rfl,rfl⟩|⟨rfl,u,hu,rfl,rfl⟩
 ·refine⟨by show inlineB 6=false;decide,by show legalB 6=true;decide,hw,by show (0:Int)≤(b.length:Int)+kH b (qX n).2.1;omega,?_,?_,fun e=>?_⟩
  ·show (b.length:Int)+kH b (qX n).2.1≤((b++E).length:Int)
   omega
  ·show (b.length:Int)+kH b (qX n).2.1 - vZ 6*(qX n).2.1 < ((b++E).length:Int)
   rw[show vZ 6=0 by decide];omega
  ·show gJ _ 6 (qX n).2.1 ((b.length:Int)+kH b (qX n).2.1) _=true
   unfold gJ QI
   rw[iF (hload e),hload e]
   rw[show (qX n).2.2=n % 18446744073709551616 from rfl,show (qX n).2.1=QT n from rfl] at *
   rw[BG hw hn (Int.le_refl _)]
   simp only[Tr.kind,JG,ne_eq,not_true_eq_false,if_false,if_true,decide_true,Bool.true_and,Bool.and_true,decide_eq_true_eq]
   exact hmod
 ·refine⟨by show inlineB 7=false;decide,by show legalB 7=true;decide,hw,by show (0:Int)≤(b.length:Int)+kH b (qY u).2.1;omega,?_,?_,fun e=>?_⟩
  ·show (b.length:Int)+kH b (qY u).2.1≤((b++E).length:Int)
   omega
  ·show (b.length:Int)+kH b (qY u).2.1 - vZ 7*(qY u).2.1 < ((b++E).length:Int)
   rw[show vZ 7=0 by decide];omega
  ·show gJ _ 7 (qY u).2.1 ((b.length:Int)+kH b (qY u).2.1) _=true
   unfold gJ QI
   rw[hload e]
   rw[show (qY u).2.2=u from rfl,show (qY u).2.1=Ft.widthOf u.toNat from rfl] at *
   rw[BH hw hu (Int.le_refl _)]
   simp only[Tr.kind,JG,ne_eq,not_true_eq_false,if_false,decide_true,Bool.true_and,Bool.and_true,decide_eq_true_eq]
   rw[if_neg (by decide),if_neg (by decide)]
   simp only[Tr.kind,JG,decide_true,Bool.true_and,Bool.and_true,decide_eq_true_eq]
   exact hmod
theorem AB {b:List UInt8} {k:ByteArray} {typ:Int} (ht:typ=5∨typ=25) (hk:k.size≤1048576) (hb:b.length≤1048576) :
 YK (b++YS b k (if typ=5 then ⟨#[0]⟩ else ByteArray.empty)) (typ,Ft.widthOf k.size,ZX b k) (.mk (if typ=5 then 6 else 7) 0 0 k [] []):=by
 have hw:=vY k.size
 have hwp:=zH hw
 have hpad:=cP b hw
 have hlt:=QY b k (if typ=5 then ⟨#[0]⟩ else ByteArray.empty)
 obtain⟨w,hW⟩:∃w,Ft.widthOf k.size=w:=⟨_,rfl⟩
 have hpw:(k.size:Int) < 2 ^ (8*w.toNat):=by rw[← hW];exact nW k.size (by omega)
 have hP:ZX b k=(b.length:Int)+kH b w+w:=by unfold ZX;rw[hW]
 have hz:0≤((if typ=5 then (⟨#[0]⟩:ByteArray) else ByteArray.empty).size:Int):=by omega
 rw[hW] at hw hwp hpad hlt⊢
 have hfar:inlineB typ=false∧legalB typ=true∧vZ typ=1:=by rcases ht with rfl | rfl<;>decide
 have hload:∀e,vU (b++YS b k (if typ=5 then ⟨#[0]⟩ else ByteArray.empty)++e) (ZX b k - w) w=((k.size:Int),0):=fun e=>by
  refine ZS (A:=b++kJ (kH b w)) (C:=jQ [k,if typ=5 then ⟨#[0]⟩ else ByteArray.empty]++e) hw ?_ ?_ (by omega) hpw
  ·unfold YS;rw[hW];simp only[List.append_assoc,Int.toNat_natCast]
  ·rw[hP,List.length_append,jT];omega
 refine .inr ⟨hfar.1,hfar.2.1,by show isW w=true;exact hw,by show 0≤ZX b k;rw[hP];omega,?_,?_,fun e=>?_⟩
 ·show ZX b k≤_
  rw[List.length_append,hP];omega
 ·show ZX b k - vZ typ*w < _
  rw[hfar.2.2,List.length_append,hP];omega
 ·have hbody:textF (b++YS b k (if typ=5 then ⟨#[0]⟩ else ByteArray.empty)++e) typ w (ZX b k) (.mk (if typ=5 then 6 else 7) 0 0 k [] [])=true:=by
   unfold textF
   rw[dW (hload e) (by omega)]
   have hmod:ZX b k % w=0:=by
    rw[hP,Int.add_emod_right]
    exact BI hw b
   have hh:sG (b++YS b k (if typ=5 then ⟨#[0]⟩ else ByteArray.empty)++e) (ZX b k) (if typ=5 then fD k else k)=true:=by
    have hA:(((b++kJ (kH b w)++zA w.toNat k.size).length:Nat):Int)=ZX b k:=by
     rw[hP,List.length_append,List.length_append,jT,kD];omega
    rcases ht with rfl|rfl
    ·simp only[if_true]
     have:=iV (b:=b++kJ (kH b w)++zA w.toNat k.size) (s:=fD k) (e:=e) hA.symm
     rw[← dX] at this
     unfold YS
     rw[hW]
     simp only[List.append_assoc] at this⊢
     exact this
    ·rw[if_neg (by decide),if_neg (by decide)]
     have:=iV (b:=b++kJ (kH b w)++zA w.toNat k.size) (s:=k) (e:=e) hA.symm
     have hbe:jQ [k,ByteArray.empty]=k.data.toList:=by simp[jQ]
     unfold YS
     rw[hW,hbe]
     simp only[List.append_assoc] at this⊢
     exact this
   simp only[Tr.fs]
   rw[hh]
   simp only[JG,hmod,decide_true,Bool.and_self]
  rcases ht with rfl|rfl
  ·exact hbody
  ·exact hbody
theorem oD {jA t:Int} {x:BS} {k:ByteArray} (h:Inv x) (ht:t=5∨t=25) (hl:x.stk.length+1≤65536) (hr:(x.s.1.length:Int)+(k.size+64)≤jA) (vF:jA≤1048576) :
 qW x (x.text jA t k (if t=5 then ⟨#[0]⟩ else ByteArray.empty)) (.mk (if t=5 then 6 else 7) 0 0 k [] []) (k.size+64):=by
 have hw:=vY k.size
 have hwp:=zH hw
 have hpad:=cP x.s.1 hw
 have hlt:=QY x.s.1 k (if t=5 then ⟨#[0]⟩ else ByteArray.empty)
 have hz:((if t=5 then (⟨#[0]⟩:ByteArray) else ByteArray.empty).size:Int)≤1:=by rcases ht with rfl | rfl<;>decide
 have hT:=AB (b:=x.s.1) (k:=k) ht (by omega) (by omega)
 rw[text_ok (b:=x.s.1) h.e0 h.s hl (by omega) (by rw[List.length_append];omega)]
 have hI:=h.ext (YS x.s.1 k (if t=5 then ⟨#[0]⟩ else ByteArray.empty)) (x.stk++[(t,Ft.widthOf k.size,ZX x.s.1 k)])
 refine⟨⟨hI.e0,hI.s0,hI.keys,fun z hz=>?_,hI.lists,hI.names,hI.vals⟩,⟨_,rfl,by omega⟩,⟨_,rfl,hT⟩,fun a _=>rfl⟩
 rcases ht with rfl|rfl
 ·simp only[if_true] at hz hT⊢
  rcases ZT hz with hz|⟨rfl,_⟩
  ·exact (h.texts z hz).more _
  ·exact hT
 ·exact hI.texts z hz
theorem FY {jA:Int} {sh:Bool} {x:BS} {k:ByteArray} (h:Inv x) (hl:x.stk.length+1≤65536) (hr:(x.s.1.length:Int)+(k.size+64)≤jA) (vF:jA≤1048576):qW x (x.str jA sh k) (.mk 6 0 0 k [] []) (k.size+64):=by
 unfold BS.str
 dsimp only
 rw[if_pos h.e0]
 by_cases hg:((yT x.texts k).2 && sh)=true
 ·rw[if_pos hg]
  rw[Bool.and_eq_true] at hg
  have hm:yT x.texts k=((yT x.texts k).1,true):=by rw[← hg.1]
  have h1:=h.texts _ (VZ hm)
  rw[QB h _ hl]
  exact⟨h.stk _,⟨[],by simp,Nat.zero_le _⟩,⟨_,rfl,h1⟩,fun a _=>rfl⟩
 ·rw[if_neg hg]
  exact oD (t:=5) h (.inl rfl) hl hr vF
theorem DC {jA:Int} {x:BS} {k:ByteArray} (h:Inv x) (hl:x.stk.length+1≤65536) (hr:(x.s.1.length:Int)+(k.size+64)≤jA) (vF:jA≤1048576):qW x (x.blob jA k) (.mk 7 0 0 k [] []) (k.size+64):=by
 unfold BS.blob
 rw[if_pos h.e0]
 exact oD (t:=25) h (.inr rfl) hl hr vF
end Go.Proofs.YtdjoffgkndncfaaGreat
namespace Go.Proofs.YtdjoffgkndncfaaGreat
open Go Go.ChangeShapes Go.WideShapes Go.ChangeAt Go.RowKit Go.Joins Go.Deep
open Go.Proofs.YtdjoffgkndncfaaGreat.Ft (V3 vV okV ValsAt inlineB legalB packF codeF typedF allF oneF)
theorem AC {jA jC k n u:Int} {s:ByteArray} {x:BS} (h:x.Good):(ZU jA jC k n u s x).Good:=by
 unfold ZU
 repeat' split
 all_goals first | exact h.inline | exact h.apart | exact h.key | exact h.str | exact h.blob | exact h
mutual
theorem iW {jA jC:Int}:∀(t:Tr) {x:BS},x.Good→(kG jA jC t x).Good
 | .mk k n u s keys l,x,h=>by
  simp only[kG]
  have h1:=(YT (jA:=jA) (jC:=jC) l h).endVec (jA:=jA) (start:=x.stk.length)
  have h2:=(YU (jA:=jA) (jC:=jC) l keys h).endMap (jA:=jA) (sh:=onF jC 4) (start:=x.stk.length)
  repeat' split
  all_goals first | exact h1 | exact h2 | exact h.vector | exact h.keyVec | exact h.fixed | exact AC h
theorem YT {jA jC:Int}:∀(l:List Tr) {x:BS},x.Good→(yK jA jC l x).Good
 | [],_,h=>h
 | t::r,_,h=>YT r (iW t h)
theorem YU {jA jC:Int}:∀(l:List Tr) (ks:List ByteArray) {x:BS},x.Good→(yN jA jC l ks x).Good
 | [],_,_,h=>h
 | t::r,ks,_,h=>YU r ks.tail (iW t h.key)
end
mutual
def okE:Tr→Prop | .mk k n u s keys l=>(s.size≤1048576∧(∀q∈keys,q.size≤1048576)∧l.length≤4096∧(k=17→keys.length=l.length))∧okEL l
def okEL:List Tr→Prop | []=>True | t::r=>okE t∧okEL r
end
theorem okEL_iff:∀{l:List Tr},okEL l↔∀x∈l,okE x
 | []=>by simp[okEL]
 | t::r=>by simp[okEL,okEL_iff (l:=r)]
theorem eP {jA jC:Int}:∀(l:List Tr) (t:Tr) (x:BS),yK jA jC (l++[t]) x=kG jA jC t (yK jA jC l x)
 | [],_,_=>rfl
 | y::r,t,x=>eP r t _
theorem eQ {jA jC:Int}:∀(l:List Tr) (ks:List ByteArray) (t:Tr) (k:ByteArray) (x:BS),ks.length=l.length→yN jA jC (l++[t]) (ks++[k]) x=kG jA jC t ((yN jA jC l ks x).key jA (onF jC 1) k)
 | [],ks,t,k,x,h=>by
  have:ks=[]:=List.length_eq_zero_iff.1 (by simpa using h)
  subst this;rfl
 | y::r,[],t,k,x,h=>by simp at h
 | y::r,q::ks,t,k,x,h=>eQ r ks t k _ (by simpa using h)
end Go.Proofs.YtdjoffgkndncfaaGreat
namespace Go.Proofs.YtdjoffgkndncfaaGreat
open Go Go.ChangeShapes Go.WideShapes Go.ChangeAt Go.RowKit Go.Joins Go.Deep
open Go.Proofs.YtdjoffgkndncfaaGreat.Ft (V3 vV okV ValsAt inlineB legalB packF codeF typedF allF oneF allAt headF fitsL fitsV fitsF belowW isA unpackF)
theorem bQ {el:Int} {v:V3} (h:v.1=el) (hl:kL v=0):kP el v=0:=by
 unfold kP
 rw[h]
 simpa using hl
theorem AD {jA elem many typ kd:Int} {len jX:Bool} {T:V3→Int} {l:List V3} {ts:List Tr} {x:BS} (h:Inv x) (ht:zL x.s.1 l ts) (hv:∀s,yC jA elem many l s=yL jA T len jX typ 0 l s) (hT:∀v∈l,T v=0)
 (hs:qV typ=(kd,if len then 0 else (ts.length:Int))) (h17:kd≠17) (hg:ZM kd=jX) (hne:len=false→ts≠[]) (hty:jX=false→∀v∈l,v.1=(Ft.elemF typ).1∧(inlineB v.1=true∨v.1=4))
 (hl:x.stk.length+1≤65536) (hll:l.length≤65536) (hr:(x.s.1.length:Int)+(15+9*l.length:Nat)≤jA) (vF:jA≤1048576) (hfar:inlineB typ=false∧legalB typ=true∧fE typ=false∧vZ typ=if len then 1 else 0) :
 qW x (x.vector jA elem many l) (.mk kd 0 0 EMB [] ts) (15+9*l.length):=by
 have hb:x.s.1.length≤1048576:=by omega
 obtain⟨b,hbe⟩:∃b,x.s.1=b:=⟨_,rfl⟩
 have hxs:x.s=(b,0):=by rw[h.s,hbe]
 rw[hbe] at ht hr hb
 obtain⟨X,hX⟩:∃X,allF l (0,0,0) b.length (if len then 1 else 0)=X:=⟨_,rfl⟩
 obtain⟨p,hp⟩:∃p,(b.length:Int)+kH b X+(if len then X else 0)=p:=⟨_,rfl⟩
 obtain⟨hw,hH,hmod,hge,hlt,kQ,hin⟩:=heldB (jX:=jX) hb (by omega) (ht.near hb) hX hp
 have hwp:=zH hw
 have hle:=tE hw len jX b l
 have hput:=A8 (jA:=jA) (T:=T) (len:=len) (jX:=jX) (kind:=typ) hT hb (by omega) (ht.near hb) hX (by omega)
 have hpl:=YX hw len jX b l
 have hbody:=oA (many:=if len then 0 else (ts.length:Int)) ht hb hll hX hp hs h17 hg (by cases len<;>simp;exact hne rfl) hty
 rw[hp] at hput
 obtain⟨R,hR⟩:∃R,(JJ X len jX b l).flatten=R:=⟨_,rfl⟩
 rw[hR] at hput hpl hH hbody
 have hI:=h.ext R x.stk
 have hx:x.vector jA elem many l={x with s:=(b++R,0),stk:=x.stk++[(typ,X,p)]}:=by
  unfold BS.vector
  rw[if_pos h.e0,hv,hxs,hput]
  dsimp only
  rw[hbe] at hI
  rw[x8 (x:={x with s:=(b++R,0)}) h.e0]
  exact QB (x:={x with s:=(b++R,0)}) hI _ hl
 rw[hx]
 have hI2:=h.ext R (x.stk++[(typ,X,p)])
 rw[hbe] at hI2
 have hXl:=hH.len
 have hmul0:0≤X*(l.length:Int):=Int.mul_nonneg (by omega) (by omega)
 refine⟨hI2,⟨R,by rw[hbe],by omega⟩,⟨_,rfl,.inr ⟨hfar.1,hfar.2.1,hw,?_,?_,?_,fun e=>?_⟩⟩,fun a _=>rfl⟩
 ·show 0≤p
  rw[← hp];cases len<;>simp<;>omega
 ·show p≤((b++R).length:Int)
  cases jX<;>simp at hXl<;>simp<;>omega
 ·show p - vZ typ*X < ((b++R).length:Int)
  rw[hfar.2.2.2,hXl]
  cases len
  ·have h1:1≤(l.length:Int):=by
    have:=hne rfl
    have h2:=ht.1
    have:ts.length≠0:=fun e=>this (List.length_eq_zero_iff.1 e)
    omega
   have h2:(1:Int)*1≤X*l.length:=Int.mul_le_mul (by omega) h1 (by omega) (by omega)
   cases jX<;>simp<;>omega
  ·cases jX<;>simp<;>omega
 ·show BE (b++R++e) typ X p _=true
  unfold BE
  rw[hfar.2.2.1]
  exact hbody e
theorem vp_of {jA el many typ:Int} (hel:el≠-1) (ht:(typedF el many).1=typ) (l:List V3) (s:St):yC jA el many l s=yL jA (kP el) (decide (many=0)) false typ 0 l s:=by
 unfold yC
 rw[if_neg hel,ht]
theorem cR {jA el typ kd:Int} {l:List V3} {ts:List Tr} {x:BS} (h:Inv x) (ht:zL x.s.1 l ts) (hel:el≠-1) (hty:(typedF el 0).1=typ) (hs:qV typ=(kd,0)) (h17:kd≠17) (hg:ZM kd=false) (he:∀v∈l,v.1=el) (hel2:(Ft.elemF typ).1=el∧(inlineB el=true∨el=4))
 (hl:x.stk.length+1≤65536) (hll:l.length≤65536) (hr:(x.s.1.length:Int)+(15+9*l.length:Nat)≤jA) (vF:jA≤1048576) (hfar:inlineB typ=false∧legalB typ=true∧fE typ=false∧vZ typ=1):qW x (x.vector jA el 0 l) (.mk kd 0 0 EMB [] ts) (15+9*l.length):=
 AD (len:=true) (jX:=false) h ht (fun s=>vp_of hel hty l s) (fun v hv=>bQ (he v hv) (ht.near (by omega) v hv).1) hs h17 hg (fun e=>by cases e) (fun _ v hv=>⟨by rw[he v hv,hel2.1],by rw[he v hv];exact hel2.2⟩) hl hll hr vF hfar
theorem uJ {jA el kd:Int} {l:List V3} {ts:List Tr} {x:BS} (h:Inv x) (ht:zL x.s.1 l ts) (hk:(el=1∧kd=15)∨(el=2∧kd=16)) (he:∀v∈l,v.1=el) (hn:2≤l.length∧l.length≤4)
 (hl:x.stk.length+1≤65536) (hr:(x.s.1.length:Int)+(15+9*l.length:Nat)≤jA) (vF:jA≤1048576):qW x (x.fixed jA el l) (.mk kd 0 0 EMB [] ts) (15+9*l.length):=by
 unfold BS.fixed
 rw[if_pos h.e0,if_neg (by omega)]
 have hl1:=ht.1
 have hne:ts≠[]:=fun e=>by have h9:=congrArg List.length e;rw[← hl1,List.length_nil] at h9;omega
 have h3:l.length=2∨l.length=3∨l.length=4:=by omega
 have key:∀typ:Int,(typedF el l.length).1=typ→qV typ=(kd,(l.length:Int))→ZM kd=false→kd≠17→(Ft.elemF typ).1=el→inlineB el=true→(inlineB typ=false∧legalB typ=true∧fE typ=false∧vZ typ=0)→el≠-1→qW x (x.vector jA el l.length l) (.mk kd 0 0 EMB [] ts) (15+9*l.length):=by
  intro typ h1 h2 h3 h4 h5 h6 h7 h8
  refine AD (len:=false) (jX:=false) (typ:=typ) h ht (fun s=>?_) (fun v hv=>bQ (he v hv) (ht.near (by omega) v hv).1) (by rw[h2,hl1];rfl) h4 h3 (fun _=>hne) (fun _ v hv=>⟨by rw[he v hv,h5],.inl (by rw[he v hv];exact h6)⟩) hl (by omega) hr vF h7
  rw[vp_of h8 h1,decide_eq_false (show ¬((l.length:Nat):Int)=0 by omega)]
 rcases hk with ⟨rfl,rfl⟩|⟨rfl,rfl⟩
 ·rcases h3 with h3|h3|h3
  ·rw[h3] at key⊢;exact key 16 (by decide +kernel) (by decide) (by decide) (by decide) (by decide) (by decide) (by decide) (by decide)
  ·rw[h3] at key⊢;exact key 19 (by decide +kernel) (by decide) (by decide) (by decide) (by decide) (by decide) (by decide) (by decide)
  ·rw[h3] at key⊢;exact key 22 (by decide +kernel) (by decide) (by decide) (by decide) (by decide) (by decide) (by decide) (by decide)
 ·rcases h3 with h3|h3|h3
  ·rw[h3] at key⊢;exact key 17 (by decide +kernel) (by decide) (by decide) (by decide) (by decide) (by decide) (by decide) (by decide)
  ·rw[h3] at key⊢;exact key 20 (by decide +kernel) (by decide) (by decide) (by decide) (by decide) (by decide) (by decide) (by decide)
  ·rw[h3] at key⊢;exact key 23 (by decide +kernel) (by decide) (by decide) (by decide) (by decide) (by decide) (by decide) (by decide)
def JF (l:List ByteArray):Nat:=(l.map fun k=>k.size+1).sum
theorem iX {jA:Int} {sh:Bool}:∀(l:List ByteArray) {x:BS},Inv x→(∀k∈l,vL k=0)→(x.s.1.length:Int)+JF l≤jA →
 ∃e,Inv (x.putAll jA sh l).2∧(x.putAll jA sh l).2.s.1=x.s.1++e∧e.length≤JF l∧(x.putAll jA sh l).2.stk=x.stk∧zL (x.putAll jA sh l).2.s.1 (x.putAll jA sh l).1 (l.map Q8)∧(∀v∈(x.putAll jA sh l).1,v.1=4)∧∀c:Int,c < x.s.1.length→z6 (x.putAll jA sh l).2.names c=z6 x.names c
 | [],x,h,_,_=>⟨[],h,by simp[BS.putAll],Nat.zero_le _,rfl,zL.nil _,by simp[BS.putAll],fun _ _=>rfl⟩
 | k::r,x,h,hk,hr=>by
  simp only[JF,List.map_cons,List.sum_cons] at hr
  obtain⟨a,e,h1,h2,h3,h4,h5,h6,h7,h8⟩:=put_ok (jA:=jA) (sh:=sh) h (hk k (by simp)) (by omega)
  have kQ:(x.put jA sh k).2.s.1.length=x.s.1.length+e.length:=by rw[h3,List.length_append]
  obtain⟨e2,g1,g2,g3,g4,g5,g6,g7⟩:=iX (jA:=jA) (sh:=sh) r h2 (fun q hq=>hk q (by simp[hq])) (by unfold JF;omega)
  simp only[BS.putAll]
  refine⟨e++e2,g1,by rw[g2,h3,List.append_assoc],by rw[List.length_append];simp only[JF,List.map_cons,List.sum_cons] at g3⊢;omega,by rw[g4,h5],?_,?_,fun c hc=>?_⟩
  ·refine zL.cons ?_ g5
   rw[g2,h1]
   exact h6.more _
  ·intro v hv
   rcases List.mem_cons.1 hv with rfl|hv
   ·rw[h1]
   ·exact g6 v hv
  ·rw[g7 c (by omega),h8 c hc]
theorem DD {jA:Int} {sh:Bool} {l:List ByteArray} {x:BS} (h:Inv x) (hk:∀k∈l,vL k=0) (hl:x.stk.length+1≤65536) (hll:l.length≤65536) (hr:(x.s.1.length:Int)+(JF l+(15+9*l.length):Nat)≤jA) (vF:jA≤1048576) :
 qW x (x.keyVec jA sh l) (.mk 13 0 0 EMB [] (l.map Q8)) (JF l+(15+9*l.length)):=by
 obtain⟨e,h1,h2,h3,h4,h5,h6,h7⟩:=iX (jA:=jA) (sh:=sh) l h hk (by omega)
 unfold BS.keyVec
 rw[if_pos h.e0]
 have kQ:(x.putAll jA sh l).2.s.1.length=x.s.1.length+e.length:=by rw[h2,List.length_append]
 have hn:(x.putAll jA sh l).1.length=l.length:=by rw[h5.1,List.length_map]
 generalize hY:x.putAll jA sh l=Y at *
 have hP:=cR (jA:=jA) (el:=4) (typ:=14) (kd:=13) h1 h5 (by decide) (by decide +kernel) (by decide) (by decide) (by decide) h6 ⟨by decide,.inr rfl⟩ (by rw[h4];exact hl) (by omega) (by rw[hn];omega) vF (by decide)
 obtain⟨e2,g1,g2⟩:=hP.grow
 obtain⟨v,g3,g4⟩:=hP.push
 refine⟨hP.inv,⟨e++e2,by rw[g1,h2,List.append_assoc],by rw[List.length_append];rw[hn] at g2;omega⟩,⟨v,by rw[g3,h4],g4⟩,fun a ha=>?_⟩
 rw[hP.nms a (by omega),h7 a ha]
/-! ### what names a list of keys -/
theorem iY:∀{a b A B:List UInt8},(0:UInt8)∉a→(0:UInt8)∉b→a++0::A=b++0::B→a=b∧A=B
 | [],[],A,B,_,_,h=>by simp at h;exact⟨rfl,h⟩
 | [],y::b,A,B,_,hb,h=>by simp at h;exact absurd h.1 (fun e=>hb (by simp[← e]))
 | x::a,[],A,B,ha,_,h=>by simp at h;exact absurd h.1 (fun e=>ha (by simp[e]))
 | x::a,y::b,A,B,ha,hb,h=>by
  simp only[List.cons_append,List.cons.injEq] at h
  obtain⟨h1,h2⟩:=iY (fun e=>ha (by simp[e])) (fun e=>hb (by simp[e])) h.2
  exact⟨by rw[h.1,h1],h2⟩
theorem aY (l:List ByteArray):(kO l).data.toList=l.flatMap fun k=>k.data.toList++[0]:=by
 have:∀(l:List ByteArray) (a:ByteArray),(l.foldl (fun a k=>a++(k++⟨#[0]⟩)) a).data.toList=a.data.toList++l.flatMap fun k=>k.data.toList++[0]:=by
  intro l
  induction l with
  | nil=>intro a;simp
  | cons k r ih=>intro a;rw[List.foldl_cons,ih];simp
 have h:=this l ByteArray.empty
 have he:ByteArray.empty.data.toList=[]:=rfl
 rw[he,List.nil_append] at h
 exact h
theorem eR:∀{a b:List ByteArray},(∀k∈a,vL k=0)→(∀k∈b,vL k=0)→kO a=kO b→a=b:=by
 have key:∀{a b:List ByteArray},(∀k∈a,vL k=0)→(∀k∈b,vL k=0)→(a.flatMap fun k=>k.data.toList++[0])=(b.flatMap fun k=>k.data.toList++[(0:UInt8)])→a=b:=by
  intro a
  induction a with
  | nil=>
   intro b _ _ h
   cases b with
   | nil=>rfl
   | cons y b=>simp at h
  | cons x a ih=>
   intro b ha hb h
   cases b with
   | nil=>simp at h
   | cons y b=>
    simp only[List.flatMap_cons,List.append_assoc,List.cons_append,List.nil_append] at h
    obtain⟨h1,h2⟩:=iY (sT (ha x (by simp))) (sT (hb y (by simp))) h
    rw[bytes_inj h1,ih (fun k hk=>ha k (by simp[hk])) (fun k hk=>hb k (by simp[hk])) h2]
 intro a b ha hb h
 refine key ha hb ?_
 rw[← aY,← aY,h]
theorem AE {jA:Int} {sh:Bool} {x:BS} {keys:List V3} {names:List ByteArray} (h:Inv x) (hk:zL x.s.1 keys (names.map Q8)) (h4:∀v∈keys,v.1=4) (hz:∀k∈names,vL k=0) (hll:keys.length≤65536) (hr:(x.s.1.length:Int)+(15+9*keys.length:Nat)≤jA) (vF:jA≤1048576) :
 let g:=yT x.lists (kO names)
 let x1:BS:=if g.2 && sh then x else
  let q:=yC jA 4 0 keys x.s
  ({x with s:=q.2,e:=zI x.e q.1.2,lists:=yU (kO names) x.vals.length x.lists,vals:=x.vals++[q.1.1]}:BS)
 let i:Int:=if g.2 && sh then g.1 else x.vals.length
 ∃e,Inv x1∧x1.s.1=x.s.1++e∧e.length≤15+9*keys.length∧x1.stk=x.stk∧x1.names=x.names∧eW x1.s.1 (x1.vals.getD i.toNat (0,0,0)) names:=by
 dsimp only
 by_cases hg:((yT x.lists (kO names)).2 && sh)=true
 ·rw[if_pos hg,if_pos hg]
  rw[Bool.and_eq_true] at hg
  have hm:yT x.lists (kO names)=((yT x.lists (kO names)).1,true):=by rw[← hg.1]
  obtain⟨h0,v,nm,h1,h2,h3,h5⟩:=h.lists _ (VZ hm)
  have:nm=names:=eR h5 hz h3
  subst this
  refine⟨[],h,by simp,Nat.zero_le _,rfl,rfl,?_⟩
  rw[List.getD_eq_getElem?_getD,h1]
  exact h2
 ·rw[if_neg hg,if_neg hg]
  have hb:x.s.1.length≤1048576:=by omega
  obtain⟨b,hbe⟩:∃b,x.s.1=b:=⟨_,rfl⟩
  have hxs:x.s=(b,0):=by rw[h.s,hbe]
  rw[hbe] at hk hr hb
  obtain⟨X,hX⟩:∃X,allF keys (0,0,0) b.length 1=X:=⟨_,rfl⟩
  obtain⟨p,hp⟩:∃p,(b.length:Int)+kH b X+X=p:=⟨_,rfl⟩
  obtain⟨hw,hH,hmod,hge,hlt,kQ,hin⟩:=heldB (len:=true) (jX:=false) hb (by omega) (hk.near hb) (by simpa using hX) (by simpa using hp)
  have hwp:=zH hw
  have hle:=tE hw true false b keys
  have hput:=A8 (jA:=jA) (T:=kP 4) (len:=true) (jX:=false) (kind:=14) (fun v hv=>bQ (h4 v hv) (hk.near hb v hv).1) hb (by omega) (hk.near hb) (by simpa using hX) (by omega)
  have hpl:=YX hw true false b keys
  have hbody:=x7 hk h4 hb hll hX hp
  have hvp:yC jA 4 0 keys x.s=(((14,X,p),0),(b++(JJ X true false b keys).flatten,0)):=by
   rw[vp_of (typ:=14) (by decide) (by decide +kernel),hxs]
   have:((b.length:Int)+kH b X+if true=true then X else 0)=p:=by rw[if_pos rfl];exact hp
   rw[this] at hput
   exact hput
  rw[hvp]
  obtain⟨R,hR⟩:∃R,(JJ X true false b keys).flatten=R:=⟨_,rfl⟩
  rw[hR] at hpl hH hbody⊢
  dsimp only
  have hI:=h.ext R x.stk
  rw[hbe] at hI
  have hXl:=hH.len
  simp only[Bool.false_eq_true,if_false,Int.add_zero] at hXl
  have hmul0:0≤X*(keys.length:Int):=Int.mul_nonneg (by omega) (by omega)
  have hKV:eW (b++R) (14,X,p) names:=⟨rfl,hw,by show 0≤p;omega,by show p≤((b++R).length:Int);omega,by show p - X < ((b++R).length:Int);omega,fun e=>hbody e⟩
  refine⟨R,⟨by show zI x.e 0=0;rw[h.e0];rfl,rfl,hI.keys,hI.texts,fun z hz'=>?_,hI.names,by have h1:=h.vals;rw[hbe] at h1;show (x.vals++[(14,X,p)]).length≤(b++R).length;rw[List.length_append,List.length_singleton];omega⟩,by rw[hbe],by omega,rfl,rfl,?_⟩
  ·rcases ZT hz' with hz'|⟨rfl,_⟩
   ·obtain⟨h0,v,nm,h1,h2,h3⟩:=hI.lists z hz'
    refine⟨h0,v,nm,?_,h2,h3⟩
    show (x.vals++[(14,X,p)])[z.2.toNat]? = some v
    rw[List.getElem?_append_left (List.getElem?_eq_some_iff.1 h1).1];exact h1
   ·refine⟨by show (0:Int)≤x.vals.length;omega,(14,X,p),names,?_,hKV,rfl,hz⟩
    show (x.vals++[(14,X,p)])[((x.vals.length:Nat):Int).toNat]? = _
    rw[Int.toNat_natCast,List.getElem?_append_right (Nat.le_refl _)];simp
  ·show eW (b++R) ((x.vals++[(14,X,p)]).getD ((x.vals.length:Nat):Int).toNat (0,0,0)) names
   rw[Int.toNat_natCast,List.getD_eq_getElem?_getD,List.getElem?_append_right (Nat.le_refl _)]
   simpa using hKV
theorem FZ {jA:Int} {sh:Bool} {x:BS} {keys vals:List V3} {names:List ByteArray} {ts:List Tr} (h:Inv x) (hk:zL x.s.1 keys (names.map Q8)) (h4:∀v∈keys,v.1=4) (hz:∀k∈names,vL k=0) (hi:incB names=true) (hv:zL x.s.1 vals ts) (hnl:names.length=ts.length)
 (hl:x.stk.length+1≤65536) (hll:keys.length≤65536) (hr:(x.s.1.length:Int)+(46+18*keys.length:Nat)≤jA) (vF:jA≤1048576) :
 qW x (x.table jA sh (kO names) keys vals) (.mk 17 0 0 EMB names ts) (46+18*keys.length):=by
 obtain⟨e,h1,h2,h3,h5,h6,h7⟩:=AE (jA:=jA) (sh:=sh) h hk h4 hz hll (by omega) vF
 unfold BS.table
 dsimp only at h1 h2 h3 h5 h6 h7⊢
 generalize (if ((yT x.lists (kO names)).2 && sh)=true then x else {s:=(yC jA 4 0 keys x.s).2,e:=zI x.e (yC jA 4 0 keys x.s).1.2,stk:=x.stk,keys:=x.keys,texts:=x.texts,lists:=yU (kO names) (x.vals.length:Int) x.lists,names:=x.names,vals:=x.vals++[(yC jA 4 0 keys x.s).1.1]}:BS)=x1 at *
 generalize x1.vals.getD (if ((yT x.lists (kO names)).2 && sh)=true then (yT x.lists (kO names)).1 else (x.vals.length:Int)).toNat (0,0,0)=k at *
 rw[if_pos h1.e0]
 have hkl:keys.length=names.length:=by have:=hk.1;rw[List.length_map] at this;exact this
 have hvn:=hv.1
 have kQ:x1.s.1.length=x.s.1.length+e.length:=by rw[h2,List.length_append]
 have hv1:zL x1.s.1 vals ts:=by rw[h2];exact hv.more e
 have hb:x1.s.1.length≤1048576:=by omega
 obtain⟨b,hbe⟩:∃b,x1.s.1=b:=⟨_,rfl⟩
 have hxs:x1.s=(b,0):=by rw[h1.s,hbe]
 rw[hbe] at hv1 hb h7 kQ
 have hK:eN b.length k:=⟨h7.typ,h7.isw,h7.n0,h7.n1⟩
 obtain⟨X,hX⟩:∃X,allF vals k b.length 3=X:=⟨_,rfl⟩
 obtain⟨p,hp⟩:∃p,(b.length:Int)+kH b X+3*X=p:=⟨_,rfl⟩
 obtain⟨hw,hH,hmod,hge,hlt,hin,hkn⟩:=heldM hb (by omega) (hv1.near hb) hK hX hp
 have hwp:=zH hw
 have hle:=lenM_le hw b vals
 have hput:=putM_ok (jA:=jA) hb (by omega) (hv1.near hb) hK hX (by omega)
 rw[hp] at hput
 have hpl:=VT hw k b vals
 have hbody:=FW hv1 h7 hi hnl hb (by omega) hX hp
 obtain⟨R,hR⟩:∃R,(KI X k b vals).flatten=R:=⟨_,rfl⟩
 rw[hR] at hput hpl hH hbody
 rw[hxs,hput]
 dsimp only
 have hI:=h1.ext R x1.stk
 rw[hbe] at hI
 rw[x8 (x:={x1 with s:=(b++R,0)}) h1.e0,QB (x:={x1 with s:=(b++R,0)}) hI _ (by dsimp only;rw[h5];exact hl)]
 have hI2:=h1.ext R (x1.stk++[(9,X,p)])
 rw[hbe] at hI2
 have hXl:=hH.len
 have hmul0:0≤X*(vals.length:Int):=Int.mul_nonneg (by omega) (by omega)
 refine⟨hI2,⟨e++R,by show b++R=_;rw[← hbe,h2,List.append_assoc],by rw[List.length_append];omega⟩,⟨(9,X,p),by show x1.stk++_=_;rw[h5],.inr ⟨by show inlineB 9=false;decide,by show legalB 9=true;decide,hw,by show 0≤p;omega,by show p≤((b++R).length:Int);omega,?_,fun f=>?_⟩⟩,fun a _=>by show z6 x1.names a=_;rw[h6]⟩
 ·show p - vZ 9*X < ((b++R).length:Int)
  rw[show vZ 9=3 by decide];omega
 ·exact hbody f
/-! ### the stack's end as a map's entries -/
def aZ (es:List (V3 × V3)):List V3:=es.flatMap fun p=>[p.1,p.2]
theorem bR (names:List (Int × ByteArray)):∀es:List (V3 × V3),zD names (aZ es)=es.map fun p=>(z6 names p.1.2.2,p.1,p.2)
 | []=>rfl
 | p::r=>by
  show (z6 names p.1.2.2,p.1,p.2)::zD names (aZ r)=_
  rw[bR names r];rfl
theorem V0:∀es:List (V3 × V3),(∀p∈es,p.1.1=4)→vC (aZ es)=true
 | [],_=>rfl
 | p::r,h=>by
  show (decide (p.1.1=4) && vC (aZ r))=true
  rw[V0 r fun q hq=>h q (by simp[hq]),h p (by simp)];rfl
theorem uK:∀{l:List ByteArray},l.Pairwise (fun a b=>ltS a b=true)→incB l=true
 | [],_=>rfl
 | [_],_=>rfl
 | a::b::r,h=>by
  obtain⟨h1,h2⟩:=List.pairwise_cons.1 h
  show (ltS a b && incB (b::r))=true
  rw[h1 b (by simp),uK h2];rfl
theorem iZ {α:Type} (l:List (ByteArray × α)) (h:(l.map Prod.fst).Pairwise fun a b=>ltS a b=true):vH l=l:=by
 have hnd:(l.map Prod.fst).Nodup:=h.imp fun {a b} hab e=>by rw[e,KJ] at hab;cases hab
 exact QL _ _ (qD l) (ZZ l hnd) (by rw[List.pairwise_map] at h;exact h)
theorem DE {jA:Int} {sh:Bool} {x:BS} {K:List V3} {es:List (V3 × V3)} {names:List ByteArray} {ts:List Tr} (h:Inv x) (hst:x.stk=K++aZ es) (hk:zL x.s.1 (es.map (·.1)) (names.map Q8)) (h4:∀p∈es,p.1.1=4) (hnm:es.map (fun p=>z6 x.names p.1.2.2)=names) (hz:∀k∈names,vL k=0)
 (hp:names.Pairwise fun a b=>ltS a b=true) (hv:zL x.s.1 (es.map (·.2)) ts) (hl:K.length+1≤65536) (hll:es.length≤65536) (hr:(x.s.1.length:Int)+(46+18*es.length:Nat)≤jA) (vF:jA≤1048576) :
 qW {x with stk:=K} (x.endMap jA sh K.length) (.mk 17 0 0 EMB names ts) (46+18*es.length):=by
 unfold BS.endMap
 have hd:x.stk.drop ((K.length:Nat):Int).toNat=aZ es:=by rw[hst,Int.toNat_natCast,List.drop_left]
 have hk2:x.stk.take ((K.length:Nat):Int).toNat=K:=by rw[hst,Int.toNat_natCast,List.take_left' rfl]
 rw[if_pos h.e0,if_pos ⟨by omega,by rw[hst,List.length_append];omega⟩]
 dsimp only
 rw[hd,hk2,if_pos (V0 es h4),bR]
 have hmap1:(es.map fun p=>(z6 x.names p.1.2.2,p.1,p.2)).map (·.1)=names:=by rw[List.map_map];exact hnm
 have hself:vH (es.map fun p=>(z6 x.names p.1.2.2,p.1,p.2))=es.map fun p=>(z6 x.names p.1.2.2,p.1,p.2):=iZ _ (by rw[show (es.map fun p=>(z6 x.names p.1.2.2,p.1,p.2)).map Prod.fst=names from hmap1];exact hp)
 have hnd:names.Nodup:=hp.imp fun {a b} hab e=>by rw[e,KJ] at hab;cases hab
 rw[hself,hmap1,if_pos hnd,List.map_map,List.map_map]
 have kQ:names.length=es.length:=by rw[← hnm,List.length_map]
 have hvn:=hv.1
 rw[List.length_map] at hvn
 have hT:=FZ (jA:=jA) (sh:=sh) (x:={x with stk:=K}) (keys:=es.map (·.1)) (vals:=es.map (·.2)) (names:=names) (ts:=ts) (h.stk K) hk (fun v hv=>by obtain⟨p,hp,rfl⟩:=List.mem_map.1 hv;exact h4 p hp) hz (uK hp) hv (by omega) hl (by rw[List.length_map];exact hll) (by rw[List.length_map];exact hr) vF
 rw[List.length_map] at hT
 exact hT
/-! ### the calls of a tree -/
mutual
def fG:Tr→Prop | .mk k n u s keys l=>(qH n∧vT u)∧rngL l
def rngL:List Tr→Prop | []=>True | t::r=>fG t∧rngL r
end
theorem rngL_iff:∀{l:List Tr},rngL l↔∀x∈l,fG x
 | []=>by simp[rngL]
 | t::r=>by simp[rngL,rngL_iff (l:=r)]
mutual
theorem lA {w:World}:∀{t:Tr} {v:Value},k7 w t v→fG t
 | .mk k n u s keys l,v,⟨hb,kv,lv,vs,e,h1,h2,h3⟩=>⟨⟨hb.2.1,hb.2.2.1⟩,uL h3⟩
theorem uL {w:World}:∀{l:List Tr} {vs:List Value},yJ w l vs→rngL l
 | [],_,_=>trivial
 | t::r,_,⟨v,vr,e,h1,h2⟩=>⟨lA h1,uL h2⟩
end
theorem p6 {b:Nat} {t:Tr} (hv:YC b t) (hk:t.kind=3):t=.mk 3 t.fn 0 EMB [] []:=by
 obtain⟨k,n,u,s,keys,l⟩:=t
 obtain⟨_,h1,h2,_,h4,h5,h6⟩:=JW hv
 simp only[Tr.kind] at hk
 subst hk
 rw[h1 (by decide),h2 (by decide),h5 (by decide) (by decide),h6 (by decide) (by decide) (by decide)]
 rfl
theorem p7 {b:Nat} {t:Tr} (hv:YC b t) (hk:t.kind=4):t=.mk 4 0 t.fu EMB [] []:=by
 obtain⟨k,n,u,s,keys,l⟩:=t
 obtain⟨_,h1,h2,_,h4,h5,h6⟩:=JW hv
 simp only[Tr.kind] at hk
 subst hk
 rw[h1 (by decide),h2 (by decide),h4 (by decide) (by decide) (by decide),h6 (by decide) (by decide) (by decide)]
 rfl
theorem uM {b:Nat} {t:Tr} (hv:YC b t) (hk:t.kind=2):t=.mk 2 (if decide (t.fn=1)=true then 1 else 0) 0 EMB [] []:=by
 obtain⟨k,n,u,s,keys,l⟩:=t
 obtain⟨_,h1,h2,_,h4,h5,h6⟩:=JW hv
 simp only[Tr.kind] at hk
 subst hk
 have hb:=hv.2.1
 simp only[zB,Bool.and_eq_true,decide_eq_true_eq,Bool.or_eq_true,Bool.not_eq_true'] at hb
 have hn:n=0∨n=1:=by
  have:=hb.1.1.1.2
  simpa using this
 rw[h1 (by decide),h2 (by decide),h5 (by decide) (by decide),h6 (by decide) (by decide) (by decide)]
 rcases hn with rfl|rfl<;>simp[Tr.fn,EMB]
theorem fR {b:Nat} {t:Tr} (hv:YC b t) (hk:t.kind=5):t=Q8 t.fs∧vL t.fs=0:=by
 obtain⟨k,n,u,s,keys,l⟩:=t
 obtain⟨_,h1,h2,_,h4,h5,h6⟩:=JW hv
 simp only[Tr.kind] at hk
 subst hk
 have hz:=hv.2.2.1
 simp only[qC] at hz
 constructor
 ·rw[h1 (by decide),h2 (by decide),h4 (by decide) (by decide) (by decide),h5 (by decide) (by decide)]
  rfl
 ·show vL s=0
  rw[fK]
  by_cases hzz:JC s=true
  ·rw[if_pos ⟨trivial,hzz⟩] at hz;cases hz
  ·rw[if_neg hzz]
theorem oE {b:Nat} {k n u:Int} {s:ByteArray} {keys:List ByteArray} {l:List Tr} (hv:YC b (.mk k n u s keys l)) (hp:ZW k≠0):∀x∈l,x.kind=ZW k:=by
 have hb:=hv.2.1
 simp only[zB,Bool.and_eq_true,decide_eq_true_eq,Bool.or_eq_true,Bool.not_eq_true'] at hb
 have ho:=hb.2
 intro x hx
 rw[List.any_eq_false] at ho
 have h1:=ho x hx
 unfold vA at h1
 simp only[Bool.and_eq_true,bne_iff_ne,ne_eq,not_and,Decidable.not_not] at h1
 exact h1 hp
theorem YA {d:List UInt8} {f:Tr→V3}:∀{l:List Tr},(∀x∈l,BF (f x) x)→zL d (l.map f) l
 | [],_=>zL.nil d
 | t::r,h=>zL.cons (.inl (h t (by simp))) (YA fun x hx=>h x (by simp[hx]))
theorem F0 {b:Nat} {l:List Tr} (hv:∀x∈l,YC b x) (hk:∀x∈l,x.kind=5):(l.map Tr.fs).map Q8=l:=by
 rw[List.map_map]
 conv=>rhs;rw[← List.map_id l]
 exact List.map_congr_left fun x hx=>((fR (hv x hx) (hk x hx)).1).symm
theorem lB {b:Nat}:∀{l:List Tr},JF (l.map Tr.fs)+18*l.length≤JE l
 | []=>by simp[JF,JE]
 | t::r=>by
  have ih:=lB (b:=b) (l:=r)
  obtain⟨k,n,u,s,keys,q⟩:=t
  simp only[JF,JE,K9,List.map_cons,List.sum_cons,List.length_cons,Tr.fs] at ih⊢
  omega
theorem lC:∀(l:List Tr),32*l.length≤JE l
 | []=>by simp[JE]
 | t::r=>by have:=lC r;simp only[JE,List.length_cons];omega
theorem oF {jA jC:Int}:∀(l:List Tr) (x:BS),(∀t∈l,∀x:BS,Inv x→(x.s.1.length:Int)+K9 t≤jA→x.stk.length+3*t.size≤65535→qW x (kG jA jC t x) t (K9 t))→Inv x→(x.s.1.length:Int)+JE l≤jA→x.stk.length+3*kV l≤65535 →
 ∃vs e,Inv (yK jA jC l x)∧(yK jA jC l x).s.1=x.s.1++e∧e.length+32*l.length≤JE l∧(yK jA jC l x).stk=x.stk++vs∧zL (yK jA jC l x).s.1 vs l∧∀c:Int,c < x.s.1.length→z6 (yK jA jC l x).names c=z6 x.names c
 | [],x,_,h,_,_=>⟨[],[],h,by simp[yK],by simp[JE],by simp[yK],zL.nil _,fun _ _=>rfl⟩
 | t::r,x,ih,h,hr,hs=>by
  simp only[JE] at hr
  simp only[kV] at hs
  have hP:=ih t (by simp) x h (by omega) (by omega)
  obtain⟨e,g1,g2⟩:=hP.grow
  obtain⟨v,g3,g4⟩:=hP.push
  have kQ:(kG jA jC t x).s.1.length=x.s.1.length+e.length:=by rw[g1,List.length_append]
  have hz:=t.size_pos
  obtain⟨vs,e2,i1,i2,i3,i4,i5,i6⟩:=oF r (kG jA jC t x) (fun q hq=>ih q (by simp[hq])) hP.inv (by omega) (by rw[g3,List.length_append,List.length_singleton];omega)
  simp only[yK]
  refine⟨v::vs,e++e2,i1,by rw[i2,g1,List.append_assoc],by simp only[List.length_append,List.length_cons,JE];omega,by rw[i4,g3,List.append_assoc];rfl,zL.cons ?_ i5,fun c hc=>by rw[i6 c (by omega),hP.nms c hc]⟩
  rw[i2]
  exact g4.more _
theorem dY {jA jC:Int}:∀(l:List Tr) (ks:List ByteArray) (x:BS),(∀t∈l,∀x:BS,Inv x→(x.s.1.length:Int)+K9 t≤jA→x.stk.length+3*t.size≤65535→qW x (kG jA jC t x) t (K9 t))→Inv x→ks.length=l.length→(∀k∈ks,vL k=0)→(x.s.1.length:Int)+(JF ks+JE l:Nat)≤jA→x.stk.length+1+3*kV l≤65535 →
 ∃es e,Inv (yN jA jC l ks x)∧(yN jA jC l ks x).s.1=x.s.1++e∧e.length+32*l.length≤JF ks+JE l∧(yN jA jC l ks x).stk=x.stk++aZ es∧zL (yN jA jC l ks x).s.1 (es.map (·.1)) (ks.map Q8)∧(∀p∈es,p.1.1=4)∧es.map (fun p=>z6 (yN jA jC l ks x).names p.1.2.2)=ks∧zL (yN jA jC l ks x).s.1 (es.map (·.2)) l∧∀c:Int,c < x.s.1.length→z6 (yN jA jC l ks x).names c=z6 x.names c
 | [],ks,x,_,h,hk,_,_,_=>by
  have:ks=[]:=List.length_eq_zero_iff.1 (by simpa using hk)
  subst this
  exact⟨[],[],h,by simp[yN],by simp[JE,JF],by simp[yN,aZ],zL.nil _,by simp,rfl,zL.nil _,fun _ _=>rfl⟩
 | t::r,[],x,_,h,hk,_,_,_=>by simp at hk
 | t::r,k::ks,x,ih,h,hk,hkz,hr,hs=>by
  simp only[JE,JF,List.map_cons,List.sum_cons] at hr
  simp only[kV] at hs
  have hz:=t.size_pos
  obtain⟨hK,a,ka,kn,kl⟩:=x9 (jA:=jA) (sh:=onF jC 1) h (hkz k (by simp)) (by omega) (by omega)
  obtain⟨e0,q1,q2⟩:=hK.grow
  obtain⟨v0,q3,q4⟩:=hK.push
  have ev:v0=(4,1,a):=by
   rw[ka] at q3
   have:=List.append_cancel_left q3
   simpa using this.symm
  subst ev
  have hlen0:(x.key jA (onF jC 1) k).s.1.length=x.s.1.length+e0.length:=by rw[q1,List.length_append]
  have hP:=ih t (by simp) (x.key jA (onF jC 1) k) hK.inv (by omega) (by rw[ka,List.length_append,List.length_singleton];omega)
  obtain⟨e,g1,g2⟩:=hP.grow
  obtain⟨v,g3,g4⟩:=hP.push
  have kQ:(kG jA jC t (x.key jA (onF jC 1) k)).s.1.length=x.s.1.length+e0.length+e.length:=by rw[g1,List.length_append,hlen0]
  obtain⟨es,e2,i1,i2,i3,i4,i5,i6,i7,i8,i9⟩:=dY r ks (kG jA jC t (x.key jA (onF jC 1) k)) (fun q hq=>ih q (by simp[hq])) hP.inv (by simpa using hk) (fun q hq=>hkz q (by simp[hq])) (by unfold JF;omega) (by rw[g3,ka,List.length_append,List.length_append,List.length_singleton,List.length_singleton];omega)
  simp only[yN,List.headD_cons,List.tail_cons]
  refine⟨((4,1,a),v)::es,e0++(e++e2),i1,by rw[i2,g1,q1,List.append_assoc,List.append_assoc],by simp only[List.length_append,List.length_cons,JE,JF,List.map_cons,List.sum_cons] at i3⊢;omega,?_,?_,?_,?_,?_,fun c hc=>by rw[i9 c (by omega),hP.nms c (by omega),hK.nms c hc]⟩
  ·rw[i4,g3,ka,List.append_assoc,List.append_assoc];rfl
  ·refine zL.cons ?_ i5
   rw[i2,g1]
   exact (q4.more _).more _
  ·intro p hp
   rcases List.mem_cons.1 hp with rfl|hp
   ·rfl
   ·exact i6 p hp
  ·simp only[List.map_cons]
   rw[i7,i9 a (by omega),hP.nms a kl,kn]
  ·refine zL.cons ?_ i8
   rw[i2]
   exact g4.more _
theorem qW.wide {x x':BS} {t:Tr} {c d:Nat} (h:qW x x' t c) (hd:c≤d):qW x x' t d:=by
 obtain⟨e,h1,h2⟩:=h.grow
 exact⟨h.inv,⟨e,h1,Nat.le_trans h2 hd⟩,h.push,h.nms⟩
theorem qW.after {x y z:BS} {t:Tr} {c d:Nat} {e:List UInt8} {K:List V3} (h:qW {y with stk:=K} z t c) (hs:y.s.1=x.s.1++e) (hk:K=x.stk) (hd:e.length+c≤d) (hn:∀a:Int,a < x.s.1.length→z6 y.names a=z6 x.names a):qW x z t d:=by
 obtain⟨e2,h1,h2⟩:=h.grow
 obtain⟨v,h3,h4⟩:=h.push
 refine⟨h.inv,⟨e++e2,by rw[h1];show y.s.1++e2=_;rw[hs,List.append_assoc],by rw[List.length_append];omega⟩,⟨v,by rw[h3,← hk],h4⟩,fun a ha=>?_⟩
 rw[h.nms a (by show a < (y.s.1.length:Int);rw[hs,List.length_append];omega)]
 exact hn a ha
theorem uN {jA jC:Int} (vF:jA≤1048576):∀(m:Nat) (t:Tr) (b:Nat) (x:BS),t.size≤m→YC b t→pJ t→fG t→Inv x→(x.s.1.length:Int)+K9 t≤jA→x.stk.length+3*t.size≤65535→qW x (kG jA jC t x) t (K9 t):=by
 intro m
 induction m with
 | zero=>intro t b x h;have:=t.size_pos;omega
 | succ m ihm=>
  intro t b x hz hv hs hr h hrm hst
  obtain⟨k,n,u,s,keys,l⟩:=t
  have hn:=JW hv
  obtain⟨v0,v1,v2,v3,v4,v5,v6⟩:=hn
  have y6:=valL_iff.1 hv.2.2.2
  obtain⟨s1,s2⟩:=srt_iff.1 hs
  have hrl:=rngL_iff.1 hr.2
  have hr0:=hr.1
  simp only[Tr.size] at hz hst
  have hll:=J0 l
  have hlc:=lC l
  simp only[K9] at hrm
  have ihl:∀t∈l,∀x:BS,Inv x→(x.s.1.length:Int)+K9 t≤jA→x.stk.length+3*t.size≤65535→qW x (kG jA jC t x) t (K9 t):=fun t ht y=>ihm t (b+1) y (by have:=yA ht;omega) (y6 t ht) (s2 t ht) (hrl t ht)
  have hpk:=oE hv
  simp only[kG,K9]
  have hsk:k≤9→kG jA jC (.mk k n u s keys l) x=ZU jA jC k n u s x:=fun h9=>by
   simp only[kG]
   rw[if_neg (by omega),if_neg (by omega),if_neg (by omega),if_neg (by omega),if_neg (by omega),if_neg (by omega),if_neg (by omega),if_neg (by omega)]
  have hk17:=r9 k v0.1 v0.2
  rcases hk17 with rfl|rfl|rfl|rfl|rfl|rfl|rfl|rfl|rfl|rfl|rfl|rfl|rfl|rfl|rfl|rfl|rfl
  ·-- null
   obtain rfl:=v1 (by decide);obtain rfl:=v2 (by decide);obtain rfl:=v4 (by decide) (by decide) (by decide);obtain rfl:=v5 (by decide) (by decide);obtain rfl:=v6 (by decide) (by decide) (by decide)
   exact (aK h (.inl ⟨rfl,rfl⟩) (by omega)).wide (by omega)
  ·have hkb:=uM hv rfl
   have hP:=aK (v:=yQ (decide (n=1))) (t:=.mk 2 n u s keys l) h (.inr (.inl ⟨decide (n=1),rfl,hkb⟩)) (by omega)
   exact hP.wide (by omega)
  ·have hkb:=p6 hv rfl
   have hP:=aK (v:=qX n) (t:=.mk 3 n u s keys l) h (.inr (.inr (.inl ⟨n,hr0.1,rfl,hkb⟩))) (by omega)
   exact hP.wide (by omega)
  ·have hkb:=p7 hv rfl
   have hP:=aK (v:=qY u) (t:=.mk 4 n u s keys l) h (.inr (.inr (.inr ⟨u,hr0.2,rfl,hkb⟩))) (by omega)
   exact hP.wide (by omega)
  ·obtain⟨hkb,hke⟩:=fR hv rfl
   rw[hkb]
   exact (x9 h hke (by show _+((s.size:Int)+1)≤_;omega) (by omega)).1.wide (by show s.size+1≤_;omega)
  ·obtain rfl:=v1 (by decide);obtain rfl:=v2 (by decide);obtain rfl:=v4 (by decide) (by decide) (by decide);obtain rfl:=v5 (by decide) (by decide)
   exact (FY h (by omega) (by omega) vF).wide (by omega)
  ·obtain rfl:=v1 (by decide);obtain rfl:=v2 (by decide);obtain rfl:=v4 (by decide) (by decide) (by decide);obtain rfl:=v5 (by decide) (by decide)
   exact (DC h (by omega) (by omega) vF).wide (by omega)
  ·obtain rfl:=v1 (by decide);obtain rfl:=v2 (by decide);obtain rfl:=v5 (by decide) (by decide);obtain rfl:=v6 (by decide) (by decide) (by decide)
   exact (uI h (by omega) (by omega) vF (.inl ⟨rfl,n,hr0.1,rfl,rfl⟩)).wide (by omega)
  ·obtain rfl:=v1 (by decide);obtain rfl:=v2 (by decide);obtain rfl:=v4 (by decide) (by decide) (by decide);obtain rfl:=v6 (by decide) (by decide) (by decide)
   exact (uI h (by omega) (by omega) vF (.inr ⟨rfl,u,hr0.2,rfl,rfl⟩)).wide (by omega)
  ·-- untyped vector
   obtain rfl:=v2 (by decide);obtain rfl:=v4 (by decide) (by decide) (by decide);obtain rfl:=v5 (by decide) (by decide);obtain rfl:=v6 (by decide) (by decide) (by decide)
   obtain⟨vs,e,i1,i2,i3,i4,i5,i6⟩:=oF l x ihl h (by omega) (by omega)
   have hvl:=i5.1
   have kQ:(yK jA jC l x).s.1.length=x.s.1.length+e.length:=by rw[i2,List.length_append]
   have hE:(yK jA jC l x).endVec jA x.stk.length=({yK jA jC l x with stk:=x.stk}:BS).vector jA (-1) 0 vs:=by
    unfold BS.endVec
    rw[if_pos i1.e0,if_pos ⟨by omega,by rw[i4,List.length_append];omega⟩,i4,Int.toNat_natCast,List.drop_left,List.take_left' rfl]
   show qW x ((yK jA jC l x).endVec jA x.stk.length) _ _
   rw[hE]
   have hP:=AD (jA:=jA) (elem:=-1) (many:=0) (typ:=10) (kd:=10) (len:=true) (jX:=true) (T:=kL) (x:={yK jA jC l x with stk:=x.stk}) (i1.stk x.stk) i5 (fun s=>rfl) (fun v hv=>(i5.near (by omega) v hv).1) (by show qV 10=(10,0);decide) (by decide) (by decide) (fun e=>by cases e) (fun e=>by cases e) (by show x.stk.length+1≤_;omega) (by omega) (by show ((yK jA jC l x).s.1.length:Int)+_≤jA;omega) vF (by decide)
   exact hP.after i2 rfl (by omega) i6
  ·obtain rfl:=v2 (by decide);obtain rfl:=v4 (by decide) (by decide) (by decide);obtain rfl:=v5 (by decide) (by decide);obtain rfl:=v6 (by decide) (by decide) (by decide)
   have hkk:=hpk (by decide)
   have hT:zL x.s.1 (l.map fun t=>qX t.fn) l:=YA fun t ht=>.inr (.inr (.inl ⟨t.fn,by have:=(hrl t ht);cases t;exact this.1.1,rfl,p6 (y6 t ht) (hkk t ht)⟩))
   have hP:=cR (jA:=jA) (el:=1) (typ:=11) (kd:=11) h hT (by decide) (by decide +kernel) (by decide) (by decide) (by decide) (fun v hv=>by obtain⟨t,_,rfl⟩:=List.mem_map.1 hv;rfl) ⟨by decide,.inl (by decide)⟩ (by omega) (by rw[List.length_map];omega) (by rw[List.length_map];omega) vF (by decide)
   rw[List.length_map] at hP
   exact hP.wide (by omega)
  ·obtain rfl:=v2 (by decide);obtain rfl:=v4 (by decide) (by decide) (by decide);obtain rfl:=v5 (by decide) (by decide);obtain rfl:=v6 (by decide) (by decide) (by decide)
   have hkk:=hpk (by decide)
   have hT:zL x.s.1 (l.map fun t=>qY t.fu) l:=YA fun t ht=>.inr (.inr (.inr ⟨t.fu,by have:=(hrl t ht);cases t;exact this.1.2,rfl,p7 (y6 t ht) (hkk t ht)⟩))
   have hP:=cR (jA:=jA) (el:=2) (typ:=12) (kd:=12) h hT (by decide) (by decide +kernel) (by decide) (by decide) (by decide) (fun v hv=>by obtain⟨t,_,rfl⟩:=List.mem_map.1 hv;rfl) ⟨by decide,.inl (by decide)⟩ (by omega) (by rw[List.length_map];omega) (by rw[List.length_map];omega) vF (by decide)
   rw[List.length_map] at hP
   exact hP.wide (by omega)
  ·obtain rfl:=v2 (by decide);obtain rfl:=v4 (by decide) (by decide) (by decide);obtain rfl:=v5 (by decide) (by decide);obtain rfl:=v6 (by decide) (by decide) (by decide)
   have hkk:=hpk (by decide)
   have hmk:=F0 y6 hkk
   have hkc:=lB (b:=0) (l:=l)
   have hP:=DD (jA:=jA) (sh:=onF jC 1) (l:=l.map Tr.fs) h (fun q hq=>by obtain⟨t,ht,rfl⟩:=List.mem_map.1 hq;exact (fR (y6 t ht) (hkk t ht)).2) (by omega) (by rw[List.length_map];omega) (by rw[List.length_map];omega) vF
   rw[List.length_map,hmk] at hP
   exact hP.wide (by omega)
  ·obtain rfl:=v2 (by decide);obtain rfl:=v4 (by decide) (by decide) (by decide);obtain rfl:=v5 (by decide) (by decide);obtain rfl:=v6 (by decide) (by decide) (by decide)
   have hkk:=hpk (by decide)
   have hT:zL x.s.1 (l.map fun t=>yQ (decide (t.fn=1))) l:=YA fun t ht=>.inr (.inl ⟨decide (t.fn=1),rfl,uM (y6 t ht) (hkk t ht)⟩)
   have hP:=cR (jA:=jA) (el:=26) (typ:=36) (kd:=14) h hT (by decide) (by decide +kernel) (by decide) (by decide) (by decide) (fun v hv=>by obtain⟨t,_,rfl⟩:=List.mem_map.1 hv;rfl) ⟨by decide,.inl (by decide)⟩ (by omega) (by rw[List.length_map];omega) (by rw[List.length_map];omega) vF (by decide)
   rw[List.length_map] at hP
   exact hP.wide (by omega)
  ·obtain rfl:=v2 (by decide);obtain rfl:=v4 (by decide) (by decide) (by decide);obtain rfl:=v5 (by decide) (by decide);obtain rfl:=v6 (by decide) (by decide) (by decide)
   have hkk:=hpk (by decide)
   have hT:zL x.s.1 (l.map fun t=>qX t.fn) l:=YA fun t ht=>.inr (.inr (.inl ⟨t.fn,by have:=(hrl t ht);cases t;exact this.1.1,rfl,p6 (y6 t ht) (hkk t ht)⟩))
   have hfx:2≤l.length∧l.length≤4:=by
    have hb:=hv.2.1
    simp only[zB,Bool.and_eq_true,decide_eq_true_eq,Bool.or_eq_true,Bool.not_eq_true'] at hb
    have:=hb.1.2
    simpa using this
   have hP:=uJ (jA:=jA) (el:=1) (kd:=15) h hT (.inl ⟨rfl,rfl⟩) (fun v hv=>by obtain⟨t,_,rfl⟩:=List.mem_map.1 hv;rfl) (by rw[List.length_map];exact hfx) (by omega) (by rw[List.length_map];omega) vF
   rw[List.length_map] at hP
   exact hP.wide (by omega)
  ·obtain rfl:=v2 (by decide);obtain rfl:=v4 (by decide) (by decide) (by decide);obtain rfl:=v5 (by decide) (by decide);obtain rfl:=v6 (by decide) (by decide) (by decide)
   have hkk:=hpk (by decide)
   have hT:zL x.s.1 (l.map fun t=>qY t.fu) l:=YA fun t ht=>.inr (.inr (.inr ⟨t.fu,by have:=(hrl t ht);cases t;exact this.1.2,rfl,p7 (y6 t ht) (hkk t ht)⟩))
   have hfx:2≤l.length∧l.length≤4:=by
    have hb:=hv.2.1
    simp only[zB,Bool.and_eq_true,decide_eq_true_eq,Bool.or_eq_true,Bool.not_eq_true'] at hb
    have:=hb.1.2
    simpa using this
   have hP:=uJ (jA:=jA) (el:=2) (kd:=16) h hT (.inr ⟨rfl,rfl⟩) (fun v hv=>by obtain⟨t,_,rfl⟩:=List.mem_map.1 hv;rfl) (by rw[List.length_map];exact hfx) (by omega) (by rw[List.length_map];omega) vF
   rw[List.length_map] at hP
   exact hP.wide (by omega)
  ·-- map
   obtain rfl:=v4 (by decide) (by decide) (by decide);obtain rfl:=v5 (by decide) (by decide);obtain rfl:=v6 (by decide) (by decide) (by decide)
   obtain⟨hnd,hkl⟩:=v3 rfl
   have hkz:∀q∈keys,vL q=0:=by
    have hz:=hv.2.2.1
    simp only[qC] at hz
    rw[if_neg (by decide)] at hz
    intro q hq
    rw[fK,((aE keys []).1 hz).1 q hq |>.1]
    rfl
   have hkc:JF keys+31*l.length≤(keys.map fun k=>k.size+32).sum:=by
    rw[← hkl]
    clear hkz hnd hkl s1 v3 hv hs hr hrm hr0 hpk hsk
    induction keys with
    | nil=>simp[JF]
    | cons q r ih=>simp only[JF,List.map_cons,List.sum_cons,List.length_cons] at ih⊢;omega
   obtain⟨es,e,i1,i2,i3,i4,i5,i6,i7,i8,i9⟩:=dY l keys x ihl h hkl hkz (by omega) (by omega)
   have hel:=i8.1
   rw[List.length_map] at hel
   have kQ:(yN jA jC l keys x).s.1.length=x.s.1.length+e.length:=by rw[i2,List.length_append]
   have hP:=DE (jA:=jA) (sh:=onF jC 4) (K:=x.stk) i1 i4 i5 i6 i7 hkz s1 i8 (by omega) (by omega) (by omega) vF
   exact hP.after i2 rfl (by omega) i9
mutual
def smT (K:Nat):Tr→Prop | .mk k n u s keys l=>(s.size≤K∧∀q∈keys,q.size≤K)∧smL K l
def smL (K:Nat):List Tr→Prop | []=>True | t::r=>smT K t∧smL K r
end
theorem smL_iff {K:Nat}:∀{l:List Tr},smL K l↔∀x∈l,smT K x
 | []=>by simp[smL]
 | t::r=>by simp[smL,smL_iff (l:=r)]
theorem BJ {K:Nat}:∀(m:Nat) (t:Tr) (b:Nat),t.size≤m→YC b t→smT K t→K9 t+(32+K+32)≤(128+2*K)*t.size:=by
 intro m
 induction m with
 | zero=>intro t b h;have:=t.size_pos;omega
 | succ m ih=>
  intro t b h hv hs
  obtain⟨k,n,u,s,keys,l⟩:=t
  obtain⟨_,_,v3,v4,_⟩:=JW hv
  have y6:=valL_iff.1 hv.2.2.2
  have hsl:=smL_iff.1 hs.2
  simp only[Tr.size] at h
  have hkeys:(keys.map fun q=>q.size+32).sum≤(K+32)*l.length:=by
   have h1:∀r:List ByteArray,(∀q∈r,q.size≤K)→(r.map fun q=>q.size+32).sum≤(K+32)*r.length:=by
    intro r
    induction r with
    | nil=>intro _;simp
    | cons q r ihr=>
     intro hq
     have:=ihr fun z hz=>hq z (by simp[hz])
     have:=hq q (by simp)
     simp only[List.map_cons,List.sum_cons,List.length_cons,Nat.mul_add,Nat.mul_one] at this⊢
     omega
   have h2:=h1 keys hs.1.2
   by_cases e:k=17
   ·rw[(v4 e).2] at h2;exact h2
   ·rw[v3 e];simp
  have hl:∀r:List Tr,(∀x∈r,x∈l)→JE r+(K+32)*r.length≤(128+2*K)*kV r:=by
   intro r
   induction r with
   | nil=>intro _;simp[JE,kV]
   | cons x r ihr=>
    intro hm
    have h1:=ihr fun z hz=>hm z (by simp[hz])
    have hx:=hm x (by simp)
    have h2:=ih x (b+1) (by have:=yA hx;omega) (y6 x hx) (hsl x hx)
    simp only[JE,kV,List.length_cons,Nat.mul_add,Nat.mul_one] at h1⊢
    omega
  have h3:=hl l fun _ h=>h
  have h4:=hs.1.1
  simp only[K9,Tr.size,Nat.mul_add,Nat.mul_one] at h3⊢
  omega
theorem p9 {K:Nat}:∀(m:Nat) (t:Tr),t.size≤m→smT K t→smT K (zO t):=by
 intro m
 induction m with
 | zero=>intro t h;have:=t.size_pos;omega
 | succ m ih=>
  intro t h hs
  obtain⟨k,n,u,s,keys,l⟩:=t
  simp only[Tr.size] at h
  have hsl:=smL_iff.1 hs.2
  have hk:∀x∈l,smT K (zO x):=fun x hx=>ih x (by have:=yA hx;omega) (hsl x hx)
  simp only[zO]
  by_cases e:k=17
  ·rw[if_pos e]
   refine⟨⟨hs.1.1,fun q hq=>?_⟩,smL_iff.2 fun x hx=>?_⟩
   ·obtain⟨p,hp,rfl⟩:=List.mem_map.1 hq
    exact hs.1.2 _ (List.of_mem_zip ((qD _).mem_iff.1 hp)).1
   ·obtain⟨p,hp,rfl⟩:=List.mem_map.1 hx
    have h1:=(List.of_mem_zip ((qD _).mem_iff.1 hp)).2
    rw[yH] at h1
    obtain⟨y,hy,e⟩:=List.mem_map.1 h1
    rw[← e];exact hk y hy
  ·rw[if_neg e,yH]
   refine⟨hs.1,smL_iff.2 fun x hx=>?_⟩
   obtain⟨y,hy,rfl⟩:=List.mem_map.1 hx
   exact hk y hy
theorem uO:∀(m:Nat) (t:Tr),t.size≤m→fG t→fG (zO t):=by
 intro m
 induction m with
 | zero=>intro t h;have:=t.size_pos;omega
 | succ m ih=>
  intro t h hs
  obtain⟨k,n,u,s,keys,l⟩:=t
  simp only[Tr.size] at h
  have hsl:=rngL_iff.1 hs.2
  have hk:∀x∈l,fG (zO x):=fun x hx=>ih x (by have:=yA hx;omega) (hsl x hx)
  simp only[zO]
  by_cases e:k=17
  ·rw[if_pos e]
   refine⟨hs.1,rngL_iff.2 fun x hx=>?_⟩
   obtain⟨p,hp,rfl⟩:=List.mem_map.1 hx
   have h1:=(List.of_mem_zip ((qD _).mem_iff.1 hp)).2
   rw[yH] at h1
   obtain⟨y,hy,e⟩:=List.mem_map.1 h1
   rw[← e];exact hk y hy
  ·rw[if_neg e,yH]
   refine⟨hs.1,rngL_iff.2 fun x hx=>?_⟩
   obtain⟨y,hy,rfl⟩:=List.mem_map.1 hx
   exact hk y hy
theorem cut_sm (K:Nat):∀(m:Nat) (t:Tr) (left:Nat),t.size≤m→smT K (vD K left t).1:=by
 intro m
 induction m with
 | zero=>intro t left h;have:=t.size_pos;omega
 | succ m ih=>
  intro t left h
  obtain⟨k,n,u,s,keys,l⟩:=t
  simp only[Tr.size] at h
  simp only[vD]
  refine⟨⟨by rw[JU];exact Nat.min_le_right _ _,fun q hq=>?_⟩,?_⟩
  ·unfold yX at hq
   obtain⟨z,_,rfl⟩:=List.mem_map.1 hq
   rw[JU];exact Nat.min_le_right _ _
  ·have:∀(r:List Tr) (left:Nat),(∀x∈r,x∈l)→smL K (kI K left r).1:=by
    intro r
    induction r with
    | nil=>intro left _;simp[kI,smL]
    | cons x r ihr=>
     intro left hm
     rw[kI]
     by_cases e:left=0
     ·rw[if_pos e];trivial
     ·rw[if_neg e]
      have hx:=hm x (by simp)
      exact⟨ih x _ (by have:=yA hx;omega),ihr _ fun z hz=>hm z (by simp[hz])⟩
   exact this l left fun _ h=>h
structure wM (jA jC:Int) (t:Tr) (b:List UInt8) (v:V3):Prop where
 inv:Inv (kG jA jC (zO t) BS.new)
 s:(kG jA jC (zO t) BS.new).s=(b,0)
 stk:(kG jA jC (zO t) BS.new).stk=[v]
 tells:YK b v (zO t)
 len:b.length≤40000
theorem wM.near {jA jC:Int} {t:Tr} {b:List UInt8} {v:V3} (h:wM jA jC t b v):aO b.length v:=h.tells.near (by have:=h.len;omega)
theorem wM.doc_len {jA jC:Int} {t:Tr} {b:List UInt8} {v:V3} (h:wM jA jC t b v):(pY b v).length≤40017∧b.length+3≤(pY b v).length:=by
 have hb:=h.len
 have hw:=(cO (by omega) h.near).1
 have hl:=iM hw
 have hp:=zH hw
 have hpad:=cP b hw
 omega
mutual
def qN:Tr→List ByteArray | .mk k n u s keys l=>(if k=5∨k=6 then [s] else [])++(keys++vJ l)
def vJ:List Tr→List ByteArray | []=>[] | t::r=>qN t++vJ r
end
mutual
def J2:Tr→Nat | .mk k n u s keys l=>(if k=17∧l.length=0 then 1 else 0)+JL l
def JL:List Tr→Nat | []=>0 | t::r=>J2 t+JL r
end
def eS:List Tr→List ByteArray→List ByteArray
 | [],_=>[]
 | t::r,ks=>ks.headD EMB::(qN t++eS r ks.tail)
theorem lD:∀{l:List Tr} {ks:List ByteArray},ks.length=l.length→(eS l ks).Perm (ks++vJ l)
 | [],[],_=>List.Perm.refl _
 | [],_::_,h=>by simp at h
 | _::_,[],h=>by simp at h
 | t::r,k::ks,h=>by
  have ih:=lD (l:=r) (ks:=ks) (by simpa using h)
  simp only[eS,vJ,List.headD_cons,List.tail_cons,List.cons_append]
  refine List.Perm.cons _ ?_
  refine (ih.append_left (qN t)).trans ?_
  rw[← List.append_assoc,← List.append_assoc]
  exact List.perm_append_comm.append_right _
structure Old (x:BS) (U W:List ByteArray) (e:Nat):Prop where
 ks:∀z∈x.keys,z.1∈U
 ts:∀z∈x.texts,z.1∈U
 ls:∀z∈x.lists,∀names,(∀k∈names,vL k=0)→kO names=z.1→(names=[]∧0 < e)∨∃k∈names,k∈W
 sub:∀s∈W,s∈U
theorem Old.of {x y:BS} {U V W X:List ByteArray} {e f:Nat} (h:Old x U W e) (h1:y.keys=x.keys) (h2:y.texts=x.texts) (h3:y.lists=x.lists) (hU:∀s∈U,s∈V) (hW:∀s∈W,s∈X) (hX:∀s∈X,s∈V) (he:e≤f):Old y V X f:=
 ⟨fun z hz=>hU _ (h.ks z (h1 ▸ hz)),fun z hz=>hU _ (h.ts z (h2 ▸ hz)),fun z hz nm hk hn=>by
  rcases h.ls z (h3 ▸ hz) nm hk hn with ⟨a,b⟩|⟨k,a,b⟩
  ·exact .inl ⟨a,by omega⟩
  ·exact .inr ⟨k,a,hW k b⟩,hX⟩
theorem Old.same {x y:BS} {U W:List ByteArray} {e:Nat} (h:Old x U W e) (h1:y.keys=x.keys∧y.texts=x.texts∧y.lists=x.lists):Old y U W e:=
 h.of h1.1 h1.2.1 h1.2.2 (fun _ h=>h) (fun _ h=>h) h.sub (Nat.le_refl _)
theorem yB {α:Type} {U S:List α}:∀s∈U,s∈U++S:=fun s hs=>List.mem_append_left _ hs
theorem QC {α:Type} {U W S:List α} (h:∀s∈W,s∈U):∀s∈W++S,s∈U++S:=fun s hs=>by
 rcases List.mem_append.1 hs with hs|hs
 ·exact yB s (h s hs)
 ·exact List.mem_append_right _ hs
theorem Old.wide {x:BS} {U W S:List ByteArray} {e f:Nat} (h:Old x U W e) (he:e≤f):Old x (U++S) (W++S) f:=
 h.of rfl rfl rfl yB yB (QC h.sub) he
theorem Old.more {x:BS} {U W S:List ByteArray} {e:Nat} (h:Old x U W e):Old x (U++S) W e:=
 h.of rfl rfl rfl yB (fun _ h=>h) (fun s hs=>yB s (h.sub s hs)) (Nat.le_refl _)
theorem BK {l:qF} {U:List ByteArray} {k:ByteArray} (h:∀z∈l,z.1∈U) (hk:k∉U):(yT l k).2=false:=by
 cases hg:(yT l k).2 with
 | false=>rfl
 | true=>exact absurd (h _ (VZ (a:=(yT l k).1) (Prod.ext rfl hg))) hk
theorem lE (v:V3) (x:BS):(x.push v).keys=x.keys∧(x.push v).texts=x.texts∧(x.push v).lists=x.lists:=by
 unfold BS.push
 split
 ·split<;>exact⟨rfl,rfl,rfl⟩
 ·exact⟨rfl,rfl,rfl⟩
theorem rA (jA el many:Int) (l:List V3) (x:BS):(x.vector jA el many l).keys=x.keys∧(x.vector jA el many l).texts=x.texts∧(x.vector jA el many l).lists=x.lists:=by
 unfold BS.vector
 split
 ·exact lE _ _
 ·exact⟨rfl,rfl,rfl⟩
theorem Old.vector {x:BS} {U W:List ByteArray} {e:Nat} (h:Old x U W e) (jA el many:Int) (l:List V3):Old (x.vector jA el many l) U W e:=h.same (rA jA el many l x)
theorem Old.push {x:BS} {U W:List ByteArray} {e:Nat} (h:Old x U W e) (v:V3):Old (x.push v) U W e:=h.same (lE v x)
theorem Old.inline {x:BS} {U W:List ByteArray} {e:Nat} (h:Old x U W e) (v:V3):Old (x.inline v) U W e:=by
 unfold BS.inline
 split
 ·exact h.push v
 ·exact h
theorem Old.apart {x:BS} {U W:List ByteArray} {e:Nat} (h:Old x U W e) (jA t:Int) (v:V3):Old (x.apart jA t v) U W e:=by
 unfold BS.apart
 split
 ·dsimp only
  refine Old.push ?_ _
  exact h.same ⟨rfl,rfl,rfl⟩
 ·exact h
theorem Old.fixed {x:BS} {U W:List ByteArray} {e:Nat} (h:Old x U W e) (jA t:Int) (l:List V3):Old (x.fixed jA t l) U W e:=by
 unfold BS.fixed
 split
 ·split
  ·exact h.same ⟨rfl,rfl,rfl⟩
  ·exact h.vector _ _ _ _
 ·exact h
theorem Old.endVec {x:BS} {U W:List ByteArray} {e:Nat} (h:Old x U W e) (jA n:Int):Old (x.endVec jA n) U W e:=by
 unfold BS.endVec
 split
 ·split
  ·refine Old.vector ?_ _ _ _ _
   exact h.same ⟨rfl,rfl,rfl⟩
  ·exact h.same ⟨rfl,rfl,rfl⟩
 ·exact h
theorem BL {x:BS} {U W:List ByteArray} {e:Nat} {jA:Int} {k:ByteArray} (sh:Bool) (h:Old x U W e) (hk:k∉U):x.put jA sh k=x.put jA false k∧Old (x.put jA false k).2 (U++[k]) W e:=by
 have hg:=BK h.ks hk
 constructor
 ·unfold BS.put
  simp only[hg,Bool.false_and]
 ·unfold BS.put
  dsimp only
  split
  ·exact Old.more (h.same ⟨rfl,rfl,rfl⟩)
  ·simp only[Bool.and_false,Bool.false_eq_true,if_false]
   refine⟨fun z hz=>?_,fun z hz=>yB _ (h.ts z hz),h.ls,fun s hs=>yB s (h.sub s hs)⟩
   rcases ZT hz with hz|⟨rfl,_⟩
   ·exact yB _ (h.ks z hz)
   ·simp
theorem BM {x:BS} {U W:List ByteArray} {e:Nat} {jA:Int} {k:ByteArray} (sh:Bool) (h:Old x U W e) (hk:k∉U):x.key jA sh k=x.key jA false k∧Old (x.key jA false k) (U++[k]) W e:=by
 obtain⟨h1,h2⟩:=BL (jA:=jA) sh h hk
 constructor
 ·unfold BS.key;rw[h1]
 ·unfold BS.key
  split
  ·exact h2.push _
  ·exact h.more
theorem Old.text {x:BS} {U W:List ByteArray} {e:Nat} (h:Old x U W e) (jA t:Int) (k z:ByteArray):Old (x.text jA t k z) (U++(if t=5 then [k] else [])) W e:=by
 unfold BS.text
 dsimp only
 refine Old.push ?_ _
 refine⟨fun z hz=>yB _ (h.ks z hz),fun z hz=>?_,h.ls,fun s hs=>yB s (h.sub s hs)⟩
 by_cases ht:t=5
 ·simp only[if_pos ht] at hz⊢
  rcases ZT hz with hz|⟨rfl,_⟩
  ·exact yB _ (h.ts z hz)
  ·simp
 ·simp only[if_neg ht] at hz
  exact yB _ (h.ts z hz)
theorem Old.blob {x:BS} {U W:List ByteArray} {e:Nat} (h:Old x U W e) (jA:Int) (k:ByteArray):Old (x.blob jA k) U W e:=by
 unfold BS.blob
 split
 ·have:=h.text jA 25 k ByteArray.empty
  rw[if_neg (by decide),List.append_nil] at this
  exact this
 ·exact h
theorem str_old {x:BS} {U W:List ByteArray} {e:Nat} {jA:Int} {k:ByteArray} (sh:Bool) (h:Old x U W e) (hk:k∉U):x.str jA sh k=x.str jA false k∧Old (x.str jA false k) (U++[k]) W e:=by
 have hg:=BK h.ts hk
 constructor
 ·unfold BS.str
  simp only[hg,Bool.false_and]
 ·unfold BS.str
  simp only[hg,Bool.false_and,Bool.false_eq_true,if_false]
  split
  ·exact h.text jA 5 k _
  ·exact h.more
theorem lF {jA:Int} (sh:Bool) {e:Nat} {W:List ByteArray}:∀(l:List ByteArray) {x:BS} {U:List ByteArray},Old x U W e→(∀s∈l,s∉U)→l.Nodup→x.putAll jA sh l=x.putAll jA false l∧Old (x.putAll jA false l).2 (U++l) W e
 | [],x,U,h,_,_=>⟨rfl,by rw[List.append_nil];exact h⟩
 | k::r,x,U,h,hU,hn=>by
  obtain⟨hn1,hn2⟩:=List.nodup_cons.1 hn
  obtain⟨h1,h2⟩:=BL (jA:=jA) sh h (hU k (by simp))
  obtain⟨g1,g2⟩:=lF (jA:=jA) sh r h2 (fun s hs hm=>by
   rcases List.mem_append.1 hm with hm|hm
   ·exact hU s (by simp[hs]) hm
   ·rw[List.mem_singleton.1 hm] at hs;exact hn1 hs) hn2
  simp only[BS.putAll]
  refine⟨by rw[h1,g1],?_⟩
  have:=g2
  rw[List.append_assoc] at this
  exact this
theorem AF {jA:Int} (sh:Bool) {e:Nat} {l:List ByteArray} {x:BS} {U W:List ByteArray} (h:Old x U W e) (hU:∀s∈l,s∉U) (hn:l.Nodup):x.keyVec jA sh l=x.keyVec jA false l∧Old (x.keyVec jA false l) (U++l) W e:=by
 obtain⟨h1,h2⟩:=lF (jA:=jA) sh l h hU hn
 unfold BS.keyVec
 rw[h1]
 refine⟨rfl,?_⟩
 split
 ·exact h2.vector _ _ _ _
 ·exact h.more
theorem DF {jA:Int} (sh:Bool) {e:Nat} {x:BS} {U W names:List ByteArray} {K V:List V3} (h:Old x U W e) (hz:∀k∈names,vL k=0) (hl:∀z∈x.lists,z.1≠kO names) (hU:∀k∈names,k∈U) :
 x.table jA sh (kO names) K V=x.table jA false (kO names) K V∧Old (x.table jA false (kO names) K V) U (W++names) (e+if names.length=0 then 1 else 0):=by
 have hg:(yT x.lists (kO names)).2=false:=by
  cases hg:(yT x.lists (kO names)).2 with
  | false=>rfl
  | true=>exact absurd rfl (hl _ (VZ (a:=(yT x.lists (kO names)).1) (Prod.ext rfl hg)))
 constructor
 ·unfold BS.table
  simp only[hg,Bool.false_and]
 ·unfold BS.table
  simp only[Bool.and_false,Bool.false_eq_true,if_false]
  have hO:∀s:St,∀e':Int,∀vs:List V3,Old ({x with s:=s,e:=e',lists:=yU (kO names) x.vals.length x.lists,vals:=vs}:BS) U (W++names) (e+if names.length=0 then 1 else 0):=fun s e' vs=>by
   refine⟨h.ks,h.ts,fun z hz' nm hn he=>?_,fun s hs=>?_⟩
   ·rcases ZT hz' with hz'|⟨rfl,_⟩
    ·rcases h.ls z hz' nm hn he with ⟨a,b⟩|⟨k,a,b⟩
     ·exact .inl ⟨a,by omega⟩
     ·exact .inr ⟨k,a,yB _ b⟩
    ·have:nm=names:=eR hn hz he
     subst this
     cases nm with
     | nil=>exact .inl ⟨rfl,by simp⟩
     | cons k r=>exact .inr ⟨k,by simp,by simp⟩
   ·rcases List.mem_append.1 hs with hs|hs
    ·exact h.sub s hs
    ·exact hU s hs
  split
  ·exact Old.push ((hO _ _ _).same ⟨rfl,rfl,rfl⟩) _
  ·exact hO _ _ _
theorem on_zero:onF 0 1=false∧onF 0 2=false∧onF 0 4=false:=by decide
theorem oG {jA:Int} {sh:Bool} {x:BS} {K:List V3} {es:List (V3 × V3)} {names:List ByteArray} (h:Inv x) (hst:x.stk=K++aZ es) (h4:∀p∈es,p.1.1=4) (hnm:es.map (fun p=>z6 x.names p.1.2.2)=names) (hp:names.Pairwise fun a b=>ltS a b=true) :
 x.endMap jA sh K.length=({x with stk:=K}:BS).table jA sh (kO names) (es.map (·.1)) (es.map (·.2)):=by
 unfold BS.endMap
 have hd:x.stk.drop ((K.length:Nat):Int).toNat=aZ es:=by rw[hst,Int.toNat_natCast,List.drop_left]
 have hk2:x.stk.take ((K.length:Nat):Int).toNat=K:=by rw[hst,Int.toNat_natCast,List.take_left' rfl]
 rw[if_pos h.e0,if_pos ⟨by omega,by rw[hst,List.length_append];omega⟩]
 dsimp only
 rw[hd,hk2,if_pos (V0 es h4),bR]
 have hmap1:(es.map fun p=>(z6 x.names p.1.2.2,p.1,p.2)).map (·.1)=names:=by rw[List.map_map];exact hnm
 have hself:vH (es.map fun p=>(z6 x.names p.1.2.2,p.1,p.2))=es.map fun p=>(z6 x.names p.1.2.2,p.1,p.2):=iZ _ (by rw[show (es.map fun p=>(z6 x.names p.1.2.2,p.1,p.2)).map Prod.fst=names from hmap1];exact hp)
 have hnd:names.Nodup:=hp.imp fun {a b} hab e=>by rw[e,KJ] at hab;cases hab
 rw[hself,hmap1,if_pos hnd,List.map_map,List.map_map]
 rfl
def Step (jA fl:Int) (t:Tr):Prop:=∀(x:BS) (U W:List ByteArray) (e:Nat),Inv x→(x.s.1.length:Int)+K9 t≤jA→x.stk.length+3*t.size≤65535→Old x U W e→(∀s∈qN t,s∉U)→(qN t).Nodup→e+J2 t≤1 →
 kG jA fl t x=kG jA 0 t x∧Old (kG jA 0 t x) (U++qN t) (W++qN t) (e+J2 t)
def Psh (jA:Int) (t:Tr):Prop:=∀x:BS,Inv x→(x.s.1.length:Int)+K9 t≤jA→x.stk.length+3*t.size≤65535→qW x (kG jA 0 t x) t (K9 t)
theorem lG {jA fl:Int}:∀(l:List Tr) (x:BS) (U W:List ByteArray) (e:Nat),(∀t∈l,Step jA fl t)→(∀t∈l,Psh jA t)→Inv x→(x.s.1.length:Int)+JE l≤jA→x.stk.length+3*kV l≤65535→Old x U W e→(∀s∈vJ l,s∉U)→(vJ l).Nodup→e+JL l≤1 →
 yK jA fl l x=yK jA 0 l x∧Old (yK jA 0 l x) (U++vJ l) (W++vJ l) (e+JL l)
 | [],x,U,W,e,_,_,_,_,_,h,_,_,_=>⟨rfl,by simp only[vJ,List.append_nil,JL,Nat.add_zero];exact h⟩
 | t::r,x,U,W,e,ih,ip,hI,hr,hs,h,hU,hn,he=>by
  simp only[JE] at hr
  simp only[kV] at hs
  simp only[vJ] at hU hn⊢
  simp only[JL] at he⊢
  obtain⟨n1,n2,n3⟩:=List.nodup_append.1 hn
  have hz:=t.size_pos
  obtain⟨h1,h2⟩:=ih t (by simp) x U W e hI (by omega) (by omega) h (fun s hs=>hU s (List.mem_append_left _ hs)) n1 (by omega)
  have hP:=ip t (by simp) x hI (by omega) (by omega)
  obtain⟨b,g1,g2⟩:=hP.grow
  obtain⟨v,g3,_⟩:=hP.push
  have kQ:(kG jA 0 t x).s.1.length=x.s.1.length+b.length:=by rw[g1,List.length_append]
  obtain⟨i1,i2⟩:=lG r (kG jA 0 t x) (U++qN t) (W++qN t) (e+J2 t) (fun q hq=>ih q (by simp[hq])) (fun q hq=>ip q (by simp[hq])) hP.inv (by omega) (by rw[g3,List.length_append,List.length_singleton];omega) h2 (fun s hs hm=>by
   rcases List.mem_append.1 hm with hm|hm
   ·exact hU s (List.mem_append_right _ hs) hm
   ·exact n3 s hm s hs rfl) n2 (by omega)
  simp only[yK]
  rw[h1]
  refine⟨i1,?_⟩
  rw[List.append_assoc,List.append_assoc,Nat.add_assoc] at i2
  exact i2
theorem lH {jA fl:Int}:∀(l:List Tr) (ks:List ByteArray) (x:BS) (U W:List ByteArray) (e:Nat),(∀t∈l,Step jA fl t)→(∀t∈l,Psh jA t)→Inv x→ks.length=l.length→(∀k∈ks,vL k=0)→(x.s.1.length:Int)+(JF ks+JE l:Nat)≤jA→x.stk.length+1+3*kV l≤65535→Old x U W e→(∀s∈eS l ks,s∉U)→(eS l ks).Nodup→e+JL l≤1 →
 yN jA fl l ks x=yN jA 0 l ks x∧Old (yN jA 0 l ks x) (U++eS l ks) (W++vJ l) (e+JL l)
 | [],ks,x,U,W,e,_,_,_,_,_,_,_,h,_,_,_=>⟨rfl,by simp only[eS,vJ,List.append_nil,JL,Nat.add_zero];exact h⟩
 | t::r,[],x,U,W,e,_,_,_,hk,_,_,_,_,_,_,_=>by simp at hk
 | t::r,k::ks,x,U,W,e,ih,ip,hI,hk,hkz,hr,hs,h,hU,hn,he=>by
  simp only[JE,JF,List.map_cons,List.sum_cons] at hr
  simp only[kV] at hs
  simp only[eS,vJ,List.headD_cons,List.tail_cons] at hU hn⊢
  simp only[JL] at he⊢
  have hz:=t.size_pos
  obtain⟨m1,m2⟩:=List.nodup_cons.1 hn
  obtain⟨n1,n2,n3⟩:=List.nodup_append.1 m2
  obtain⟨k1,k2⟩:=BM (jA:=jA) (onF fl 1) h (hU k (by simp))
  obtain⟨hK,a,ka,_,_⟩:=x9 (jA:=jA) (sh:=false) hI (hkz k (by simp)) (by omega) (by omega)
  obtain⟨e0,q1,q2⟩:=hK.grow
  have hlen0:(x.key jA false k).s.1.length=x.s.1.length+e0.length:=by rw[q1,List.length_append]
  have hst0:(x.key jA false k).stk.length=x.stk.length+1:=by rw[ka,List.length_append,List.length_singleton]
  obtain⟨h1,h2⟩:=ih t (by simp) (x.key jA false k) (U++[k]) W e hK.inv (by omega) (by omega) k2 (fun s hs hm=>by
   rcases List.mem_append.1 hm with hm|hm
   ·exact hU s (by simp[hs]) hm
   ·rw[List.mem_singleton.1 hm] at hs;exact m1 (List.mem_append_left _ hs)) n1 (by omega)
  have hP:=ip t (by simp) (x.key jA false k) hK.inv (by omega) (by omega)
  obtain⟨b,g1,g2⟩:=hP.grow
  obtain⟨v,g3,_⟩:=hP.push
  have kQ:(kG jA 0 t (x.key jA false k)).s.1.length=x.s.1.length+e0.length+b.length:=by rw[g1,List.length_append,hlen0]
  obtain⟨i1,i2⟩:=lH r ks (kG jA 0 t (x.key jA false k)) (U++[k]++qN t) (W++qN t) (e+J2 t) (fun q hq=>ih q (by simp[hq])) (fun q hq=>ip q (by simp[hq])) hP.inv (by simpa using hk) (fun q hq=>hkz q (by simp[hq])) (by unfold JF;omega) (by rw[g3,List.length_append,List.length_singleton];omega) h2 (fun s hs hm=>by
   rcases List.mem_append.1 hm with hm|hm
   ·rcases List.mem_append.1 hm with hm|hm
    ·exact hU s (by simp[hs]) hm
    ·rw[List.mem_singleton.1 hm] at hs;exact m1 (List.mem_append_right _ hs)
   ·exact n3 s hm s hs rfl) n2 (by omega)
  simp only[yN,List.headD_cons,List.tail_cons]
  rw[k1,h1,on_zero.1]
  refine⟨i1,?_⟩
  rw[Nat.add_assoc,List.append_assoc,List.append_assoc,List.append_assoc] at i2
  exact i2
theorem lI:∀{l:List Tr},(∀t∈l,t=Q8 t.fs)→vJ l=l.map Tr.fs
 | [],_=>rfl
 | t::r,h=>by
  have h1:=h t (by simp)
  have h2:=lI (l:=r) fun q hq=>h q (by simp[hq])
  simp only[vJ,List.map_cons,h2]
  rw[h1]
  rfl
theorem DG {jA fl:Int} (vF:jA≤1048576):∀(m:Nat) (t:Tr) (b:Nat),t.size≤m→YC b t→pJ t→fG t→Step jA fl t:=by
 intro m
 induction m with
 | zero=>intro t b h;have:=t.size_pos;omega
 | succ m ihm=>
  intro t b hz hv hs hr x U W e h hrm hst hO hU hn he
  have hpush:∀q:Tr,q.size≤t.size→YC (b+1) q→pJ q→fG q→Psh jA q:=fun q _ h1 h2 h3 y hI h4 h5=>uN vF q.size q (b+1) y (Nat.le_refl _) h1 h2 h3 hI h4 h5
  obtain⟨k,n,u,s,keys,l⟩:=t
  have hnd:=JW hv
  obtain⟨v0,v1,v2,v3,v4,v5,v6⟩:=hnd
  have y6:=valL_iff.1 hv.2.2.2
  obtain⟨s1,s2⟩:=srt_iff.1 hs
  have hrl:=rngL_iff.1 hr.2
  simp only[Tr.size] at hz hst hpush
  have hll:=J0 l
  have hlc:=lC l
  simp only[K9] at hrm
  have ihl:∀t∈l,Step jA fl t:=fun t ht=>ihm t (b+1) (by have:=yA ht;omega) (y6 t ht) (s2 t ht) (hrl t ht)
  have ipl:∀t∈l,Psh jA t:=fun t ht=>hpush t (by have:=yA ht;omega) (y6 t ht) (s2 t ht) (hrl t ht)
  have hpk:=oE hv
  obtain⟨o1,o2,o3⟩:=on_zero
  rcases r9 k v0.1 v0.2 with rfl|rfl|rfl|rfl|rfl|rfl|rfl|rfl|rfl|rfl|rfl|rfl|rfl|rfl|rfl|rfl|rfl
  ·exact⟨rfl,(hO.inline (0,1,0)).wide (Nat.le_add_right _ _)⟩
  ·exact⟨rfl,(hO.inline (yQ (decide (n=1)))).wide (Nat.le_add_right _ _)⟩
  ·exact⟨rfl,(hO.inline (qX n)).wide (Nat.le_add_right _ _)⟩
  ·exact⟨rfl,(hO.inline (qY u)).wide (Nat.le_add_right _ _)⟩
  ·obtain⟨g1,g2⟩:=BM (jA:=jA) (onF fl 1) hO (hU s (by simp[qN]))
   have e1:kG jA fl (.mk 5 n u s keys l) x=x.key jA (onF fl 1) s:=rfl
   have e2:kG jA 0 (.mk 5 n u s keys l) x=x.key jA (onF 0 1) s:=rfl
   rw[e1,e2,o1]
   refine⟨g1,g2.of rfl rfl rfl (fun q hq=>?_) yB (QC hO.sub) (Nat.le_add_right _ _)⟩
   rcases List.mem_append.1 hq with hq|hq
   ·exact yB q hq
   ·rw[List.mem_singleton.1 hq];exact List.mem_append_right _ (by simp[qN])
  ·obtain⟨g1,g2⟩:=str_old (jA:=jA) (onF fl 2) hO (hU s (by simp[qN]))
   have e1:kG jA fl (.mk 6 n u s keys l) x=x.str jA (onF fl 2) s:=rfl
   have e2:kG jA 0 (.mk 6 n u s keys l) x=x.str jA (onF 0 2) s:=rfl
   rw[e1,e2,o2]
   refine⟨g1,g2.of rfl rfl rfl (fun q hq=>?_) yB (QC hO.sub) (Nat.le_add_right _ _)⟩
   rcases List.mem_append.1 hq with hq|hq
   ·exact yB q hq
   ·rw[List.mem_singleton.1 hq];exact List.mem_append_right _ (by simp[qN])
  ·exact⟨rfl,(hO.blob jA s).wide (Nat.le_add_right _ _)⟩
  ·exact⟨rfl,(hO.apart jA 6 (qX n)).wide (Nat.le_add_right _ _)⟩
  ·exact⟨rfl,(hO.apart jA 7 (qY u)).wide (Nat.le_add_right _ _)⟩
  ·obtain⟨i1,i2⟩:=lG (fl:=fl) l x U W e ihl ipl h (by omega) (by omega) hO (fun q hq=>hU q (by simp[qN,hq])) (List.nodup_append.1 (show (keys++vJ l).Nodup by simpa [qN] using hn)).2.1 (by simpa [J2] using he)
   have e1:∀f,kG jA f (.mk 10 n u s keys l) x=(yK jA f l x).endVec jA x.stk.length:=fun f=>rfl
   rw[e1,e1,i1]
   refine⟨rfl,(i2.endVec _ _).of rfl rfl rfl (fun q hq=>?_) (fun q hq=>?_) (QC hO.sub) (by simp[J2])⟩
   ·rcases List.mem_append.1 hq with hq|hq
    ·exact yB q hq
    ·exact List.mem_append_right _ (by simp[qN,hq])
   ·rcases List.mem_append.1 hq with hq|hq
    ·exact yB q hq
    ·exact List.mem_append_right _ (by simp[qN,hq])
  ·exact⟨rfl,(hO.vector jA 1 0 _).wide (Nat.le_add_right _ _)⟩
  ·exact⟨rfl,(hO.vector jA 2 0 _).wide (Nat.le_add_right _ _)⟩
  ·have hkk:=hpk (by decide)
   have hfs:=lI fun t ht=>(fR (y6 t ht) (hkk t ht)).1
   have hsub:∀q∈l.map Tr.fs,q∈qN (.mk 13 n u s keys l):=fun q hq=>by rw[← hfs] at hq;simp[qN,hq]
   have hnk:(l.map Tr.fs).Nodup:=by
    rw[← hfs]
    simp only[qN] at hn
    exact (List.nodup_append.1 (List.nodup_append.1 hn).2.1).2.1
   obtain⟨g1,g2⟩:=AF (jA:=jA) (onF fl 1) hO (fun q hq=>hU q (hsub q hq)) hnk
   have e1:∀f,kG jA f (.mk 13 n u s keys l) x=x.keyVec jA (onF f 1) (l.map Tr.fs):=fun f=>rfl
   rw[e1,e1,o1]
   refine⟨g1,g2.of rfl rfl rfl (fun q hq=>?_) yB (QC hO.sub) (Nat.le_add_right _ _)⟩
   rcases List.mem_append.1 hq with hq|hq
   ·exact yB q hq
   ·exact List.mem_append_right _ (hsub q hq)
  ·exact⟨rfl,(hO.vector jA 26 0 _).wide (Nat.le_add_right _ _)⟩
  ·exact⟨rfl,(hO.fixed jA 1 _).wide (Nat.le_add_right _ _)⟩
  ·exact⟨rfl,(hO.fixed jA 2 _).wide (Nat.le_add_right _ _)⟩
  ·obtain⟨hnd,hkl⟩:=v3 rfl
   have hkz:∀q∈keys,vL q=0:=by
    have hz:=hv.2.2.1
    simp only[qC] at hz
    rw[if_neg (fun h=>absurd h.1 (by decide))] at hz
    intro q hq
    rw[fK,((aE keys []).1 hz).1 q hq |>.1]
    rfl
   have hkc:JF keys+31*l.length≤(keys.map fun k=>k.size+32).sum:=by
    rw[← hkl]
    clear hkz hnd hkl s1 v3 hv hs hr hrm hpk hpush hU hn he
    induction keys with
    | nil=>simp[JF]
    | cons q r ih=>simp only[JF,List.map_cons,List.sum_cons,List.length_cons] at ih⊢;omega
   have hsT:qN (.mk 17 n u s keys l)=keys++vJ l:=by simp[qN]
   have heT:J2 (.mk 17 n u s keys l)=(if l.length=0 then 1 else 0)+JL l:=by simp[J2]
   rw[hsT] at hU hn⊢
   rw[heT] at he⊢
   have hperm:=lD hkl
   obtain⟨i1,i2⟩:=lH (fl:=fl) l keys x U W e ihl ipl h hkl hkz (by omega) (by omega) hO (fun q hq=>hU q (hperm.mem_iff.1 hq)) (hperm.nodup_iff.2 hn) (by omega)
   obtain⟨es,e',j1,j2,j3,j4,j5,j6,j7,j8,j9⟩:=dY (jC:=0) l keys x (fun t ht=>ipl t ht) h hkl hkz (by omega) (by omega)
   have e1:∀f,kG jA f (.mk 17 n u s keys l) x=(yN jA f l keys x).endMap jA (onF f 4) x.stk.length:=fun f=>rfl
   rw[e1,e1,i1,oG j1 j4 j6 j7 s1,oG j1 j4 j6 j7 s1,o3]
   obtain⟨n1,n2,n3⟩:=List.nodup_append.1 hn
   have hT:=DF (jA:=jA) (onF fl 4) (names:=keys) (K:=es.map (·.1)) (V:=es.map (·.2)) (x:={yN jA 0 l keys x with stk:=x.stk}) (i2.same ⟨rfl,rfl,rfl⟩) hkz (fun z hz hq=>?_) (fun q hq=>List.mem_append_right _ (hperm.mem_iff.2 (List.mem_append_left _ hq)))
   ·refine⟨hT.1,hT.2.of rfl rfl rfl (fun q hq=>?_) (fun q hq=>?_) (QC hO.sub) (by rw[hkl];omega)⟩
    ·rcases List.mem_append.1 hq with hq|hq
     ·exact yB q hq
     ·exact List.mem_append_right _ (hperm.mem_iff.1 hq)
    ·rcases List.mem_append.1 hq with hq|hq
     ·rcases List.mem_append.1 hq with hq|hq
      ·exact yB q hq
      ·exact List.mem_append_right _ (List.mem_append_right _ hq)
     ·exact List.mem_append_right _ (List.mem_append_left _ hq)
   ·rcases i2.ls z hz keys hkz hq.symm with ⟨a,b⟩|⟨k,a,b⟩
    ·rw[if_pos (by rw[← hkl,a];rfl)] at he
     omega
    ·rcases List.mem_append.1 b with b|b
     ·exact hU k (List.mem_append_left _ a) (hO.sub k b)
     ·exact n3 k a k b rfl
section
variable {m M:Int} {G H:Int→St→St}
end
/-! ### the builder's steps -/
section
variable {m M:Int} {f:Int→BS→BS}
end
end Go.Proofs.YtdjoffgkndncfaaGreat
