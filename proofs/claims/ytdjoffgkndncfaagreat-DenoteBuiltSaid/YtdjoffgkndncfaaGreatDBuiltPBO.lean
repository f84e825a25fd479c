/-
  Texts of the proof.
-/
import Derived.Test.YtdjoffgkndncfaaGreatDBuiltPAX
import Derived.Test.YtdjoffgkndncfaaGreatDBuiltPBM
set_option linter.unusedVariables false
set_option linter.unusedSimpArgs false
namespace Go.Proofs.YtdjoffgkndncfaaGreat
open Go Go.ChangeShapes Go.WideShapes Go.ChangeAt Go.RowKit Go.Joins Go.Deep
open Go.Proofs.YtdjoffgkndncfaaGreat.Ft (V3 vV okV ValsAt inlineB legalB packF codeF typedF allF oneF allAt headF fitsL fitsV fitsF belowW isA unpackF)
def B8 (d:List UInt8) (typ wid at_:Int) (t:Tr):Bool:=if K5 typ=true then JY d typ 0 0 wid at_ t else JH d typ wid at_ t
theorem GR {typ:Int} (h:K5 typ=true):typ=4∨typ=5∨typ=25∨typ=6∨typ=7:=by
 unfold K5 at h;simp only[Bool.or_eq_true,decide_eq_true_eq] at h;omega
theorem GS {d:List UInt8} {typ pos par wid at_:Int} {t:Tr} (h:K5 typ=true):JY d typ pos par wid at_ t=JY d typ 0 0 wid at_ t:=by
 rcases GR h with rfl|rfl|rfl|rfl|rfl<;>rfl
def B9 (v:V3) (t:Tr):Prop:=
 (v=(0,1,0)∧t=.mk 1 0 0 EMB [] [])∨(∃b:Bool,v=yR b∧t=.mk 2 (if b then 1 else 0) 0 EMB [] []) ∨
 (∃n,zO n∧v=qS n∧t=.mk 3 n 0 EMB [] [])∨(∃u,J4 u∧v=qT u∧t=.mk 4 0 u EMB [] [])
structure farV (d:List UInt8) (v:V3) (t:Tr):Prop where
 far:inlineB v.1=false
 legal:legalB v.1=true
 isw:isW v.2.1=true
 n0:0≤v.2.2
 n1:v.2.2≤d.length
 lim:v.2.2 - zG v.1*v.2.1 < d.length
 body:∀e,B8 (d++e) v.1 v.2.1 v.2.2 t=true
def Z1 (d:List UInt8) (v:V3) (t:Tr):Prop:=B9 v t∨farV d v t
theorem Z1.more {d:List UInt8} {v:V3} {t:Tr} (h:Z1 d v t) (e:List UInt8):Z1 (d++e) v t:=by
 rcases h with h|h
 ·exact .inl h
 ·refine .inr ⟨h.far,h.legal,h.isw,h.n0,?_,?_,fun f=>by rw[List.append_assoc];exact h.body _⟩
  ·have:=h.n1;rw[List.length_append];omega
  ·have:=h.lim;rw[List.length_append];omega
theorem YS {v:V3} {t:Tr} (h:B9 v t):inlineB v.1=true∧legalB v.1=true∧isW v.2.1=true∧0≤v.2.2∧v.2.2≤18446744073709551615:=by
 rcases h with ⟨rfl,_⟩|⟨b,rfl,_⟩|⟨n,hn,rfl,_⟩|⟨u,hu,rfl,_⟩
 ·exact⟨by decide,by decide,rfl,by decide,by decide⟩
 ·cases b<;>exact⟨by decide,by decide,rfl,by decide,by decide⟩
 ·exact⟨by show inlineB 1=true;decide,by show legalB 1=true;decide,cE n,by show 0≤n % _;omega,by show n % _≤_;omega⟩
 ·unfold J4 at hu;exact⟨by show inlineB 2=true;decide,by show legalB 2=true;decide,vP _,hu.1,hu.2⟩
theorem Z1.near {d:List UInt8} {v:V3} {t:Tr} (h:Z1 d v t) (hd:d.length≤1048576):V7 d.length v:=by
 rcases h with h|h
 ·obtain⟨h1,h2,h3,h4,h5⟩:=YS h;refine⟨?_,⟨h4,h5⟩,fun _=>(kW h3).2,fun e=>(by rw[h1] at e;cases e)⟩;unfold kE;rw[if_pos h2,if_pos h1]
 ·have h1:=h.n1;refine⟨?_,And.intro h.n0 zo,fun e=>(by rw[h.far] at e;cases e),fun _=>h.n1⟩;unfold kE;rw[if_pos h.legal,if_neg (by rw[h.far];decide),if_pos h.isw]
theorem CA {n x:Int} (hx:isW x=true) (hn:zO n) (hw:Q7 n≤x):sgnF (zW (n % 18446744073709551616) x) x=n:=by
 unfold zO at hn;unfold Q7 at hw;rcases zN hx with rfl|rfl|rfl|rfl
 all_goals
  unfold zW sgnF;simp only[Int.reduceToNat,Nat.reduceMul,Nat.reduceSub,Int.reducePow];split at hw
  ·split<;>omega
  split at hw
  ·split<;>omega
  split at hw
  ·split<;>omega
  ·split<;>omega
theorem CB {u x:Int} (hx:isW x=true) (hu:J4 u) (hw:Ft.widthOf u.toNat≤x):zW u x=u:=by
 unfold J4 at hu;unfold Ft.widthOf at hw;have p8:(2:Nat) ^ 8=256:=by decide
 have p16:(2:Nat) ^ 16=65536:=by decide
 have p32:(2:Nat) ^ 32=4294967296:=by decide
 rw[p8,p16,p32] at hw;rcases zN hx with rfl|rfl|rfl|rfl
 all_goals
  unfold zW;simp only[Int.reduceToNat,Nat.reduceMul,Int.reducePow]
  repeat' split at hw
  all_goals omega
theorem vZ (k n u:Int) (s:ByteArray):zU (.mk k n u s [] []) k n u s=true:=bare_iff.2 rfl
theorem eS {d:List UInt8} {p x u:Int} (h:k9 d p x=(u,0)) (h1:u≤9007199254740992):yE d p x=(u,true):=by
 unfold yE;rw[h];simp only[Int.min_eq_left h1,decide_true,Bool.true_and,decide_eq_true h1]
theorem GT {x p:Int} {v:V3} (h:inlineB v.1=false):Z8 x p v=p - v.2.2:=by unfold Z8;rw[h];simp
theorem D1 {x p:Int} {v:V3} (h:inlineB v.1=true):Z8 x p v=zW v.2.2 x:=by unfold Z8;rw[if_pos h]
theorem eT {d0 e:List UInt8} {v:V3} {t:Tr} {p x lim:Int} (h:Z1 d0 v t) (hx:isW x=true) (hl:k9 (d0++e) p x=(Z8 x p v,0)) (hi:inlineB v.1=true→v.2.1≤x) (hp:(d0.length:Int)≤p) (hp2:p≤9007199254740992) (hlim:(d0.length:Int)≤lim) :
 J5 (d0++e) v.1 p x (if inlineB v.1 then x else v.2.1) lim t=true:=by
 rw[aO];rcases h with h|h
 ·obtain⟨h1,h2,h3,h4,h5⟩:=YS h;rw[if_pos h1,if_neg (by rw[hx,h2];decide),if_pos h1];have hwd:=hi h1;rw[D1 h1] at hl;rcases h with ⟨rfl,rfl⟩|⟨b,rfl,rfl⟩|⟨n,hn,rfl,rfl⟩|⟨u,hu,rfl,rfl⟩
  ·show iI _ p x _=true;unfold iI;rw[hl,vZ];rfl
  ·show nJ _ p x _=true;unfold nJ;rw[hl];have hp:=kW hx
   have h0:zW (yR b).2.2 x=if b then 1 else 0:=by
    rcases zN hx with rfl|rfl|rfl|rfl<;>cases b<;>decide
   rw[h0];cases b
   ·simp only[Bool.false_eq_true,if_false,if_true];rw[vZ];rfl
   ·simp only[if_true];rw[if_neg zd,vZ];rfl
  ·rw[show JY (d0++e) (qS n).1 p x x 0 (.mk 3 n 0 EMB [] [])=intF (d0++e) p x (.mk 3 n 0 EMB [] []) from rfl];unfold intF vR;rw[lH hl,hl];rw[show (qS n).2.2=n % 18446744073709551616 from rfl,CA hx hn hwd];simp only[Tr.kind,vZ,ne_eq,not_true_eq_false,if_false,if_true,decide_true,Bool.and_self]
  ·rw[show JY (d0++e) (qT u).1 p x x 0 (.mk 4 0 u EMB [] [])=iJ (d0++e) p x (.mk 4 0 u EMB [] []) from rfl];unfold iJ vR;rw[hl];rw[show (qT u).2.2=u from rfl,CB hx hu hwd];simp only[Tr.kind,vZ,ne_eq,not_true_eq_false,if_false,decide_true,Bool.and_self];rw[if_neg zd];rfl
 ·rw[h.far];simp only[Bool.false_eq_true,if_false];rw[if_neg (by rw[hx,h.isw,h.legal];decide)];have hN:=h.n0;have hN1:=h.n1;rw[GT h.far] at hl;have hnum:=eS hl zo
  have hfb:bT (d0++e) v.1 p x v.2.1 lim=true:=by
   unfold bT;rw[hnum];have:=h.lim;simp only[Bool.true_and,Bool.and_eq_true,decide_eq_true_eq];omega
  rw[if_neg (by rw[hfb];decide),hnum];have hb:=h.body e;unfold B8 at hb;rw[show p - (p - v.2.2,true).1=v.2.2 by simp only;omega];split
  ·rename_i hf;rw[if_pos hf] at hb;rw[GS hf];exact hb
  ·rename_i hf;rw[if_neg hf] at hb;exact hb
theorem GU {d:List UInt8} {p x w1 w2 lim:Int} {t:Tr} (h1:isW w1=true) (h2:isW w2=true):J5 d 4 p x w1 lim t=J5 d 4 p x w2 lim t:=by
 have ha:zG 4=0:=by decide
 have hfb:bT d 4 p x w1 lim=bT d 4 p x w2 lim:=by unfold bT;rw[ha];simp
 rw[aO,aO,h1,h2,hfb];rfl
structure HeldB (x p:Int) (jW:Bool) (b X:List UInt8) (l:List V3):Prop where
 head:X.take b.length=b
 len:(X.length:Int)=p+x*l.length+(if jW then (l.length:Int) else 0)
 elem:∀(k:Nat) (v:V3),l[k]? = some v→k9 X (p+k*x) x=(Z8 x (p+k*x) v,0)
 tag:jW=true→∀(k:Nat) (v:V3),l[k]? = some v→X[(p+l.length*x).toNat+k]? = some (JW x v)
theorem heldB {b:List UInt8} {l:List V3} {x p:Int} {len jW:Bool} (hn:b.length≤1048576) (hl:l.length≤1048576) (h:∀v∈l,V7 b.length v) (hx:allF l (0,0,0) b.length (if len then 1 else 0)=x) (hp:(b.length:Int)+j5 b x+(if len then x else 0)=p) :
 isW x=true∧HeldB x p jW b (b++(JE x len jW b l).flatten) l∧(p - (if len then x else 0)) % x=0∧(b.length:Int)≤p - (if len then x else 0)∧p - (if len then x else 0) < b.length+x∧(len=true→k9 (b++(JE x len jW b l).flatten) (p - x) x=((l.length:Int),0))∧(∀v∈l,inlineB v.1=true→v.2.1≤x):=by
 obtain⟨_,x0,hw,qK⟩:=eJ (n:=b.length) (ahead:=if len then 1 else 0) (by cases len<;>simp) zo zo hl h;rw[hx] at hw qK;have hwp:=kW hw
 have hfit:fitsL l b.length (if len then 1 else 0) x=true:=by
  have h:=qK;unfold allAt at h;simp only[Bool.and_eq_true] at h;exact h.2
 have hpad:=cM (l:=b) hw;have hpe:=bX hw b;have hfe:fitE x p l:=dF hw l (if len then 1 else 0) p (by rw[← hp,hpe];cases len<;>simp) (by cases len<;>simp) hfit
 have hlenf:len=true→(l.length:Int) < 2 ^ (8*x.toNat):=by
  intro hl1;subst hl1;have h:=qK;unfold allAt headF at h;simp only[Bool.and_eq_true,belowW] at h;have:=h.1.1;simpa using this
 have hpieces:(JE x len jW b l).flatten=(j9 (j5 b x)++(if len then kU x.toNat l.length else []))++(YU x p l).flatten++(if jW then l.map (JW x) else []):=by
  unfold JE;rw[hp];cases len<;>cases jW<;>simp[dG]
 have hAl:((b++(j9 (j5 b x)++(if len then kU x.toNat l.length else []))).length:Int)=p:=by
  rw[← hp];cases len<;>simp[jS,kD]<;>omega
 have hEl:=ZV hw l p;refine⟨hw,⟨?_,?_,?_,?_⟩,?_,?_,?_,?_,?_⟩
 ·exact List.take_left' rfl
 ·rw[hpieces];rw[← List.append_assoc,← List.append_assoc,List.length_append,List.length_append];cases jW
  ·simp only[Bool.false_eq_true,if_false,List.length_nil] at hAl⊢;omega
  ·simp only[if_true,List.length_map] at hAl⊢;omega
 ·intro k v hk;obtain⟨A,C,hA,hAk⟩:=rE hw l p k v hk;have hb:=lG l p k v hfe hk;refine KY (A:=b++(j9 (j5 b x)++(if len then kU x.toNat l.length else []))++A) (C:=C++(if jW then l.map (JW x) else [])) hw ?_ ?_ hb.1 hb.2
  ·rw[hpieces,hA];simp only[List.append_assoc]
  ·rw[List.length_append];omega
 ·intro ht k v hk;subst ht
  have hXl:(b++(j9 (j5 b x)++(if len then kU x.toNat l.length else []))++(YU x p l).flatten).length=(p+l.length*x).toNat:=by
   rw[List.length_append];have:(l.length:Int)*x=x*l.length:=Int.mul_comm _ _;omega
  rw[hpieces,← List.append_assoc,← List.append_assoc,← hXl,List.getElem?_append_right zo,Nat.add_sub_cancel_left,if_pos rfl,List.getElem?_map,hk];rfl
 ·have:p - (if len then x else 0)=((b.length:Int)+x - 1) / x*x:=by rw[← hp,← hpe];cases len<;>simp<;>omega
  rw[this];exact Int.mul_emod_left _ _
 ·rw[← hp];cases len<;>simp<;>omega
 ·rw[← hp];cases len<;>simp<;>omega
 ·intro hl1;subst hl1;simp only[if_true] at hp hpieces hAl⊢;refine KY (A:=b++j9 (j5 b x)) (C:=(YU x p l).flatten++(if jW then l.map (JW x) else [])) hw ?_ ?_ zo (hlenf rfl)
  ·rw[hpieces];simp only[List.append_assoc,Int.toNat_natCast]
  ·rw[List.length_append,jS];omega
 ·intro v hv hi;obtain⟨k,hk,hkv⟩:=List.getElem_of_mem hv;have:=eK l _ _ x k v hfit (by rw[List.getElem?_eq_getElem hk,hkv]);unfold fitsV fitsF at this;rw[if_pos hi] at this;exact of_decide_eq_true this
def zL (d:List UInt8) (l:List V3) (ts:List Tr):Prop:=l.length=ts.length∧∀(i:Nat) v t,l[i]? = some v→ts[i]? = some t→Z1 d v t
theorem zL.more {d:List UInt8} {l:List V3} {ts:List Tr} (h:zL d l ts) (e:List UInt8):zL (d++e) l ts:=⟨h.1,fun i v t hv ht=>(h.2 i v t hv ht).more e⟩
theorem zL.near {d:List UInt8} {l:List V3} {ts:List Tr} (h:zL d l ts) (hd:d.length≤1048576):∀v∈l,V7 d.length v:=by
 intro v hv;obtain⟨k,hk,rfl⟩:=List.getElem_of_mem hv;have hk2:k < ts.length:=by rw[← h.1];exact hk
 exact (h.2 k _ _ (List.getElem?_eq_getElem hk) (List.getElem?_eq_getElem hk2)).near hd
theorem zL.nil (d:List UInt8):zL d [] []:=⟨rfl,fun i v t h=>by simp at h⟩
theorem zL.cons {d:List UInt8} {v:V3} {t:Tr} {l:List V3} {ts:List Tr} (h:Z1 d v t) (hl:zL d l ts):zL d (v::l) (t::ts):=by
 refine⟨by simp[hl.1],fun i x y hx hy=>?_⟩
 cases i with
 | zero=>simp at hx hy;subst hx hy;exact h
 | succ i=>exact hl.2 i x y dP (by simpa using hy)
theorem u9 {X e:List UInt8} {i:Nat} {c:UInt8} (h:X[i]? = some c):(X++e)[i]? = some c:=by
 rw[List.getElem?_append_left (List.getElem?_eq_some_iff.1 h).1];exact h
theorem oT {b:List UInt8} {l:List V3} {ts:List Tr} {x p typ kd many:Int} {len jW:Bool} (ht:zL b l ts) (hn:b.length≤1048576) (hl:l.length≤65536) (hx:allF l (0,0,0) b.length (if len then 1 else 0)=x) (hp:(b.length:Int)+j5 b x+(if len then x else 0)=p)
 (hs:kA typ=(kd,many)) (h17:kd≠17) (hg:qY kd=jW) (hm:if len then many=0 else many≠0∧(ts.length:Int)=many) (hty:jW=false→∀v∈l,v.1=(Ft.elemF typ).1∧(inlineB v.1=true∨v.1=4)) (e:List UInt8) :
 JH (b++(JE x len jW b l).flatten++e) typ x p (.mk kd 0 0 EMB [] ts)=true:=by
 obtain⟨hw,hH,hmod,hge,hlt,kI,hin⟩:=heldB (jW:=jW) hn zo (ht.near hn) hx hp;have hwp:=kW hw;have hpl:(b.length:Int)≤p:=by cases len<;>simp at hge<;>omega
 have hpu:p < b.length+x+x:=by cases len<;>simp at hlt<;>omega
 have hmul0:0≤x*(l.length:Int):=Int.mul_nonneg zo zo;have hmul8:x*(l.length:Int)≤8*l.length:=Int.mul_le_mul_of_nonneg_right hwp.2 zo;have hcomm:(l.length:Int)*x=x*l.length:=Int.mul_comm _ _;obtain⟨hl1,hl2⟩:=ht;obtain⟨R,hR⟩:∃R,(JE x len jW b l).flatten=R:=⟨_,rfl⟩;rw[hR] at hH kI⊢;have hmany:(kd,many).2=many:=rfl;unfold JH;simp only[Tr.kids,Bool.and_eq_true];refine⟨front_iff.2 ⟨by rw[hs],rfl,rfl,rfl,fun _=>rfl,?_,?_,?_,fun h=>by rw[hs] at h;exact absurd h h17⟩,kids_iff.2 fun j t hj=>?_⟩
 ·cases len
  ·simpa using hmod
  ·simp only[if_true] at hmod;have:p=(p - x)+x:=by omega
   rw[this,Int.add_emod_right];exact hmod
 ·rw[hs,hg,← hl1];have:=hH.len;rw[List.length_append];cases jW
  ·simp only[Bool.false_eq_true,if_false] at this⊢;omega
  ·simp only[if_true] at this⊢;omega
 ·rw[hs];dsimp only;cases len
  ·simp only[Bool.false_eq_true,if_false] at hm;rw[if_neg hm.1];exact hm.2
  ·simp only[if_true] at hm;rw[if_pos hm,eS (ZH (kI rfl)) zo,hl1];exact⟨rfl,rfl⟩
 ·rw[Nat.zero_add]
  obtain⟨v,hv⟩:∃v,l[j]? = some v:=by
   have:j < ts.length:=(List.getElem?_eq_some_iff.1 hj).1;exact⟨_,List.getElem?_eq_getElem zo⟩
  have hjl:j < l.length:=(List.getElem?_eq_some_iff.1 hv).1;have htv:=hl2 j v t hv hj;have hjx:0≤(j:Int)*x:=Int.mul_nonneg zo zo;have hjx8:(j:Int)*x≤j*8:=Int.mul_le_mul_of_nonneg_left hwp.2 zo;have hload:=ZH (Z:=e) (hH.elem j v hv)
  have hfirst:(b.length:Int)≤JC typ x p:=by
   unfold JC;rw[hs];dsimp only;rw[if_neg h17];cases len
   ·simp only[Bool.false_eq_true,if_false] at hm;rw[if_neg hm.1];exact hpl
   ·simp only[if_true] at hm hge;rw[if_pos hm];exact hge
  have hE:=eT (e:=R++e) htv hw (by rw[← List.append_assoc];exact hload) (hin v (List.mem_of_getElem? hv)) zo zo hfirst;rw[← List.append_assoc] at hE;unfold vI;rw[hs,hg,← hl1];cases jW
  ·simp only[Bool.false_eq_true,if_false];obtain⟨e1,e2⟩:=hty rfl v (List.mem_of_getElem? hv);rw[← e1];refine⟨trivial,?_⟩;rcases e2 with e2|e2
   ·rw[if_pos e2] at hE;exact hE
   ·have hi4:inlineB v.1=false:=(by rw[e2];decide);rw[hi4] at hE;simp only[Bool.false_eq_true,if_false] at hE
    have hw4:isW v.2.1=true:=by
     rcases htv with h|h
     ·exact (YS h).2.2.1
     ·exact h.isw
    rw[e2] at hE⊢;rw[GU hw hw4];exact hE
  ·simp only[if_true];have hT:=u9 (e:=e) (hH.tag rfl j v hv);have hq:(p+(l.length:Int)*x+(j:Int)).toNat=(p+(l.length:Int)*x).toNat+j:=by omega
   rw[hq,hT];simp only[Option.getD_some];have hle:kE v=0:=(htv.near hn).1;rw[bZ hw hle];exact⟨rfl,hE⟩
structure fZ (d:List UInt8) (v:V3) (names:List ByteArray):Prop where
 typ:v.1=14
 isw:isW v.2.1=true
 n0:0≤v.2.2
 n1:v.2.2≤d.length
 lim:v.2.2 - v.2.1 < d.length
 body:∀e,VW (d++e) v.2.1 v.2.2 names=true
theorem fZ.more {d:List UInt8} {v:V3} {names:List ByteArray} (h:fZ d v names) (e:List UInt8):fZ (d++e) v names:=
 ⟨h.typ,h.isw,h.n0,by have:=h.n1;rw[List.length_append];omega,by have:=h.lim;rw[List.length_append];omega,fun f=>by rw[List.append_assoc];exact h.body _⟩
def aE (k:ByteArray):Tr:=.mk 5 0 0 k [] []
theorem AV {b:List UInt8} {l:List V3} {names:List ByteArray} {x p:Int} (ht:zL b l (names.map aE)) (h4:∀v∈l,v.1=4) (hn:b.length≤1048576) (hl:l.length≤65536) (hx:allF l (0,0,0) b.length 1=x) (hp:(b.length:Int)+j5 b x+x=p) (e:List UInt8) :
 VW (b++(JE x true false b l).flatten++e) x p names=true:=by
 have hL:=oT (len:=true) (jW:=false) (typ:=14) (kd:=13) (many:=0) ht hn hl dP (by simpa using hp) zd zd zd zp2 (fun _ v hv=>⟨by rw[h4 v hv];decide,.inr (h4 v hv)⟩) e;unfold JH at hL;simp only[Tr.kids,Bool.and_eq_true] at hL;obtain⟨h1,h2⟩:=hL;have hF:=front_iff.1 h1;have hfx:=hF.fix;have hrm:=hF.room;have hmy:=hF.many;have e14:kA 14=(13,0):=by decide
 rw[e14] at hrm hmy;simp only[if_true,List.length_map] at hmy;rw[List.length_map,show qY (13,0).1=false by decide] at hrm;simp only[Bool.false_eq_true,if_false,Int.add_zero] at hrm;generalize b++(JE x true false b l).flatten++e=D at *;unfold VW;simp only[Bool.and_eq_true,decide_eq_true_eq];refine⟨⟨⟨hfx,hrm⟩,hmy⟩,names_iff.2 fun j k hk=>?_⟩;have hkk:=kids_iff.1 h2 j (aE k) (by rw[List.getElem?_map,hk];rfl);unfold vI at hkk;rw[e14,show qY (13,0).1=false by decide] at hkk;simp only[Bool.false_eq_true,if_false,true_and,Nat.zero_add,show (Ft.elemF 14).1=4 by decide] at hkk;have hfirst:JC 14 x p=p - x:=by unfold JC;rw[e14];rfl
 rw[hfirst] at hkk;rw[Nat.zero_add];obtain⟨_,hc⟩:=AB hkk;rcases hc with ⟨hnr,_⟩|⟨_,hfb,_,hlk⟩|⟨_,_,hft,_⟩
 ·exact absurd hnr zd
 ·unfold cT;rw[hfb,Bool.true_and];have hkf:iK D (p+(j:Int)*x - (yE D (p+(j:Int)*x) x).1) (aE k)=true:=hlk;unfold iK at hkf;simp only[Bool.and_eq_true] at hkf⊢;exact⟨hkf.1.2,hkf.2⟩
 ·exact absurd hft zd
theorem GV {b:List UInt8} {k:V3} {l:List V3} {ts:List Tr} {names:List ByteArray} {x p:Int} (ht:zL b l ts) (hk:fZ b k names) (hi:eD names=true) (hnl:names.length=ts.length) (hn:b.length≤1048576) (hl:l.length≤65536)
 (hx:allF l k b.length 3=x) (hp:(b.length:Int)+j5 b x+3*x=p) (e:List UInt8):JH (b++(KA x k b l).flatten++e) 9 x p (.mk 17 0 0 EMB names ts)=true:=by
 have hK:fP b.length k:=⟨hk.typ,hk.isw,hk.n0,hk.n1⟩;obtain⟨hw,hH,hmod,hge,hlt,hin,hkn⟩:=heldM hn zo (ht.near hn) hK hx hp;have hwp:=kW hw;have hkp:=kW hk.isw;have hmul0:0≤x*(l.length:Int):=Int.mul_nonneg zo zo;have hmul8:x*(l.length:Int)≤8*l.length:=Int.mul_le_mul_of_nonneg_right hwp.2 zo;have hcomm:(l.length:Int)*x=x*l.length:=Int.mul_comm _ _;obtain⟨hl1,hl2⟩:=ht;obtain⟨R,hR⟩:∃R,(KA x k b l).flatten=R:=⟨_,rfl⟩;rw[hR] at hH⊢;have hs:kA 9=(17,0):=by decide
 have hg:qY 17=true:=by decide
 have hk0:=hk.n0;have hk1:=hk.n1;have hk2:=hk.lim;have hbody:=hk.body (R++e);rw[← List.append_assoc] at hbody;unfold JH;simp only[Tr.kids,Bool.and_eq_true];refine⟨front_iff.2 ⟨by rw[hs],rfl,rfl,rfl,fun h=>absurd (by rw[hs]) h,?_,?_,?_,fun _=>⟨by omega,hnl,?_⟩⟩,kids_iff.2 fun j t hj=>?_⟩
 ·have:p=(p - 3*x)+3*x:=by omega
  rw[this,Int.add_mul_emod_self_right];exact hmod
 ·rw[hs,hg,← hl1];have:=hH.len;rw[List.length_append];simp only[if_true];omega
 ·rw[hs];dsimp only;rw[if_pos rfl,eS (ZH hH.many) zo,hl1];exact⟨rfl,rfl⟩
 ·have n1:=eS (ZH (Z:=e) hH.off) zo;have n2:=eS (ZH (Z:=e) hH.wide) zo;have e2:p - 3*x+x=p - 2*x:=by omega
  unfold cU;rw[e2,n1,n2];simp only[hk.isw,hi,Bool.true_and,Bool.and_true,Bool.and_eq_true,decide_eq_true_eq];have e3:p - 3*x - (p - 3*x - k.2.2)=k.2.2:=by omega
  rw[e3];exact⟨⟨by omega,by omega⟩,hbody⟩
 ·rw[Nat.zero_add]
  obtain⟨v,hv⟩:∃v,l[j]? = some v:=by
   have:j < ts.length:=(List.getElem?_eq_some_iff.1 hj).1;exact⟨_,List.getElem?_eq_getElem zo⟩
  have hjl:j < l.length:=(List.getElem?_eq_some_iff.1 hv).1;have htv:=hl2 j v t hv hj;have hjx:0≤(j:Int)*x:=Int.mul_nonneg zo zo;have hjx8:(j:Int)*x≤j*8:=Int.mul_le_mul_of_nonneg_left hwp.2 zo;have hload:=ZH (Z:=e) (hH.elem j v hv)
  have hfirst:(b.length:Int)≤JC 9 x p:=by
   unfold JC;rw[hs];simp only[if_true];exact hge
  have hE:=eT (e:=R++e) htv hw (by rw[← List.append_assoc];exact hload) (hin v (List.mem_of_getElem? hv)) zo zo hfirst;rw[← List.append_assoc] at hE;unfold vI;rw[hs,hg,← hl1];simp only[if_true];have hT:=u9 (e:=e) (hH.tag j v hv);have hq:(p+(l.length:Int)*x+(j:Int)).toNat=(p+(l.length:Int)*x).toNat+j:=by omega
  rw[hq,hT];simp only[Option.getD_some];have hle:kE v=0:=(htv.near hn).1;rw[bZ hw hle];exact⟨rfl,hE⟩
def ZW (jB jC k n u:Int) (s:ByteArray) (x:BS):BS:=
 if k=1 then x.inline (0,1,0) else if k=2 then x.inline (yR (decide (n=1))) else if k=3 then x.inline (qS n) else if k=4 then x.inline (qT u)
 else if k=8 then x.apart jB 6 (qS n) else if k=9 then x.apart jB 7 (qT u) else if k=5 then x.key jB (onF jC 1) s else if k=6 then x.str jB (onF jC 2) s else if k=7 then x.blob jB s else x
mutual
def kT (jB jC:Int):Tr→BS→BS
 | .mk k n u s keys l,x=>
  if k=11 then x.vector jB 1 0 (l.map fun t=>qS t.fn) else if k=12 then x.vector jB 2 0 (l.map fun t=>qT t.fu)
  else if k=14 then x.vector jB 26 0 (l.map fun t=>yR (decide (t.fn=1))) else if k=13 then x.keyVec jB (onF jC 1) (l.map Tr.fs)
  else if k=15 then x.fixed jB 1 (l.map fun t=>qS t.fn) else if k=16 then x.fixed jB 2 (l.map fun t=>qT t.fu)
  else if k=10 then (y6 jB jC l x).endVec jB x.stk.length
  else if k=17 then (qQ jB jC l keys x).endMap jB (onF jC 4) x.stk.length
  else ZW jB jC k n u s x
def y6 (jB jC:Int):List Tr→BS→BS
 | [],x=>x
 | t::r,x=>y6 jB jC r (kT jB jC t x)
def qQ (jB jC:Int):List Tr→List ByteArray→BS→BS
 | [],_,x=>x
 | t::r,ks,x=>qQ jB jC r ks.tail (kT jB jC t (x.key jB (onF jC 1) (ks.headD EMB)))
end
mutual
def Y0:Tr→Nat | .mk k n u s keys l=>64+s.size+(keys.map fun k=>k.size+32).sum+J9 l
def J9:List Tr→Nat | []=>0 | t::r=>Y0 t+32+J9 r
end
structure Inv (x:BS):Prop where
 e0:x.e=0
 s0:x.s.2=0
 keys:∀z∈x.keys,Z1 x.s.1 (4,1,z.2) (aE z.1)∧yI x.names z.2=z.1
 texts:∀z∈x.texts,Z1 x.s.1 (5,Ft.widthOf z.1.size,z.2) (.mk 6 0 0 z.1 [] [])
 lists:∀z∈x.lists,0≤z.2∧∃v names,x.vals[z.2.toNat]? = some v∧fZ x.s.1 v names∧k8 names=z.1∧∀k∈names,vG k=0
 names:∀z∈x.names,z.1 < x.s.1.length
 vals:x.vals.length≤x.s.1.length
theorem Inv.s {x:BS} (h:Inv x):x.s=(x.s.1,0):=by
 have:=h.s0;rw[← this]
theorem Inv.new:Inv BS.new:=⟨rfl,rfl,fun z h=>absurd h List.not_mem_nil,fun z h=>absurd h List.not_mem_nil,fun z h=>absurd h List.not_mem_nil,fun z h=>absurd h List.not_mem_nil,Nat.zero_le _⟩
theorem Inv.ext {x:BS} (h:Inv x) (e:List UInt8) (k:List V3):Inv {x with s:=(x.s.1++e,0),stk:=k}:=
 ⟨h.e0,rfl,fun z hz=>⟨(h.keys z hz).1.more e,(h.keys z hz).2⟩,fun z hz=>(h.texts z hz).more e,fun z hz=>by
  obtain⟨h0,v,nm,h1,h2,h3⟩:=h.lists z hz
  exact⟨h0,v,nm,h1,h2.more e,h3⟩,fun z hz=>by
  have:=h.names z hz;show z.1 < ((x.s.1++e).length:Int)
  rw[List.length_append];omega,by
  have:=h.vals;show x.vals.length≤(x.s.1++e).length
  rw[List.length_append];omega⟩
theorem Inv.stk {x:BS} (h:Inv x) (k:List V3):Inv {x with stk:=k}:=by
 have:=h.ext [] k;rw[List.append_nil,← h.s] at this;exact this
structure qR (x x':BS) (t:Tr) (c:Nat):Prop where
 inv:Inv x'
 grow:∃e,x'.s.1=x.s.1++e∧e.length≤c
 push:∃v,x'.stk=x.stk++[v]∧Z1 x'.s.1 v t
 nms:∀a:Int,a < x.s.1.length→yI x'.names a=yI x.names a
theorem lW {l:y9} {k:ByteArray} {a:Int} (h:qE l k=(a,true)):(k,a)∈l:=by
 unfold qE at h;split at h
 ·rename_i hh;have hlt:=gO hh;have hg:(QK l).getD (vD l k) 0=(l[vD l k]).2:=by simp[QK,List.getD_eq_getElem?_getD,hlt]
  rw[hg] at h;injection h with h1 h2;have h3:=of_decide_eq_true hh;unfold VJ at h3;rw[List.getElem?_map,List.getElem?_eq_getElem hlt] at h3;simp only[Option.map_some,Option.some.injEq] at h3;have:l[vD l k]=(k,a):=Prod.ext h3 h1;rw[← this];exact List.getElem_mem hlt
 ·injection h with _ h2;cases h2
theorem oU {names:List (Int × ByteArray)} {a b:Int} {k:ByteArray} (h:a≠b):yI (names++[(b,k)]) a=yI names a:=by
 unfold yI;rw[List.find?_append]
 cases names.find? (fun q=>decide (q.1=a)) with
 | some q=>rfl
 | none=>
  have:List.find? (fun q:Int × ByteArray=>decide (q.1=a)) [(b,k)]=none:=by simp[Ne.symm h]
  rw[this];rfl
theorem oV {names:List (Int × ByteArray)} {b:Int} {k:ByteArray} (h:∀z∈names,z.1≠b):yI (names++[(b,k)]) b=k:=by
 unfold yI;rw[List.find?_append]
 have:names.find? (fun q=>decide (q.1=b))=none:=by
  rw[List.find?_eq_none];intro z hz;simpa using h z hz
 rw[this];simp
theorem eU (k:ByteArray):jR [k,⟨#[0]⟩]=(VU k).data.toList:=by
 rw[DA];simp[jR]
theorem lX {b e:List UInt8} {s:ByteArray} {at_:Int} (h:at_=b.length):QI (b++s.data.toList++e) at_ s=true:=by
 subst h;rw[has_iff];refine⟨by omega,?_,?_⟩
 ·rw[List.length_append,List.length_append,eG];omega
 ·rw[Int.toNat_natCast,List.append_assoc,List.drop_left,← eG,List.take_left' rfl]
theorem D2 {b:List UInt8} {k:ByteArray} (hk:vG k=0):Z1 (b++jR [k,⟨#[0]⟩]) (4,1,(b.length:Int)) (aE k):=by
 refine .inr ⟨by show inlineB 4=false;decide,by show legalB 4=true;decide,rfl,by show (0:Int)≤b.length;omega,?_,?_,fun e=>?_⟩
 ·show (b.length:Int)≤_;rw[List.length_append];omega
 ·show (b.length:Int) - zG 4*1 < _;rw[show zG 4=0 by decide,List.length_append];have:=cC k;omega
 ·show iK _ _ _=true;unfold iK;rw[eU];show (zU (aE k) 5 0 0 k && decide (vG k=0) && QI (b++(VU k).data.toList++e) (b.length:Int) (VU k))=true;rw[lX rfl];simp only[aE,vZ,hk,decide_true,Bool.and_self]
theorem AW {x:BS} (h:x.e=0):x.fail 0=x:=by
 obtain⟨s,e,stk,a,b,c,d,f⟩:=x;dsimp only at h;subst h;rfl
theorem put_ok {jB:Int} {sh:Bool} {k:ByteArray} {x:BS} (h:Inv x) (hk:vG k=0) (hr:(x.s.1.length:Int)+(k.size+1)≤jB) :
 ∃a e,(x.put jB sh k).1=(4,1,a)∧Inv (x.put jB sh k).2∧(x.put jB sh k).2.s.1=x.s.1++e∧e.length≤k.size+1∧(x.put jB sh k).2.stk=x.stk∧Z1 (x.put jB sh k).2.s.1 (4,1,a) (aE k)∧yI (x.put jB sh k).2.names a=k ∧
  ∀c:Int,c < x.s.1.length→yI (x.put jB sh k).2.names c=yI x.names c:=by
 unfold BS.put;dsimp only;rw[hk,AW h.e0,if_neg (by rw[h.e0];decide)];by_cases hg:((qE x.keys k).2 && sh)=true
 ·rw[if_pos hg];rw[Bool.and_eq_true] at hg;have hm:qE x.keys k=((qE x.keys k).1,true):=by rw[← hg.1]
  have h1:=h.keys _ (lW hm);exact⟨_,[],rfl,h,by simp,Nat.zero_le _,rfl,h1.1,h1.2,fun c _=>rfl⟩
 ·rw[if_neg hg];have hsz:(jR [k,⟨#[0]⟩]).length=k.size+1:=by rw[eU,eG,eB]
  have hs:kQ jB (jR [k,⟨#[0]⟩]) x.s=(x.s.1++jR [k,⟨#[0]⟩],0):=by
   have:=JK jB x.s.1 (jR [k,⟨#[0]⟩]) (by rw[hsz];omega);rw[← h.s] at this;exact this
  have ht:=D2 (b:=x.s.1) hk;have hnb:∀z∈x.names,z.1≠(x.s.1.length:Int):=fun z hz e=>by have:=h.names z hz;omega
  refine⟨_,jR [k,⟨#[0]⟩],rfl,?_,by dsimp only;rw[hs],by rw[hsz];exact Nat.le_refl _,rfl,by dsimp only;rw[hs];exact ht,oV hnb,fun c hc=>oU zo⟩;dsimp only;rw[hs];refine⟨rfl,rfl,fun z hz=>?_,fun z hz=>(h.texts z hz).more _,fun z hz=>?_,fun z hz=>?_,by have:=h.vals;show x.vals.length≤(x.s.1++_).length;rw[List.length_append];omega⟩
  ·rcases V9 hz with hz|⟨rfl,_⟩
   ·have h1:=h.keys z hz
    have hlt:z.2 < (x.s.1.length:Int):=by
     rcases h1.1 with hq|hq
     ·exact absurd (YS hq).1 (by show ¬inlineB 4=true;decide)
     ·have:=hq.lim;rw[show ((4:Int),(1:Int),z.2).1=4 from rfl,show zG 4=0 by decide] at this;simpa using this
    refine⟨h1.1.more _,?_⟩;show yI (x.names++[((x.s.1.length:Int),k)]) z.2=z.1;rw[oU zo];exact h1.2
   ·exact⟨ht,oV hnb⟩
  ·obtain⟨h0,v,nm,h1,h2,h3⟩:=h.lists z hz;exact⟨h0,v,nm,h1,h2.more _,h3⟩
  ·show z.1 < ((x.s.1++jR [k,⟨#[0]⟩]).length:Int);rw[List.length_append,hsz];rcases List.mem_append.1 hz with hz|hz
   ·have:=h.names z hz;omega
   ·obtain rfl:=List.mem_singleton.1 hz;show (x.s.1.length:Int) < _;omega
theorem QQ {x:BS} (h:Inv x) (v:V3) (hl:x.stk.length+1≤65536):x.push v={x with stk:=x.stk++[v]}:=B5 h.e0 h.s0 hl
theorem GW {jB:Int} {sh:Bool} {k:ByteArray} {x:BS} (h:Inv x) (hk:vG k=0) (hr:(x.s.1.length:Int)+(k.size+1)≤jB) (hl:x.stk.length+1≤65536) :
 qR x (x.key jB sh k) (aE k) (k.size+1)∧∃a,(x.key jB sh k).stk=x.stk++[(4,1,a)]∧yI (x.key jB sh k).names a=k∧a < (x.key jB sh k).s.1.length:=by
 obtain⟨a,e,h1,h2,h3,h4,h5,h6,h7,h8⟩:=put_ok (sh:=sh) h hk hr
 have hx:x.key jB sh k={(x.put jB sh k).2 with stk:=x.stk++[(4,1,a)]}:=by
  unfold BS.key;rw[if_pos h.e0,QQ h2 _ (by rw[h5];exact hl),h1,h5]
 rw[hx]
 have hlt:a < ((x.put jB sh k).2.s.1.length:Int):=by
  rcases h6 with hq|hq
  ·exact absurd (YS hq).1 (by show ¬inlineB 4=true;decide)
  ·have:=hq.lim;rw[show ((4:Int),(1:Int),a).1=4 from rfl,show zG 4=0 by decide] at this;simpa using this
 exact⟨⟨h2.stk _,⟨e,h3,h4⟩,⟨_,rfl,h6⟩,h8⟩,a,rfl,h7,hlt⟩
theorem aX {x:BS} {v:V3} {t:Tr} (h:Inv x) (hv:B9 v t) (hl:x.stk.length+1≤65536):qR x (x.inline v) t 0:=by
 have hx:x.inline v={x with stk:=x.stk++[v]}:=by unfold BS.inline;rw[if_pos h.e0,QQ h v hl]
 rw[hx];exact⟨h.stk _,⟨[],by simp,Nat.le_refl _⟩,⟨v,rfl,.inl hv⟩,fun a _=>rfl⟩
theorem GX {jB w:Int} {b:List UInt8} (hw:isW w=true) (h:(b.length:Int)+7≤jB):jJ jB w (b,0)=(b++j9 (j5 b w),0):=lN hw (by have:=dK b hw;omega)
theorem rO {w:Int} (hw:isW w=true) (b:List UInt8):((b.length:Int)+j5 b w) % w=0:=by rw[bX hw];exact Int.mul_emod_left _ _
theorem wE {jB:Int} {x:BS} {v:V3} {sg:Int} {t:Tr} (h:Inv x) (hl:x.stk.length+1≤65536) (hr:(x.s.1.length:Int)+15≤jB) (vC:jB≤1048576)
 (hv:(sg=6∧∃n,zO n∧v=qS n∧t=.mk 8 n 0 EMB [] [])∨(sg=7∧∃u,J4 u∧v=qT u∧t=.mk 9 0 u EMB [] [])):qR x (x.apart jB sg v) t 64:=by
 have hw:isW v.2.1=true:=by
  rcases hv with ⟨_,n,_,rfl,_⟩|⟨_,u,_,rfl,_⟩
  ·exact cE n
  ·exact vP _
 have hwp:=kW hw;have hpad:=dK x.s.1 hw;obtain⟨b,hb⟩:∃b,x.s.1=b:=⟨_,rfl⟩;have hxs:x.s=(b,0):=by rw[h.s,hb]
 rw[hb] at hr hpad;have e1:jJ jB v.2.1 x.s=(b++j9 (j5 b v.2.1),0):=by rw[hxs];exact GX hw zo
 have hlow:=AJ v.2.2 v.2.1
 have e2:j7 jB v.2.1 (zW v.2.2 v.2.1) (jJ jB v.2.1 x.s)=(b++(j9 (j5 b v.2.1)++kU v.2.1.toNat (zW v.2.2 v.2.1).toNat),0):=by
  rw[e1,ZU hw hlow.2,JK _ _ _ (by rw[List.length_append,jS,kD];omega),List.append_assoc]
 have e3:(((jJ jB v.2.1 x.s).1.length:Nat):Int)=(b.length:Int)+j5 b v.2.1:=by rw[e1];dsimp only;rw[List.length_append,jS];omega
 obtain⟨E,hE⟩:∃E,j9 (j5 b v.2.1)++kU v.2.1.toNat (zW v.2.2 v.2.1).toNat=E:=⟨_,rfl⟩;rw[hE] at e2;have hEl:(E.length:Int)=j5 b v.2.1+v.2.1:=by rw[← hE,List.length_append,jS,kD];omega
 have hI:=h.ext E x.stk;rw[hb] at hI
 have hx:x.apart jB sg v={x with s:=(b++E,0),stk:=x.stk++[(sg,v.2.1,(b.length:Int)+j5 b v.2.1)]}:=by
  unfold BS.apart;rw[if_pos h.e0];dsimp only;rw[e2,e3];exact QQ (x:={x with s:=(b++E,0)}) hI _ hl
 rw[hx];have hload:∀e,k9 (b++E++e) ((b.length:Int)+j5 b v.2.1) v.2.1=(zW v.2.2 v.2.1,0):=fun e=>KY (A:=b++j9 (j5 b v.2.1)) (C:=e) hw (by rw[← hE];simp only[List.append_assoc]) (by rw[List.length_append,jS];omega) hlow.1 hlow.2;have hI2:=h.ext E (x.stk++[(sg,v.2.1,(b.length:Int)+j5 b v.2.1)]);rw[hb] at hI2;refine⟨hI2,⟨E,by rw[hb],by omega⟩,⟨_,rfl,.inr ?_⟩,fun a _=>rfl⟩;have hmod:=rO hw b;have kI:(((b++E).length:Nat):Int)=b.length+j5 b v.2.1+v.2.1:=by rw[List.length_append];omega
 rcases hv with ⟨rfl,n,hn,rfl,rfl⟩|⟨rfl,u,hu,rfl,rfl⟩
 ·refine⟨by show inlineB 6=false;decide,by show legalB 6=true;decide,hw,by show (0:Int)≤(b.length:Int)+j5 b (qS n).2.1;omega,?_,?_,fun e=>?_⟩
  ·show (b.length:Int)+j5 b (qS n).2.1≤((b++E).length:Int);omega
  ·show (b.length:Int)+j5 b (qS n).2.1 - zG 6*(qS n).2.1 < ((b++E).length:Int);rw[show zG 6=0 by decide];omega
  ·show Y5 _ 6 (qS n).2.1 ((b.length:Int)+j5 b (qS n).2.1) _=true;unfold Y5 vR;rw[lH (hload e),hload e];rw[show (qS n).2.2=n % 18446744073709551616 from rfl,show (qS n).2.1=Q7 n from rfl] at *;rw[CA hw hn (Int.le_refl _)];simp only[Tr.kind,vZ,ne_eq,not_true_eq_false,if_false,if_true,decide_true,Bool.true_and,Bool.and_true,decide_eq_true_eq];exact hmod
 ·refine⟨by show inlineB 7=false;decide,by show legalB 7=true;decide,hw,by show (0:Int)≤(b.length:Int)+j5 b (qT u).2.1;omega,?_,?_,fun e=>?_⟩
  ·show (b.length:Int)+j5 b (qT u).2.1≤((b++E).length:Int);omega
  ·show (b.length:Int)+j5 b (qT u).2.1 - zG 7*(qT u).2.1 < ((b++E).length:Int);rw[show zG 7=0 by decide];omega
  ·show Y5 _ 7 (qT u).2.1 ((b.length:Int)+j5 b (qT u).2.1) _=true;unfold Y5 vR;rw[hload e];rw[show (qT u).2.2=u from rfl,show (qT u).2.1=Ft.widthOf u.toNat from rfl] at *;rw[CB hw hu (Int.le_refl _)];simp only[Tr.kind,vZ,ne_eq,not_true_eq_false,if_false,decide_true,Bool.true_and,Bool.and_true,decide_eq_true_eq];rw[if_neg zd,if_neg zd];simp only[Tr.kind,vZ,decide_true,Bool.true_and,Bool.and_true,decide_eq_true_eq];exact hmod
theorem AX {b:List UInt8} {k:ByteArray} {typ:Int} (ht:typ=5∨typ=25) (hk:k.size≤1048576) (hb:b.length≤1048576) :
 Z1 (b++YZ b k (if typ=5 then ⟨#[0]⟩ else ByteArray.empty)) (typ,Ft.widthOf k.size,Z0 b k) (.mk (if typ=5 then 6 else 7) 0 0 k [] []):=by
 have hw:=vP k.size;have hwp:=kW hw;have hpad:=dK b hw;have hlt:=VC b k (if typ=5 then ⟨#[0]⟩ else ByteArray.empty);obtain⟨w,hW⟩:∃w,Ft.widthOf k.size=w:=⟨_,rfl⟩;have hpw:(k.size:Int) < 2 ^ (8*w.toNat):=by rw[← hW];exact oO k.size zo
 have hP:Z0 b k=(b.length:Int)+j5 b w+w:=by unfold Z0;rw[hW]
 have hz:0≤((if typ=5 then (⟨#[0]⟩:ByteArray) else ByteArray.empty).size:Int):=by omega
 rw[hW] at hw hwp hpad hlt⊢;have hfar:inlineB typ=false∧legalB typ=true∧zG typ=1:=by rcases ht with rfl | rfl<;>decide
 have hload:∀e,k9 (b++YZ b k (if typ=5 then ⟨#[0]⟩ else ByteArray.empty)++e) (Z0 b k - w) w=((k.size:Int),0):=fun e=>by
  refine KY (A:=b++j9 (j5 b w)) (C:=jR [k,if typ=5 then ⟨#[0]⟩ else ByteArray.empty]++e) hw ?_ ?_ zo hpw
  ·unfold YZ;rw[hW];simp only[List.append_assoc,Int.toNat_natCast]
  ·rw[hP,List.length_append,jS];omega
 refine .inr ⟨hfar.1,hfar.2.1,by show isW w=true;exact hw,by show 0≤Z0 b k;rw[hP];omega,?_,?_,fun e=>?_⟩
 ·show Z0 b k≤_;rw[List.length_append,hP];omega
 ·show Z0 b k - zG typ*w < _;rw[hfar.2.2,List.length_append,hP];omega
 ·have hbody:fC (b++YZ b k (if typ=5 then ⟨#[0]⟩ else ByteArray.empty)++e) typ w (Z0 b k) (.mk (if typ=5 then 6 else 7) 0 0 k [] [])=true:=by
   unfold fC;rw[eS (hload e) zo]
   have hmod:Z0 b k % w=0:=by
    rw[hP,Int.add_emod_right];exact rO hw b
   have hh:QI (b++YZ b k (if typ=5 then ⟨#[0]⟩ else ByteArray.empty)++e) (Z0 b k) (if typ=5 then VU k else k)=true:=by
    have hA:(((b++j9 (j5 b w)++kU w.toNat k.size).length:Nat):Int)=Z0 b k:=by
     rw[hP,List.length_append,List.length_append,jS,kD];omega
    rcases ht with rfl|rfl
    ·simp only[if_true];have:=lX (b:=b++j9 (j5 b w)++kU w.toNat k.size) (s:=VU k) (e:=e) hA.symm;rw[← eU] at this;unfold YZ;rw[hW];simp only[List.append_assoc] at this⊢;exact this
    ·rw[if_neg zd,if_neg zd];have:=lX (b:=b++j9 (j5 b w)++kU w.toNat k.size) (s:=k) (e:=e) hA.symm;have hbe:jR [k,ByteArray.empty]=k.data.toList:=(by simp[jR]);unfold YZ;rw[hW,hbe];simp only[List.append_assoc] at this⊢;exact this
   simp only[Tr.fs];rw[hh];simp only[vZ,hmod,decide_true,Bool.and_self]
  rcases ht with rfl|rfl
  ·exact hbody
  ·exact hbody
theorem oW {jB t:Int} {x:BS} {k:ByteArray} (h:Inv x) (ht:t=5∨t=25) (hl:x.stk.length+1≤65536) (hr:(x.s.1.length:Int)+(k.size+64)≤jB) (vC:jB≤1048576) :
 qR x (x.text jB t k (if t=5 then ⟨#[0]⟩ else ByteArray.empty)) (.mk (if t=5 then 6 else 7) 0 0 k [] []) (k.size+64):=by
 have hw:=vP k.size;have hwp:=kW hw;have hpad:=dK x.s.1 hw;have hlt:=VC x.s.1 k (if t=5 then ⟨#[0]⟩ else ByteArray.empty);have hz:((if t=5 then (⟨#[0]⟩:ByteArray) else ByteArray.empty).size:Int)≤1:=by rcases ht with rfl | rfl<;>decide
 have hT:=AX (b:=x.s.1) (k:=k) ht zo zo;rw[text_ok (b:=x.s.1) h.e0 h.s hl zo (by rw[List.length_append];omega)];have hI:=h.ext (YZ x.s.1 k (if t=5 then ⟨#[0]⟩ else ByteArray.empty)) (x.stk++[(t,Ft.widthOf k.size,Z0 x.s.1 k)]);refine⟨⟨hI.e0,hI.s0,hI.keys,fun z hz=>?_,hI.lists,hI.names,hI.vals⟩,⟨_,rfl,by omega⟩,⟨_,rfl,hT⟩,fun a _=>rfl⟩;rcases ht with rfl|rfl
 ·simp only[if_true] at hz hT⊢;rcases V9 hz with hz|⟨rfl,_⟩
  ·exact (h.texts z hz).more _
  ·exact hT
 ·exact hI.texts z hz
theorem GY {jB:Int} {sh:Bool} {x:BS} {k:ByteArray} (h:Inv x) (hl:x.stk.length+1≤65536) (hr:(x.s.1.length:Int)+(k.size+64)≤jB) (vC:jB≤1048576):qR x (x.str jB sh k) (.mk 6 0 0 k [] []) (k.size+64):=by
 unfold BS.str;dsimp only;rw[if_pos h.e0];by_cases hg:((qE x.texts k).2 && sh)=true
 ·rw[if_pos hg];rw[Bool.and_eq_true] at hg;have hm:qE x.texts k=((qE x.texts k).1,true):=by rw[← hg.1]
  have h1:=h.texts _ (lW hm);rw[QQ h _ hl];exact⟨h.stk _,⟨[],by simp,Nat.zero_le _⟩,⟨_,rfl,h1⟩,fun a _=>rfl⟩
 ·rw[if_neg hg];exact oW (t:=5) h (.inl rfl) hl hr vC
theorem D3 {jB:Int} {x:BS} {k:ByteArray} (h:Inv x) (hl:x.stk.length+1≤65536) (hr:(x.s.1.length:Int)+(k.size+64)≤jB) (vC:jB≤1048576):qR x (x.blob jB k) (.mk 7 0 0 k [] []) (k.size+64):=by
 unfold BS.blob;rw[if_pos h.e0];exact oW (t:=25) h (.inr rfl) hl hr vC
end Go.Proofs.YtdjoffgkndncfaaGreat
namespace Go.Proofs.YtdjoffgkndncfaaGreat
open Go Go.ChangeShapes Go.WideShapes Go.ChangeAt Go.RowKit Go.Joins Go.Deep
open Go.Proofs.YtdjoffgkndncfaaGreat.Ft (V3 vV okV ValsAt inlineB legalB packF codeF typedF allF oneF)
theorem AY {jB jC k n u:Int} {s:ByteArray} {x:BS} (h:x.Good):(ZW jB jC k n u s x).Good:=by
 unfold ZW
 repeat' split
 all_goals first | exact h.inline | exact h.apart | exact h.key | exact h.str | exact h.blob | exact h
mutual
theorem lY {jB jC:Int}:∀(t:Tr) {x:BS},x.Good→(kT jB jC t x).Good
 | .mk k n u s keys l,x,h=>by
  simp only[kT];have h1:=(Y1 (jB:=jB) (jC:=jC) l h).endVec (jB:=jB) (start:=x.stk.length);have h2:=(Y2 (jB:=jB) (jC:=jC) l keys h).endMap (jB:=jB) (sh:=onF jC 4) (start:=x.stk.length)
  repeat' split
  all_goals first | exact h1 | exact h2 | exact h.vector | exact h.keyVec | exact h.fixed | exact AY h
theorem Y1 {jB jC:Int}:∀(l:List Tr) {x:BS},x.Good→(y6 jB jC l x).Good
 | [],_,h=>h
 | t::r,_,h=>Y1 r (lY t h)
theorem Y2 {jB jC:Int}:∀(l:List Tr) (ks:List ByteArray) {x:BS},x.Good→(qQ jB jC l ks x).Good
 | [],_,_,h=>h
 | t::r,ks,_,h=>Y2 r ks.tail (lY t h.key)
end
mutual
def okE:Tr→Prop | .mk k n u s keys l=>(s.size≤1048576∧(∀q∈keys,q.size≤1048576)∧l.length≤4096∧(k=17→keys.length=l.length))∧okEL l
def okEL:List Tr→Prop | []=>True | t::r=>okE t∧okEL r
end
theorem okEL_iff:∀{l:List Tr},okEL l↔∀x∈l,okE x
 | []=>by simp[okEL]
 | t::r=>by simp[okEL,okEL_iff (l:=r)]
theorem fR {jB jC:Int}:∀(l:List Tr) (t:Tr) (x:BS),y6 jB jC (l++[t]) x=kT jB jC t (y6 jB jC l x)
 | [],_,_=>rfl
 | y::r,t,x=>fR r t _
theorem fS {jB jC:Int}:∀(l:List Tr) (ks:List ByteArray) (t:Tr) (k:ByteArray) (x:BS),ks.length=l.length→qQ jB jC (l++[t]) (ks++[k]) x=kT jB jC t ((qQ jB jC l ks x).key jB (onF jC 1) k)
 | [],ks,t,k,x,h=>by
  have:ks=[]:=List.length_eq_zero_iff.1 r8;subst this;rfl
 | y::r,[],t,k,x,h=>by simp at h
 | y::r,q::ks,t,k,x,h=>fS r ks t k _ r8
end Go.Proofs.YtdjoffgkndncfaaGreat
namespace Go.Proofs.YtdjoffgkndncfaaGreat
open Go Go.ChangeShapes Go.WideShapes Go.ChangeAt Go.RowKit Go.Joins Go.Deep
open Go.Proofs.YtdjoffgkndncfaaGreat.Ft (V3 vV okV ValsAt inlineB legalB packF codeF typedF allF oneF allAt headF fitsL fitsV fitsF belowW isA unpackF)
theorem cG {el:Int} {v:V3} (h:v.1=el) (hl:kE v=0):kJ el v=0:=by
 unfold kJ;rw[h];simpa using hl
theorem AZ {jB elem many typ kd:Int} {len jW:Bool} {T:V3→Int} {l:List V3} {ts:List Tr} {x:BS} (h:Inv x) (ht:zL x.s.1 l ts) (hv:∀s,z8 jB elem many l s=yJ jB T len jW typ 0 l s) (hT:∀v∈l,T v=0)
 (hs:kA typ=(kd,if len then 0 else (ts.length:Int))) (h17:kd≠17) (hg:qY kd=jW) (hne:len=false→ts≠[]) (hty:jW=false→∀v∈l,v.1=(Ft.elemF typ).1∧(inlineB v.1=true∨v.1=4))
 (hl:x.stk.length+1≤65536) (hll:l.length≤65536) (hr:(x.s.1.length:Int)+(15+9*l.length:Nat)≤jB) (vC:jB≤1048576) (hfar:inlineB typ=false∧legalB typ=true∧K5 typ=false∧zG typ=if len then 1 else 0) :
 qR x (x.vector jB elem many l) (.mk kd 0 0 EMB [] ts) (15+9*l.length):=by
 have hb:x.s.1.length≤1048576:=by omega
 obtain⟨b,hbe⟩:∃b,x.s.1=b:=⟨_,rfl⟩;have hxs:x.s=(b,0):=by rw[h.s,hbe]
 rw[hbe] at ht hr hb;obtain⟨X,hX⟩:∃X,allF l (0,0,0) b.length (if len then 1 else 0)=X:=⟨_,rfl⟩;obtain⟨p,hp⟩:∃p,(b.length:Int)+j5 b X+(if len then X else 0)=p:=⟨_,rfl⟩;obtain⟨hw,hH,hmod,hge,hlt,kI,hin⟩:=heldB (jW:=jW) hb zo (ht.near hb) hX hp;have hwp:=kW hw;have hle:=tY hw len jW b l;have hput:=B0 (jB:=jB) (T:=T) (len:=len) (jW:=jW) (kind:=typ) hT hb zo (ht.near hb) hX zo;have hpl:=Y7 hw len jW b l;have hbody:=oT (many:=if len then 0 else (ts.length:Int)) ht hb hll hX hp hs h17 hg (by cases len<;>simp;exact hne rfl) hty;rw[hp] at hput;obtain⟨R,hR⟩:∃R,(JE X len jW b l).flatten=R:=⟨_,rfl⟩;rw[hR] at hput hpl hH hbody;have hI:=h.ext R x.stk
 have hx:x.vector jB elem many l={x with s:=(b++R,0),stk:=x.stk++[(typ,X,p)]}:=by
  unfold BS.vector;rw[if_pos h.e0,hv,hxs,hput];dsimp only;rw[hbe] at hI;rw[AW (x:={x with s:=(b++R,0)}) h.e0];exact QQ (x:={x with s:=(b++R,0)}) hI _ hl
 rw[hx];have hI2:=h.ext R (x.stk++[(typ,X,p)]);rw[hbe] at hI2;have hXl:=hH.len;have hmul0:0≤X*(l.length:Int):=Int.mul_nonneg zo zo;refine⟨hI2,⟨R,by rw[hbe],by omega⟩,⟨_,rfl,.inr ⟨hfar.1,hfar.2.1,hw,?_,?_,?_,fun e=>?_⟩⟩,fun a _=>rfl⟩
 ·show 0≤p;rw[← hp];cases len<;>simp<;>omega
 ·show p≤((b++R).length:Int);cases jW<;>simp at hXl<;>simp<;>omega
 ·show p - zG typ*X < ((b++R).length:Int);rw[hfar.2.2.2,hXl];cases len
  ·have h1:1≤(l.length:Int):=by
    have:=hne rfl;have h2:=ht.1;have:ts.length≠0:=fun e=>this (List.length_eq_zero_iff.1 e);omega
   have h2:(1:Int)*1≤X*l.length:=Int.mul_le_mul zo h1 zo zo;cases jW<;>simp<;>omega
  ·cases jW<;>simp<;>omega
 ·show B8 (b++R++e) typ X p _=true;unfold B8;rw[hfar.2.2.1];exact hbody e
theorem vp_of {jB el many typ:Int} (hel:el≠-1) (ht:(typedF el many).1=typ) (l:List V3) (s:St):z8 jB el many l s=yJ jB (kJ el) (decide (many=0)) false typ 0 l s:=by
 unfold z8;rw[if_neg hel,ht]
theorem dM {jB el typ kd:Int} {l:List V3} {ts:List Tr} {x:BS} (h:Inv x) (ht:zL x.s.1 l ts) (hel:el≠-1) (hty:(typedF el 0).1=typ) (hs:kA typ=(kd,0)) (h17:kd≠17) (hg:qY kd=false) (he:∀v∈l,v.1=el) (hel2:(Ft.elemF typ).1=el∧(inlineB el=true∨el=4))
 (hl:x.stk.length+1≤65536) (hll:l.length≤65536) (hr:(x.s.1.length:Int)+(15+9*l.length:Nat)≤jB) (vC:jB≤1048576) (hfar:inlineB typ=false∧legalB typ=true∧K5 typ=false∧zG typ=1):qR x (x.vector jB el 0 l) (.mk kd 0 0 EMB [] ts) (15+9*l.length):=
 AZ (len:=true) (jW:=false) h ht (fun s=>vp_of hel hty l s) (fun v hv=>cG (he v hv) (ht.near zo v hv).1) hs h17 hg (fun e=>by cases e) (fun _ v hv=>⟨by rw[he v hv,hel2.1],by rw[he v hv];exact hel2.2⟩) hl hll hr vC hfar
theorem wF {jB el kd:Int} {l:List V3} {ts:List Tr} {x:BS} (h:Inv x) (ht:zL x.s.1 l ts) (hk:(el=1∧kd=15)∨(el=2∧kd=16)) (he:∀v∈l,v.1=el) (hn:2≤l.length∧l.length≤4)
 (hl:x.stk.length+1≤65536) (hr:(x.s.1.length:Int)+(15+9*l.length:Nat)≤jB) (vC:jB≤1048576):qR x (x.fixed jB el l) (.mk kd 0 0 EMB [] ts) (15+9*l.length):=by
 unfold BS.fixed;rw[if_pos h.e0,if_neg zo];have hl1:=ht.1;have hne:ts≠[]:=fun e=>by have h9:=congrArg List.length e;rw[← hl1,List.length_nil] at h9;omega
 have h3:l.length=2∨l.length=3∨l.length=4:=by omega
 have key:∀typ:Int,(typedF el l.length).1=typ→kA typ=(kd,(l.length:Int))→qY kd=false→kd≠17→(Ft.elemF typ).1=el→inlineB el=true→(inlineB typ=false∧legalB typ=true∧K5 typ=false∧zG typ=0)→el≠-1→qR x (x.vector jB el l.length l) (.mk kd 0 0 EMB [] ts) (15+9*l.length):=by
  intro typ h1 h2 h3 h4 h5 h6 h7 h8;refine AZ (len:=false) (jW:=false) (typ:=typ) h ht (fun s=>?_) (fun v hv=>cG (he v hv) (ht.near zo v hv).1) (by rw[h2,hl1];rfl) h4 h3 (fun _=>hne) (fun _ v hv=>⟨by rw[he v hv,h5],.inl (by rw[he v hv];exact h6)⟩) hl zo hr vC h7;rw[vp_of h8 h1,decide_eq_false (show ¬((l.length:Nat):Int)=0 by omega)]
 rcases hk with ⟨rfl,rfl⟩|⟨rfl,rfl⟩
 ·rcases h3 with h3|h3|h3
  ·rw[h3] at key⊢;exact key 16 mF zd zd zd zd zd zd zd
  ·rw[h3] at key⊢;exact key 19 mF zd zd zd zd zd zd zd
  ·rw[h3] at key⊢;exact key 22 mF zd zd zd zd zd zd zd
 ·rcases h3 with h3|h3|h3
  ·rw[h3] at key⊢;exact key 17 mF zd zd zd zd zd zd zd
  ·rw[h3] at key⊢;exact key 20 mF zd zd zd zd zd zd zd
  ·rw[h3] at key⊢;exact key 23 mF zd zd zd zd zd zd zd
def K4 (l:List ByteArray):Nat:=(l.map fun k=>k.size+1).sum
theorem lZ {jB:Int} {sh:Bool}:∀(l:List ByteArray) {x:BS},Inv x→(∀k∈l,vG k=0)→(x.s.1.length:Int)+K4 l≤jB →
 ∃e,Inv (x.putAll jB sh l).2∧(x.putAll jB sh l).2.s.1=x.s.1++e∧e.length≤K4 l∧(x.putAll jB sh l).2.stk=x.stk∧zL (x.putAll jB sh l).2.s.1 (x.putAll jB sh l).1 (l.map aE)∧(∀v∈(x.putAll jB sh l).1,v.1=4)∧∀c:Int,c < x.s.1.length→yI (x.putAll jB sh l).2.names c=yI x.names c
 | [],x,h,_,_=>⟨[],h,by simp[BS.putAll],Nat.zero_le _,rfl,zL.nil _,by simp[BS.putAll],fun _ _=>rfl⟩
 | k::r,x,h,hk,hr=>by
  simp only[K4,List.map_cons,List.sum_cons] at hr;obtain⟨a,e,h1,h2,h3,h4,h5,h6,h7,h8⟩:=put_ok (jB:=jB) (sh:=sh) h (hk k zp2) zo;have kI:(x.put jB sh k).2.s.1.length=x.s.1.length+e.length:=by rw[h3,List.length_append]
  obtain⟨e2,g1,g2,g3,g4,g5,g6,g7⟩:=lZ (jB:=jB) (sh:=sh) r h2 (fun q hq=>hk q (by simp[hq])) (by unfold K4;omega);simp only[BS.putAll];refine⟨e++e2,g1,by rw[g2,h3,List.append_assoc],by rw[List.length_append];simp only[K4,List.map_cons,List.sum_cons] at g3⊢;omega,by rw[g4,h5],?_,?_,fun c hc=>?_⟩
  ·refine zL.cons ?_ g5;rw[g2,h1];exact h6.more _
  ·intro v hv;rcases List.mem_cons.1 hv with rfl|hv
   ·rw[h1]
   ·exact g6 v hv
  ·rw[g7 c zo,h8 c hc]
theorem D4 {jB:Int} {sh:Bool} {l:List ByteArray} {x:BS} (h:Inv x) (hk:∀k∈l,vG k=0) (hl:x.stk.length+1≤65536) (hll:l.length≤65536) (hr:(x.s.1.length:Int)+(K4 l+(15+9*l.length):Nat)≤jB) (vC:jB≤1048576) :
 qR x (x.keyVec jB sh l) (.mk 13 0 0 EMB [] (l.map aE)) (K4 l+(15+9*l.length)):=by
 obtain⟨e,h1,h2,h3,h4,h5,h6,h7⟩:=lZ (jB:=jB) (sh:=sh) l h hk zo;unfold BS.keyVec;rw[if_pos h.e0];have kI:(x.putAll jB sh l).2.s.1.length=x.s.1.length+e.length:=by rw[h2,List.length_append]
 have hn:(x.putAll jB sh l).1.length=l.length:=by rw[h5.1,List.length_map]
 generalize hY:x.putAll jB sh l=Y at *;have hP:=dM (jB:=jB) (el:=4) (typ:=14) (kd:=13) h1 h5 zd mF zd zd zd h6 ⟨by decide,.inr rfl⟩ (by rw[h4];exact hl) zo (by rw[hn];omega) vC zd;obtain⟨e2,g1,g2⟩:=hP.grow;obtain⟨v,g3,g4⟩:=hP.push;refine⟨hP.inv,⟨e++e2,by rw[g1,h2,List.append_assoc],by rw[List.length_append];rw[hn] at g2;omega⟩,⟨v,by rw[g3,h4],g4⟩,fun a ha=>?_⟩;rw[hP.nms a zo,h7 a ha]
/-! ### what names a list of keys -/
theorem l4:∀{a b A B:List UInt8},(0:UInt8)∉a→(0:UInt8)∉b→a++0::A=b++0::B→a=b∧A=B
 | [],[],A,B,_,_,h=>by simp at h;exact⟨rfl,h⟩
 | [],y::b,A,B,_,hb,h=>by simp at h;exact absurd h.1 (fun e=>hb (by simp[← e]))
 | x::a,[],A,B,ha,_,h=>by simp at h;exact absurd h.1 (fun e=>ha (by simp[e]))
 | x::a,y::b,A,B,ha,hb,h=>by
  simp only[List.cons_append,List.cons.injEq] at h;obtain⟨h1,h2⟩:=l4 (fun e=>ha (by simp[e])) (fun e=>hb (by simp[e])) h.2;exact⟨by rw[h.1,h1],h2⟩
theorem bN (l:List ByteArray):(k8 l).data.toList=l.flatMap fun k=>k.data.toList++[0]:=by
 have:∀(l:List ByteArray) (a:ByteArray),(l.foldl (fun a k=>a++(k++⟨#[0]⟩)) a).data.toList=a.data.toList++l.flatMap fun k=>k.data.toList++[0]:=by
  intro l
  induction l with
  | nil=>intro a;simp
  | cons k r ih=>intro a;rw[List.foldl_cons,ih];simp
 have h:=this l ByteArray.empty;have he:ByteArray.empty.data.toList=[]:=rfl;rw[he,List.nil_append] at h;exact h
theorem wG:∀{a b:List ByteArray},(∀k∈a,vG k=0)→(∀k∈b,vG k=0)→k8 a=k8 b→a=b:=by
 have key:∀{a b:List ByteArray},(∀k∈a,vG k=0)→(∀k∈b,vG k=0)→(a.flatMap fun k=>k.data.toList++[0])=(b.flatMap fun k=>k.data.toList++[(0:UInt8)])→a=b:=by
  intro a
  induction a with
  | nil=>
   intro b _ _ h
   cases b with
   | nil=>rfl
   | cons y b=>simp at h
  | cons x a ih=>
   intro b ha hb h
   cases b with
   | nil=>simp at h
   | cons y b=>
    simp only[List.flatMap_cons,List.append_assoc,List.cons_append,List.nil_append] at h;obtain⟨h1,h2⟩:=l4 (tO (ha x zp2)) (tO (hb y zp2)) h;rw[bytes_inj h1,ih (fun k hk=>ha k (by simp[hk])) (fun k hk=>hb k (by simp[hk])) h2]
 intro a b ha hb h;refine key ha hb ?_;rw[← bN,← bN,h]
theorem A0 {jB:Int} {sh:Bool} {x:BS} {keys:List V3} {names:List ByteArray} (h:Inv x) (hk:zL x.s.1 keys (names.map aE)) (h4:∀v∈keys,v.1=4) (hz:∀k∈names,vG k=0) (hll:keys.length≤65536) (hr:(x.s.1.length:Int)+(15+9*keys.length:Nat)≤jB) (vC:jB≤1048576) :
 let g:=qE x.lists (k8 names)
 let x1:BS:=if g.2 && sh then x else
  let q:=z8 jB 4 0 keys x.s
  ({x with s:=q.2,e:=zH x.e q.1.2,lists:=yZ (k8 names) x.vals.length x.lists,vals:=x.vals++[q.1.1]}:BS)
 let i:Int:=if g.2 && sh then g.1 else x.vals.length
 ∃e,Inv x1∧x1.s.1=x.s.1++e∧e.length≤15+9*keys.length∧x1.stk=x.stk∧x1.names=x.names∧fZ x1.s.1 (x1.vals.getD i.toNat (0,0,0)) names:=by
 dsimp only;by_cases hg:((qE x.lists (k8 names)).2 && sh)=true
 ·rw[if_pos hg,if_pos hg];rw[Bool.and_eq_true] at hg;have hm:qE x.lists (k8 names)=((qE x.lists (k8 names)).1,true):=by rw[← hg.1]
  obtain⟨h0,v,nm,h1,h2,h3,h5⟩:=h.lists _ (lW hm);have:nm=names:=wG h5 hz h3;subst this;refine⟨[],h,by simp,Nat.zero_le _,rfl,rfl,?_⟩;rw[List.getD_eq_getElem?_getD,h1];exact h2
 ·rw[if_neg hg,if_neg hg];have hb:x.s.1.length≤1048576:=by omega
  obtain⟨b,hbe⟩:∃b,x.s.1=b:=⟨_,rfl⟩;have hxs:x.s=(b,0):=by rw[h.s,hbe]
  rw[hbe] at hk hr hb;obtain⟨X,hX⟩:∃X,allF keys (0,0,0) b.length 1=X:=⟨_,rfl⟩;obtain⟨p,hp⟩:∃p,(b.length:Int)+j5 b X+X=p:=⟨_,rfl⟩;obtain⟨hw,hH,hmod,hge,hlt,kI,hin⟩:=heldB (len:=true) (jW:=false) hb zo (hk.near hb) (by simpa using hX) (by simpa using hp);have hwp:=kW hw;have hle:=tY hw true false b keys;have hput:=B0 (jB:=jB) (T:=kJ 4) (len:=true) (jW:=false) (kind:=14) (fun v hv=>cG (h4 v hv) (hk.near hb v hv).1) hb zo (hk.near hb) (by simpa using hX) zo;have hpl:=Y7 hw true false b keys;have hbody:=AV hk h4 hb hll hX hp
  have hvp:z8 jB 4 0 keys x.s=(((14,X,p),0),(b++(JE X true false b keys).flatten,0)):=by
   rw[vp_of (typ:=14) zd mF,hxs];have:((b.length:Int)+j5 b X+if true=true then X else 0)=p:=by rw[if_pos rfl];exact hp
   rw[this] at hput;exact hput
  rw[hvp];obtain⟨R,hR⟩:∃R,(JE X true false b keys).flatten=R:=⟨_,rfl⟩;rw[hR] at hpl hH hbody⊢;dsimp only;have hI:=h.ext R x.stk;rw[hbe] at hI;have hXl:=hH.len;simp only[Bool.false_eq_true,if_false,Int.add_zero] at hXl;have hmul0:0≤X*(keys.length:Int):=Int.mul_nonneg zo zo;have hKV:fZ (b++R) (14,X,p) names:=⟨rfl,hw,by show 0≤p;omega,by show p≤((b++R).length:Int);omega,by show p - X < ((b++R).length:Int);omega,fun e=>hbody e⟩;refine⟨R,⟨by show zH x.e 0=0;rw[h.e0];rfl,rfl,hI.keys,hI.texts,fun z hz'=>?_,hI.names,by have h1:=h.vals;rw[hbe] at h1;show (x.vals++[(14,X,p)]).length≤(b++R).length;rw[List.length_append,List.length_singleton];omega⟩,by rw[hbe],by omega,rfl,rfl,?_⟩
  ·rcases V9 hz' with hz'|⟨rfl,_⟩
   ·obtain⟨h0,v,nm,h1,h2,h3⟩:=hI.lists z hz';refine⟨h0,v,nm,?_,h2,h3⟩;show (x.vals++[(14,X,p)])[z.2.toNat]? = some v;rw[List.getElem?_append_left (List.getElem?_eq_some_iff.1 h1).1];exact h1
   ·refine⟨by show (0:Int)≤x.vals.length;omega,(14,X,p),names,?_,hKV,rfl,hz⟩;show (x.vals++[(14,X,p)])[((x.vals.length:Nat):Int).toNat]? = _;rw[Int.toNat_natCast,List.getElem?_append_right (Nat.le_refl _)];simp
  ·show fZ (b++R) ((x.vals++[(14,X,p)]).getD ((x.vals.length:Nat):Int).toNat (0,0,0)) names;rw[Int.toNat_natCast,List.getD_eq_getElem?_getD,List.getElem?_append_right (Nat.le_refl _)];simpa using hKV
theorem GZ {jB:Int} {sh:Bool} {x:BS} {keys vals:List V3} {names:List ByteArray} {ts:List Tr} (h:Inv x) (hk:zL x.s.1 keys (names.map aE)) (h4:∀v∈keys,v.1=4) (hz:∀k∈names,vG k=0) (hi:eD names=true) (hv:zL x.s.1 vals ts) (hnl:names.length=ts.length)
 (hl:x.stk.length+1≤65536) (hll:keys.length≤65536) (hr:(x.s.1.length:Int)+(46+18*keys.length:Nat)≤jB) (vC:jB≤1048576) :
 qR x (x.table jB sh (k8 names) keys vals) (.mk 17 0 0 EMB names ts) (46+18*keys.length):=by
 obtain⟨e,h1,h2,h3,h5,h6,h7⟩:=A0 (jB:=jB) (sh:=sh) h hk h4 hz hll zo vC;unfold BS.table;dsimp only at h1 h2 h3 h5 h6 h7⊢;generalize (if ((qE x.lists (k8 names)).2 && sh)=true then x else {s:=(z8 jB 4 0 keys x.s).2,e:=zH x.e (z8 jB 4 0 keys x.s).1.2,stk:=x.stk,keys:=x.keys,texts:=x.texts,lists:=yZ (k8 names) (x.vals.length:Int) x.lists,names:=x.names,vals:=x.vals++[(z8 jB 4 0 keys x.s).1.1]}:BS)=x1 at *;generalize x1.vals.getD (if ((qE x.lists (k8 names)).2 && sh)=true then (qE x.lists (k8 names)).1 else (x.vals.length:Int)).toNat (0,0,0)=k at *;rw[if_pos h1.e0];have hkl:keys.length=names.length:=by have:=hk.1;rw[List.length_map] at this;exact this
 have hvn:=hv.1;have kI:x1.s.1.length=x.s.1.length+e.length:=by rw[h2,List.length_append]
 have hv1:zL x1.s.1 vals ts:=by rw[h2];exact hv.more e
 have hb:x1.s.1.length≤1048576:=by omega
 obtain⟨b,hbe⟩:∃b,x1.s.1=b:=⟨_,rfl⟩;have hxs:x1.s=(b,0):=by rw[h1.s,hbe]
 rw[hbe] at hv1 hb h7 kI;have hK:fP b.length k:=⟨h7.typ,h7.isw,h7.n0,h7.n1⟩;obtain⟨X,hX⟩:∃X,allF vals k b.length 3=X:=⟨_,rfl⟩;obtain⟨p,hp⟩:∃p,(b.length:Int)+j5 b X+3*X=p:=⟨_,rfl⟩;obtain⟨hw,hH,hmod,hge,hlt,hin,hkn⟩:=heldM hb zo (hv1.near hb) hK hX hp;have hwp:=kW hw;have hle:=lenM_le hw b vals;have hput:=putM_ok (jB:=jB) hb zo (hv1.near hb) hK hX zo;rw[hp] at hput;have hpl:=V8 hw k b vals;have hbody:=GV hv1 h7 hi hnl hb zo hX hp;obtain⟨R,hR⟩:∃R,(KA X k b vals).flatten=R:=⟨_,rfl⟩;rw[hR] at hput hpl hH hbody;rw[hxs,hput];dsimp only;have hI:=h1.ext R x1.stk;rw[hbe] at hI;rw[AW (x:={x1 with s:=(b++R,0)}) h1.e0,QQ (x:={x1 with s:=(b++R,0)}) hI _ (by dsimp only;rw[h5];exact hl)];have hI2:=h1.ext R (x1.stk++[(9,X,p)]);rw[hbe] at hI2;have hXl:=hH.len;have hmul0:0≤X*(vals.length:Int):=Int.mul_nonneg zo zo;refine⟨hI2,⟨e++R,by show b++R=_;rw[← hbe,h2,List.append_assoc],by rw[List.length_append];omega⟩,⟨(9,X,p),by show x1.stk++_=_;rw[h5],.inr ⟨by show inlineB 9=false;decide,by show legalB 9=true;decide,hw,by show 0≤p;omega,by show p≤((b++R).length:Int);omega,?_,fun f=>?_⟩⟩,fun a _=>by show yI x1.names a=_;rw[h6]⟩
 ·show p - zG 9*X < ((b++R).length:Int);rw[show zG 9=3 by decide];omega
 ·exact hbody f
/-! ### the stack's end as a map's entries -/
def fT (es:List (V3 × V3)):List V3:=es.flatMap fun p=>[p.1,p.2]
theorem l6 (names:List (Int × ByteArray)):∀es:List (V3 × V3),kZ names (fT es)=es.map fun p=>(yI names p.1.2.2,p.1,p.2)
 | []=>rfl
 | p::r=>by
  show (yI names p.1.2.2,p.1,p.2)::kZ names (fT r)=_;rw[l6 names r];rfl
theorem fU:∀es:List (V3 × V3),(∀p∈es,p.1.1=4)→qP (fT es)=true
 | [],_=>rfl
 | p::r,h=>by
  show (decide (p.1.1=4) && qP (fT r))=true;rw[fU r fun q hq=>h q (by simp[hq]),h p zp2];rfl
theorem wH:∀{l:List ByteArray},l.Pairwise (fun a b=>ltS a b=true)→eD l=true
 | [],_=>rfl
 | [_],_=>rfl
 | a::b::r,h=>by
  obtain⟨h1,h2⟩:=List.pairwise_cons.1 h;show (ltS a b && eD (b::r))=true;rw[h1 b zp2,wH h2];rfl
theorem A1 {α:Type} (l:List (ByteArray × α)) (h:(l.map Prod.fst).Pairwise fun a b=>ltS a b=true):vK l=l:=by
 have hnd:(l.map Prod.fst).Nodup:=h.imp fun {a b} hab e=>by rw[e,ZC] at hab;cases hab
 exact QX _ _ (qU l) (Z3 l hnd) (by rw[List.pairwise_map] at h;exact h)
theorem D5 {jB:Int} {sh:Bool} {x:BS} {K:List V3} {es:List (V3 × V3)} {names:List ByteArray} {ts:List Tr} (h:Inv x) (hst:x.stk=K++fT es) (hk:zL x.s.1 (es.map (·.1)) (names.map aE)) (h4:∀p∈es,p.1.1=4) (hnm:es.map (fun p=>yI x.names p.1.2.2)=names) (hz:∀k∈names,vG k=0)
 (hp:names.Pairwise fun a b=>ltS a b=true) (hv:zL x.s.1 (es.map (·.2)) ts) (hl:K.length+1≤65536) (hll:es.length≤65536) (hr:(x.s.1.length:Int)+(46+18*es.length:Nat)≤jB) (vC:jB≤1048576) :
 qR {x with stk:=K} (x.endMap jB sh K.length) (.mk 17 0 0 EMB names ts) (46+18*es.length):=by
 unfold BS.endMap;have hd:x.stk.drop ((K.length:Nat):Int).toNat=fT es:=by rw[hst,Int.toNat_natCast,List.drop_left]
 have hk2:x.stk.take ((K.length:Nat):Int).toNat=K:=by rw[hst,Int.toNat_natCast,List.take_left' rfl]
 rw[if_pos h.e0,if_pos ⟨by omega,by rw[hst,List.length_append];omega⟩];dsimp only;rw[hd,hk2,if_pos (fU es h4),l6];have hmap1:(es.map fun p=>(yI x.names p.1.2.2,p.1,p.2)).map (·.1)=names:=by rw[List.map_map];exact hnm
 have hself:vK (es.map fun p=>(yI x.names p.1.2.2,p.1,p.2))=es.map fun p=>(yI x.names p.1.2.2,p.1,p.2):=A1 _ (by rw[show (es.map fun p=>(yI x.names p.1.2.2,p.1,p.2)).map Prod.fst=names from hmap1];exact hp);have hnd:names.Nodup:=hp.imp fun {a b} hab e=>by rw[e,ZC] at hab;cases hab
 rw[hself,hmap1,if_pos hnd,List.map_map,List.map_map];have kI:names.length=es.length:=by rw[← hnm,List.length_map]
 have hvn:=hv.1;rw[List.length_map] at hvn;have hT:=GZ (jB:=jB) (sh:=sh) (x:={x with stk:=K}) (keys:=es.map (·.1)) (vals:=es.map (·.2)) (names:=names) (ts:=ts) (h.stk K) hk (fun v hv=>by obtain⟨p,hp,rfl⟩:=List.mem_map.1 hv;exact h4 p hp) hz (wH hp) hv zo hl (by rw[List.length_map];exact hll) (by rw[List.length_map];exact hr) vC;rw[List.length_map] at hT;exact hT
/-! ### the calls of a tree -/
mutual
def rP:Tr→Prop | .mk k n u s keys l=>(zO n∧J4 u)∧rngL l
def rngL:List Tr→Prop | []=>True | t::r=>rP t∧rngL r
end
theorem rngL_iff:∀{l:List Tr},rngL l↔∀x∈l,rP x
 | []=>by simp[rngL]
 | t::r=>by simp[rngL,rngL_iff (l:=r)]
mutual
theorem l7 {w:World}:∀{t:Tr} {v:Value},jM w t v→rP t
 | .mk k n u s keys l,v,⟨hb,kv,lv,vs,e,h1,h2,h3⟩=>⟨⟨hb.2.1,hb.2.2.1⟩,wI h3⟩
theorem wI {w:World}:∀{l:List Tr} {vs:List Value},yH w l vs→rngL l
 | [],_,_=>trivial
 | t::r,_,⟨v,vr,e,h1,h2⟩=>⟨l7 h1,wI h2⟩
end
theorem rQ {b:Nat} {t:Tr} (hv:QJ b t) (hk:t.kind=3):t=.mk 3 t.fn 0 EMB [] []:=by
 obtain⟨k,n,u,s,keys,l⟩:=t;obtain⟨_,h1,h2,_,h4,h5,h6⟩:=KV hv;simp only[Tr.kind] at hk;subst hk;rw[h1 zd,h2 zd,h5 zd zd,h6 zd zd zd];rfl
theorem rR {b:Nat} {t:Tr} (hv:QJ b t) (hk:t.kind=4):t=.mk 4 0 t.fu EMB [] []:=by
 obtain⟨k,n,u,s,keys,l⟩:=t;obtain⟨_,h1,h2,_,h4,h5,h6⟩:=KV hv;simp only[Tr.kind] at hk;subst hk;rw[h1 zd,h2 zd,h4 zd zd zd,h6 zd zd zd];rfl
theorem wJ {b:Nat} {t:Tr} (hv:QJ b t) (hk:t.kind=2):t=.mk 2 (if decide (t.fn=1)=true then 1 else 0) 0 EMB [] []:=by
 obtain⟨k,n,u,s,keys,l⟩:=t;obtain⟨_,h1,h2,_,h4,h5,h6⟩:=KV hv;simp only[Tr.kind] at hk;subst hk;have hb:=hv.2.1;simp only[kY,Bool.and_eq_true,decide_eq_true_eq,Bool.or_eq_true,Bool.not_eq_true'] at hb
 have hn:n=0∨n=1:=by
  have:=hb.1.1.1.2;simpa using this
 rw[h1 zd,h2 zd,h5 zd zd,h6 zd zd zd];rcases hn with rfl|rfl<;>simp[Tr.fn,EMB]
theorem rS {b:Nat} {t:Tr} (hv:QJ b t) (hk:t.kind=5):t=aE t.fs∧vG t.fs=0:=by
 obtain⟨k,n,u,s,keys,l⟩:=t;obtain⟨_,h1,h2,_,h4,h5,h6⟩:=KV hv;simp only[Tr.kind] at hk;subst hk;have hz:=hv.2.2.1;simp only[y8] at hz;constructor
 ·rw[h1 zd,h2 zd,h4 zd zd zd,h5 zd zd];rfl
 ·show vG s=0;rw[pW];by_cases hzz:vU s=true
  ·rw[if_pos ⟨trivial,hzz⟩] at hz;cases hz
  ·rw[if_neg hzz]
theorem D6 {b:Nat} {k n u:Int} {s:ByteArray} {keys:List ByteArray} {l:List Tr} (hv:QJ b (.mk k n u s keys l)) (hp:ZY k≠0):∀x∈l,x.kind=ZY k:=by
 have hb:=hv.2.1;simp only[kY,Bool.and_eq_true,decide_eq_true_eq,Bool.or_eq_true,Bool.not_eq_true'] at hb;have ho:=hb.2;intro x hx;rw[List.any_eq_false] at ho;have h1:=ho x hx;unfold qN at h1;simp only[Bool.and_eq_true,bne_iff_ne,ne_eq,not_and,Decidable.not_not] at h1;exact h1 hp
theorem YE {d:List UInt8} {f:Tr→V3}:∀{l:List Tr},(∀x∈l,B9 (f x) x)→zL d (l.map f) l
 | [],_=>zL.nil d
 | t::r,h=>zL.cons (.inl (h t zp2)) (YE fun x hx=>h x (by simp[hx]))
theorem G0 {b:Nat} {l:List Tr} (hv:∀x∈l,QJ b x) (hk:∀x∈l,x.kind=5):(l.map Tr.fs).map aE=l:=by
 rw[List.map_map]
 conv=>rhs;rw[← List.map_id l]
 exact List.map_congr_left fun x hx=>((rS (hv x hx) (hk x hx)).1).symm
theorem l8 {b:Nat}:∀{l:List Tr},K4 (l.map Tr.fs)+18*l.length≤J9 l
 | []=>by simp[K4,J9]
 | t::r=>by
  have ih:=l8 (b:=b) (l:=r);obtain⟨k,n,u,s,keys,q⟩:=t;simp only[K4,J9,Y0,List.map_cons,List.sum_cons,List.length_cons,Tr.fs] at ih⊢;omega
theorem wK:∀(l:List Tr),32*l.length≤J9 l
 | []=>by simp[J9]
 | t::r=>by have:=wK r;simp only[J9,List.length_cons];omega
theorem oX {jB jC:Int}:∀(l:List Tr) (x:BS),(∀t∈l,∀x:BS,Inv x→(x.s.1.length:Int)+Y0 t≤jB→x.stk.length+3*t.size≤65535→qR x (kT jB jC t x) t (Y0 t))→Inv x→(x.s.1.length:Int)+J9 l≤jB→x.stk.length+3*yG l≤65535 →
 ∃vs e,Inv (y6 jB jC l x)∧(y6 jB jC l x).s.1=x.s.1++e∧e.length+32*l.length≤J9 l∧(y6 jB jC l x).stk=x.stk++vs∧zL (y6 jB jC l x).s.1 vs l∧∀c:Int,c < x.s.1.length→yI (y6 jB jC l x).names c=yI x.names c
 | [],x,_,h,_,_=>⟨[],[],h,by simp[y6],by simp[J9],by simp[y6],zL.nil _,fun _ _=>rfl⟩
 | t::r,x,ih,h,hr,hs=>by
  simp only[J9] at hr;simp only[yG] at hs;have hP:=ih t zp2 x h zo zo;obtain⟨e,g1,g2⟩:=hP.grow;obtain⟨v,g3,g4⟩:=hP.push;have kI:(kT jB jC t x).s.1.length=x.s.1.length+e.length:=by rw[g1,List.length_append]
  have hz:=t.size_pos;obtain⟨vs,e2,i1,i2,i3,i4,i5,i6⟩:=oX r (kT jB jC t x) (fun q hq=>ih q (by simp[hq])) hP.inv zo (by rw[g3,List.length_append,List.length_singleton];omega);simp only[y6];refine⟨v::vs,e++e2,i1,by rw[i2,g1,List.append_assoc],by simp only[List.length_append,List.length_cons,J9];omega,by rw[i4,g3,List.append_assoc];rfl,zL.cons ?_ i5,fun c hc=>by rw[i6 c zo,hP.nms c hc]⟩;rw[i2];exact g4.more _
theorem oY {jB jC:Int}:∀(l:List Tr) (ks:List ByteArray) (x:BS),(∀t∈l,∀x:BS,Inv x→(x.s.1.length:Int)+Y0 t≤jB→x.stk.length+3*t.size≤65535→qR x (kT jB jC t x) t (Y0 t))→Inv x→ks.length=l.length→(∀k∈ks,vG k=0)→(x.s.1.length:Int)+(K4 ks+J9 l:Nat)≤jB→x.stk.length+1+3*yG l≤65535 →
 ∃es e,Inv (qQ jB jC l ks x)∧(qQ jB jC l ks x).s.1=x.s.1++e∧e.length+32*l.length≤K4 ks+J9 l∧(qQ jB jC l ks x).stk=x.stk++fT es∧zL (qQ jB jC l ks x).s.1 (es.map (·.1)) (ks.map aE)∧(∀p∈es,p.1.1=4)∧es.map (fun p=>yI (qQ jB jC l ks x).names p.1.2.2)=ks∧zL (qQ jB jC l ks x).s.1 (es.map (·.2)) l∧∀c:Int,c < x.s.1.length→yI (qQ jB jC l ks x).names c=yI x.names c
 | [],ks,x,_,h,hk,_,_,_=>by
  have:ks=[]:=List.length_eq_zero_iff.1 (by simpa using hk);subst this;exact⟨[],[],h,by simp[qQ],by simp[J9,K4],by simp[qQ,fT],zL.nil _,by simp,rfl,zL.nil _,fun _ _=>rfl⟩
 | t::r,[],x,_,h,hk,_,_,_=>by simp at hk
 | t::r,k::ks,x,ih,h,hk,hkz,hr,hs=>by
  simp only[J9,K4,List.map_cons,List.sum_cons] at hr;simp only[yG] at hs;have hz:=t.size_pos;obtain⟨hK,a,ka,kn,kl⟩:=GW (jB:=jB) (sh:=onF jC 1) h (hkz k zp2) zo zo;obtain⟨e0,q1,q2⟩:=hK.grow;obtain⟨v0,q3,q4⟩:=hK.push
  have ev:v0=(4,1,a):=by
   rw[ka] at q3;have:=List.append_cancel_left q3;simpa using this.symm
  subst ev;have hlen0:(x.key jB (onF jC 1) k).s.1.length=x.s.1.length+e0.length:=by rw[q1,List.length_append]
  have hP:=ih t zp2 (x.key jB (onF jC 1) k) hK.inv zo (by rw[ka,List.length_append,List.length_singleton];omega);obtain⟨e,g1,g2⟩:=hP.grow;obtain⟨v,g3,g4⟩:=hP.push;have kI:(kT jB jC t (x.key jB (onF jC 1) k)).s.1.length=x.s.1.length+e0.length+e.length:=by rw[g1,List.length_append,hlen0]
  obtain⟨es,e2,i1,i2,i3,i4,i5,i6,i7,i8,i9⟩:=oY r ks (kT jB jC t (x.key jB (onF jC 1) k)) (fun q hq=>ih q (by simp[hq])) hP.inv (by simpa using hk) (fun q hq=>hkz q (by simp[hq])) (by unfold K4;omega) (by rw[g3,ka,List.length_append,List.length_append,List.length_singleton,List.length_singleton];omega);simp only[qQ,List.headD_cons,List.tail_cons];refine⟨((4,1,a),v)::es,e0++(e++e2),i1,by rw[i2,g1,q1,List.append_assoc,List.append_assoc],by simp only[List.length_append,List.length_cons,J9,K4,List.map_cons,List.sum_cons] at i3⊢;omega,?_,?_,?_,?_,?_,fun c hc=>by rw[i9 c zo,hP.nms c zo,hK.nms c hc]⟩
  ·rw[i4,g3,ka,List.append_assoc,List.append_assoc];rfl
  ·refine zL.cons ?_ i5;rw[i2,g1];exact (q4.more _).more _
  ·intro p hp;rcases List.mem_cons.1 hp with rfl|hp
   ·rfl
   ·exact i6 p hp
  ·simp only[List.map_cons];rw[i7,i9 a zo,hP.nms a kl,kn]
  ·refine zL.cons ?_ i8;rw[i2];exact g4.more _
theorem qR.wide {x x':BS} {t:Tr} {c d:Nat} (h:qR x x' t c) (hd:c≤d):qR x x' t d:=by
 obtain⟨e,h1,h2⟩:=h.grow;exact⟨h.inv,⟨e,h1,Nat.le_trans h2 hd⟩,h.push,h.nms⟩
theorem qR.after {x y z:BS} {t:Tr} {c d:Nat} {e:List UInt8} {K:List V3} (h:qR {y with stk:=K} z t c) (hs:y.s.1=x.s.1++e) (hk:K=x.stk) (hd:e.length+c≤d) (hn:∀a:Int,a < x.s.1.length→yI y.names a=yI x.names a):qR x z t d:=by
 obtain⟨e2,h1,h2⟩:=h.grow;obtain⟨v,h3,h4⟩:=h.push;refine⟨h.inv,⟨e++e2,by rw[h1];show y.s.1++e2=_;rw[hs,List.append_assoc],by rw[List.length_append];omega⟩,⟨v,by rw[h3,← hk],h4⟩,fun a ha=>?_⟩;rw[h.nms a (by show a < (y.s.1.length:Int);rw[hs,List.length_append];omega)];exact hn a ha
theorem G6 {jB jC:Int} (vC:jB≤1048576):∀(m:Nat) (t:Tr) (b:Nat) (x:BS),t.size≤m→QJ b t→srtT t→rP t→Inv x→(x.s.1.length:Int)+Y0 t≤jB→x.stk.length+3*t.size≤65535→qR x (kT jB jC t x) t (Y0 t):=by
 intro m
 induction m with
 | zero=>intro t b x h;have:=t.size_pos;omega
 | succ m ihm=>
  intro t b x hz hv hs hr h hrm hst;obtain⟨k,n,u,s,keys,l⟩:=t;have hn:=KV hv;obtain⟨v0,v1,v2,v3,v4,v5,v6⟩:=hn;have qK:=valL_iff.1 hv.2.2.2;obtain⟨s1,s2⟩:=srt_iff.1 hs;have hrl:=rngL_iff.1 hr.2;have hr0:=hr.1;simp only[Tr.size] at hz hst;have hll:=KO l;have hlc:=wK l;simp only[Y0] at hrm;have ihl:∀t∈l,∀x:BS,Inv x→(x.s.1.length:Int)+Y0 t≤jB→x.stk.length+3*t.size≤65535→qR x (kT jB jC t x) t (Y0 t):=fun t ht y=>ihm t (b+1) y (by have:=ZO ht;omega) (qK t ht) (s2 t ht) (hrl t ht);have hpk:=D6 hv;simp only[kT,Y0]
  have hsk:k≤9→kT jB jC (.mk k n u s keys l) x=ZW jB jC k n u s x:=fun h9=>by
   simp only[kT];rw[if_neg zo,if_neg zo,if_neg zo,if_neg zo,if_neg zo,if_neg zo,if_neg zo,if_neg zo]
  have hk17:=BQ k v0.1 v0.2;rcases hk17 with rfl|rfl|rfl|rfl|rfl|rfl|rfl|rfl|rfl|rfl|rfl|rfl|rfl|rfl|rfl|rfl|rfl
  ·-- null
   obtain rfl:=v1 zd;obtain rfl:=v2 zd;obtain rfl:=v4 zd zd zd;obtain rfl:=v5 zd zd;obtain rfl:=v6 zd zd zd;exact (aX h (.inl ⟨rfl,rfl⟩) zo).wide zo
  ·have hkb:=wJ hv rfl;have hP:=aX (v:=yR (decide (n=1))) (t:=.mk 2 n u s keys l) h (.inr (.inl ⟨decide (n=1),rfl,hkb⟩)) zo;exact hP.wide zo
  ·have hkb:=rQ hv rfl;have hP:=aX (v:=qS n) (t:=.mk 3 n u s keys l) h (.inr (.inr (.inl ⟨n,hr0.1,rfl,hkb⟩))) zo;exact hP.wide zo
  ·have hkb:=rR hv rfl;have hP:=aX (v:=qT u) (t:=.mk 4 n u s keys l) h (.inr (.inr (.inr ⟨u,hr0.2,rfl,hkb⟩))) zo;exact hP.wide zo
  ·obtain⟨hkb,hke⟩:=rS hv rfl;rw[hkb];exact (GW h hke (by show _+((s.size:Int)+1)≤_;omega) zo).1.wide (by show s.size+1≤_;omega)
  ·obtain rfl:=v1 zd;obtain rfl:=v2 zd;obtain rfl:=v4 zd zd zd;obtain rfl:=v5 zd zd;exact (GY h zo zo vC).wide zo
  ·obtain rfl:=v1 zd;obtain rfl:=v2 zd;obtain rfl:=v4 zd zd zd;obtain rfl:=v5 zd zd;exact (D3 h zo zo vC).wide zo
  ·obtain rfl:=v1 zd;obtain rfl:=v2 zd;obtain rfl:=v5 zd zd;obtain rfl:=v6 zd zd zd;exact (wE h zo zo vC (.inl ⟨rfl,n,hr0.1,rfl,rfl⟩)).wide zo
  ·obtain rfl:=v1 zd;obtain rfl:=v2 zd;obtain rfl:=v4 zd zd zd;obtain rfl:=v6 zd zd zd;exact (wE h zo zo vC (.inr ⟨rfl,u,hr0.2,rfl,rfl⟩)).wide zo
  ·-- untyped vector
   obtain rfl:=v2 zd;obtain rfl:=v4 zd zd zd;obtain rfl:=v5 zd zd;obtain rfl:=v6 zd zd zd;obtain⟨vs,e,i1,i2,i3,i4,i5,i6⟩:=oX l x ihl h zo zo;have hvl:=i5.1;have kI:(y6 jB jC l x).s.1.length=x.s.1.length+e.length:=by rw[i2,List.length_append]
   have hE:(y6 jB jC l x).endVec jB x.stk.length=({y6 jB jC l x with stk:=x.stk}:BS).vector jB (-1) 0 vs:=by
    unfold BS.endVec;rw[if_pos i1.e0,if_pos ⟨by omega,by rw[i4,List.length_append];omega⟩,i4,Int.toNat_natCast,List.drop_left,List.take_left' rfl]
   show qR x ((y6 jB jC l x).endVec jB x.stk.length) _ _;rw[hE];have hP:=AZ (jB:=jB) (elem:=-1) (many:=0) (typ:=10) (kd:=10) (len:=true) (jW:=true) (T:=kE) (x:={y6 jB jC l x with stk:=x.stk}) (i1.stk x.stk) i5 (fun s=>rfl) (fun v hv=>(i5.near zo v hv).1) (by show kA 10=(10,0);decide) zd zd (fun e=>by cases e) (fun e=>by cases e) (by show x.stk.length+1≤_;omega) zo (by show ((y6 jB jC l x).s.1.length:Int)+_≤jB;omega) vC zd;exact hP.after i2 rfl zo i6
  ·obtain rfl:=v2 zd;obtain rfl:=v4 zd zd zd;obtain rfl:=v5 zd zd;obtain rfl:=v6 zd zd zd;have hkk:=hpk zd;have hT:zL x.s.1 (l.map fun t=>qS t.fn) l:=YE fun t ht=>.inr (.inr (.inl ⟨t.fn,by have:=(hrl t ht);cases t;exact this.1.1,rfl,rQ (qK t ht) (hkk t ht)⟩));have hP:=dM (jB:=jB) (el:=1) (typ:=11) (kd:=11) h hT zd mF zd zd zd (fun v hv=>by obtain⟨t,_,rfl⟩:=List.mem_map.1 hv;rfl) ⟨by decide,.inl zd⟩ zo zp8 zp8 vC zd;rw[List.length_map] at hP;exact hP.wide zo
  ·obtain rfl:=v2 zd;obtain rfl:=v4 zd zd zd;obtain rfl:=v5 zd zd;obtain rfl:=v6 zd zd zd;have hkk:=hpk zd;have hT:zL x.s.1 (l.map fun t=>qT t.fu) l:=YE fun t ht=>.inr (.inr (.inr ⟨t.fu,by have:=(hrl t ht);cases t;exact this.1.2,rfl,rR (qK t ht) (hkk t ht)⟩));have hP:=dM (jB:=jB) (el:=2) (typ:=12) (kd:=12) h hT zd mF zd zd zd (fun v hv=>by obtain⟨t,_,rfl⟩:=List.mem_map.1 hv;rfl) ⟨by decide,.inl zd⟩ zo zp8 zp8 vC zd;rw[List.length_map] at hP;exact hP.wide zo
  ·obtain rfl:=v2 zd;obtain rfl:=v4 zd zd zd;obtain rfl:=v5 zd zd;obtain rfl:=v6 zd zd zd;have hkk:=hpk zd;have hmk:=G0 qK hkk;have hkc:=l8 (b:=0) (l:=l);have hP:=D4 (jB:=jB) (sh:=onF jC 1) (l:=l.map Tr.fs) h (fun q hq=>by obtain⟨t,ht,rfl⟩:=List.mem_map.1 hq;exact (rS (qK t ht) (hkk t ht)).2) zo zp8 zp8 vC;rw[List.length_map,hmk] at hP;exact hP.wide zo
  ·obtain rfl:=v2 zd;obtain rfl:=v4 zd zd zd;obtain rfl:=v5 zd zd;obtain rfl:=v6 zd zd zd;have hkk:=hpk zd;have hT:zL x.s.1 (l.map fun t=>yR (decide (t.fn=1))) l:=YE fun t ht=>.inr (.inl ⟨decide (t.fn=1),rfl,wJ (qK t ht) (hkk t ht)⟩);have hP:=dM (jB:=jB) (el:=26) (typ:=36) (kd:=14) h hT zd mF zd zd zd (fun v hv=>by obtain⟨t,_,rfl⟩:=List.mem_map.1 hv;rfl) ⟨by decide,.inl zd⟩ zo zp8 zp8 vC zd;rw[List.length_map] at hP;exact hP.wide zo
  ·obtain rfl:=v2 zd;obtain rfl:=v4 zd zd zd;obtain rfl:=v5 zd zd;obtain rfl:=v6 zd zd zd;have hkk:=hpk zd;have hT:zL x.s.1 (l.map fun t=>qS t.fn) l:=YE fun t ht=>.inr (.inr (.inl ⟨t.fn,by have:=(hrl t ht);cases t;exact this.1.1,rfl,rQ (qK t ht) (hkk t ht)⟩))
   have hfx:2≤l.length∧l.length≤4:=by
    have hb:=hv.2.1;simp only[kY,Bool.and_eq_true,decide_eq_true_eq,Bool.or_eq_true,Bool.not_eq_true'] at hb;have:=hb.1.2;simpa using this
   have hP:=wF (jB:=jB) (el:=1) (kd:=15) h hT (.inl ⟨rfl,rfl⟩) (fun v hv=>by obtain⟨t,_,rfl⟩:=List.mem_map.1 hv;rfl) (by rw[List.length_map];exact hfx) zo zp8 vC;rw[List.length_map] at hP;exact hP.wide zo
  ·obtain rfl:=v2 zd;obtain rfl:=v4 zd zd zd;obtain rfl:=v5 zd zd;obtain rfl:=v6 zd zd zd;have hkk:=hpk zd;have hT:zL x.s.1 (l.map fun t=>qT t.fu) l:=YE fun t ht=>.inr (.inr (.inr ⟨t.fu,by have:=(hrl t ht);cases t;exact this.1.2,rfl,rR (qK t ht) (hkk t ht)⟩))
   have hfx:2≤l.length∧l.length≤4:=by
    have hb:=hv.2.1;simp only[kY,Bool.and_eq_true,decide_eq_true_eq,Bool.or_eq_true,Bool.not_eq_true'] at hb;have:=hb.1.2;simpa using this
   have hP:=wF (jB:=jB) (el:=2) (kd:=16) h hT (.inr ⟨rfl,rfl⟩) (fun v hv=>by obtain⟨t,_,rfl⟩:=List.mem_map.1 hv;rfl) (by rw[List.length_map];exact hfx) zo zp8 vC;rw[List.length_map] at hP;exact hP.wide zo
  ·-- map
   obtain rfl:=v4 zd zd zd;obtain rfl:=v5 zd zd;obtain rfl:=v6 zd zd zd;obtain⟨hnd,hkl⟩:=v3 rfl
   have hkz:∀q∈keys,vG q=0:=by
    have hz:=hv.2.2.1;simp only[y8] at hz;rw[if_neg zd] at hz;intro q hq;rw[pW,((eF keys []).1 hz).1 q hq |>.1];rfl
   have hkc:K4 keys+31*l.length≤(keys.map fun k=>k.size+32).sum:=by
    rw[← hkl];clear hkz hnd hkl s1 v3 hv hs hr hrm hr0 hpk hsk
    induction keys with
    | nil=>simp[K4]
    | cons q r ih=>simp only[K4,List.map_cons,List.sum_cons,List.length_cons] at ih⊢;omega
   obtain⟨es,e,i1,i2,i3,i4,i5,i6,i7,i8,i9⟩:=oY l keys x ihl h hkl hkz zo zo;have hel:=i8.1;rw[List.length_map] at hel;have kI:(qQ jB jC l keys x).s.1.length=x.s.1.length+e.length:=by rw[i2,List.length_append]
   have hP:=D5 (jB:=jB) (sh:=onF jC 4) (K:=x.stk) i1 i4 i5 i6 i7 hkz s1 i8 zo zo zo vC;exact hP.after i2 rfl zo i9
mutual
def smT (K:Nat):Tr→Prop | .mk k n u s keys l=>(s.size≤K∧∀q∈keys,q.size≤K)∧smL K l
def smL (K:Nat):List Tr→Prop | []=>True | t::r=>smT K t∧smL K r
end
theorem smL_iff {K:Nat}:∀{l:List Tr},smL K l↔∀x∈l,smT K x
 | []=>by simp[smL]
 | t::r=>by simp[smL,smL_iff (l:=r)]
theorem cost_le {K:Nat}:∀(m:Nat) (t:Tr) (b:Nat),t.size≤m→QJ b t→smT K t→Y0 t+(32+K+32)≤(128+2*K)*t.size:=by
 intro m
 induction m with
 | zero=>intro t b h;have:=t.size_pos;omega
 | succ m ih=>
  intro t b h hv hs;obtain⟨k,n,u,s,keys,l⟩:=t;obtain⟨_,_,v3,v4,_⟩:=KV hv;have qK:=valL_iff.1 hv.2.2.2;have hsl:=smL_iff.1 hs.2;simp only[Tr.size] at h
  have vB:(keys.map fun q=>q.size+32).sum≤(K+32)*l.length:=by
   have h1:∀r:List ByteArray,(∀q∈r,q.size≤K)→(r.map fun q=>q.size+32).sum≤(K+32)*r.length:=by
    intro r
    induction r with
    | nil=>intro _;simp
    | cons q r ihr=>
     intro hq;have:=ihr fun z hz=>hq z (by simp[hz]);have:=hq q zp2;simp only[List.map_cons,List.sum_cons,List.length_cons,Nat.mul_add,Nat.mul_one] at this⊢;omega
   have h2:=h1 keys hs.1.2;by_cases e:k=17
   ·rw[(v4 e).2] at h2;exact h2
   ·rw[v3 e];simp
  have hl:∀r:List Tr,(∀x∈r,x∈l)→J9 r+(K+32)*r.length≤(128+2*K)*yG r:=by
   intro r
   induction r with
   | nil=>intro _;simp[J9,yG]
   | cons x r ihr=>
    intro hm;have h1:=ihr fun z hz=>hm z (by simp[hz]);have hx:=hm x zp2;have h2:=ih x (b+1) mE (qK x hx) (hsl x hx);simp only[J9,yG,List.length_cons,Nat.mul_add,Nat.mul_one] at h1⊢;omega
  have h3:=hl l fun _ h=>h;have h4:=hs.1.1;simp only[Y0,Tr.size,Nat.mul_add,Nat.mul_one] at h3⊢;omega
theorem rT {K:Nat}:∀(m:Nat) (t:Tr),t.size≤m→smT K t→smT K (zX t):=by
 intro m
 induction m with
 | zero=>intro t h;have:=t.size_pos;omega
 | succ m ih=>
  intro t h hs;obtain⟨k,n,u,s,keys,l⟩:=t;simp only[Tr.size] at h;have hsl:=smL_iff.1 hs.2;have hk:∀x∈l,smT K (zX x):=fun x hx=>ih x mE (hsl x hx);simp only[zX];by_cases e:k=17
  ·rw[if_pos e];refine⟨⟨hs.1.1,fun q hq=>?_⟩,smL_iff.2 fun x hx=>?_⟩
   ·obtain⟨p,hp,rfl⟩:=List.mem_map.1 hq;exact hs.1.2 _ (List.of_mem_zip ((qU _).mem_iff.1 hp)).1
   ·exact zb34
  ·rw[if_neg e,yY];refine⟨hs.1,smL_iff.2 fun x hx=>?_⟩;obtain⟨y,hy,rfl⟩:=List.mem_map.1 hx;exact hk y hy
theorem G7:∀(m:Nat) (t:Tr),t.size≤m→rP t→rP (zX t):=by
 intro m
 induction m with
 | zero=>intro t h;have:=t.size_pos;omega
 | succ m ih=>
  intro t h hs;obtain⟨k,n,u,s,keys,l⟩:=t;simp only[Tr.size] at h;have hsl:=rngL_iff.1 hs.2;have hk:∀x∈l,rP (zX x):=fun x hx=>ih x mE (hsl x hx);simp only[zX];by_cases e:k=17
  ·rw[if_pos e];refine⟨hs.1,rngL_iff.2 fun x hx=>?_⟩;obtain⟨p,hp,rfl⟩:=List.mem_map.1 hx;have h1:=(List.of_mem_zip ((qU _).mem_iff.1 hp)).2;rw[yY] at h1;obtain⟨y,hy,e⟩:=List.mem_map.1 h1;rw[← e];exact hk y hy
  ·rw[if_neg e,yY];refine⟨hs.1,rngL_iff.2 fun x hx=>?_⟩;obtain⟨y,hy,rfl⟩:=List.mem_map.1 hx;exact hk y hy
theorem cut_sm (K:Nat):∀(m:Nat) (t:Tr) (left:Nat),t.size≤m→smT K (vT K left t).1:=by
 intro m
 induction m with
 | zero=>intro t left h;have:=t.size_pos;omega
 | succ m ih=>
  intro t left h;obtain⟨k,n,u,s,keys,l⟩:=t;simp only[Tr.size] at h;simp only[vT];refine⟨⟨by rw[ZQ];exact Nat.min_le_right _ _,fun q hq=>?_⟩,?_⟩
  ·unfold yW at hq;obtain⟨z,_,rfl⟩:=List.mem_map.1 hq;rw[ZQ];exact Nat.min_le_right _ _
  ·have:∀(r:List Tr) (left:Nat),(∀x∈r,x∈l)→smL K (kF K left r).1:=by
    intro r
    induction r with
    | nil=>intro left _;simp[kF,smL]
    | cons x r ihr=>
     intro left hm;rw[kF];by_cases e:left=0
     ·rw[if_pos e];trivial
     ·rw[if_neg e];have hx:=hm x zp2;exact⟨ih x _ mE,ihr _ fun z hz=>hm z (by simp[hz])⟩
   exact this l left fun _ h=>h
structure pF (jB jC:Int) (t:Tr) (b:List UInt8) (v:V3):Prop where
 inv:Inv (kT jB jC (zX t) BS.new)
 s:(kT jB jC (zX t) BS.new).s=(b,0)
 stk:(kT jB jC (zX t) BS.new).stk=[v]
 tells:Z1 b v (zX t)
 len:b.length≤40000
theorem G8 {jC:Int} {t:Tr} (hc:JI t=0) (hsm:smT 60 t) (hr:rP t) (hz:t.size≤120):∃b v,pF 1048576 jC t b v:=by
 obtain⟨_,hv⟩:=check_val.1 hc;obtain⟨hv2,hz2⟩:=iW t.size t 0 (Nat.le_refl _) hv;have hcost:=cost_le (K:=60) _ (zX t) 0 (Nat.le_refl _) hv2 (rT _ t (Nat.le_refl _) hsm);have hP:=G6 (jB:=1048576) (jC:=jC) zd (zX t).size (zX t) 0 BS.new (Nat.le_refl _) hv2 (FM t.size t 0 (Nat.le_refl _) hv) (G7 _ t (Nat.le_refl _) hr) Inv.new (by show ((0:Nat):Int)+_≤_;omega) (by show 0+_≤_;omega);obtain⟨e,h1,h2⟩:=hP.grow;obtain⟨v,h3,h4⟩:=hP.push;rw[show BS.new.s.1=[] from rfl,List.nil_append] at h1;rw[show BS.new.stk=[] from rfl,List.nil_append] at h3;exact⟨e,v,hP.inv,by rw[hP.inv.s,h1],h3,by rw[← h1];exact h4,by omega⟩
theorem pF.near {jB jC:Int} {t:Tr} {b:List UInt8} {v:V3} (h:pF jB jC t b v):V7 b.length v:=h.tells.near (by have:=h.len;omega)
theorem pF.doc_len {jB jC:Int} {t:Tr} {b:List UInt8} {v:V3} (h:pF jB jC t b v):(aA b v).length≤40017∧b.length+3≤(aA b v).length:=by
 have hb:=h.len;have hw:=(QO zo h.near).1;have hl:=cD hw;have hp:=kW hw;have hpad:=dK b hw;omega
section
variable {m M:Int} {G H:Int→St→St}
end
/-! ### the builder's steps -/
section
variable {m M:Int} {f:Int→BS→BS}
end
end Go.Proofs.YtdjoffgkndncfaaGreat
