/-Texts-/
import Derived.Test.YtdjoffgkndncfaaGreatDOtherPAX
import Derived.Test.YtdjoffgkndncfaaGreatDOtherPBM
set_option linter.unusedVariables false
set_option linter.unusedSimpArgs false
namespace Go.Proofs.YtdjoffgkndncfaaGreat
open Go Go.ChangeShapes Go.WideShapes Go.ChangeAt Go.RowKit Go.Joins Go.Deep
open Ft (V3 vV okV ValsAt inlineB legalB packF codeF typedF allF oneF allAt headF fitsL fitsV fitsF belowW isA unpackF)
variable {typ at_ x u p lim a jB w:Int} {d e b:List UInt8} {t:Tr} {v:V3} {l:List V3} {len jX sh:Bool} {ts:List Tr} {names:List ByteArray} {k:ByteArray}
def DW (d:List UInt8) (typ wid at_:Int) (t:Tr):Bool:=if KM typ=true then qO d typ 0 0 wid at_ t else JK d typ wid at_ t
theorem MS (h:KM typ=true):typ=4∨typ=5∨typ=25∨typ=6∨typ=7:=by
 unfold KM at h;simp only[qv,zp] at h;omega
theorem MT {pos par wid:Int} (h:KM typ=true):qO d typ pos par wid at_ t=qO d typ 0 0 wid at_ t:=by
 rcases MS h with rfl|rfl|rfl|rfl|rfl<;>rfl
def DX (v:V3) (t:Tr):Prop:=
 (v=(0,1,0)∧t=.mk 1 0 0 EMB [] [])∨(∃b:Bool,v=y6 b∧t=.mk 2 (if b then 1 else 0) 0 EMB [] []) ∨
 (∃n,kY n∧v=vE n∧t=.mk 3 n 0 EMB [] [])∨(∃u,KG u∧v=vF u∧t=.mk 4 0 u EMB [] [])
structure farV (d:List UInt8) (v:V3) (t:Tr):Prop where
 far:inlineB v.1=false
 legal:legalB v.1=true
 isw:isW v.2.1=true
 n0:0≤v.2.2
 n1:v.2.2≤d.length
 lim:v.2.2 - zL v.1*v.2.1 < d.length
 body:∀e,DW (d++e) v.1 v.2.1 v.2.2 t=true
def YF (d:List UInt8) (v:V3) (t:Tr):Prop:=DX v t∨farV d v t
theorem YF.more (h:YF d v t) (e:List UInt8):YF (d++e) v t:=by
 rcases h with h|h
 ·exact .inl h
 refine .inr ⟨h.far,h.legal,h.isw,h.n0,?_,?_,λf=>by rw[qe];exact h.body _⟩
 ·have:=h.n1;rw[zb];omega
 have:=h.lim;rw[zb];omega
theorem Y7 (h:DX v t):inlineB v.1=true∧legalB v.1=true∧isW v.2.1=true∧0≤v.2.2∧v.2.2≤18446744073709551615:=by
 rcases h with ⟨rfl,_⟩|⟨b,rfl,_⟩|⟨n,hn,rfl,_⟩|⟨u,hu,rfl,_⟩
 ·exact⟨by decide,by decide,rfl,by decide,by decide⟩
 ·cases b<;>exact⟨by decide,by decide,rfl,by decide,by decide⟩
 ·exact⟨by show inlineB 1=true;decide,by show legalB 1=true;decide,dC n,by show 0≤n % _;omega,by show n % _≤_;omega⟩
 unfold KG at hu;exact⟨by show inlineB 2=true;decide,by show legalB 2=true;decide,JE _,hu.1,hu.2⟩
theorem YF.near (h:YF d v t) (hd:d.length≤1048576):aN d.length v:=by
 rcases h with h|h
 ·obtain⟨h1,h2,h3,h4,h5⟩:=Y7 h;refine⟨?_,⟨h4,h5⟩,λ_=>(zA h3).2,λe=>(by rw[h1] at e;cases e)⟩;unfold kG;rw[zl h2,zl h1]
 have h1:=h.n1;refine⟨?_,qa h.n0 zo,λe=>(by rw[h.far] at e;cases e),λ_=>h.n1⟩;unfold kG;rw[zl h.legal,ze (by rw[h.far];decide),zl h.isw]
theorem DY {n:Int} (hx:isW x=true) (hn:kY n) (hw:VO n≤x):sgnF (yD (n % 18446744073709551616) x) x=n:=by
 unfold kY at hn;unfold VO at hw;rcases zW hx with rfl|rfl|rfl|rfl
 all_goals
  unfold yD sgnF;simp only[Int.reduceToNat,Nat.reduceMul,Nat.reduceSub,Int.reducePow];split at hw
  ·split<;>omega
  split at hw
  ·split<;>omega
  split at hw
  ·split<;>omega
  split<;>omega
theorem DZ (hx:isW x=true) (hu:KG u) (hw:Ft.widthOf u.toNat≤x):yD u x=u:=by
 unfold KG at hu;unfold Ft.widthOf at hw;have p8:(2:Nat) ^ 8=256:=by decide
 have p16:(2:Nat) ^ 16=65536:=by decide
 have p32:(2:Nat) ^ 32=4294967296:=by decide
 rw[p8,p16,p32] at hw;rcases zW hx with rfl|rfl|rfl|rfl
 all_goals
  unfold yD;simp only[Int.reduceToNat,Nat.reduceMul,Int.reducePow]
  repeat' split at hw
  all_goals omega
theorem JQ (k n u:Int) (s:ByteArray):yB (.mk k n u s [] []) k n u s=true:=bare_iff.2 rfl
theorem fY (h:k7 d p x=(u,0)) (h1:u≤9007199254740992):yF d p x=(u,true):=by
 unfold yF;rw[h];simp only[Int.min_eq_left h1,decide_true,Bool.true_and,qt h1]
theorem MU (h:inlineB v.1=false):YM x p v=p - v.2.2:=by unfold YM;rw[h];simp
theorem FW (h:inlineB v.1=true):YM x p v=yD v.2.2 x:=by unfold YM;rw[zl h]
theorem fZ {d0:List UInt8} (h:YF d0 v t) (hx:isW x=true) (hl:k7 (d0++e) p x=(YM x p v,0)) (hi:inlineB v.1=true→v.2.1≤x) (hp:(d0.length:Int)≤p) (hp2:p≤9007199254740992) (hlim:(d0.length:Int)≤lim) :
 JY (d0++e) v.1 p x (if inlineB v.1 then x else v.2.1) lim t=true:=by
 rw[bK];rcases h with h|h
 ·obtain⟨h1,h2,h3,h4,h5⟩:=Y7 h;rw[zl h1,ze (by rw[hx,h2];decide),zl h1];have hwd:=hi h1;rw[FW h1] at hl;rcases h with ⟨rfl,rfl⟩|⟨b,rfl,rfl⟩|⟨n,hn,rfl,rfl⟩|⟨u,hu,rfl,rfl⟩
  ·show dQ _ p x _=true;unfold dQ;rw[hl,JQ];rfl
  ·show gQ _ p x _=true;unfold gQ;rw[hl];have hp:=zA hx
   have h0:yD (y6 b).2.2 x=if b then 1 else 0:=by
    rcases zW hx with rfl|rfl|rfl|rfl<;>cases b<;>decide
   rw[h0];cases b
   ·simp only[Bool.false_eq_true,if_false,if_true];rw[JQ];rfl
   simp only[if_true];rw[ze zd,JQ];rfl
  ·rw[show qO (d0++e) (vE n).1 p x x 0 (.mk 3 n 0 EMB [] [])=sP (d0++e) p x (.mk 3 n 0 EMB [] []) from rfl];unfold sP vU;rw[mL hl,hl];rw[show (vE n).2.2=n % 18446744073709551616 from rfl,DY hx hn hwd];simp only[Tr.kind,JQ,ne_eq,not_true_eq_false,if_false,if_true,decide_true,Bool.and_self]
  rw[show qO (d0++e) (vF u).1 p x x 0 (.mk 4 0 u EMB [] [])=dR (d0++e) p x (.mk 4 0 u EMB [] []) from rfl];unfold dR vU;rw[hl];rw[show (vF u).2.2=u from rfl,DZ hx hu hwd];simp only[Tr.kind,JQ,ne_eq,not_true_eq_false,if_false,decide_true,Bool.and_self];rw[ze zd];rfl
 rw[h.far];simp only[Bool.false_eq_true,if_false];rw[ze (by rw[hx,h.isw,h.legal];decide)];have hN:=h.n0;have hN1:=h.n1;rw[MU h.far] at hl;have hnum:=fY hl zo
 have hfb:cO (d0++e) v.1 p x v.2.1 lim=true:=by
  unfold cO;rw[hnum];have:=h.lim;simp only[Bool.true_and,zg,zp];omega
 rw[ze (by rw[hfb];decide),hnum];have hb:=h.body e;unfold DW at hb;rw[show p - (p - v.2.2,true).1=v.2.2 by simp only;omega];split
 ·rename_i hf;rw[zl hf] at hb;rw[MT hf];exact hb
 rename_i hf;rw[ze hf] at hb;exact hb
theorem MV {w1 w2:Int} (h1:isW w1=true) (h2:isW w2=true):JY d 4 p x w1 lim t=JY d 4 p x w2 lim t:=by
 have ha:zL 4=0:=by decide
 have hfb:cO d 4 p x w1 lim=cO d 4 p x w2 lim:=by unfold cO;rw[ha];simp
 rw[bK,bK,h1,h2,hfb];rfl
structure HeldB (x p:Int) (jX:Bool) (b X:List UInt8) (l:List V3):Prop where
 head:X.take b.length=b
 len:(X.length:Int)=p+x*l.length+(if jX then (l.length:Int) else 0)
 elem:∀(k:Nat) (v:V3),l[k]? = some v→k7 X (p+k*x) x=(YM x (p+k*x) v,0)
 tag:jX=true→∀(k:Nat) (v:V3),l[k]? = some v→X[(p+l.length*x).toNat+k]? = some (KE x v)
theorem heldB (hn:b.length≤1048576) (hl:l.length≤1048576) (h:∀v∈l,aN b.length v) (hx:allF l (0,0,0) b.length (if len then 1 else 0)=x) (hp:(b.length:Int)+j8 b x+(if len then x else 0)=p) :
 isW x=true∧HeldB x p jX b (b++(JW x len jX b l).flatten) l∧(p - (if len then x else 0)) % x=0∧(b.length:Int)≤p - (if len then x else 0)∧p - (if len then x else 0) < b.length+x∧(len=true→k7 (b++(JW x len jX b l).flatten) (p - x) x=((l.length:Int),0))∧(∀v∈l,inlineB v.1=true→v.2.1≤x):=by
 obtain⟨_,x0,hw,qG⟩:=fP (n:=b.length) (ahead:=if len then 1 else 0) (by cases len<;>simp) zo zo hl h;rw[hx] at hw qG;have hwp:=zA hw
 have hfit:fitsL l b.length (if len then 1 else 0) x=true:=by
  have h:=qG;unfold allAt at h;simp only[zg] at h;exact h.2
 have hpad:=dL (l:=b) hw;have hpe:=cV hw b;have hfe:fitE x p l:=eI hw l (if len then 1 else 0) p (by rw[← hp,hpe];cases len<;>simp) (by cases len<;>simp) hfit
 have hlenf:len=true→(l.length:Int) < 2 ^ (8*x.toNat):=by
  intro hl1;subst hl1;have h:=qG;unfold allAt headF at h;simp only[zg,belowW] at h;have:=h.1.1;simpa using this
 have hpieces:(JW x len jX b l).flatten=(kD (j8 b x)++(if len then k8 x.toNat l.length else []))++(QA x p l).flatten++(if jX then l.map (KE x) else []):=by
  unfold JW;rw[hp];cases len<;>cases jX<;>simp[eJ]
 have hAl:((b++(kD (j8 b x)++(if len then k8 x.toNat l.length else []))).length:Int)=p:=by
  rw[← hp];cases len<;>simp[jT,kF]<;>omega
 have hEl:=Z8 hw l p;refine⟨hw,⟨?_,?_,?_,?_⟩,?_,?_,?_,?_,?_⟩
 ·exact List.take_left' rfl
 ·rw[hpieces];rw[← qe,← qe,zb,zb];cases jX
  ·simp only[Bool.false_eq_true,if_false,qg] at hAl⊢;omega
  simp only[if_true,qb] at hAl⊢;omega
 ·intro k v hk;obtain⟨A,C,hA,hAk⟩:=tA hw l p k v hk;have hb:=mK l p k v hfe hk;refine ZE (A:=b++(kD (j8 b x)++(if len then k8 x.toNat l.length else []))++A) (C:=C++(if jX then l.map (KE x) else [])) hw ?_ ?_ hb.1 hb.2
  ·rw[hpieces,hA];simp only[qe]
  rw[zb];omega
 ·intro ht k v hk;subst ht
  have hXl:(b++(kD (j8 b x)++(if len then k8 x.toNat l.length else []))++(QA x p l).flatten).length=(p+l.length*x).toNat:=by
   rw[zb];have:(l.length:Int)*x=x*l.length:=Int.mul_comm _ _;omega
  rw[hpieces,← qe,← qe,← hXl,qs zo,Nat.add_sub_cancel_left,zl rfl,xj,hk];rfl
 ·have:p - (if len then x else 0)=((b.length:Int)+x - 1) / x*x:=by rw[← hp,← hpe];cases len<;>simp<;>omega
  rw[this];exact Int.mul_emod_left _ _
 ·rw[← hp];cases len<;>simp<;>omega
 ·rw[← hp];cases len<;>simp<;>omega
 ·intro hl1;subst hl1;simp only[if_true] at hp hpieces hAl⊢;refine ZE (A:=b++kD (j8 b x)) (C:=(QA x p l).flatten++(if jX then l.map (KE x) else [])) hw ?_ ?_ zo (hlenf rfl)
  ·rw[hpieces];simp only[qe,Int.toNat_natCast]
  rw[zb,jT];omega
 intro v hv hi;obtain⟨k,hk,hkv⟩:=List.getElem_of_mem hv;have:=fQ l _ _ x k v hfit (by rw[za hk,hkv]);unfold fitsV fitsF at this;rw[zl hi] at this;exact xo this
def zT (d:List UInt8) (l:List V3) (ts:List Tr):Prop:=l.length=ts.length∧∀(i:Nat) v t,l[i]? = some v→ts[i]? = some t→YF d v t
theorem zT.more (h:zT d l ts) (e:List UInt8):zT (d++e) l ts:=⟨h.1,λi v t hv ht=>(h.2 i v t hv ht).more e⟩
theorem zT.near (h:zT d l ts) (hd:d.length≤1048576):∀v∈l,aN d.length v:=by
 intro v hv;obtain⟨k,hk,rfl⟩:=List.getElem_of_mem hv;have hk2:k < ts.length:=by rw[← h.1];exact hk
 exact (h.2 k _ _ (za hk) (za hk2)).near hd
theorem zT.nil (d:List UInt8):zT d [] []:=⟨rfl,λi v t h=>by simp at h⟩
theorem zT.cons (h:YF d v t) (hl:zT d l ts):zT d (v::l) (t::ts):=by
 refine⟨by simp[hl.1],λi x y hx hy=>?_⟩
 cases i with
 | zero=>simp at hx hy;subst hx hy;exact h
 | succ i=>exact hl.2 i x y eV (by simpa using hy)
theorem AC {X:List UInt8} {i:Nat} {c:UInt8} (h:X[i]? = some c):(X++e)[i]? = some c:=by
 rw[qy (zi.1 h).1];exact h
theorem rH {kd many:Int} (ht:zT b l ts) (hn:b.length≤1048576) (hl:l.length≤65536) (hx:allF l (0,0,0) b.length (if len then 1 else 0)=x) (hp:(b.length:Int)+j8 b x+(if len then x else 0)=p)
 (hs:kA typ=(kd,many)) (h17:kd≠17) (hg:vK kd=jX) (hm:if len then many=0 else many≠0∧(ts.length:Int)=many) (hty:jX=false→∀v∈l,v.1=(Ft.elemF typ).1∧(inlineB v.1=true∨v.1=4)) (e:List UInt8) :
 JK (b++(JW x len jX b l).flatten++e) typ x p (.mk kd 0 0 EMB [] ts)=true:=by
 obtain⟨hw,hH,hmod,hge,hlt,kE,hin⟩:=heldB (jX:=jX) hn zo (ht.near hn) hx hp;have hwp:=zA hw;have hpl:(b.length:Int)≤p:=by cases len<;>simp at hge<;>omega
 have hpu:p < b.length+x+x:=by cases len<;>simp at hlt<;>omega
 have hmul0:0≤x*(l.length:Int):=Int.mul_nonneg zo zo;have hmul8:x*(l.length:Int)≤8*l.length:=Int.mul_le_mul_of_nonneg_right hwp.2 zo;have hcomm:(l.length:Int)*x=x*l.length:=Int.mul_comm _ _;obtain⟨hl1,hl2⟩:=ht;obtain⟨R,hR⟩:∃R,(JW x len jX b l).flatten=R:=⟨_,rfl⟩;rw[hR] at hH kE⊢;have hmany:(kd,many).2=many:=rfl;unfold JK;simp only[Tr.kids,zg];refine⟨front_iff.2 ⟨by rw[hs],rfl,rfl,rfl,λ_=>rfl,?_,?_,?_,λh=>by rw[hs] at h;exact absurd h h17⟩,kids_iff.2 λj t hj=>?_⟩
 ·cases len
  ·simpa using hmod
  simp only[if_true] at hmod;have:p=(p - x)+x:=by omega
  rw[this,Int.add_emod_right];exact hmod
 ·rw[hs,hg,← hl1];have:=hH.len;rw[zb];cases jX
  ·simp only[Bool.false_eq_true,if_false] at this⊢;omega
  simp only[if_true] at this⊢;omega
 ·rw[hs];dsimp only;cases len
  ·simp only[Bool.false_eq_true,if_false] at hm;rw[ze hm.1];exact hm.2
  simp only[if_true] at hm;rw[zl hm,fY (ZU (kE rfl)) zo,hl1];exact⟨rfl,rfl⟩
 rw[Nat.zero_add]
 obtain⟨v,hv⟩:∃v,l[j]? = some v:=by
  have:j < ts.length:=(zi.1 hj).1;exact⟨_,za zo⟩
 have hjl:j < l.length:=(zi.1 hv).1;have htv:=hl2 j v t hv hj;have hjx:0≤(j:Int)*x:=Int.mul_nonneg zo zo;have hjx8:(j:Int)*x≤j*8:=Int.mul_le_mul_of_nonneg_left hwp.2 zo;have hload:=ZU (Z:=e) (hH.elem j v hv)
 have hfirst:(b.length:Int)≤JU typ x p:=by
  unfold JU;rw[hs];dsimp only;rw[ze h17];cases len
  ·simp only[Bool.false_eq_true,if_false] at hm;rw[ze hm.1];exact hpl
  simp only[if_true] at hm hge;rw[zl hm];exact hge
 have hE:=fZ (e:=R++e) htv hw (by rw[← qe];exact hload) (hin v (qd hv)) zo zo hfirst;rw[← qe] at hE;unfold vY;rw[hs,hg,← hl1];cases jX
 ·simp only[Bool.false_eq_true,if_false];obtain⟨e1,e2⟩:=hty rfl v (qd hv);rw[← e1];refine⟨trivial,?_⟩;rcases e2 with e2|e2
  ·rw[zl e2] at hE;exact hE
  have hi4:inlineB v.1=false:=(by rw[e2];decide);rw[hi4] at hE;simp only[Bool.false_eq_true,if_false] at hE
  have hw4:isW v.2.1=true:=by
   rcases htv with h|h
   ·exact (Y7 h).2.2.1
   exact h.isw
  rw[e2] at hE⊢;rw[MV hw hw4];exact hE
 simp only[if_true];have hT:=AC (e:=e) (hH.tag rfl j v hv);have hq:(p+(l.length:Int)*x+(j:Int)).toNat=(p+(l.length:Int)*x).toNat+j:=by omega
 rw[hq,hT];simp only[Option.getD_some];have hle:kG v=0:=(htv.near hn).1;rw[cX hw hle];exact⟨rfl,hE⟩
structure iL (d:List UInt8) (v:V3) (names:List ByteArray):Prop where
 typ:v.1=14
 isw:isW v.2.1=true
 n0:0≤v.2.2
 n1:v.2.2≤d.length
 lim:v.2.2 - v.2.1 < d.length
 body:∀e,YW (d++e) v.2.1 v.2.2 names=true
theorem iL.more (h:iL d v names) (e:List UInt8):iL (d++e) v names:=
 ⟨h.typ,h.isw,h.n0,by have:=h.n1;rw[zb];omega,by have:=h.lim;rw[zb];omega,λf=>by rw[qe];exact h.body _⟩
def aU (k:ByteArray):Tr:=.mk 5 0 0 k [] []
theorem CI (ht:zT b l (names.map aU)) (h4:∀v∈l,v.1=4) (hn:b.length≤1048576) (hl:l.length≤65536) (hx:allF l (0,0,0) b.length 1=x) (hp:(b.length:Int)+j8 b x+x=p) (e:List UInt8) :
 YW (b++(JW x true false b l).flatten++e) x p names=true:=by
 have hL:=rH (len:=true) (jX:=false) (typ:=14) (kd:=13) (many:=0) ht hn hl eV (by simpa using hp) zd zd zd zp2 (λ_ v hv=>⟨by rw[h4 v hv];decide,.inr (h4 v hv)⟩) e;unfold JK at hL;simp only[Tr.kids,zg] at hL;obtain⟨h1,h2⟩:=hL;have hF:=front_iff.1 h1;have hfx:=hF.fix;have hrm:=hF.room;have hmy:=hF.many;have e14:kA 14=(13,0):=by decide
 rw[e14] at hrm hmy;simp only[if_true,qb] at hmy;rw[qb,show vK (13,0).1=false by decide] at hrm;simp only[Bool.false_eq_true,if_false,Int.add_zero] at hrm;generalize b++(JW x true false b l).flatten++e=D at *;unfold YW;simp only[zg,zp];refine⟨⟨⟨hfx,hrm⟩,hmy⟩,names_iff.2 λj k hk=>?_⟩;have hkk:=kids_iff.1 h2 j (aU k) (by rw[xj,hk];rfl);unfold vY at hkk;rw[e14,show vK (13,0).1=false by decide] at hkk;simp only[Bool.false_eq_true,if_false,true_and,Nat.zero_add,show (Ft.elemF 14).1=4 by decide] at hkk;have hfirst:JU 14 x p=p - x:=by unfold JU;rw[e14];rfl
 rw[hfirst] at hkk;rw[Nat.zero_add];obtain⟨_,hc⟩:=cR hkk;rcases hc with ⟨hnr,_⟩|⟨_,hfb,_,hlk⟩|⟨_,_,hft,_⟩
 ·exact absurd hnr zd
 ·unfold VD;rw[hfb,Bool.true_and];have hkf:fJ D (p+(j:Int)*x - (yF D (p+(j:Int)*x) x).1) (aU k)=true:=hlk;unfold fJ at hkf;simp only[zg] at hkf⊢;exact⟨hkf.1.2,hkf.2⟩
 exact absurd hft zd
theorem MW {k:V3} (ht:zT b l ts) (hk:iL b k names) (hi:dW names=true) (hnl:names.length=ts.length) (hn:b.length≤1048576) (hl:l.length≤65536)
 (hx:allF l k b.length 3=x) (hp:(b.length:Int)+j8 b x+3*x=p) (e:List UInt8):JK (b++(KQ x k b l).flatten++e) 9 x p (.mk 17 0 0 EMB names ts)=true:=by
 have hK:iA b.length k:=⟨hk.typ,hk.isw,hk.n0,hk.n1⟩;obtain⟨hw,hH,hmod,hge,hlt,hin,hkn⟩:=heldM hn zo (ht.near hn) hK hx hp;have hwp:=zA hw;have hkp:=zA hk.isw;have hmul0:0≤x*(l.length:Int):=Int.mul_nonneg zo zo;have hmul8:x*(l.length:Int)≤8*l.length:=Int.mul_le_mul_of_nonneg_right hwp.2 zo;have hcomm:(l.length:Int)*x=x*l.length:=Int.mul_comm _ _;obtain⟨hl1,hl2⟩:=ht;obtain⟨R,hR⟩:∃R,(KQ x k b l).flatten=R:=⟨_,rfl⟩;rw[hR] at hH⊢;have hs:kA 9=(17,0):=by decide
 have hg:vK 17=true:=by decide
 have hk0:=hk.n0;have hk1:=hk.n1;have hk2:=hk.lim;have hbody:=hk.body (R++e);rw[← qe] at hbody;unfold JK;simp only[Tr.kids,zg];refine⟨front_iff.2 ⟨by rw[hs],rfl,rfl,rfl,λh=>absurd (by rw[hs]) h,?_,?_,?_,λ_=>⟨by omega,hnl,?_⟩⟩,kids_iff.2 λj t hj=>?_⟩
 ·have:p=(p - 3*x)+3*x:=by omega
  rw[this,Int.add_mul_emod_self_right];exact hmod
 ·rw[hs,hg,← hl1];have:=hH.len;rw[zb];simp only[if_true];omega
 ·rw[hs];dsimp only;rw[zl rfl,fY (ZU hH.many) zo,hl1];exact⟨rfl,rfl⟩
 ·have n1:=fY (ZU (Z:=e) hH.off) zo;have n2:=fY (ZU (Z:=e) hH.wide) zo;have e2:p - 3*x+x=p - 2*x:=by omega
  unfold QY;rw[e2,n1,n2];simp only[hk.isw,hi,Bool.true_and,Bool.and_true,zg,zp];have e3:p - 3*x - (p - 3*x - k.2.2)=k.2.2:=by omega
  rw[e3];exact⟨⟨by omega,by omega⟩,hbody⟩
 rw[Nat.zero_add]
 obtain⟨v,hv⟩:∃v,l[j]? = some v:=by
  have:j < ts.length:=(zi.1 hj).1;exact⟨_,za zo⟩
 have hjl:j < l.length:=(zi.1 hv).1;have htv:=hl2 j v t hv hj;have hjx:0≤(j:Int)*x:=Int.mul_nonneg zo zo;have hjx8:(j:Int)*x≤j*8:=Int.mul_le_mul_of_nonneg_left hwp.2 zo;have hload:=ZU (Z:=e) (hH.elem j v hv)
 have hfirst:(b.length:Int)≤JU 9 x p:=by
  unfold JU;rw[hs];simp only[if_true];exact hge
 have hE:=fZ (e:=R++e) htv hw (by rw[← qe];exact hload) (hin v (qd hv)) zo zo hfirst;rw[← qe] at hE;unfold vY;rw[hs,hg,← hl1];simp only[if_true];have hT:=AC (e:=e) (hH.tag j v hv);have hq:(p+(l.length:Int)*x+(j:Int)).toNat=(p+(l.length:Int)*x).toNat+j:=by omega
 rw[hq,hT];simp only[Option.getD_some];have hle:kG v=0:=(htv.near hn).1;rw[cX hw hle];exact⟨rfl,hE⟩
def Z9 (jB jD k n u:Int) (s:ByteArray) (x:BS):BS:=
 if k=1 then x.inline (0,1,0) else if k=2 then x.inline (y6 (decide (n=1))) else if k=3 then x.inline (vE n) else if k=4 then x.inline (vF u)
 else if k=8 then x.apart jB 6 (vE n) else if k=9 then x.apart jB 7 (vF u) else if k=5 then x.key jB (onF jD 1) s else if k=6 then x.str jB (onF jD 2) s else if k=7 then x.blob jB s else x
mutual
def kT (jB jD:Int):Tr→BS→BS
 | .mk k n u s keys l,x=>
  if k=11 then x.vector jB 1 0 (l.map λt=>vE t.fn) else if k=12 then x.vector jB 2 0 (l.map λt=>vF t.fu)
  else if k=14 then x.vector jB 26 0 (l.map λt=>y6 (decide (t.fn=1))) else if k=13 then x.keyVec jB (onF jD 1) (l.map Tr.fs)
  else if k=15 then x.fixed jB 1 (l.map λt=>vE t.fn) else if k=16 then x.fixed jB 2 (l.map λt=>vF t.fu)
  else if k=10 then (qE jB jD l x).endVec jB x.stk.length
  else if k=17 then (qZ jB jD l keys x).endMap jB (onF jD 4) x.stk.length
  else Z9 jB jD k n u s x
def qE (jB jD:Int):List Tr→BS→BS
 | [],x=>x
 | t::r,x=>qE jB jD r (kT jB jD t x)
def qZ (jB jD:Int):List Tr→List ByteArray→BS→BS
 | [],_,x=>x
 | t::r,ks,x=>qZ jB jD r ks.tail (kT jB jD t (x.key jB (onF jD 1) (ks.headD EMB)))
end
mutual
def QF:Tr→Nat | .mk k n u s keys l=>64+s.size+(keys.map λk=>k.size+32).sum+KO l
def KO:List Tr→Nat | []=>0 | t::r=>QF t+32+KO r
end
structure Inv (x:BS):Prop where
 e0:x.e=0
 s0:x.s.2=0
 keys:∀z∈x.keys,YF x.s.1 (4,1,z.2) (aU z.1)∧yP x.names z.2=z.1
 texts:∀z∈x.texts,YF x.s.1 (5,Ft.widthOf z.1.size,z.2) (.mk 6 0 0 z.1 [] [])
 lists:∀z∈x.lists,0≤z.2∧∃v names,x.vals[z.2.toNat]? = some v∧iL x.s.1 v names∧zF names=z.1∧∀k∈names,vD k=0
 names:∀z∈x.names,z.1 < x.s.1.length
 vals:x.vals.length≤x.s.1.length
theorem Inv.s {x:BS} (h:Inv x):x.s=(x.s.1,0):=by
 have:=h.s0;rw[← this]
theorem Inv.new:Inv BS.new:=⟨rfl,rfl,λz h=>absurd h List.not_mem_nil,λz h=>absurd h List.not_mem_nil,λz h=>absurd h List.not_mem_nil,λz h=>absurd h List.not_mem_nil,Nat.zero_le _⟩
theorem Inv.ext {x:BS} (h:Inv x) (e:List UInt8) (k:List V3):Inv {x with s:=(x.s.1++e,0),stk:=k}:=
 ⟨h.e0,rfl,λz hz=>⟨(h.keys z hz).1.more e,(h.keys z hz).2⟩,λz hz=>(h.texts z hz).more e,λz hz=>by
  obtain⟨h0,v,nm,h1,h2,h3⟩:=h.lists z hz
  exact⟨h0,v,nm,h1,h2.more e,h3⟩,λz hz=>by
  have:=h.names z hz;show z.1 < ((x.s.1++e).length:Int)
  rw[zb];omega,by
  have:=h.vals;show x.vals.length≤(x.s.1++e).length
  rw[zb];omega⟩
theorem Inv.stk {x:BS} (h:Inv x) (k:List V3):Inv {x with stk:=k}:=by
 have:=h.ext [] k;rw[List.append_nil,← h.s] at this;exact this
structure vA (x x':BS) (t:Tr) (c:Nat):Prop where
 inv:Inv x'
 grow:∃e,x'.s.1=x.s.1++e∧e.length≤c
 push:∃v,x'.stk=x.stk++[v]∧YF x'.s.1 v t
 nms:∀a:Int,a < x.s.1.length→yP x'.names a=yP x.names a
theorem nB {l:qI} (h:qN l k=(a,true)):(k,a)∈l:=by
 unfold qN at h;split at h
 ·rename_i hh;have hlt:=iV hh;have hg:(QZ l).getD (vQ l k) 0=(l[vQ l k]).2:=by simp[QZ,zw,hlt]
  rw[hg] at h;injection h with h1 h2;have h3:=xo hh;unfold V2 at h3;rw[xj,za hlt] at h3;simp only[Option.map_some,ya] at h3;have:l[vQ l k]=(k,a):=Prod.ext h3 h1;rw[← this];exact xq hlt
 injection h with _ h2;cases h2
theorem rI {names:List (Int × ByteArray)} {b:Int} (h:a≠b):yP (names++[(b,k)]) a=yP names a:=by
 unfold yP;rw[List.find?_append]
 cases names.find? (λq=>decide (q.1=a)) with
 | some q=>rfl
 | none=>
  have:List.find? (λq:Int × ByteArray=>decide (q.1=a)) [(b,k)]=none:=by simp[Ne.symm h]
  rw[this];rfl
theorem rJ {names:List (Int × ByteArray)} {b:Int} (h:∀z∈names,z.1≠b):yP (names++[(b,k)]) b=k:=by
 unfold yP;rw[List.find?_append]
 have:names.find? (λq=>decide (q.1=b))=none:=by
  rw[List.find?_eq_none];intro z hz;simpa using h z hz
 rw[this];simp
theorem gF (k:ByteArray):jS [k,⟨#[0]⟩]=(YG k).data.toList:=by
 rw[bN];simp[jS]
theorem nC {s:ByteArray} (h:at_=b.length):ZI (b++s.data.toList++e) at_ s=true:=by
 subst h;rw[has_iff];refine⟨by omega,?_,?_⟩
 ·rw[zb,zb,bO];omega
 rw[Int.toNat_natCast,qe,List.drop_left,← bO,List.take_left' rfl]
theorem FX (hk:vD k=0):YF (b++jS [k,⟨#[0]⟩]) (4,1,(b.length:Int)) (aU k):=by
 refine .inr ⟨by show inlineB 4=false;decide,by show legalB 4=true;decide,rfl,by show (0:Int)≤b.length;omega,?_,?_,λe=>?_⟩
 ·show (b.length:Int)≤_;rw[zb];omega
 ·show (b.length:Int) - zL 4*1 < _;rw[show zL 4=0 by decide,zb];have:=dA k;omega
 show fJ _ _ _=true;unfold fJ;rw[gF];show (yB (aU k) 5 0 0 k && decide (vD k=0) && ZI (b++(YG k).data.toList++e) (b.length:Int) (YG k))=true;rw[nC rfl];simp only[aU,JQ,hk,decide_true,Bool.and_self]
theorem CJ {x:BS} (h:x.e=0):x.fail 0=x:=by
 obtain⟨s,e,stk,a,b,c,d,f⟩:=x;dsimp only at h;subst h;rfl
theorem put_ok {x:BS} (h:Inv x) (hk:vD k=0) (hr:(x.s.1.length:Int)+(k.size+1)≤jB) :
 ∃a e,(x.put jB sh k).1=(4,1,a)∧Inv (x.put jB sh k).2∧(x.put jB sh k).2.s.1=x.s.1++e∧e.length≤k.size+1∧(x.put jB sh k).2.stk=x.stk∧YF (x.put jB sh k).2.s.1 (4,1,a) (aU k)∧yP (x.put jB sh k).2.names a=k ∧
  ∀c:Int,c < x.s.1.length→yP (x.put jB sh k).2.names c=yP x.names c:=by
 unfold BS.put;dsimp only;rw[hk,CJ h.e0,ze (by rw[h.e0];decide)];by_cases hg:((qN x.keys k).2 && sh)=true
 ·rw[zl hg];rw[zg] at hg;have hm:qN x.keys k=((qN x.keys k).1,true):=by rw[← hg.1]
  have h1:=h.keys _ (nB hm);exact⟨_,[],rfl,h,by simp,Nat.zero_le _,rfl,h1.1,h1.2,λc _=>rfl⟩
 rw[ze hg];have hsz:(jS [k,⟨#[0]⟩]).length=k.size+1:=by rw[gF,bO,YQ]
 have hs:kQ jB (jS [k,⟨#[0]⟩]) x.s=(x.s.1++jS [k,⟨#[0]⟩],0):=by
  have:=J1 jB x.s.1 (jS [k,⟨#[0]⟩]) (by rw[hsz];omega);rw[← h.s] at this;exact this
 have ht:=FX (b:=x.s.1) hk;have hnb:∀z∈x.names,z.1≠(x.s.1.length:Int):=λz hz e=>by have:=h.names z hz;omega
 refine⟨_,jS [k,⟨#[0]⟩],rfl,?_,by dsimp only;rw[hs],by rw[hsz];exact zr _,rfl,by dsimp only;rw[hs];exact ht,rJ hnb,λc hc=>rI zo⟩;dsimp only;rw[hs];refine⟨rfl,rfl,λz hz=>?_,λz hz=>(h.texts z hz).more _,λz hz=>?_,λz hz=>?_,by have:=h.vals;show x.vals.length≤(x.s.1++_).length;rw[zb];omega⟩
 ·rcases aP hz with hz|⟨rfl,_⟩
  ·have h1:=h.keys z hz
   have hlt:z.2 < (x.s.1.length:Int):=by
    rcases h1.1 with hq|hq
    ·exact absurd (Y7 hq).1 (by show ¬inlineB 4=true;decide)
    have:=hq.lim;rw[show ((4:Int),(1:Int),z.2).1=4 from rfl,show zL 4=0 by decide] at this;simpa using this
   refine⟨h1.1.more _,?_⟩;show yP (x.names++[((x.s.1.length:Int),k)]) z.2=z.1;rw[rI zo];exact h1.2
  exact⟨ht,rJ hnb⟩
 ·obtain⟨h0,v,nm,h1,h2,h3⟩:=h.lists z hz;exact⟨h0,v,nm,h1,h2.more _,h3⟩
 show z.1 < ((x.s.1++jS [k,⟨#[0]⟩]).length:Int);rw[zb,hsz];rcases xf.1 hz with hz|hz
 ·have:=h.names z hz;omega
 obtain rfl:=List.mem_singleton.1 hz;show (x.s.1.length:Int) < _;omega
theorem Q7 {x:BS} (h:Inv x) (v:V3) (hl:x.stk.length+1≤65536):x.push v={x with stk:=x.stk++[v]}:=DT h.e0 h.s0 hl
theorem MX {x:BS} (h:Inv x) (hk:vD k=0) (hr:(x.s.1.length:Int)+(k.size+1)≤jB) (hl:x.stk.length+1≤65536) :
 vA x (x.key jB sh k) (aU k) (k.size+1)∧∃a,(x.key jB sh k).stk=x.stk++[(4,1,a)]∧yP (x.key jB sh k).names a=k∧a < (x.key jB sh k).s.1.length:=by
 obtain⟨a,e,h1,h2,h3,h4,h5,h6,h7,h8⟩:=put_ok (sh:=sh) h hk hr
 have hx:x.key jB sh k={(x.put jB sh k).2 with stk:=x.stk++[(4,1,a)]}:=by
  unfold BS.key;rw[zl h.e0,Q7 h2 _ (by rw[h5];exact hl),h1,h5]
 rw[hx]
 have hlt:a < ((x.put jB sh k).2.s.1.length:Int):=by
  rcases h6 with hq|hq
  ·exact absurd (Y7 hq).1 (by show ¬inlineB 4=true;decide)
  have:=hq.lim;rw[show ((4:Int),(1:Int),a).1=4 from rfl,show zL 4=0 by decide] at this;simpa using this
 exact⟨⟨h2.stk _,⟨e,h3,h4⟩,⟨_,rfl,h6⟩,h8⟩,a,rfl,h7,hlt⟩
theorem bU {x:BS} (h:Inv x) (hv:DX v t) (hl:x.stk.length+1≤65536):vA x (x.inline v) t 0:=by
 have hx:x.inline v={x with stk:=x.stk++[v]}:=by unfold BS.inline;rw[zl h.e0,Q7 h v hl]
 rw[hx];exact⟨h.stk _,⟨[],by simp,zr _⟩,⟨v,rfl,.inl hv⟩,λa _=>rfl⟩
theorem MY (hw:isW w=true) (h:(b.length:Int)+7≤jB):jL jB w (b,0)=(b++kD (j8 b w),0):=mR hw (by have:=eN b hw;omega)
theorem tK (hw:isW w=true) (b:List UInt8):((b.length:Int)+j8 b w) % w=0:=by rw[cV hw];exact Int.mul_emod_left _ _
theorem AD {x:BS} {sg:Int} (h:Inv x) (hl:x.stk.length+1≤65536) (hr:(x.s.1.length:Int)+15≤jB) (vN:jB≤1048576)
 (hv:(sg=6∧∃n,kY n∧v=vE n∧t=.mk 8 n 0 EMB [] [])∨(sg=7∧∃u,KG u∧v=vF u∧t=.mk 9 0 u EMB [] [])):vA x (x.apart jB sg v) t 64:=by
 have hw:isW v.2.1=true:=by
  rcases hv with ⟨_,n,_,rfl,_⟩|⟨_,u,_,rfl,_⟩
  ·exact dC n
  exact JE _
 have hwp:=zA hw;have hpad:=eN x.s.1 hw;obtain⟨b,hb⟩:∃b,x.s.1=b:=⟨_,rfl⟩;have hxs:x.s=(b,0):=by rw[h.s,hb]
 rw[hb] at hr hpad;have e1:jL jB v.2.1 x.s=(b++kD (j8 b v.2.1),0):=by rw[hxs];exact MY hw zo
 have hlow:=B7 v.2.2 v.2.1
 have e2:j9 jB v.2.1 (yD v.2.2 v.2.1) (jL jB v.2.1 x.s)=(b++(kD (j8 b v.2.1)++k8 v.2.1.toNat (yD v.2.2 v.2.1).toNat),0):=by
  rw[e1,Z7 hw hlow.2,J1 _ _ _ (by rw[zb,jT,kF];omega),qe]
 have e3:(((jL jB v.2.1 x.s).1.length:Nat):Int)=(b.length:Int)+j8 b v.2.1:=by rw[e1];dsimp only;rw[zb,jT];omega
 obtain⟨E,hE⟩:∃E,kD (j8 b v.2.1)++k8 v.2.1.toNat (yD v.2.2 v.2.1).toNat=E:=⟨_,rfl⟩;rw[hE] at e2;have hEl:(E.length:Int)=j8 b v.2.1+v.2.1:=by rw[← hE,zb,jT,kF];omega
 have hI:=h.ext E x.stk;rw[hb] at hI
 have hx:x.apart jB sg v={x with s:=(b++E,0),stk:=x.stk++[(sg,v.2.1,(b.length:Int)+j8 b v.2.1)]}:=by
  unfold BS.apart;rw[zl h.e0];dsimp only;rw[e2,e3];exact Q7 (x:={x with s:=(b++E,0)}) hI _ hl
 rw[hx];have hload:∀e,k7 (b++E++e) ((b.length:Int)+j8 b v.2.1) v.2.1=(yD v.2.2 v.2.1,0):=λe=>ZE (A:=b++kD (j8 b v.2.1)) (C:=e) hw (by rw[← hE];simp only[qe]) (by rw[zb,jT];omega) hlow.1 hlow.2;have hI2:=h.ext E (x.stk++[(sg,v.2.1,(b.length:Int)+j8 b v.2.1)]);rw[hb] at hI2;refine⟨hI2,⟨E,by rw[hb],by omega⟩,⟨_,rfl,.inr ?_⟩,λa _=>rfl⟩;have hmod:=tK hw b;have kE:(((b++E).length:Nat):Int)=b.length+j8 b v.2.1+v.2.1:=by rw[zb];omega
 rcases hv with ⟨rfl,n,hn,rfl,rfl⟩|⟨rfl,u,hu,rfl,rfl⟩
 ·refine⟨by show inlineB 6=false;decide,by show legalB 6=true;decide,hw,by show (0:Int)≤(b.length:Int)+j8 b (vE n).2.1;omega,?_,?_,λe=>?_⟩
  ·show (b.length:Int)+j8 b (vE n).2.1≤((b++E).length:Int);omega
  ·show (b.length:Int)+j8 b (vE n).2.1 - zL 6*(vE n).2.1 < ((b++E).length:Int);rw[show zL 6=0 by decide];omega
  show ZA _ 6 (vE n).2.1 ((b.length:Int)+j8 b (vE n).2.1) _=true;unfold ZA vU;rw[mL (hload e),hload e];rw[show (vE n).2.2=n % 18446744073709551616 from rfl,show (vE n).2.1=VO n from rfl] at *;rw[DY hw hn (Int.le_refl _)];simp only[Tr.kind,JQ,ne_eq,not_true_eq_false,if_false,if_true,decide_true,Bool.true_and,Bool.and_true,zp];exact hmod
 refine⟨by show inlineB 7=false;decide,by show legalB 7=true;decide,hw,by show (0:Int)≤(b.length:Int)+j8 b (vF u).2.1;omega,?_,?_,λe=>?_⟩
 ·show (b.length:Int)+j8 b (vF u).2.1≤((b++E).length:Int);omega
 ·show (b.length:Int)+j8 b (vF u).2.1 - zL 7*(vF u).2.1 < ((b++E).length:Int);rw[show zL 7=0 by decide];omega
 show ZA _ 7 (vF u).2.1 ((b.length:Int)+j8 b (vF u).2.1) _=true;unfold ZA vU;rw[hload e];rw[show (vF u).2.2=u from rfl,show (vF u).2.1=Ft.widthOf u.toNat from rfl] at *;rw[DZ hw hu (Int.le_refl _)];simp only[Tr.kind,JQ,ne_eq,not_true_eq_false,if_false,decide_true,Bool.true_and,Bool.and_true,zp];rw[ze zd,ze zd];simp only[Tr.kind,JQ,decide_true,Bool.true_and,Bool.and_true,zp];exact hmod
theorem CK (ht:typ=5∨typ=25) (hk:k.size≤1048576) (hb:b.length≤1048576) :
 YF (b++QE b k (if typ=5 then ⟨#[0]⟩ else ByteArray.empty)) (typ,Ft.widthOf k.size,YE b k) (.mk (if typ=5 then 6 else 7) 0 0 k [] []):=by
 have hw:=JE k.size;have hwp:=zA hw;have hpad:=eN b hw;have hlt:=VT b k (if typ=5 then ⟨#[0]⟩ else ByteArray.empty);obtain⟨w,hW⟩:∃w,Ft.widthOf k.size=w:=⟨_,rfl⟩;have hpw:(k.size:Int) < 2 ^ (8*w.toNat):=by rw[← hW];exact rC k.size zo
 have hP:YE b k=(b.length:Int)+j8 b w+w:=by unfold YE;rw[hW]
 have hz:0≤((if typ=5 then (⟨#[0]⟩:ByteArray) else ByteArray.empty).size:Int):=by omega
 rw[hW] at hw hwp hpad hlt⊢;have hfar:inlineB typ=false∧legalB typ=true∧zL typ=1:=by rcases ht with rfl | rfl<;>decide
 have hload:∀e,k7 (b++QE b k (if typ=5 then ⟨#[0]⟩ else ByteArray.empty)++e) (YE b k - w) w=((k.size:Int),0):=λe=>by
  refine ZE (A:=b++kD (j8 b w)) (C:=jS [k,if typ=5 then ⟨#[0]⟩ else ByteArray.empty]++e) hw ?_ ?_ zo hpw
  ·unfold QE;rw[hW];simp only[qe,Int.toNat_natCast]
  rw[hP,zb,jT];omega
 refine .inr ⟨hfar.1,hfar.2.1,by show isW w=true;exact hw,by show 0≤YE b k;rw[hP];omega,?_,?_,λe=>?_⟩
 ·show YE b k≤_;rw[zb,hP];omega
 ·show YE b k - zL typ*w < _;rw[hfar.2.2,zb,hP];omega
 have hbody:VY (b++QE b k (if typ=5 then ⟨#[0]⟩ else ByteArray.empty)++e) typ w (YE b k) (.mk (if typ=5 then 6 else 7) 0 0 k [] [])=true:=by
  unfold VY;rw[fY (hload e) zo]
  have hmod:YE b k % w=0:=by
   rw[hP,Int.add_emod_right];exact tK hw b
  have hh:ZI (b++QE b k (if typ=5 then ⟨#[0]⟩ else ByteArray.empty)++e) (YE b k) (if typ=5 then YG k else k)=true:=by
   have hA:(((b++kD (j8 b w)++k8 w.toNat k.size).length:Nat):Int)=YE b k:=by
    rw[hP,zb,zb,jT,kF];omega
   rcases ht with rfl|rfl
   ·simp only[if_true];have:=nC (b:=b++kD (j8 b w)++k8 w.toNat k.size) (s:=YG k) (e:=e) hA.symm;rw[← gF] at this;unfold QE;rw[hW];simp only[qe] at this⊢;exact this
   rw[ze zd,ze zd];have:=nC (b:=b++kD (j8 b w)++k8 w.toNat k.size) (s:=k) (e:=e) hA.symm;have hbe:jS [k,ByteArray.empty]=k.data.toList:=(by simp[jS]);unfold QE;rw[hW,hbe];simp only[qe] at this⊢;exact this
  simp only[Tr.fs];rw[hh];simp only[JQ,hmod,decide_true,Bool.and_self]
 rcases ht with rfl|rfl
 ·exact hbody
 exact hbody
theorem rK {t:Int} {x:BS} (h:Inv x) (ht:t=5∨t=25) (hl:x.stk.length+1≤65536) (hr:(x.s.1.length:Int)+(k.size+64)≤jB) (vN:jB≤1048576) :
 vA x (x.text jB t k (if t=5 then ⟨#[0]⟩ else ByteArray.empty)) (.mk (if t=5 then 6 else 7) 0 0 k [] []) (k.size+64):=by
 have hw:=JE k.size;have hwp:=zA hw;have hpad:=eN x.s.1 hw;have hlt:=VT x.s.1 k (if t=5 then ⟨#[0]⟩ else ByteArray.empty);have hz:((if t=5 then (⟨#[0]⟩:ByteArray) else ByteArray.empty).size:Int)≤1:=by rcases ht with rfl | rfl<;>decide
 have hT:=CK (b:=x.s.1) (k:=k) ht zo zo;rw[text_ok (b:=x.s.1) h.e0 h.s hl zo (by rw[zb];omega)];have hI:=h.ext (QE x.s.1 k (if t=5 then ⟨#[0]⟩ else ByteArray.empty)) (x.stk++[(t,Ft.widthOf k.size,YE x.s.1 k)]);refine⟨⟨hI.e0,hI.s0,hI.keys,λz hz=>?_,hI.lists,hI.names,hI.vals⟩,⟨_,rfl,by omega⟩,⟨_,rfl,hT⟩,λa _=>rfl⟩;rcases ht with rfl|rfl
 ·simp only[if_true] at hz hT⊢;rcases aP hz with hz|⟨rfl,_⟩
  ·exact (h.texts z hz).more _
  exact hT
 exact hI.texts z hz
theorem MZ {x:BS} (h:Inv x) (hl:x.stk.length+1≤65536) (hr:(x.s.1.length:Int)+(k.size+64)≤jB) (vN:jB≤1048576):vA x (x.str jB sh k) (.mk 6 0 0 k [] []) (k.size+64):=by
 unfold BS.str;dsimp only;rw[zl h.e0];by_cases hg:((qN x.texts k).2 && sh)=true
 ·rw[zl hg];rw[zg] at hg;have hm:qN x.texts k=((qN x.texts k).1,true):=by rw[← hg.1]
  have h1:=h.texts _ (nB hm);rw[Q7 h _ hl];exact⟨h.stk _,⟨[],by simp,Nat.zero_le _⟩,⟨_,rfl,h1⟩,λa _=>rfl⟩
 rw[ze hg];exact rK (t:=5) h (.inl rfl) hl hr vN
theorem FY {x:BS} (h:Inv x) (hl:x.stk.length+1≤65536) (hr:(x.s.1.length:Int)+(k.size+64)≤jB) (vN:jB≤1048576):vA x (x.blob jB k) (.mk 7 0 0 k [] []) (k.size+64):=by
 unfold BS.blob;rw[zl h.e0];exact rK (t:=25) h (.inr rfl) hl hr vN
end Go.Proofs.YtdjoffgkndncfaaGreat
namespace Go.Proofs.YtdjoffgkndncfaaGreat
open Go Go.ChangeShapes Go.WideShapes Go.ChangeAt Go.RowKit Go.Joins Go.Deep
open Ft (V3 vV okV ValsAt inlineB legalB packF codeF typedF allF oneF)
theorem CL {jB jD k n u:Int} {s:ByteArray} {x:BS} (h:x.Good):(Z9 jB jD k n u s x).Good:=by
 unfold Z9
 repeat' split
 all_goals first | exact h.inline | exact h.apart | exact h.key | exact h.str | exact h.blob | exact h
mutual
theorem nD {jB jD:Int}:∀(t:Tr) {x:BS},x.Good→(kT jB jD t x).Good
 | .mk k n u s keys l,x,h=>by
  simp only[kT];have h1:=(QG (jB:=jB) (jD:=jD) l h).endVec (jB:=jB) (start:=x.stk.length);have h2:=(QH (jB:=jB) (jD:=jD) l keys h).endMap (jB:=jB) (sh:=onF jD 4) (start:=x.stk.length)
  repeat' split
  all_goals first | exact h1 | exact h2 | exact h.vector | exact h.keyVec | exact h.fixed | exact CL h
theorem QG {jB jD:Int}:∀(l:List Tr) {x:BS},x.Good→(qE jB jD l x).Good
 | [],_,h=>h
 | t::r,_,h=>QG r (nD t h)
theorem QH {jB jD:Int}:∀(l:List Tr) (ks:List ByteArray) {x:BS},x.Good→(qZ jB jD l ks x).Good
 | [],_,_,h=>h
 | t::r,ks,_,h=>QH r ks.tail (nD t h.key)
end
mutual
def okE:Tr→Prop | .mk k n u s keys l=>(s.size≤1048576∧(∀q∈keys,q.size≤1048576)∧l.length≤4096∧(k=17→keys.length=l.length))∧okEL l
def okEL:List Tr→Prop | []=>True | t::r=>okE t∧okEL r
end
theorem okEL_iff:∀{l:List Tr},okEL l↔∀x∈l,okE x
 | []=>by simp[okEL]
 | t::r=>by simp[okEL,okEL_iff (l:=r)]
theorem iC {jB jD:Int}:∀(l:List Tr) (t:Tr) (x:BS),qE jB jD (l++[t]) x=kT jB jD t (qE jB jD l x)
 | [],_,_=>rfl
 | y::r,t,x=>iC r t _
theorem iD {jB jD:Int}:∀(l:List Tr) (ks:List ByteArray) (t:Tr) (k:ByteArray) (x:BS),ks.length=l.length→qZ jB jD (l++[t]) (ks++[k]) x=kT jB jD t ((qZ jB jD l ks x).key jB (onF jD 1) k)
 | [],ks,t,k,x,h=>by
  have:ks=[]:=List.length_eq_zero_iff.1 tZ;subst this;rfl
 | y::r,[],t,k,x,h=>by simp at h
 | y::r,q::ks,t,k,x,h=>iD r ks t k _ tZ
end Go.Proofs.YtdjoffgkndncfaaGreat
namespace Go.Proofs.YtdjoffgkndncfaaGreat
open Go Go.ChangeShapes Go.WideShapes Go.ChangeAt Go.RowKit Go.Joins Go.Deep
open Ft (V3 vV okV ValsAt inlineB legalB packF codeF typedF allF oneF allAt headF fitsL fitsV fitsF belowW isA unpackF)
variable {el jB many typ kd jD:Int} {v:V3} {l keys K:List V3} {ts:List Tr} {x:BS} {sh:Bool} {names:List ByteArray} {b c d:Nat} {t:Tr}
theorem dE (h:v.1=el) (hl:kG v=0):kN el v=0:=by
 unfold kN;rw[h];simpa using hl
theorem CM {elem:Int} {len jX:Bool} {T:V3→Int} (h:Inv x) (ht:zT x.s.1 l ts) (hv:∀s,yH jB elem many l s=yS jB T len jX typ 0 l s) (hT:∀v∈l,T v=0)
 (hs:kA typ=(kd,if len then 0 else (ts.length:Int))) (h17:kd≠17) (hg:vK kd=jX) (hne:len=false→ts≠[]) (hty:jX=false→∀v∈l,v.1=(Ft.elemF typ).1∧(inlineB v.1=true∨v.1=4))
 (hl:x.stk.length+1≤65536) (hll:l.length≤65536) (hr:(x.s.1.length:Int)+(15+9*l.length:Nat)≤jB) (vN:jB≤1048576) (hfar:inlineB typ=false∧legalB typ=true∧KM typ=false∧zL typ=if len then 1 else 0) :
 vA x (x.vector jB elem many l) (.mk kd 0 0 EMB [] ts) (15+9*l.length):=by
 have hb:x.s.1.length≤1048576:=by omega
 obtain⟨b,hbe⟩:∃b,x.s.1=b:=⟨_,rfl⟩;have hxs:x.s=(b,0):=by rw[h.s,hbe]
 rw[hbe] at ht hr hb;obtain⟨X,hX⟩:∃X,allF l (0,0,0) b.length (if len then 1 else 0)=X:=⟨_,rfl⟩;obtain⟨p,hp⟩:∃p,(b.length:Int)+j8 b X+(if len then X else 0)=p:=⟨_,rfl⟩;obtain⟨hw,hH,hmod,hge,hlt,kE,hin⟩:=heldB (jX:=jX) hb zo (ht.near hb) hX hp;have hwp:=zA hw;have hle:=wZ hw len jX b l;have hput:=DQ (jB:=jB) (T:=T) (len:=len) (jX:=jX) (kind:=typ) hT hb zo (ht.near hb) hX zo;have hpl:=QN hw len jX b l;have hbody:=rH (many:=if len then 0 else (ts.length:Int)) ht hb hll hX hp hs h17 hg (by cases len<;>simp;exact hne rfl) hty;rw[hp] at hput;obtain⟨R,hR⟩:∃R,(JW X len jX b l).flatten=R:=⟨_,rfl⟩;rw[hR] at hput hpl hH hbody;have hI:=h.ext R x.stk
 have hx:x.vector jB elem many l={x with s:=(b++R,0),stk:=x.stk++[(typ,X,p)]}:=by
  unfold BS.vector;rw[zl h.e0,hv,hxs,hput];dsimp only;rw[hbe] at hI;rw[CJ (x:={x with s:=(b++R,0)}) h.e0];exact Q7 (x:={x with s:=(b++R,0)}) hI _ hl
 rw[hx];have hI2:=h.ext R (x.stk++[(typ,X,p)]);rw[hbe] at hI2;have hXl:=hH.len;have hmul0:0≤X*(l.length:Int):=Int.mul_nonneg zo zo;refine⟨hI2,⟨R,by rw[hbe],by omega⟩,⟨_,rfl,.inr ⟨hfar.1,hfar.2.1,hw,?_,?_,?_,λe=>?_⟩⟩,λa _=>rfl⟩
 ·show 0≤p;rw[← hp];cases len<;>simp<;>omega
 ·show p≤((b++R).length:Int);cases jX<;>simp at hXl<;>simp<;>omega
 ·show p - zL typ*X < ((b++R).length:Int);rw[hfar.2.2.2,hXl];cases len
  ·have h1:1≤(l.length:Int):=by
    have:=hne rfl;have h2:=ht.1;have:ts.length≠0:=λe=>this (List.length_eq_zero_iff.1 e);omega
   have h2:(1:Int)*1≤X*l.length:=Int.mul_le_mul zo h1 zo zo;cases jX<;>simp<;>omega
  cases jX<;>simp<;>omega
 show DW (b++R++e) typ X p _=true;unfold DW;rw[hfar.2.2.1];exact hbody e
theorem vp_of (hel:el≠-1) (ht:(typedF el many).1=typ) (l:List V3) (s:St):yH jB el many l s=yS jB (kN el) (decide (many=0)) false typ 0 l s:=by
 unfold yH;rw[ze hel,ht]
theorem eP (h:Inv x) (ht:zT x.s.1 l ts) (hel:el≠-1) (hty:(typedF el 0).1=typ) (hs:kA typ=(kd,0)) (h17:kd≠17) (hg:vK kd=false) (he:∀v∈l,v.1=el) (hel2:(Ft.elemF typ).1=el∧(inlineB el=true∨el=4))
 (hl:x.stk.length+1≤65536) (hll:l.length≤65536) (hr:(x.s.1.length:Int)+(15+9*l.length:Nat)≤jB) (vN:jB≤1048576) (hfar:inlineB typ=false∧legalB typ=true∧KM typ=false∧zL typ=1):vA x (x.vector jB el 0 l) (.mk kd 0 0 EMB [] ts) (15+9*l.length):=
 CM (len:=true) (jX:=false) h ht (λs=>vp_of hel hty l s) (λv hv=>dE (he v hv) (ht.near zo v hv).1) hs h17 hg (λe=>by cases e) (λ_ v hv=>⟨by rw[he v hv,hel2.1],by rw[he v hv];exact hel2.2⟩) hl hll hr vN hfar
theorem AE (h:Inv x) (ht:zT x.s.1 l ts) (hk:(el=1∧kd=15)∨(el=2∧kd=16)) (he:∀v∈l,v.1=el) (hn:2≤l.length∧l.length≤4)
 (hl:x.stk.length+1≤65536) (hr:(x.s.1.length:Int)+(15+9*l.length:Nat)≤jB) (vN:jB≤1048576):vA x (x.fixed jB el l) (.mk kd 0 0 EMB [] ts) (15+9*l.length):=by
 unfold BS.fixed;rw[zl h.e0,ze zo];have hl1:=ht.1;have hne:ts≠[]:=λe=>by have h9:=ql List.length e;rw[← hl1,qg] at h9;omega
 have h3:l.length=2∨l.length=3∨l.length=4:=by omega
 have key:∀typ:Int,(typedF el l.length).1=typ→kA typ=(kd,(l.length:Int))→vK kd=false→kd≠17→(Ft.elemF typ).1=el→inlineB el=true→(inlineB typ=false∧legalB typ=true∧KM typ=false∧zL typ=0)→el≠-1→vA x (x.vector jB el l.length l) (.mk kd 0 0 EMB [] ts) (15+9*l.length):=by
  intro typ h1 h2 h3 h4 h5 h6 h7 h8;refine CM (len:=false) (jX:=false) (typ:=typ) h ht (λs=>?_) (λv hv=>dE (he v hv) (ht.near zo v hv).1) (by rw[h2,hl1];rfl) h4 h3 (λ_=>hne) (λ_ v hv=>⟨by rw[he v hv,h5],.inl (by rw[he v hv];exact h6)⟩) hl zo hr vN h7;rw[vp_of h8 h1,decide_eq_false (show ¬((l.length:Nat):Int)=0 by omega)]
 rcases hk with ⟨rfl,rfl⟩|⟨rfl,rfl⟩
 ·rcases h3 with h3|h3|h3
  ·rw[h3] at key⊢;exact key 16 nV zd zd zd zd zd zd zd
  ·rw[h3] at key⊢;exact key 19 nV zd zd zd zd zd zd zd
  rw[h3] at key⊢;exact key 22 nV zd zd zd zd zd zd zd
 rcases h3 with h3|h3|h3
 ·rw[h3] at key⊢;exact key 17 nV zd zd zd zd zd zd zd
 ·rw[h3] at key⊢;exact key 20 nV zd zd zd zd zd zd zd
 rw[h3] at key⊢;exact key 23 nV zd zd zd zd zd zd zd
def ZH (l:List ByteArray):Nat:=(l.map λk=>k.size+1).sum
theorem nE {jB:Int} {sh:Bool}:∀(l:List ByteArray) {x:BS},Inv x→(∀k∈l,vD k=0)→(x.s.1.length:Int)+ZH l≤jB →
 ∃e,Inv (x.putAll jB sh l).2∧(x.putAll jB sh l).2.s.1=x.s.1++e∧e.length≤ZH l∧(x.putAll jB sh l).2.stk=x.stk∧zT (x.putAll jB sh l).2.s.1 (x.putAll jB sh l).1 (l.map aU)∧(∀v∈(x.putAll jB sh l).1,v.1=4)∧∀c:Int,c < x.s.1.length→yP (x.putAll jB sh l).2.names c=yP x.names c
 | [],x,h,_,_=>⟨[],h,by simp[BS.putAll],Nat.zero_le _,rfl,zT.nil _,by simp[BS.putAll],λ_ _=>rfl⟩
 | k::r,x,h,hk,hr=>by
  simp only[ZH,List.map_cons,List.sum_cons] at hr;obtain⟨a,e,h1,h2,h3,h4,h5,h6,h7,h8⟩:=put_ok (jB:=jB) (sh:=sh) h (hk k zp2) zo;have kE:(x.put jB sh k).2.s.1.length=x.s.1.length+e.length:=by rw[h3,zb]
  obtain⟨e2,g1,g2,g3,g4,g5,g6,g7⟩:=nE (jB:=jB) (sh:=sh) r h2 (λq hq=>hk q (by simp[hq])) (by unfold ZH;omega);simp only[BS.putAll];refine⟨e++e2,g1,by rw[g2,h3,qe],by rw[zb];simp only[ZH,List.map_cons,List.sum_cons] at g3⊢;omega,by rw[g4,h5],?_,?_,λc hc=>?_⟩
  ·refine zT.cons ?_ g5;rw[g2,h1];exact h6.more _
  ·intro v hv;rcases qp.1 hv with rfl|hv
   ·rw[h1]
   exact g6 v hv
  rw[g7 c zo,h8 c hc]
theorem FZ {l:List ByteArray} (h:Inv x) (hk:∀k∈l,vD k=0) (hl:x.stk.length+1≤65536) (hll:l.length≤65536) (hr:(x.s.1.length:Int)+(ZH l+(15+9*l.length):Nat)≤jB) (vN:jB≤1048576) :
 vA x (x.keyVec jB sh l) (.mk 13 0 0 EMB [] (l.map aU)) (ZH l+(15+9*l.length)):=by
 obtain⟨e,h1,h2,h3,h4,h5,h6,h7⟩:=nE (jB:=jB) (sh:=sh) l h hk zo;unfold BS.keyVec;rw[zl h.e0];have kE:(x.putAll jB sh l).2.s.1.length=x.s.1.length+e.length:=by rw[h2,zb]
 have hn:(x.putAll jB sh l).1.length=l.length:=by rw[h5.1,qb]
 generalize hY:x.putAll jB sh l=Y at *;have hP:=eP (jB:=jB) (el:=4) (typ:=14) (kd:=13) h1 h5 zd nV zd zd zd h6 ⟨by decide,.inr rfl⟩ (by rw[h4];exact hl) zo (by rw[hn];omega) vN zd;obtain⟨e2,g1,g2⟩:=hP.grow;obtain⟨v,g3,g4⟩:=hP.push;refine⟨hP.inv,⟨e++e2,by rw[g1,h2,qe],by rw[zb];rw[hn] at g2;omega⟩,⟨v,by rw[g3,h4],g4⟩,λa ha=>?_⟩;rw[hP.nms a zo,h7 a ha]
/-! ### what names a list of keys -/
theorem nF:∀{a b A B:List UInt8},(0:UInt8)∉a→(0:UInt8)∉b→a++0::A=b++0::B→a=b∧A=B
 | [],[],A,B,_,_,h=>by simp at h;exact⟨rfl,h⟩
 | [],y::b,A,B,_,hb,h=>by simp at h;exact absurd h.1 (λe=>hb (by simp[← e]))
 | x::a,[],A,B,ha,_,h=>by simp at h;exact absurd h.1 (λe=>ha (by simp[e]))
 | x::a,y::b,A,B,ha,hb,h=>by
  simp only[qz,List.cons.injEq] at h;obtain⟨h1,h2⟩:=nF (λe=>ha (by simp[e])) (λe=>hb (by simp[e])) h.2;exact⟨by rw[h.1,h1],h2⟩
theorem cG (l:List ByteArray):(zF l).data.toList=l.flatMap λk=>k.data.toList++[0]:=by
 have:∀(l:List ByteArray) (a:ByteArray),(l.foldl (λa k=>a++(k++⟨#[0]⟩)) a).data.toList=a.data.toList++l.flatMap λk=>k.data.toList++[0]:=by
  intro l
  induction l with
  | nil=>intro a;simp
  | cons k r ih=>intro a;rw[List.foldl_cons,ih];simp
 have h:=this l ByteArray.empty;have he:ByteArray.empty.data.toList=[]:=rfl;rw[he,xm] at h;exact h
theorem AF:∀{a b:List ByteArray},(∀k∈a,vD k=0)→(∀k∈b,vD k=0)→zF a=zF b→a=b:=by
 have key:∀{a b:List ByteArray},(∀k∈a,vD k=0)→(∀k∈b,vD k=0)→(a.flatMap λk=>k.data.toList++[0])=(b.flatMap λk=>k.data.toList++[(0:UInt8)])→a=b:=by
  intro a
  induction a with
  | nil=>
   intro b _ _ h
   cases b with
   | nil=>rfl
   | cons y b=>simp at h
  | cons x a ih=>
   intro b ha hb h
   cases b with
   | nil=>simp at h
   | cons y b=>
    simp only[List.flatMap_cons,qe,qz,xm] at h;obtain⟨h1,h2⟩:=nF (d9 (ha x zp2)) (d9 (hb y zp2)) h;rw[bytes_inj h1,ih (λk hk=>ha k (by simp[hk])) (λk hk=>hb k (by simp[hk])) h2]
 intro a b ha hb h;refine key ha hb ?_;rw[← cG,← cG,h]
theorem CN (h:Inv x) (hk:zT x.s.1 keys (names.map aU)) (h4:∀v∈keys,v.1=4) (hz:∀k∈names,vD k=0) (hll:keys.length≤65536) (hr:(x.s.1.length:Int)+(15+9*keys.length:Nat)≤jB) (vN:jB≤1048576) :
 let g:=qN x.lists (zF names)
 let x1:BS:=if g.2 && sh then x else
  let q:=yH jB 4 0 keys x.s
  ({x with s:=q.2,e:=zO x.e q.1.2,lists:=qD (zF names) x.vals.length x.lists,vals:=x.vals++[q.1.1]}:BS)
 let i:Int:=if g.2 && sh then g.1 else x.vals.length
 ∃e,Inv x1∧x1.s.1=x.s.1++e∧e.length≤15+9*keys.length∧x1.stk=x.stk∧x1.names=x.names∧iL x1.s.1 (x1.vals.getD i.toNat (0,0,0)) names:=by
 dsimp only;by_cases hg:((qN x.lists (zF names)).2 && sh)=true
 ·rw[zl hg,zl hg];rw[zg] at hg;have hm:qN x.lists (zF names)=((qN x.lists (zF names)).1,true):=by rw[← hg.1]
  obtain⟨h0,v,nm,h1,h2,h3,h5⟩:=h.lists _ (nB hm);have:nm=names:=AF h5 hz h3;subst this;refine⟨[],h,by simp,Nat.zero_le _,rfl,rfl,?_⟩;rw[zw,h1];exact h2
 rw[ze hg,ze hg];have hb:x.s.1.length≤1048576:=by omega
 obtain⟨b,hbe⟩:∃b,x.s.1=b:=⟨_,rfl⟩;have hxs:x.s=(b,0):=by rw[h.s,hbe]
 rw[hbe] at hk hr hb;obtain⟨X,hX⟩:∃X,allF keys (0,0,0) b.length 1=X:=⟨_,rfl⟩;obtain⟨p,hp⟩:∃p,(b.length:Int)+j8 b X+X=p:=⟨_,rfl⟩;obtain⟨hw,hH,hmod,hge,hlt,kE,hin⟩:=heldB (len:=true) (jX:=false) hb zo (hk.near hb) (by simpa using hX) (by simpa using hp);have hwp:=zA hw;have hle:=wZ hw true false b keys;have hput:=DQ (jB:=jB) (T:=kN 4) (len:=true) (jX:=false) (kind:=14) (λv hv=>dE (h4 v hv) (hk.near hb v hv).1) hb zo (hk.near hb) (by simpa using hX) zo;have hpl:=QN hw true false b keys;have hbody:=CI hk h4 hb hll hX hp
 have hvp:yH jB 4 0 keys x.s=(((14,X,p),0),(b++(JW X true false b keys).flatten,0)):=by
  rw[vp_of (typ:=14) zd nV,hxs];have:((b.length:Int)+j8 b X+if true=true then X else 0)=p:=by rw[zl rfl];exact hp
  rw[this] at hput;exact hput
 rw[hvp];obtain⟨R,hR⟩:∃R,(JW X true false b keys).flatten=R:=⟨_,rfl⟩;rw[hR] at hpl hH hbody⊢;dsimp only;have hI:=h.ext R x.stk;rw[hbe] at hI;have hXl:=hH.len;simp only[Bool.false_eq_true,if_false,Int.add_zero] at hXl;have hmul0:0≤X*(keys.length:Int):=Int.mul_nonneg zo zo;have hKV:iL (b++R) (14,X,p) names:=⟨rfl,hw,by show 0≤p;omega,by show p≤((b++R).length:Int);omega,by show p - X < ((b++R).length:Int);omega,λe=>hbody e⟩;refine⟨R,⟨by show zO x.e 0=0;rw[h.e0];rfl,rfl,hI.keys,hI.texts,λz hz'=>?_,hI.names,by have h1:=h.vals;rw[hbe] at h1;show (x.vals++[(14,X,p)]).length≤(b++R).length;rw[zb,List.length_singleton];omega⟩,by rw[hbe],by omega,rfl,rfl,?_⟩
 ·rcases aP hz' with hz'|⟨rfl,_⟩
  ·obtain⟨h0,v,nm,h1,h2,h3⟩:=hI.lists z hz';refine⟨h0,v,nm,?_,h2,h3⟩;show (x.vals++[(14,X,p)])[z.2.toNat]? = some v;rw[qy (zi.1 h1).1];exact h1
  refine⟨by show (0:Int)≤x.vals.length;omega,(14,X,p),names,?_,hKV,rfl,hz⟩;show (x.vals++[(14,X,p)])[((x.vals.length:Nat):Int).toNat]? = _;rw[Int.toNat_natCast,qs (zr _)];simp
 show iL (b++R) ((x.vals++[(14,X,p)]).getD ((x.vals.length:Nat):Int).toNat (0,0,0)) names;rw[Int.toNat_natCast,zw,qs (zr _)];simpa using hKV
theorem M1 {vals:List V3} (h:Inv x) (hk:zT x.s.1 keys (names.map aU)) (h4:∀v∈keys,v.1=4) (hz:∀k∈names,vD k=0) (hi:dW names=true) (hv:zT x.s.1 vals ts) (hnl:names.length=ts.length)
 (hl:x.stk.length+1≤65536) (hll:keys.length≤65536) (hr:(x.s.1.length:Int)+(46+18*keys.length:Nat)≤jB) (vN:jB≤1048576) :
 vA x (x.table jB sh (zF names) keys vals) (.mk 17 0 0 EMB names ts) (46+18*keys.length):=by
 obtain⟨e,h1,h2,h3,h5,h6,h7⟩:=CN (jB:=jB) (sh:=sh) h hk h4 hz hll zo vN;unfold BS.table;dsimp only at h1 h2 h3 h5 h6 h7⊢;generalize (if ((qN x.lists (zF names)).2 && sh)=true then x else {s:=(yH jB 4 0 keys x.s).2,e:=zO x.e (yH jB 4 0 keys x.s).1.2,stk:=x.stk,keys:=x.keys,texts:=x.texts,lists:=qD (zF names) (x.vals.length:Int) x.lists,names:=x.names,vals:=x.vals++[(yH jB 4 0 keys x.s).1.1]}:BS)=x1 at *;generalize x1.vals.getD (if ((qN x.lists (zF names)).2 && sh)=true then (qN x.lists (zF names)).1 else (x.vals.length:Int)).toNat (0,0,0)=k at *;rw[zl h1.e0];have hkl:keys.length=names.length:=by have:=hk.1;rw[qb] at this;exact this
 have hvn:=hv.1;have kE:x1.s.1.length=x.s.1.length+e.length:=by rw[h2,zb]
 have hv1:zT x1.s.1 vals ts:=by rw[h2];exact hv.more e
 have hb:x1.s.1.length≤1048576:=by omega
 obtain⟨b,hbe⟩:∃b,x1.s.1=b:=⟨_,rfl⟩;have hxs:x1.s=(b,0):=by rw[h1.s,hbe]
 rw[hbe] at hv1 hb h7 kE;have hK:iA b.length k:=⟨h7.typ,h7.isw,h7.n0,h7.n1⟩;obtain⟨X,hX⟩:∃X,allF vals k b.length 3=X:=⟨_,rfl⟩;obtain⟨p,hp⟩:∃p,(b.length:Int)+j8 b X+3*X=p:=⟨_,rfl⟩;obtain⟨hw,hH,hmod,hge,hlt,hin,hkn⟩:=heldM hb zo (hv1.near hb) hK hX hp;have hwp:=zA hw;have hle:=lenM_le hw b vals;have hput:=putM_ok (jB:=jB) hb zo (hv1.near hb) hK hX zo;rw[hp] at hput;have hpl:=aO hw k b vals;have hbody:=MW hv1 h7 hi hnl hb zo hX hp;obtain⟨R,hR⟩:∃R,(KQ X k b vals).flatten=R:=⟨_,rfl⟩;rw[hR] at hput hpl hH hbody;rw[hxs,hput];dsimp only;have hI:=h1.ext R x1.stk;rw[hbe] at hI;rw[CJ (x:={x1 with s:=(b++R,0)}) h1.e0,Q7 (x:={x1 with s:=(b++R,0)}) hI _ (by dsimp only;rw[h5];exact hl)];have hI2:=h1.ext R (x1.stk++[(9,X,p)]);rw[hbe] at hI2;have hXl:=hH.len;have hmul0:0≤X*(vals.length:Int):=Int.mul_nonneg zo zo;refine⟨hI2,⟨e++R,by show b++R=_;rw[← hbe,h2,qe],by rw[zb];omega⟩,⟨(9,X,p),by show x1.stk++_=_;rw[h5],.inr ⟨by show inlineB 9=false;decide,by show legalB 9=true;decide,hw,by show 0≤p;omega,by show p≤((b++R).length:Int);omega,?_,λf=>?_⟩⟩,λa _=>by show yP x1.names a=_;rw[h6]⟩
 ·show p - zL 9*X < ((b++R).length:Int);rw[show zL 9=3 by decide];omega
 exact hbody f
/-! ### the stack's end as a map's entries -/
def iE (es:List (V3 × V3)):List V3:=es.flatMap λp=>[p.1,p.2]
theorem nG (names:List (Int × ByteArray)):∀es:List (V3 × V3),zE names (iE es)=es.map λp=>(yP names p.1.2.2,p.1,p.2)
 | []=>rfl
 | p::r=>by
  show (yP names p.1.2.2,p.1,p.2)::zE names (iE r)=_;rw[nG names r];rfl
theorem iF:∀es:List (V3 × V3),(∀p∈es,p.1.1=4)→qY (iE es)=true
 | [],_=>rfl
 | p::r,h=>by
  show (decide (p.1.1=4) && qY (iE r))=true;rw[iF r λq hq=>h q (by simp[hq]),h p zp2];rfl
theorem AG:∀{l:List ByteArray},l.Pairwise (λa b=>ltS a b=true)→dW l=true
 | [],_=>rfl
 | [_],_=>rfl
 | a::b::r,h=>by
  obtain⟨h1,h2⟩:=List.pairwise_cons.1 h;show (ltS a b && dW (b::r))=true;rw[h1 b zp2,AG h2];rfl
theorem CO {α:Type} (l:List (ByteArray × α)) (h:(l.map Prod.fst).Pairwise λa b=>ltS a b=true):vW l=l:=by
 have hnd:(l.map Prod.fst).Nodup:=h.imp λ{a b} hab e=>by rw[e,ZP] at hab;cases hab
 exact YH _ _ (qT l) (ZB l hnd) (by rw[List.pairwise_map] at h;exact h)
theorem F0 {es:List (V3 × V3)} (h:Inv x) (hst:x.stk=K++iE es) (hk:zT x.s.1 (es.map (·.1)) (names.map aU)) (h4:∀p∈es,p.1.1=4) (hnm:es.map (λp=>yP x.names p.1.2.2)=names) (hz:∀k∈names,vD k=0)
 (hp:names.Pairwise λa b=>ltS a b=true) (hv:zT x.s.1 (es.map (·.2)) ts) (hl:K.length+1≤65536) (hll:es.length≤65536) (hr:(x.s.1.length:Int)+(46+18*es.length:Nat)≤jB) (vN:jB≤1048576) :
 vA {x with stk:=K} (x.endMap jB sh K.length) (.mk 17 0 0 EMB names ts) (46+18*es.length):=by
 unfold BS.endMap;have hd:x.stk.drop ((K.length:Nat):Int).toNat=iE es:=by rw[hst,Int.toNat_natCast,List.drop_left]
 have hk2:x.stk.take ((K.length:Nat):Int).toNat=K:=by rw[hst,Int.toNat_natCast,List.take_left' rfl]
 rw[zl h.e0,zl ⟨by omega,by rw[hst,zb];omega⟩];dsimp only;rw[hd,hk2,zl (iF es h4),nG];have hmap1:(es.map λp=>(yP x.names p.1.2.2,p.1,p.2)).map (·.1)=names:=by rw[xe];exact hnm
 have hself:vW (es.map λp=>(yP x.names p.1.2.2,p.1,p.2))=es.map λp=>(yP x.names p.1.2.2,p.1,p.2):=CO _ (by rw[show (es.map λp=>(yP x.names p.1.2.2,p.1,p.2)).map Prod.fst=names from hmap1];exact hp);have hnd:names.Nodup:=hp.imp λ{a b} hab e=>by rw[e,ZP] at hab;cases hab
 rw[hself,hmap1,zl hnd,xe,xe];have kE:names.length=es.length:=by rw[← hnm,qb]
 have hvn:=hv.1;rw[qb] at hvn;have hT:=M1 (jB:=jB) (sh:=sh) (x:={x with stk:=K}) (keys:=es.map (·.1)) (vals:=es.map (·.2)) (names:=names) (ts:=ts) (h.stk K) hk (λv hv=>by obtain⟨p,hp,rfl⟩:=qh.1 hv;exact h4 p hp) hz (AG hp) hv zo hl (by rw[qb];exact hll) (by rw[qb];exact hr) vN;rw[qb] at hT;exact hT
/-! ### the calls of a tree -/
mutual
def tL:Tr→Prop | .mk k n u s keys l=>(kY n∧KG u)∧rngL l
def rngL:List Tr→Prop | []=>True | t::r=>tL t∧rngL r
end
theorem rngL_iff:∀{l:List Tr},rngL l↔∀x∈l,tL x
 | []=>by simp[rngL]
 | t::r=>by simp[rngL,rngL_iff (l:=r)]
mutual
theorem nH {w:World}:∀{t:Tr} {v:Value},jM w t v→tL t
 | .mk k n u s keys l,v,⟨hb,kv,lv,vs,e,h1,h2,h3⟩=>⟨⟨hb.2.1,hb.2.2.1⟩,AH h3⟩
theorem AH {w:World}:∀{l:List Tr} {vs:List Value},kZ w l vs→rngL l
 | [],_,_=>trivial
 | t::r,_,⟨v,vr,e,h1,h2⟩=>⟨nH h1,AH h2⟩
end
theorem tM (hv:Y9 b t) (hk:t.kind=3):t=.mk 3 t.fn 0 EMB [] []:=by
 obtain⟨k,n,u,s,keys,l⟩:=t;obtain⟨_,h1,h2,_,h4,h5,h6⟩:=J9 hv;simp only[Tr.kind] at hk;subst hk;rw[h1 zd,h2 zd,h5 zd zd,h6 zd zd zd];rfl
theorem tN (hv:Y9 b t) (hk:t.kind=4):t=.mk 4 0 t.fu EMB [] []:=by
 obtain⟨k,n,u,s,keys,l⟩:=t;obtain⟨_,h1,h2,_,h4,h5,h6⟩:=J9 hv;simp only[Tr.kind] at hk;subst hk;rw[h1 zd,h2 zd,h4 zd zd zd,h6 zd zd zd];rfl
theorem AI (hv:Y9 b t) (hk:t.kind=2):t=.mk 2 (if decide (t.fn=1)=true then 1 else 0) 0 EMB [] []:=by
 obtain⟨k,n,u,s,keys,l⟩:=t;obtain⟨_,h1,h2,_,h4,h5,h6⟩:=J9 hv;simp only[Tr.kind] at hk;subst hk;have hb:=hv.2.1;simp only[zD,zg,zp,qv,Bool.not_eq_true'] at hb
 have hn:n=0∨n=1:=by
  have:=hb.1.1.1.2;simpa using this
 rw[h1 zd,h2 zd,h5 zd zd,h6 zd zd zd];rcases hn with rfl|rfl<;>simp[Tr.fn,EMB]
theorem tO (hv:Y9 b t) (hk:t.kind=5):t=aU t.fs∧vD t.fs=0:=by
 obtain⟨k,n,u,s,keys,l⟩:=t;obtain⟨_,h1,h2,_,h4,h5,h6⟩:=J9 hv;simp only[Tr.kind] at hk;subst hk;have hz:=hv.2.2.1;simp only[qH] at hz;constructor
 ·rw[h1 zd,h2 zd,h4 zd zd zd,h5 zd zd];rfl
 show vD s=0;rw[sO];by_cases hzz:JI s=true
 ·rw[zl ⟨trivial,hzz⟩] at hz;cases hz
 rw[ze hzz]
theorem F1 {k n u:Int} {s:ByteArray} {keys:List ByteArray} {l:List Tr} (hv:Y9 b (.mk k n u s keys l)) (hp:YC k≠0):∀x∈l,x.kind=YC k:=by
 have hb:=hv.2.1;simp only[zD,zg,zp,qv,Bool.not_eq_true'] at hb;have ho:=hb.2;intro x hx;rw[List.any_eq_false] at ho;have h1:=ho x hx;unfold qW at h1;simp only[zg,bne_iff_ne,ne_eq,not_and,Decidable.not_not] at h1;exact h1 hp
theorem YT {d:List UInt8} {f:Tr→V3}:∀{l:List Tr},(∀x∈l,DX (f x) x)→zT d (l.map f) l
 | [],_=>zT.nil d
 | t::r,h=>zT.cons (.inl (h t zp2)) (YT λx hx=>h x oL)
theorem M2 {l:List Tr} (hv:∀x∈l,Y9 b x) (hk:∀x∈l,x.kind=5):(l.map Tr.fs).map aU=l:=by
 rw[xe]
 conv=>rhs;rw[← List.map_id l]
 exact List.map_congr_left λx hx=>((tO (hv x hx) (hk x hx)).1).symm
theorem nI {b:Nat}:∀{l:List Tr},ZH (l.map Tr.fs)+18*l.length≤KO l
 | []=>by simp[ZH,KO]
 | t::r=>by
  have ih:=nI (b:=b) (l:=r);obtain⟨k,n,u,s,keys,q⟩:=t;simp only[ZH,KO,QF,List.map_cons,List.sum_cons,zz,Tr.fs] at ih⊢;omega
theorem AJ:∀(l:List Tr),32*l.length≤KO l
 | []=>by simp[KO]
 | t::r=>by have:=AJ r;simp only[KO,zz];omega
theorem rL {jB jD:Int}:∀(l:List Tr) (x:BS),(∀t∈l,∀x:BS,Inv x→(x.s.1.length:Int)+QF t≤jB→x.stk.length+3*t.size≤65535→vA x (kT jB jD t x) t (QF t))→Inv x→(x.s.1.length:Int)+KO l≤jB→x.stk.length+3*zY l≤65535 →
 ∃vs e,Inv (qE jB jD l x)∧(qE jB jD l x).s.1=x.s.1++e∧e.length+32*l.length≤KO l∧(qE jB jD l x).stk=x.stk++vs∧zT (qE jB jD l x).s.1 vs l∧∀c:Int,c < x.s.1.length→yP (qE jB jD l x).names c=yP x.names c
 | [],x,_,h,_,_=>⟨[],[],h,by simp[qE],by simp[KO],by simp[qE],zT.nil _,λ_ _=>rfl⟩
 | t::r,x,ih,h,hr,hs=>by
  simp only[KO] at hr;simp only[zY] at hs;have hP:=ih t zp2 x h zo zo;obtain⟨e,g1,g2⟩:=hP.grow;obtain⟨v,g3,g4⟩:=hP.push;have kE:(kT jB jD t x).s.1.length=x.s.1.length+e.length:=by rw[g1,zb]
  have hz:=t.size_pos;obtain⟨vs,e2,i1,i2,i3,i4,i5,i6⟩:=rL r (kT jB jD t x) (λq hq=>ih q (by simp[hq])) hP.inv zo (by rw[g3,zb,List.length_singleton];omega);simp only[qE];refine⟨v::vs,e++e2,i1,by rw[i2,g1,qe],by simp only[zb,zz,KO];omega,by rw[i4,g3,qe];rfl,zT.cons ?_ i5,λc hc=>by rw[i6 c zo,hP.nms c hc]⟩;rw[i2];exact g4.more _
theorem rM {jB jD:Int}:∀(l:List Tr) (ks:List ByteArray) (x:BS),(∀t∈l,∀x:BS,Inv x→(x.s.1.length:Int)+QF t≤jB→x.stk.length+3*t.size≤65535→vA x (kT jB jD t x) t (QF t))→Inv x→ks.length=l.length→(∀k∈ks,vD k=0)→(x.s.1.length:Int)+(ZH ks+KO l:Nat)≤jB→x.stk.length+1+3*zY l≤65535 →
 ∃es e,Inv (qZ jB jD l ks x)∧(qZ jB jD l ks x).s.1=x.s.1++e∧e.length+32*l.length≤ZH ks+KO l∧(qZ jB jD l ks x).stk=x.stk++iE es∧zT (qZ jB jD l ks x).s.1 (es.map (·.1)) (ks.map aU)∧(∀p∈es,p.1.1=4)∧es.map (λp=>yP (qZ jB jD l ks x).names p.1.2.2)=ks∧zT (qZ jB jD l ks x).s.1 (es.map (·.2)) l∧∀c:Int,c < x.s.1.length→yP (qZ jB jD l ks x).names c=yP x.names c
 | [],ks,x,_,h,hk,_,_,_=>by
  have:ks=[]:=List.length_eq_zero_iff.1 (by simpa using hk);subst this;exact⟨[],[],h,by simp[qZ],by simp[KO,ZH],by simp[qZ,iE],zT.nil _,by simp,rfl,zT.nil _,λ_ _=>rfl⟩
 | t::r,[],x,_,h,hk,_,_,_=>by simp at hk
 | t::r,k::ks,x,ih,h,hk,hkz,hr,hs=>by
  simp only[KO,ZH,List.map_cons,List.sum_cons] at hr;simp only[zY] at hs;have hz:=t.size_pos;obtain⟨hK,a,ka,kn,kl⟩:=MX (jB:=jB) (sh:=onF jD 1) h (hkz k zp2) zo zo;obtain⟨e0,q1,q2⟩:=hK.grow;obtain⟨v0,q3,q4⟩:=hK.push
  have ev:v0=(4,1,a):=by
   rw[ka] at q3;have:=List.append_cancel_left q3;simpa using this.symm
  subst ev;have hlen0:(x.key jB (onF jD 1) k).s.1.length=x.s.1.length+e0.length:=by rw[q1,zb]
  have hP:=ih t zp2 (x.key jB (onF jD 1) k) hK.inv zo (by rw[ka,zb,List.length_singleton];omega);obtain⟨e,g1,g2⟩:=hP.grow;obtain⟨v,g3,g4⟩:=hP.push;have kE:(kT jB jD t (x.key jB (onF jD 1) k)).s.1.length=x.s.1.length+e0.length+e.length:=by rw[g1,zb,hlen0]
  obtain⟨es,e2,i1,i2,i3,i4,i5,i6,i7,i8,i9⟩:=rM r ks (kT jB jD t (x.key jB (onF jD 1) k)) (λq hq=>ih q (by simp[hq])) hP.inv (by simpa using hk) (λq hq=>hkz q (by simp[hq])) (by unfold ZH;omega) (by rw[g3,ka,zb,zb,List.length_singleton,List.length_singleton];omega);simp only[qZ,List.headD_cons,List.tail_cons];refine⟨((4,1,a),v)::es,e0++(e++e2),i1,by rw[i2,g1,q1,qe,qe],by simp only[zb,zz,KO,ZH,List.map_cons,List.sum_cons] at i3⊢;omega,?_,?_,?_,?_,?_,λc hc=>by rw[i9 c zo,hP.nms c zo,hK.nms c hc]⟩
  ·rw[i4,g3,ka,qe,qe];rfl
  ·refine zT.cons ?_ i5;rw[i2,g1];exact (q4.more _).more _
  ·intro p hp;rcases qp.1 hp with rfl|hp
   ·rfl
   exact i6 p hp
  ·simp only[List.map_cons];rw[i7,i9 a zo,hP.nms a kl,kn]
  refine zT.cons ?_ i8;rw[i2];exact g4.more _
theorem vA.wide {x':BS} (h:vA x x' t c) (hd:c≤d):vA x x' t d:=by
 obtain⟨e,h1,h2⟩:=h.grow;exact⟨h.inv,⟨e,h1,zf h2 hd⟩,h.push,h.nms⟩
theorem vA.after {y z:BS} {e:List UInt8} (h:vA {y with stk:=K} z t c) (hs:y.s.1=x.s.1++e) (hk:K=x.stk) (hd:e.length+c≤d) (hn:∀a:Int,a < x.s.1.length→yP y.names a=yP x.names a):vA x z t d:=by
 obtain⟨e2,h1,h2⟩:=h.grow;obtain⟨v,h3,h4⟩:=h.push;refine⟨h.inv,⟨e++e2,by rw[h1];show y.s.1++e2=_;rw[hs,qe],by rw[zb];omega⟩,⟨v,by rw[h3,← hk],h4⟩,λa ha=>?_⟩;rw[h.nms a (by show a < (y.s.1.length:Int);rw[hs,zb];omega)];exact hn a ha
theorem M5 (vN:jB≤1048576):∀(m:Nat) (t:Tr) (b:Nat) (x:BS),t.size≤m→Y9 b t→wL t→tL t→Inv x→(x.s.1.length:Int)+QF t≤jB→x.stk.length+3*t.size≤65535→vA x (kT jB jD t x) t (QF t):=by
 intro m
 induction m with
 | zero=>intro t b x h;have:=t.size_pos;omega
 | succ m ihm=>
  intro t b x hz hv hs hr h hrm hst;obtain⟨k,n,u,s,keys,l⟩:=t;have hn:=J9 hv;obtain⟨v0,v1,v2,v3,v4,v5,v6⟩:=hn;have qG:=valL_iff.1 hv.2.2.2;obtain⟨s1,s2⟩:=srt_iff.1 hs;have hrl:=rngL_iff.1 hr.2;have hr0:=hr.1;simp only[Tr.size] at hz hst;have hll:=K7 l;have hlc:=AJ l;simp only[QF] at hrm;have ihl:∀t∈l,∀x:BS,Inv x→(x.s.1.length:Int)+QF t≤jB→x.stk.length+3*t.size≤65535→vA x (kT jB jD t x) t (QF t):=λt ht y=>ihm t (b+1) y (by have:=JC ht;omega) (qG t ht) (s2 t ht) (hrl t ht);have hpk:=F1 hv;simp only[kT,QF]
  have hsk:k≤9→kT jB jD (.mk k n u s keys l) x=Z9 jB jD k n u s x:=λh9=>by
   simp only[kT];rw[ze zo,ze zo,ze zo,ze zo,ze zo,ze zo,ze zo,ze zo]
  have hk17:=DF k v0.1 v0.2;rcases hk17 with rfl|rfl|rfl|rfl|rfl|rfl|rfl|rfl|rfl|rfl|rfl|rfl|rfl|rfl|rfl|rfl|rfl
  ·-- null
   obtain rfl:=v1 zd;obtain rfl:=v2 zd;obtain rfl:=v4 zd zd zd;obtain rfl:=v5 zd zd;obtain rfl:=v6 zd zd zd;exact (bU h (.inl ⟨rfl,rfl⟩) zo).wide zo
  ·have hkb:=AI hv rfl;have hP:=bU (v:=y6 (decide (n=1))) (t:=.mk 2 n u s keys l) h (.inr (.inl ⟨decide (n=1),rfl,hkb⟩)) zo;exact hP.wide zo
  ·have hkb:=tM hv rfl;have hP:=bU (v:=vE n) (t:=.mk 3 n u s keys l) h (.inr (.inr (.inl ⟨n,hr0.1,rfl,hkb⟩))) zo;exact hP.wide zo
  ·have hkb:=tN hv rfl;have hP:=bU (v:=vF u) (t:=.mk 4 n u s keys l) h (.inr (.inr (.inr ⟨u,hr0.2,rfl,hkb⟩))) zo;exact hP.wide zo
  ·obtain⟨hkb,hke⟩:=tO hv rfl;rw[hkb];exact (MX h hke (by show _+((s.size:Int)+1)≤_;omega) zo).1.wide (by show s.size+1≤_;omega)
  ·obtain rfl:=v1 zd;obtain rfl:=v2 zd;obtain rfl:=v4 zd zd zd;obtain rfl:=v5 zd zd;exact (MZ h zo zo vN).wide zo
  ·obtain rfl:=v1 zd;obtain rfl:=v2 zd;obtain rfl:=v4 zd zd zd;obtain rfl:=v5 zd zd;exact (FY h zo zo vN).wide zo
  ·obtain rfl:=v1 zd;obtain rfl:=v2 zd;obtain rfl:=v5 zd zd;obtain rfl:=v6 zd zd zd;exact (AD h zo zo vN (.inl ⟨rfl,n,hr0.1,rfl,rfl⟩)).wide zo
  ·obtain rfl:=v1 zd;obtain rfl:=v2 zd;obtain rfl:=v4 zd zd zd;obtain rfl:=v6 zd zd zd;exact (AD h zo zo vN (.inr ⟨rfl,u,hr0.2,rfl,rfl⟩)).wide zo
  ·-- untyped vector
   obtain rfl:=v2 zd;obtain rfl:=v4 zd zd zd;obtain rfl:=v5 zd zd;obtain rfl:=v6 zd zd zd;obtain⟨vs,e,i1,i2,i3,i4,i5,i6⟩:=rL l x ihl h zo zo;have hvl:=i5.1;have kE:(qE jB jD l x).s.1.length=x.s.1.length+e.length:=by rw[i2,zb]
   have hE:(qE jB jD l x).endVec jB x.stk.length=({qE jB jD l x with stk:=x.stk}:BS).vector jB (-1) 0 vs:=by
    unfold BS.endVec;rw[zl i1.e0,zl ⟨by omega,by rw[i4,zb];omega⟩,i4,Int.toNat_natCast,List.drop_left,List.take_left' rfl]
   show vA x ((qE jB jD l x).endVec jB x.stk.length) _ _;rw[hE];have hP:=CM (jB:=jB) (elem:=-1) (many:=0) (typ:=10) (kd:=10) (len:=true) (jX:=true) (T:=kG) (x:={qE jB jD l x with stk:=x.stk}) (i1.stk x.stk) i5 (λs=>rfl) (λv hv=>(i5.near zo v hv).1) (by show kA 10=(10,0);decide) zd zd (λe=>by cases e) (λe=>by cases e) (by show x.stk.length+1≤_;omega) zo (by show ((qE jB jD l x).s.1.length:Int)+_≤jB;omega) vN zd;exact hP.after i2 rfl zo i6
  ·obtain rfl:=v2 zd;obtain rfl:=v4 zd zd zd;obtain rfl:=v5 zd zd;obtain rfl:=v6 zd zd zd;have hkk:=hpk zd;have hT:zT x.s.1 (l.map λt=>vE t.fn) l:=YT λt ht=>.inr (.inr (.inl ⟨t.fn,by have:=(hrl t ht);cases t;exact this.1.1,rfl,tM (qG t ht) (hkk t ht)⟩));have hP:=eP (jB:=jB) (el:=1) (typ:=11) (kd:=11) h hT zd nV zd zd zd (λv hv=>by obtain⟨t,_,rfl⟩:=qh.1 hv;rfl) ⟨by decide,.inl zd⟩ zo zp9 zp9 vN zd;rw[qb] at hP;exact hP.wide zo
  ·obtain rfl:=v2 zd;obtain rfl:=v4 zd zd zd;obtain rfl:=v5 zd zd;obtain rfl:=v6 zd zd zd;have hkk:=hpk zd;have hT:zT x.s.1 (l.map λt=>vF t.fu) l:=YT λt ht=>.inr (.inr (.inr ⟨t.fu,by have:=(hrl t ht);cases t;exact this.1.2,rfl,tN (qG t ht) (hkk t ht)⟩));have hP:=eP (jB:=jB) (el:=2) (typ:=12) (kd:=12) h hT zd nV zd zd zd (λv hv=>by obtain⟨t,_,rfl⟩:=qh.1 hv;rfl) ⟨by decide,.inl zd⟩ zo zp9 zp9 vN zd;rw[qb] at hP;exact hP.wide zo
  ·obtain rfl:=v2 zd;obtain rfl:=v4 zd zd zd;obtain rfl:=v5 zd zd;obtain rfl:=v6 zd zd zd;have hkk:=hpk zd;have hmk:=M2 qG hkk;have hkc:=nI (b:=0) (l:=l);have hP:=FZ (jB:=jB) (sh:=onF jD 1) (l:=l.map Tr.fs) h (λq hq=>by obtain⟨t,ht,rfl⟩:=qh.1 hq;exact (tO (qG t ht) (hkk t ht)).2) zo zp9 zp9 vN;rw[qb,hmk] at hP;exact hP.wide zo
  ·obtain rfl:=v2 zd;obtain rfl:=v4 zd zd zd;obtain rfl:=v5 zd zd;obtain rfl:=v6 zd zd zd;have hkk:=hpk zd;have hT:zT x.s.1 (l.map λt=>y6 (decide (t.fn=1))) l:=YT λt ht=>.inr (.inl ⟨decide (t.fn=1),rfl,AI (qG t ht) (hkk t ht)⟩);have hP:=eP (jB:=jB) (el:=26) (typ:=36) (kd:=14) h hT zd nV zd zd zd (λv hv=>by obtain⟨t,_,rfl⟩:=qh.1 hv;rfl) ⟨by decide,.inl zd⟩ zo zp9 zp9 vN zd;rw[qb] at hP;exact hP.wide zo
  ·obtain rfl:=v2 zd;obtain rfl:=v4 zd zd zd;obtain rfl:=v5 zd zd;obtain rfl:=v6 zd zd zd;have hkk:=hpk zd;have hT:zT x.s.1 (l.map λt=>vE t.fn) l:=YT λt ht=>.inr (.inr (.inl ⟨t.fn,by have:=(hrl t ht);cases t;exact this.1.1,rfl,tM (qG t ht) (hkk t ht)⟩))
   have hfx:2≤l.length∧l.length≤4:=by
    have hb:=hv.2.1;simp only[zD,zg,zp,qv,Bool.not_eq_true'] at hb;have:=hb.1.2;simpa using this
   have hP:=AE (jB:=jB) (el:=1) (kd:=15) h hT (.inl ⟨rfl,rfl⟩) (λv hv=>by obtain⟨t,_,rfl⟩:=qh.1 hv;rfl) (by rw[qb];exact hfx) zo zp9 vN;rw[qb] at hP;exact hP.wide zo
  ·obtain rfl:=v2 zd;obtain rfl:=v4 zd zd zd;obtain rfl:=v5 zd zd;obtain rfl:=v6 zd zd zd;have hkk:=hpk zd;have hT:zT x.s.1 (l.map λt=>vF t.fu) l:=YT λt ht=>.inr (.inr (.inr ⟨t.fu,by have:=(hrl t ht);cases t;exact this.1.2,rfl,tN (qG t ht) (hkk t ht)⟩))
   have hfx:2≤l.length∧l.length≤4:=by
    have hb:=hv.2.1;simp only[zD,zg,zp,qv,Bool.not_eq_true'] at hb;have:=hb.1.2;simpa using this
   have hP:=AE (jB:=jB) (el:=2) (kd:=16) h hT (.inr ⟨rfl,rfl⟩) (λv hv=>by obtain⟨t,_,rfl⟩:=qh.1 hv;rfl) (by rw[qb];exact hfx) zo zp9 vN;rw[qb] at hP;exact hP.wide zo
  -- map
  obtain rfl:=v4 zd zd zd;obtain rfl:=v5 zd zd;obtain rfl:=v6 zd zd zd;obtain⟨hnd,hkl⟩:=v3 rfl
  have hkz:∀q∈keys,vD q=0:=by
   have hz:=hv.2.2.1;simp only[qH] at hz;rw[ze zd] at hz;intro q hq;rw[sO,((fM keys []).1 hz).1 q hq |>.1];rfl
  have hkc:ZH keys+31*l.length≤(keys.map λk=>k.size+32).sum:=by
   rw[← hkl];clear hkz hnd hkl s1 v3 hv hs hr hrm hr0 hpk hsk
   induction keys with
   | nil=>simp[ZH]
   | cons q r ih=>simp only[ZH,List.map_cons,List.sum_cons,zz] at ih⊢;omega
  obtain⟨es,e,i1,i2,i3,i4,i5,i6,i7,i8,i9⟩:=rM l keys x ihl h hkl hkz zo zo;have hel:=i8.1;rw[qb] at hel;have kE:(qZ jB jD l keys x).s.1.length=x.s.1.length+e.length:=by rw[i2,zb]
  have hP:=F0 (jB:=jB) (sh:=onF jD 4) (K:=x.stk) i1 i4 i5 i6 i7 hkz s1 i8 zo zo zo vN;exact hP.after i2 rfl zo i9
mutual
def smT (K:Nat):Tr→Prop | .mk k n u s keys l=>(s.size≤K∧∀q∈keys,q.size≤K)∧smL K l
def smL (K:Nat):List Tr→Prop | []=>True | t::r=>smT K t∧smL K r
end
theorem smL_iff {K:Nat}:∀{l:List Tr},smL K l↔∀x∈l,smT K x
 | []=>by simp[smL]
 | t::r=>by simp[smL,smL_iff (l:=r)]
theorem cost_le {K:Nat}:∀(m:Nat) (t:Tr) (b:Nat),t.size≤m→Y9 b t→smT K t→QF t+(32+K+32)≤(128+2*K)*t.size:=by
 intro m
 induction m with
 | zero=>intro t b h;have:=t.size_pos;omega
 | succ m ih=>
  intro t b h hv hs;obtain⟨k,n,u,s,keys,l⟩:=t;obtain⟨_,_,v3,v4,_⟩:=J9 hv;have qG:=valL_iff.1 hv.2.2.2;have hsl:=smL_iff.1 hs.2;simp only[Tr.size] at h
  have vC:(keys.map λq=>q.size+32).sum≤(K+32)*l.length:=by
   have h1:∀r:List ByteArray,(∀q∈r,q.size≤K)→(r.map λq=>q.size+32).sum≤(K+32)*r.length:=by
    intro r
    induction r with
    | nil=>intro _;simp
    | cons q r ihr=>
     intro hq;have:=ihr λz hz=>hq z (by simp[hz]);have:=hq q zp2;simp only[List.map_cons,List.sum_cons,zz,Nat.mul_add,Nat.mul_one] at this⊢;omega
   have h2:=h1 keys hs.1.2;by_cases e:k=17
   ·rw[(v4 e).2] at h2;exact h2
   rw[v3 e];simp
  have hl:∀r:List Tr,(∀x∈r,x∈l)→KO r+(K+32)*r.length≤(128+2*K)*zY r:=by
   intro r
   induction r with
   | nil=>intro _;simp[KO,zY]
   | cons x r ihr=>
    intro hm;have h1:=ihr λz hz=>hm z (by simp[hz]);have hx:=hm x zp2;have h2:=ih x (b+1) zp7 (qG x hx) (hsl x hx);simp only[KO,zY,zz,Nat.mul_add,Nat.mul_one] at h1⊢;omega
  have h3:=hl l λ_ h=>h;have h4:=hs.1.1;simp only[QF,Tr.size,Nat.mul_add,Nat.mul_one] at h3⊢;omega
theorem eQ {K:Nat}:∀(m:Nat) (t:Tr),t.size≤m→smT K t→smT K (zP t):=by
 intro m
 induction m with
 | zero=>intro t h;have:=t.size_pos;omega
 | succ m ih=>
  intro t h hs;obtain⟨k,n,u,s,keys,l⟩:=t;simp only[Tr.size] at h;have hsl:=smL_iff.1 hs.2;have hk:∀x∈l,smT K (zP x):=λx hx=>ih x zp7 (hsl x hx);simp only[zP];by_cases e:k=17
  ·rw[zl e];refine⟨⟨hs.1.1,λq hq=>?_⟩,smL_iff.2 λx hx=>?_⟩
   ·obtain⟨p,hp,rfl⟩:=qh.1 hq;exact hs.1.2 _ (List.of_mem_zip ((qT _).mem_iff.1 hp)).1
   exact zb38
  rw[ze e,yW];refine⟨hs.1,smL_iff.2 λx hx=>?_⟩;obtain⟨y,hy,rfl⟩:=qh.1 hx;exact hk y hy
theorem M6:∀(m:Nat) (t:Tr),t.size≤m→tL t→tL (zP t):=by
 intro m
 induction m with
 | zero=>intro t h;have:=t.size_pos;omega
 | succ m ih=>
  intro t h hs;obtain⟨k,n,u,s,keys,l⟩:=t;simp only[Tr.size] at h;have hsl:=rngL_iff.1 hs.2;have hk:∀x∈l,tL (zP x):=λx hx=>ih x zp7 (hsl x hx);simp only[zP];by_cases e:k=17
  ·rw[zl e];refine⟨hs.1,rngL_iff.2 λx hx=>?_⟩;obtain⟨p,hp,rfl⟩:=qh.1 hx;have h1:=(List.of_mem_zip ((qT _).mem_iff.1 hp)).2;rw[yW] at h1;obtain⟨y,hy,e⟩:=qh.1 h1;rw[← e];exact hk y hy
  rw[ze e,yW];refine⟨hs.1,rngL_iff.2 λx hx=>?_⟩;obtain⟨y,hy,rfl⟩:=qh.1 hx;exact hk y hy
theorem cut_sm (K:Nat):∀(m:Nat) (t:Tr) (left:Nat),t.size≤m→smT K (JH K left t).1:=by
 intro m
 induction m with
 | zero=>intro t left h;have:=t.size_pos;omega
 | succ m ih=>
  intro t left h;obtain⟨k,n,u,s,keys,l⟩:=t;simp only[Tr.size] at h;simp only[JH];refine⟨⟨by rw[Z2];exact Nat.min_le_right _ _,λq hq=>?_⟩,?_⟩
  ·unfold qB at hq;obtain⟨z,_,rfl⟩:=qh.1 hq;rw[Z2];exact Nat.min_le_right _ _
  have:∀(r:List Tr) (left:Nat),(∀x∈r,x∈l)→smL K (kJ K left r).1:=by
   intro r
   induction r with
   | nil=>intro left _;simp[kJ,smL]
   | cons x r ihr=>
    intro left hm;rw[kJ];by_cases e:left=0
    ·rw[zl e];trivial
    rw[ze e];have hx:=hm x zp2;exact⟨ih x _ zp7,ihr _ λz hz=>hm z (by simp[hz])⟩
  exact this l left λ_ h=>h
structure rV (jB jD:Int) (t:Tr) (b:List UInt8) (v:V3):Prop where
 inv:Inv (kT jB jD (zP t) BS.new)
 s:(kT jB jD (zP t) BS.new).s=(b,0)
 stk:(kT jB jD (zP t) BS.new).stk=[v]
 tells:YF b v (zP t)
 len:b.length≤40000
theorem M7 (hc:JZ t=0) (hsm:smT 60 t) (hr:tL t) (hz:t.size≤120):∃b v,rV 1048576 jD t b v:=by
 obtain⟨_,hv⟩:=check_val.1 hc;obtain⟨hv2,hz2⟩:=d8 t.size t 0 (zr _) hv;have hcost:=cost_le (K:=60) _ (zP t) 0 (zr _) hv2 (eQ _ t (zr _) hsm);have hP:=M5 (jB:=1048576) (jD:=jD) zd (zP t).size (zP t) 0 BS.new (zr _) hv2 (wM t.size t 0 (zr _) hv) (M6 _ t (zr _) hr) Inv.new (by show ((0:Nat):Int)+_≤_;omega) (by show 0+_≤_;omega);obtain⟨e,h1,h2⟩:=hP.grow;obtain⟨v,h3,h4⟩:=hP.push;rw[show BS.new.s.1=[] from rfl,xm] at h1;rw[show BS.new.stk=[] from rfl,xm] at h3;exact⟨e,v,hP.inv,by rw[hP.inv.s,h1],h3,by rw[← h1];exact h4,by omega⟩
theorem rV.near {b:List UInt8} (h:rV jB jD t b v):aN b.length v:=h.tells.near (by have:=h.len;omega)
theorem rV.doc_len {b:List UInt8} (h:rV jB jD t b v):(aQ b v).length≤40017∧b.length+3≤(aQ b v).length:=by
 have hb:=h.len;have hw:=(Q5 zo h.near).1;have hl:=dB hw;have hp:=zA hw;have hpad:=eN b hw;omega
section
variable {m M:Int} {G H:Int→St→St}
end
/-! ### the builder's steps -/
section
variable {m M:Int} {f:Int→BS→BS}
end
mutual
def strsT:Tr→List ByteArray | .mk k n u s keys l=>(if k=5∨k=6 then [s] else [])++(keys++AK l)
def AK:List Tr→List ByteArray | []=>[] | t::r=>strsT t++AK r
end
end Go.Proofs.YtdjoffgkndncfaaGreat
