/-
  Texts of the proof.
-/
import Derived.Test.YtjnpcddbgfmpcaaGreatDoorBKeysPBA
import Derived.Test.YtjnpcddbgfmpcaaGreatDoorBKeysPBP
set_option linter.unusedVariables false
set_option linter.unusedSimpArgs false
namespace Go.Proofs.YtjnpcddbgfmpcaaGreatDoor
open Go Go.ChangeShapes Go.WideShapes Go.ChangeAt Go.RowKit Go.Joins Go.Deep
open Go.Proofs.YtjnpcddbgfmpcaaGreatDoor.Ft (V3 vV okV ValsAt inlineB legalB packF codeF typedF allF oneF allAt headF fitsL fitsV fitsF belowW isA unpackF)
def bodyF (d:List UInt8) (typ wid at_:Int) (t:Tr):Bool:=if eM typ=true then K2 d typ 0 0 wid at_ t else aM d typ wid at_ t
theorem rY {typ:Int} (h:eM typ=true):typ=4∨typ=5∨typ=25∨typ=6∨typ=7:=by
 unfold eM at h
 simp only[Bool.or_eq_true,decide_eq_true_eq] at h
 omega
theorem rZ {d:List UInt8} {typ pos par wid at_:Int} {t:Tr} (h:eM typ=true):K2 d typ pos par wid at_ t=K2 d typ 0 0 wid at_ t:=by
 rcases rY h with rfl|rfl|rfl|rfl|rfl<;>rfl
def nearV (v:V3) (t:Tr):Prop:=
 (v=(0,1,0)∧t=.mk 1 0 0 EMB [] [])∨(∃b:Bool,v=zQ b∧t=.mk 2 (if b then 1 else 0) 0 EMB [] []) ∨
 (∃n,YT n∧v=yU n∧t=.mk 3 n 0 EMB [] [])∨(∃u,fY u∧v=yV u∧t=.mk 4 0 u EMB [] [])
structure farV (d:List UInt8) (v:V3) (t:Tr):Prop where
 far:inlineB v.1=false
 legal:legalB v.1=true
 isw:isW v.2.1=true
 n0:0≤v.2.2
 n1:v.2.2≤d.length
 lim:v.2.2 - QQ v.1*v.2.1 < d.length
 body:∀e,bodyF (d++e) v.1 v.2.1 v.2.2 t=true
def KR (d:List UInt8) (v:V3) (t:Tr):Prop:=nearV v t∨farV d v t
theorem KR.more {d:List UInt8} {v:V3} {t:Tr} (h:KR d v t) (e:List UInt8):KR (d++e) v t:=by
 rcases h with h|h
 ·exact .inl h
 ·refine .inr ⟨h.far,h.legal,h.isw,h.n0,?_,?_,fun f=>by rw[List.append_assoc];exact h.body _⟩
  ·have:=h.n1;rw[List.length_append];omega
  ·have:=h.lim;rw[List.length_append];omega
theorem KK {v:V3} {t:Tr} (h:nearV v t):inlineB v.1=true∧legalB v.1=true∧isW v.2.1=true∧0≤v.2.2∧v.2.2≤18446744073709551615:=by
 rcases h with ⟨rfl,_⟩|⟨b,rfl,_⟩|⟨n,hn,rfl,_⟩|⟨u,hu,rfl,_⟩
 ·exact⟨by decide,by decide,rfl,by decide,by decide⟩
 ·cases b<;>exact⟨by decide,by decide,rfl,by decide,by decide⟩
 ·exact⟨by show inlineB 1=true;decide,by show legalB 1=true;decide,bO n,by show 0≤n % _;omega,by show n % _≤_;omega⟩
 ·unfold fY at hu
  exact⟨by show inlineB 2=true;decide,by show legalB 2=true;decide,ZH _,hu.1,hu.2⟩
theorem KR.near {d:List UInt8} {v:V3} {t:Tr} (h:KR d v t) (hd:d.length≤1048576):YI d.length v:=by
 rcases h with h|h
 ·obtain⟨h1,h2,h3,h4,h5⟩:=KK h
  refine⟨?_,⟨h4,h5⟩,fun _=>(zF h3).2,fun e=>(by rw[h1] at e;cases e)⟩
  unfold jX;rw[if_pos h2,if_pos h1]
 ·have h1:=h.n1
  refine⟨?_,And.intro h.n0 (by omega),fun e=>(by rw[h.far] at e;cases e),fun _=>h.n1⟩
  unfold jX;rw[if_pos h.legal,if_neg (by rw[h.far];decide),if_pos h.isw]
theorem sgn_num {n x:Int} (hx:isW x=true) (hn:YT n) (hw:ZD n≤x):sgnF (kQ (n % 18446744073709551616) x) x=n:=by
 unfold YT at hn
 unfold ZD at hw
 rcases kI hx with rfl|rfl|rfl|rfl
 all_goals
  unfold kQ sgnF
  simp only[Int.reduceToNat,Nat.reduceMul,Nat.reduceSub,Int.reducePow]
  split at hw
  ·split<;>omega
  split at hw
  ·split<;>omega
  split at hw
  ·split<;>omega
  ·split<;>omega
theorem low_uns {u x:Int} (hx:isW x=true) (hu:fY u) (hw:Ft.widthOf u.toNat≤x):kQ u x=u:=by
 unfold fY at hu
 unfold Ft.widthOf at hw
 have p8:(2:Nat) ^ 8=256:=by decide
 have p16:(2:Nat) ^ 16=65536:=by decide
 have p32:(2:Nat) ^ 32=4294967296:=by decide
 rw[p8,p16,p32] at hw
 rcases kI hx with rfl|rfl|rfl|rfl
 all_goals
  unfold kQ
  simp only[Int.reduceToNat,Nat.reduceMul,Int.reducePow]
  repeat' split at hw
  all_goals omega
theorem v7 (k n u:Int) (s:ByteArray):Z4 (.mk k n u s [] []) k n u s=true:=bare_iff.2 rfl
theorem r2 {d:List UInt8} {p x u:Int} (h:kP d p x=(u,0)) (h1:u≤9007199254740992):qG d p x=(u,true):=by
 unfold qG
 rw[h]
 simp only[Int.min_eq_left h1,decide_true,Bool.true_and,decide_eq_true h1]
theorem r3 {x p:Int} {v:V3} (h:inlineB v.1=false):JS x p v=p - v.2.2:=by unfold JS;rw[h];simp
theorem oI {x p:Int} {v:V3} (h:inlineB v.1=true):JS x p v=kQ v.2.2 x:=by unfold JS;rw[if_pos h]
theorem oJ {d0 e:List UInt8} {v:V3} {t:Tr} {p x lim:Int} (h:KR d0 v t) (hx:isW x=true) (hl:kP (d0++e) p x=(JS x p v,0)) (hi:inlineB v.1=true→v.2.1≤x) (hp:(d0.length:Int)≤p) (hp2:p≤9007199254740992) (hlim:(d0.length:Int)≤lim) :
 VC (d0++e) v.1 p x (if inlineB v.1 then x else v.2.1) lim t=true:=by
 rw[V5]
 rcases h with h|h
 ·obtain⟨h1,h2,h3,h4,h5⟩:=KK h
  rw[if_pos h1,if_neg (by rw[hx,h2];decide),if_pos h1]
  have hwd:=hi h1
  rw[oI h1] at hl
  rcases h with ⟨rfl,rfl⟩|⟨b,rfl,rfl⟩|⟨n,hn,rfl,rfl⟩|⟨u,hu,rfl,rfl⟩
  ·show nullF _ p x _=true
   unfold nullF
   rw[hl,v7]
   rfl
  ·show boolF _ p x _=true
   unfold boolF
   rw[hl]
   have hp:=zF hx
   have h0:kQ (zQ b).2.2 x=if b then 1 else 0:=by
    rcases kI hx with rfl|rfl|rfl|rfl<;>cases b<;>decide
   rw[h0]
   cases b
   ·simp only[Bool.false_eq_true,if_false,if_true];rw[v7];rfl
   ·simp only[if_true];rw[if_neg (by decide),v7];rfl
  ·rw[show K2 (d0++e) (yU n).1 p x x 0 (.mk 3 n 0 EMB [] [])=intF (d0++e) p x (.mk 3 n 0 EMB [] []) from rfl]
   unfold intF YZ
   rw[lR hl,hl]
   rw[show (yU n).2.2=n % 18446744073709551616 from rfl,sgn_num hx hn hwd]
   simp only[Tr.kind,v7,ne_eq,not_true_eq_false,if_false,if_true,decide_true,Bool.and_self]
  ·rw[show K2 (d0++e) (yV u).1 p x x 0 (.mk 4 0 u EMB [] [])=uintF (d0++e) p x (.mk 4 0 u EMB [] []) from rfl]
   unfold uintF YZ
   rw[hl]
   rw[show (yV u).2.2=u from rfl,low_uns hx hu hwd]
   simp only[Tr.kind,v7,ne_eq,not_true_eq_false,if_false,decide_true,Bool.and_self]
   rw[if_neg (by decide)]
   rfl
 ·rw[h.far]
  simp only[Bool.false_eq_true,if_false]
  rw[if_neg (by rw[hx,h.isw,h.legal];decide)]
  have hN:=h.n0
  have hN1:=h.n1
  rw[r3 h.far] at hl
  have hnum:=r2 hl (by omega)
  have hfb:VZ (d0++e) v.1 p x v.2.1 lim=true:=by
   unfold VZ
   rw[hnum]
   have:=h.lim
   simp only[Bool.true_and,Bool.and_eq_true,decide_eq_true_eq]
   omega
  rw[if_neg (by rw[hfb];decide),hnum]
  have hb:=h.body e
  unfold bodyF at hb
  rw[show p - (p - v.2.2,true).1=v.2.2 by simp only;omega]
  split
  ·rename_i hf
   rw[if_pos hf] at hb
   rw[rZ hf];exact hb
  ·rename_i hf
   rw[if_neg hf] at hb
   exact hb
theorem r4 {d:List UInt8} {p x w1 w2 lim:Int} {t:Tr} (h1:isW w1=true) (h2:isW w2=true):VC d 4 p x w1 lim t=VC d 4 p x w2 lim t:=by
 have ha:QQ 4=0:=by decide
 have hfb:VZ d 4 p x w1 lim=VZ d 4 p x w2 lim:=by unfold VZ;rw[ha];simp
 rw[V5,V5,h1,h2,hfb]
 rfl
structure HeldB (x p:Int) (jW:Bool) (b X:List UInt8) (l:List V3):Prop where
 head:X.take b.length=b
 len:(X.length:Int)=p+x*l.length+(if jW then (l.length:Int) else 0)
 elem:∀(k:Nat) (v:V3),l[k]? = some v→kP X (p+k*x) x=(JS x (p+k*x) v,0)
 tag:jW=true→∀(k:Nat) (v:V3),l[k]? = some v→X[(p+l.length*x).toNat+k]? = some (vL x v)
theorem heldB {b:List UInt8} {l:List V3} {x p:Int} {len jW:Bool} (hn:b.length≤1048576) (hl:l.length≤1048576) (h:∀v∈l,YI b.length v) (hx:allF l (0,0,0) b.length (if len then 1 else 0)=x) (hp:(b.length:Int)+kF b x+(if len then x else 0)=p) :
 isW x=true∧HeldB x p jW b (b++(qB x len jW b l).flatten) l∧(p - (if len then x else 0)) % x=0∧(b.length:Int)≤p - (if len then x else 0)∧p - (if len then x else 0) < b.length+x∧(len=true→kP (b++(qB x len jW b l).flatten) (p - x) x=((l.length:Int),0))∧(∀v∈l,inlineB v.1=true→v.2.1≤x):=by
 obtain⟨_,x0,hw,JM⟩:=QY (n:=b.length) (ahead:=if len then 1 else 0) (by cases len<;>simp) (by omega) (by omega) hl h
 rw[hx] at hw JM
 have hwp:=zF hw
 have hfit:fitsL l b.length (if len then 1 else 0) x=true:=by
  have h:=JM
  unfold allAt at h
  simp only[Bool.and_eq_true] at h
  exact h.2
 have hpad:=eJ (l:=b) hw
 have hpe:=lP hw b
 have hfe:fitE x p l:=eU hw l (if len then 1 else 0) p (by rw[← hp,hpe];cases len<;>simp) (by cases len<;>simp) hfit
 have hlenf:len=true→(l.length:Int) < 2 ^ (8*x.toNat):=by
  intro hl1
  subst hl1
  have h:=JM
  unfold allAt headF at h
  simp only[Bool.and_eq_true,belowW] at h
  have:=h.1.1
  simpa using this
 have hpieces:(qB x len jW b l).flatten=(j8 (kF b x)++(if len then zB x.toNat l.length else []))++(YH x p l).flatten++(if jW then l.map (vL x) else []):=by
  unfold qB
  rw[hp]
  cases len<;>cases jW<;>simp[eV]
 have hAl:((b++(j8 (kF b x)++(if len then zB x.toNat l.length else []))).length:Int)=p:=by
  rw[← hp]
  cases len<;>simp[kN,kW]<;>omega
 have hEl:=ZC hw l p
 refine⟨hw,⟨?_,?_,?_,?_⟩,?_,?_,?_,?_,?_⟩
 ·exact List.take_left' rfl
 ·rw[hpieces]
  rw[← List.append_assoc,← List.append_assoc,List.length_append,List.length_append]
  cases jW
  ·simp only[Bool.false_eq_true,if_false,List.length_nil] at hAl⊢;omega
  ·simp only[if_true,List.length_map] at hAl⊢;omega
 ·intro k v hk
  obtain⟨A,C,hA,hAk⟩:=mT hw l p k v hk
  have hb:=gQ l p k v hfe hk
  refine aY (A:=b++(j8 (kF b x)++(if len then zB x.toNat l.length else []))++A) (C:=C++(if jW then l.map (vL x) else [])) hw ?_ ?_ hb.1 hb.2
  ·rw[hpieces,hA];simp only[List.append_assoc]
  ·rw[List.length_append];omega
 ·intro ht k v hk
  subst ht
  have hXl:(b++(j8 (kF b x)++(if len then zB x.toNat l.length else []))++(YH x p l).flatten).length=(p+l.length*x).toNat:=by
   rw[List.length_append]
   have:(l.length:Int)*x=x*l.length:=Int.mul_comm _ _
   omega
  rw[hpieces,← List.append_assoc,← List.append_assoc,← hXl,List.getElem?_append_right (by omega),Nat.add_sub_cancel_left,if_pos rfl,List.getElem?_map,hk]
  rfl
 ·have:p - (if len then x else 0)=((b.length:Int)+x - 1) / x*x:=by rw[← hp,← hpe];cases len<;>simp<;>omega
  rw[this]
  exact Int.mul_emod_left _ _
 ·rw[← hp];cases len<;>simp<;>omega
 ·rw[← hp];cases len<;>simp<;>omega
 ·intro hl1
  subst hl1
  simp only[if_true] at hp hpieces hAl⊢
  refine aY (A:=b++j8 (kF b x)) (C:=(YH x p l).flatten++(if jW then l.map (vL x) else [])) hw ?_ ?_ (by omega) (hlenf rfl)
  ·rw[hpieces];simp only[List.append_assoc,Int.toNat_natCast]
  ·rw[List.length_append,kN];omega
 ·intro v hv hi
  obtain⟨k,hk,hkv⟩:=List.getElem_of_mem hv
  have:=dF l _ _ x k v hfit (by rw[List.getElem?_eq_getElem hk,hkv])
  unfold fitsV fitsF at this
  rw[if_pos hi] at this
  exact of_decide_eq_true this
def vR (d:List UInt8) (l:List V3) (ts:List Tr):Prop:=l.length=ts.length∧∀(i:Nat) v t,l[i]? = some v→ts[i]? = some t→KR d v t
theorem vR.near {d:List UInt8} {l:List V3} {ts:List Tr} (h:vR d l ts) (hd:d.length≤1048576):∀v∈l,YI d.length v:=by
 intro v hv
 obtain⟨k,hk,rfl⟩:=List.getElem_of_mem hv
 have hk2:k < ts.length:=by rw[← h.1];exact hk
 exact (h.2 k _ _ (List.getElem?_eq_getElem hk) (List.getElem?_eq_getElem hk2)).near hd
theorem vR.nil (d:List UInt8):vR d [] []:=⟨rfl,fun i v t h=>by simp at h⟩
theorem vR.cons {d:List UInt8} {v:V3} {t:Tr} {l:List V3} {ts:List Tr} (h:KR d v t) (hl:vR d l ts):vR d (v::l) (t::ts):=by
 refine⟨by simp[hl.1],fun i x y hx hy=>?_⟩
 cases i with
 | zero=>simp at hx hy;subst hx hy;exact h
 | succ i=>exact hl.2 i x y (by simpa using hx) (by simpa using hy)
theorem r5 {X e:List UInt8} {i:Nat} {c:UInt8} (h:X[i]? = some c):(X++e)[i]? = some c:=by
 rw[List.getElem?_append_left (List.getElem?_eq_some_iff.1 h).1];exact h
theorem oK {b:List UInt8} {l:List V3} {ts:List Tr} {x p typ kd many:Int} {len jW:Bool} (ht:vR b l ts) (hn:b.length≤1048576) (hl:l.length≤65536) (hx:allF l (0,0,0) b.length (if len then 1 else 0)=x) (hp:(b.length:Int)+kF b x+(if len then x else 0)=p)
 (hs:yJ typ=(kd,many)) (h17:kd≠17) (hg:ZQ kd=jW) (hm:if len then many=0 else many≠0∧(ts.length:Int)=many) (hty:jW=false→∀v∈l,v.1=(Ft.elemF typ).1∧(inlineB v.1=true∨v.1=4)) (e:List UInt8) :
 aM (b++(qB x len jW b l).flatten++e) typ x p (.mk kd 0 0 EMB [] ts)=true:=by
 obtain⟨hw,hH,hmod,hge,hlt,j7,hin⟩:=heldB (jW:=jW) hn (by omega) (ht.near hn) hx hp
 have hwp:=zF hw
 have hpl:(b.length:Int)≤p:=by cases len<;>simp at hge<;>omega
 have hpu:p < b.length+x+x:=by cases len<;>simp at hlt<;>omega
 have hmul0:0≤x*(l.length:Int):=Int.mul_nonneg (by omega) (by omega)
 have hmul8:x*(l.length:Int)≤8*l.length:=Int.mul_le_mul_of_nonneg_right hwp.2 (by omega)
 have hcomm:(l.length:Int)*x=x*l.length:=Int.mul_comm _ _
 obtain⟨hl1,hl2⟩:=ht
 obtain⟨R,hR⟩:∃R,(qB x len jW b l).flatten=R:=⟨_,rfl⟩
 rw[hR] at hH j7⊢
 have hmany:(kd,many).2=many:=rfl
 unfold aM
 simp only[Tr.kids,Bool.and_eq_true]
 refine⟨front_iff.2 ⟨by rw[hs],rfl,rfl,rfl,fun _=>rfl,?_,?_,?_,fun h=>by rw[hs] at h;exact absurd h h17⟩,kids_iff.2 fun j t hj=>?_⟩
 ·cases len
  ·simpa using hmod
  ·simp only[if_true] at hmod
   have:p=(p - x)+x:=by omega
   rw[this,Int.add_emod_right];exact hmod
 ·rw[hs,hg,← hl1]
  have:=hH.len
  rw[List.length_append]
  cases jW
  ·simp only[Bool.false_eq_true,if_false] at this⊢;omega
  ·simp only[if_true] at this⊢;omega
 ·rw[hs]
  dsimp only
  cases len
  ·simp only[Bool.false_eq_true,if_false] at hm
   rw[if_neg hm.1];exact hm.2
  ·simp only[if_true] at hm
   rw[if_pos hm,r2 (bA (j7 rfl)) (by omega),hl1]
   exact⟨rfl,rfl⟩
 ·rw[Nat.zero_add]
  obtain⟨v,hv⟩:∃v,l[j]? = some v:=by
   have:j < ts.length:=(List.getElem?_eq_some_iff.1 hj).1
   exact⟨_,List.getElem?_eq_getElem (by omega)⟩
  have hjl:j < l.length:=(List.getElem?_eq_some_iff.1 hv).1
  have htv:=hl2 j v t hv hj
  have hjx:0≤(j:Int)*x:=Int.mul_nonneg (by omega) (by omega)
  have hjx8:(j:Int)*x≤j*8:=Int.mul_le_mul_of_nonneg_left hwp.2 (by omega)
  have hload:=bA (Z:=e) (hH.elem j v hv)
  have hfirst:(b.length:Int)≤QS typ x p:=by
   unfold QS
   rw[hs]
   dsimp only
   rw[if_neg h17]
   cases len
   ·simp only[Bool.false_eq_true,if_false] at hm
    rw[if_neg hm.1];exact hpl
   ·simp only[if_true] at hm hge
    rw[if_pos hm];exact hge
  have hE:=oJ (e:=R++e) htv hw (by rw[← List.append_assoc];exact hload) (hin v (List.mem_of_getElem? hv)) (by omega) (by omega) hfirst
  rw[← List.append_assoc] at hE
  unfold K5
  rw[hs,hg,← hl1]
  cases jW
  ·simp only[Bool.false_eq_true,if_false]
   obtain⟨e1,e2⟩:=hty rfl v (List.mem_of_getElem? hv)
   rw[← e1]
   refine⟨trivial,?_⟩
   rcases e2 with e2|e2
   ·rw[if_pos e2] at hE;exact hE
   ·have hi4:inlineB v.1=false:=by rw[e2];decide
    rw[hi4] at hE
    simp only[Bool.false_eq_true,if_false] at hE
    have hw4:isW v.2.1=true:=by
     rcases htv with h|h
     ·exact (KK h).2.2.1
     ·exact h.isw
    rw[e2] at hE⊢
    rw[r4 hw hw4];exact hE
  ·simp only[if_true]
   have hT:=r5 (e:=e) (hH.tag rfl j v hv)
   have hq:(p+(l.length:Int)*x+(j:Int)).toNat=(p+(l.length:Int)*x).toNat+j:=by omega
   rw[hq,hT]
   simp only[Option.getD_some]
   have hle:jX v=0:=(htv.near hn).1
   rw[aZ hw hle]
   exact⟨rfl,hE⟩
structure m9 (d:List UInt8) (v:V3) (names:List ByteArray):Prop where
 typ:v.1=14
 isw:isW v.2.1=true
 n0:0≤v.2.2
 n1:v.2.2≤d.length
 lim:v.2.2 - v.2.1 < d.length
 body:∀e,QR (d++e) v.2.1 v.2.2 names=true
theorem m9.more {d:List UInt8} {v:V3} {names:List ByteArray} (h:m9 d v names) (e:List UInt8):m9 (d++e) v names:=
 ⟨h.typ,h.isw,h.n0,by have:=h.n1;rw[List.length_append];omega,by have:=h.lim;rw[List.length_append];omega,fun f=>by rw[List.append_assoc];exact h.body _⟩
def fF (k:ByteArray):Tr:=.mk 5 0 0 k [] []
theorem l4 {b:List UInt8} {l:List V3} {names:List ByteArray} {x p:Int} (ht:vR b l (names.map fF)) (h4:∀v∈l,v.1=4) (hn:b.length≤1048576) (hl:l.length≤65536) (hx:allF l (0,0,0) b.length 1=x) (hp:(b.length:Int)+kF b x+x=p) (e:List UInt8) :
 QR (b++(qB x true false b l).flatten++e) x p names=true:=by
 have hL:=oK (len:=true) (jW:=false) (typ:=14) (kd:=13) (many:=0) ht hn hl (by simpa using hx) (by simpa using hp) (by decide) (by decide) (by decide) (by simp) (fun _ v hv=>⟨by rw[h4 v hv];decide,.inr (h4 v hv)⟩) e
 unfold aM at hL
 simp only[Tr.kids,Bool.and_eq_true] at hL
 obtain⟨h1,h2⟩:=hL
 have hF:=front_iff.1 h1
 have hfx:=hF.fix
 have hrm:=hF.room
 have hmy:=hF.many
 have e14:yJ 14=(13,0):=by decide
 rw[e14] at hrm hmy
 simp only[if_true,List.length_map] at hmy
 rw[List.length_map,show ZQ (13,0).1=false by decide] at hrm
 simp only[Bool.false_eq_true,if_false,Int.add_zero] at hrm
 generalize b++(qB x true false b l).flatten++e=D at *
 unfold QR
 simp only[Bool.and_eq_true,decide_eq_true_eq]
 refine⟨⟨⟨hfx,hrm⟩,hmy⟩,names_iff.2 fun j k hk=>?_⟩
 have hkk:=kids_iff.1 h2 j (fF k) (by rw[List.getElem?_map,hk];rfl)
 unfold K5 at hkk
 rw[e14,show ZQ (13,0).1=false by decide] at hkk
 simp only[Bool.false_eq_true,if_false,true_and,Nat.zero_add,show (Ft.elemF 14).1=4 by decide] at hkk
 have hfirst:QS 14 x p=p - x:=by unfold QS;rw[e14];rfl
 rw[hfirst] at hkk
 rw[Nat.zero_add]
 obtain⟨_,hc⟩:=lH hkk
 rcases hc with ⟨hnr,_⟩|⟨_,hfb,_,hlk⟩|⟨_,_,hft,_⟩
 ·exact absurd hnr (by decide)
 ·unfold V4
  rw[hfb,Bool.true_and]
  have hkf:keyF D (p+(j:Int)*x - (qG D (p+(j:Int)*x) x).1) (fF k)=true:=hlk
  unfold keyF at hkf
  simp only[Bool.and_eq_true] at hkf⊢
  exact⟨hkf.1.2,hkf.2⟩
 ·exact absurd hft (by decide)
structure Inv (x:BS):Prop where
 e0:x.e=0
 s0:x.s.2=0
 keys:∀z∈x.keys,KR x.s.1 (4,1,z.2) (fF z.1)∧yQ x.names z.2=z.1
 texts:∀z∈x.texts,KR x.s.1 (5,Ft.widthOf z.1.size,z.2) (.mk 6 0 0 z.1 [] [])
 lists:∀z∈x.lists,0≤z.2∧∃v names,x.vals[z.2.toNat]? = some v∧m9 x.s.1 v names∧zA names=z.1∧∀k∈names,qA k=0
 names:∀z∈x.names,z.1 < x.s.1.length
 vals:x.vals.length≤x.s.1.length
theorem Inv.s {x:BS} (h:Inv x):x.s=(x.s.1,0):=by
 have:=h.s0
 rw[← this]
theorem Inv.new:Inv BS.new:=⟨rfl,rfl,fun z h=>absurd h List.not_mem_nil,fun z h=>absurd h List.not_mem_nil,fun z h=>absurd h List.not_mem_nil,fun z h=>absurd h List.not_mem_nil,Nat.zero_le _⟩
theorem Inv.ext {x:BS} (h:Inv x) (e:List UInt8) (k:List V3):Inv {x with s:=(x.s.1++e,0),stk:=k}:=
 ⟨h.e0,rfl,fun z hz=>⟨(h.keys z hz).1.more e,(h.keys z hz).2⟩,fun z hz=>(h.texts z hz).more e,fun z hz=>by
  obtain⟨h0,v,nm,h1,h2,h3⟩:=h.lists z hz
  exact⟨h0,v,nm,h1,h2.more e,h3⟩,fun z hz=>by
  have:=h.names z hz
  show z.1 < ((x.s.1++e).length:Int)
  rw[List.length_append];omega,by
  have:=h.vals
  show x.vals.length≤(x.s.1++e).length
  rw[List.length_append];omega⟩
theorem r6 {l:zD} {k:ByteArray} {a:Int} (h:yE l k=(a,true)):(k,a)∈l:=by
 unfold yE at h
 split at h
 ·rename_i hh
  have hlt:=V6 hh
  have hg:(J0 l).getD (k8 l k) 0=(l[k8 l k]).2:=by simp[J0,List.getD_eq_getElem?_getD,hlt]
  rw[hg] at h
  injection h with h1 h2
  have h3:=of_decide_eq_true hh
  unfold yK at h3
  rw[List.getElem?_map,List.getElem?_eq_getElem hlt] at h3
  simp only[Option.map_some,Option.some.injEq] at h3
  have:l[k8 l k]=(k,a):=Prod.ext h3 h1
  rw[← this]
  exact List.getElem_mem hlt
 ·injection h with _ h2;cases h2
theorem dZ {names:List (Int × ByteArray)} {a b:Int} {k:ByteArray} (h:a≠b):yQ (names++[(b,k)]) a=yQ names a:=by
 unfold yQ
 rw[List.find?_append]
 cases names.find? (fun q=>decide (q.1=a)) with
 | some q=>rfl
 | none=>
  have:List.find? (fun q:Int × ByteArray=>decide (q.1=a)) [(b,k)]=none:=by simp[Ne.symm h]
  rw[this];rfl
theorem d7 {names:List (Int × ByteArray)} {b:Int} {k:ByteArray} (h:∀z∈names,z.1≠b):yQ (names++[(b,k)]) b=k:=by
 unfold yQ
 rw[List.find?_append]
 have:names.find? (fun q=>decide (q.1=b))=none:=by
  rw[List.find?_eq_none]
  intro z hz
  simpa using h z hz
 rw[this]
 simp
theorem Q7 (k:ByteArray):jN [k,⟨#[0]⟩]=(Y0 k).data.toList:=by
 rw[nM]
 simp[jN]
theorem r7 {b e:List UInt8} {s:ByteArray} {at_:Int} (h:at_=b.length):gB (b++s.data.toList++e) at_ s=true:=by
 subst h
 rw[has_iff]
 refine⟨by omega,?_,?_⟩
 ·rw[List.length_append,List.length_append,ZR];omega
 ·rw[Int.toNat_natCast,List.append_assoc,List.drop_left,← ZR,List.take_left' rfl]
theorem oL {b:List UInt8} {k:ByteArray} (hk:qA k=0):KR (b++jN [k,⟨#[0]⟩]) (4,1,(b.length:Int)) (fF k):=by
 refine .inr ⟨by show inlineB 4=false;decide,by show legalB 4=true;decide,rfl,by show (0:Int)≤b.length;omega,?_,?_,fun e=>?_⟩
 ·show (b.length:Int)≤_
  rw[List.length_append];omega
 ·show (b.length:Int) - QQ 4*1 < _
  rw[show QQ 4=0 by decide,List.length_append]
  have:=YK k
  omega
 ·show keyF _ _ _=true
  unfold keyF
  rw[Q7]
  show (Z4 (fF k) 5 0 0 k && decide (qA k=0) && gB (b++(Y0 k).data.toList++e) (b.length:Int) (Y0 k))=true
  rw[r7 rfl]
  simp only[fF,v7,hk,decide_true,Bool.and_self]
theorem l5 {x:BS} (h:x.e=0):x.fail 0=x:=by
 obtain⟨s,e,stk,a,b,c,d,f⟩:=x
 dsimp only at h
 subst h
 rfl
theorem put_ok {most:Int} {sh:Bool} {k:ByteArray} {x:BS} (h:Inv x) (hk:qA k=0) (hr:(x.s.1.length:Int)+(k.size+1)≤most) :
 ∃a e,(x.put most sh k).1=(4,1,a)∧Inv (x.put most sh k).2∧(x.put most sh k).2.s.1=x.s.1++e∧e.length≤k.size+1∧(x.put most sh k).2.stk=x.stk∧KR (x.put most sh k).2.s.1 (4,1,a) (fF k)∧yQ (x.put most sh k).2.names a=k ∧
  ∀c:Int,c < x.s.1.length→yQ (x.put most sh k).2.names c=yQ x.names c:=by
 unfold BS.put
 dsimp only
 rw[hk,l5 h.e0,if_neg (by rw[h.e0];decide)]
 by_cases hg:((yE x.keys k).2 && sh)=true
 ·rw[if_pos hg]
  rw[Bool.and_eq_true] at hg
  have hm:yE x.keys k=((yE x.keys k).1,true):=by rw[← hg.1]
  have h1:=h.keys _ (r6 hm)
  exact⟨_,[],rfl,h,by simp,Nat.zero_le _,rfl,h1.1,h1.2,fun c _=>rfl⟩
 ·rw[if_neg hg]
  have hsz:(jN [k,⟨#[0]⟩]).length=k.size+1:=by rw[Q7,ZR,cW]
  have hs:j5 most (jN [k,⟨#[0]⟩]) x.s=(x.s.1++jN [k,⟨#[0]⟩],0):=by
   have:=KA most x.s.1 (jN [k,⟨#[0]⟩]) (by rw[hsz];omega)
   rw[← h.s] at this
   exact this
  have ht:=oL (b:=x.s.1) hk
  have hnb:∀z∈x.names,z.1≠(x.s.1.length:Int):=fun z hz e=>by have:=h.names z hz;omega
  refine⟨_,jN [k,⟨#[0]⟩],rfl,?_,by dsimp only;rw[hs],by rw[hsz];exact Nat.le_refl _,rfl,by dsimp only;rw[hs];exact ht,d7 hnb,fun c hc=>dZ (by omega)⟩
  dsimp only
  rw[hs]
  refine⟨rfl,rfl,fun z hz=>?_,fun z hz=>(h.texts z hz).more _,fun z hz=>?_,fun z hz=>?_,by have:=h.vals;show x.vals.length≤(x.s.1++_).length;rw[List.length_append];omega⟩
  ·rcases bD hz with hz|⟨rfl,_⟩
   ·have h1:=h.keys z hz
    have hlt:z.2 < (x.s.1.length:Int):=by
     rcases h1.1 with hq|hq
     ·exact absurd (KK hq).1 (by show ¬inlineB 4=true;decide)
     ·have:=hq.lim
      rw[show ((4:Int),(1:Int),z.2).1=4 from rfl,show QQ 4=0 by decide] at this
      simpa using this
    refine⟨h1.1.more _,?_⟩
    show yQ (x.names++[((x.s.1.length:Int),k)]) z.2=z.1
    rw[dZ (by omega)]
    exact h1.2
   ·exact⟨ht,d7 hnb⟩
  ·obtain⟨h0,v,nm,h1,h2,h3⟩:=h.lists z hz
   exact⟨h0,v,nm,h1,h2.more _,h3⟩
  ·show z.1 < ((x.s.1++jN [k,⟨#[0]⟩]).length:Int)
   rw[List.length_append,hsz]
   rcases List.mem_append.1 hz with hz|hz
   ·have:=h.names z hz;omega
   ·obtain rfl:=List.mem_singleton.1 hz
    show (x.s.1.length:Int) < _
    omega
theorem r8 {x:BS} (h:Inv x) (v:V3) (hl:x.stk.length+1≤65536):x.push v={x with stk:=x.stk++[v]}:=push_ok h.e0 h.s0 hl
theorem l6 {el:Int} {v:V3} (h:v.1=el) (hl:jX v=0):j4 el v=0:=by
 unfold j4
 rw[h]
 simpa using hl
theorem vp_of {most el many typ:Int} (hel:el≠-1) (ht:(typedF el many).1=typ) (l:List V3) (s:St):zE most el many l s=k9 most (j4 el) (decide (many=0)) false typ 0 l s:=by
 unfold zE
 rw[if_neg hel,ht]
def vS (l:List ByteArray):Nat:=(l.map fun k=>k.size+1).sum
theorem bQ {most:Int} {sh:Bool}:∀(l:List ByteArray) {x:BS},Inv x→(∀k∈l,qA k=0)→(x.s.1.length:Int)+vS l≤most →
 ∃e,Inv (x.putAll most sh l).2∧(x.putAll most sh l).2.s.1=x.s.1++e∧e.length≤vS l∧(x.putAll most sh l).2.stk=x.stk∧vR (x.putAll most sh l).2.s.1 (x.putAll most sh l).1 (l.map fF)∧(∀v∈(x.putAll most sh l).1,v.1=4)∧∀c:Int,c < x.s.1.length→yQ (x.putAll most sh l).2.names c=yQ x.names c
 | [],x,h,_,_=>⟨[],h,by simp[BS.putAll],Nat.zero_le _,rfl,vR.nil _,by simp[BS.putAll],fun _ _=>rfl⟩
 | k::r,x,h,hk,hr=>by
  simp only[vS,List.map_cons,List.sum_cons] at hr
  obtain⟨a,e,h1,h2,h3,h4,h5,h6,h7,h8⟩:=put_ok (most:=most) (sh:=sh) h (hk k (by simp)) (by omega)
  have j7:(x.put most sh k).2.s.1.length=x.s.1.length+e.length:=by rw[h3,List.length_append]
  obtain⟨e2,g1,g2,g3,g4,g5,g6,g7⟩:=bQ (most:=most) (sh:=sh) r h2 (fun q hq=>hk q (by simp[hq])) (by unfold vS;omega)
  simp only[BS.putAll]
  refine⟨e++e2,g1,by rw[g2,h3,List.append_assoc],by rw[List.length_append];simp only[vS,List.map_cons,List.sum_cons] at g3⊢;omega,by rw[g4,h5],?_,?_,fun c hc=>?_⟩
  ·refine vR.cons ?_ g5
   rw[g2,h1]
   exact h6.more _
  ·intro v hv
   rcases List.mem_cons.1 hv with rfl|hv
   ·rw[h1]
   ·exact g6 v hv
  ·rw[g7 c (by omega),h8 c hc]
theorem fG (l:List ByteArray) (k:ByteArray) (hs:l.Pairwise fun a b=>ltS a b=true):∀(n lo hi:Nat),hi - lo≤n→lo≤hi→hi≤l.length→(∀(j:Nat) x,j < lo→l[j]? = some x→ltS x k=true)→(∀(j:Nat) x,hi≤j→l[j]? = some x→ltS x k=false) →
 yA l k lo hi≤l.length∧(∀(j:Nat) x,j < yA l k lo hi→l[j]? = some x→ltS x k=true)∧(∀(j:Nat) x,yA l k lo hi≤j→l[j]? = some x→ltS x k=false):=by
 intro n
 induction n with
 | zero=>
  intro lo hi h1 h2 h3 hl hr
  have e:hi=lo:=by omega
  subst e
  unfold yA
  rw[if_neg (by omega)]
  exact⟨h3,hl,hr⟩
 | succ n ih=>
  intro lo hi h1 h2 h3 hl hr
  by_cases hlt:lo < hi
  ·unfold yA
   rw[if_pos hlt]
   have hm:lo+(hi - lo) / 2 < l.length:=by omega
   have hg:l.getD (lo+(hi - lo) / 2) ByteArray.empty=l[lo+(hi - lo) / 2]:=by rw[List.getD_eq_getElem?_getD,List.getElem?_eq_getElem hm];rfl
   rw[hg]
   split
   ·rename_i hc
    refine ih _ _ (by omega) (by omega) h3 (fun j x hj hx=>?_) hr
    obtain⟨hj2,hx2⟩:=List.getElem?_eq_some_iff.1 hx
    rcases Nat.lt_or_ge j (lo+(hi - lo) / 2) with h|h
    ·have:=List.pairwise_iff_getElem.1 hs j (lo+(hi - lo) / 2) hj2 hm h
     rw[hx2] at this
     exact qK this hc
    ·have e:j=lo+(hi - lo) / 2:=by omega
     subst e
     rw[← hx2];exact hc
   ·rename_i hc
    refine ih _ _ (by omega) (by omega) (by omega) hl (fun j x hj hx=>?_)
    obtain⟨hj2,hx2⟩:=List.getElem?_eq_some_iff.1 hx
    rcases Nat.lt_or_ge (lo+(hi - lo) / 2) j with h|h
    ·have hp:=List.pairwise_iff_getElem.1 hs (lo+(hi - lo) / 2) j hm hj2 h
     rw[hx2] at hp
     cases hc2:ltS x k with
     | false=>rfl
     | true=>exact absurd (qK hp hc2) hc
    ·have e:j=lo+(hi - lo) / 2:=by omega
     subst e
     rw[← hx2];simpa using hc
  ·unfold yA
   rw[if_neg hlt]
   have e:hi=lo:=by omega
   subst e
   exact⟨h3,hl,hr⟩
def KL (l:zD):Prop:=(yK l).Pairwise fun a b=>ltS a b=true
theorem VN {l:zD} (hs:KL l) (k:ByteArray):(∀(j:Nat) x,j < k8 l k→(yK l)[j]? = some x→ltS x k=true)∧(∀(j:Nat) x,k8 l k≤j→(yK l)[j]? = some x→ltS x k=false):=by
 have hl:=y5 l
 obtain⟨_,h2,h3⟩:=fG (yK l) k hs l.length 0 l.length (by omega) (by omega) (by omega) (fun j _ h=>by omega) (fun j y h hy=>by have:=(List.getElem?_eq_some_iff.1 hy).1;omega)
 exact⟨h2,h3⟩
theorem J4 {l:zD} (hs:KL l) (k:ByteArray):QV l k=true↔k∈yK l:=by
 obtain⟨h2,h3⟩:=VN hs k
 constructor
 ·intro h
  exact List.mem_of_getElem? (of_decide_eq_true h)
 ·intro h
  obtain⟨i,hi⟩:=List.getElem?_of_mem h
  have e:k8 l k=i:=by
   rcases Nat.lt_trichotomy i (k8 l k) with h|h|h
   ·have:=h2 i k h hi;rw[JC] at this;cases this
   ·exact h.symm
   ·obtain⟨hil,hxe⟩:=List.getElem?_eq_some_iff.1 hi
    have hpl:k8 l k < (yK l).length:=by omega
    have h4:=h3 (k8 l k) _ (Nat.le_refl _) (List.getElem?_eq_getElem hpl)
    have h5:=List.pairwise_iff_getElem.1 hs (k8 l k) i hpl hil h
    rw[hxe] at h5
    rw[h5] at h4;cases h4
  unfold QV
  rw[e,hi]
  exact decide_eq_true rfl
theorem oM {l:zD} (hs:KL l) (k:ByteArray) (a:Int):KL (zH k a l):=by
 unfold zH
 split
 ·exact hs
 ·split
  ·exact hs
  ·rename_i hn hh
   obtain⟨h2,h3⟩:=VN hs k
   have hle:=cZ l k
   have hlk:=y5 l
   unfold KL
   rw[QW]
   unfold JK
   rw[List.pairwise_append]
   refine⟨List.Pairwise.sublist (List.take_sublist _ _) hs,List.pairwise_cons.2 ⟨fun x hx=>?_,List.Pairwise.sublist (List.drop_sublist _ _) hs⟩,fun x hx y hy=>?_⟩
   ·obtain⟨i,hi⟩:=List.getElem?_of_mem hx
    rw[List.getElem?_drop] at hi
    have h4:=h3 _ x (by omega) hi
    cases hc:ltS k x with
    | true=>rfl
    | false=>
     have e:=JZ hc h4
     exact absurd ((J4 hs k).2 (by rw[e];exact List.mem_of_getElem? hi)) hh
   ·obtain⟨i,hi⟩:=List.getElem?_of_mem hx
    obtain⟨hil,_⟩:=List.getElem?_eq_some_iff.1 hi
    rw[List.length_take] at hil
    rw[List.getElem?_take,if_pos (by omega)] at hi
    have hxk:=h2 i x (by omega) hi
    rcases List.mem_cons.1 hy with rfl|hy
    ·exact hxk
    ·obtain⟨j,hj⟩:=List.getElem?_of_mem hy
     rw[List.getElem?_drop] at hj
     have h4:=h3 _ y (by omega) hj
     cases hc:ltS k y with
     | true=>exact qK hxk hc
     | false=>
      have e:=JZ hc h4
      exact absurd ((J4 hs k).2 (by rw[e];exact List.mem_of_getElem? hj)) hh
theorem oN {l:zD} {k:ByteArray} {a:Int} (h0:0≤a) (h1:a≤9007199254740991) (z:ByteArray):z∈yK (zH k a l)↔z∈yK l∨(z=k)∨False:=by
 unfold zH
 rw[if_neg (by omega)]
 split
 ·rename_i hh
  constructor
  ·exact .inl
  ·rintro (h|rfl|h)
   ·exact h
   ·exact List.mem_of_getElem? (of_decide_eq_true hh)
   ·exact h.elim
 ·rw[QW]
  unfold JK
  have e:z∈yK l↔z∈(yK l).take (k8 l k)∨z∈(yK l).drop (k8 l k):=by
   rw[← List.mem_append,List.take_append_drop]
  rw[e]
  simp only[List.mem_append,List.mem_cons,or_false]
  constructor
  ·rintro (h|rfl|h)
   ·exact .inl (.inl h)
   ·exact .inr rfl
   ·exact .inl (.inr h)
  ·rintro ((h|h)|rfl)
   ·exact .inl h
   ·exact .inr (.inr h)
   ·exact .inr (.inl rfl)
open Classical in
noncomputable def wantB:List ByteArray→List ByteArray→List UInt8
 | _,[]=>[]
 | seen,k::r=>(if k∈seen then [] else k.data.toList++[0])++wantB (seen++[k]) r
open Classical in
theorem VO:∀(l:List ByteArray) {a b:List ByteArray},(∀k,k∈a↔k∈b)→wantB a l=wantB b l
 | [],_,_,_=>rfl
 | k::r,a,b,h=>by
  have e:=VO r (a:=a++[k]) (b:=b++[k]) (fun z=>by simp[h z])
  by_cases hk:k∈a
  ·simp only[wantB,if_pos hk,if_pos ((h k).1 hk),e]
  ·simp only[wantB,if_neg hk,if_neg (fun e=>hk ((h k).2 e)),e]
open Classical in
theorem r9 {most:Int} {k:ByteArray} {x:BS} (h:Inv x) (hr:KL x.keys) (hk:qA k=0) (hm:(x.s.1.length:Int)+(k.size+1)≤most) (hmost:most≤1048576) :
 (x.put most true k).2.s.1=x.s.1++(if k∈yK x.keys then [] else k.data.toList++[0])∧KL (x.put most true k).2.keys∧∀z,z∈yK (x.put most true k).2.keys↔z∈yK x.keys∨z=k:=by
 unfold BS.put
 dsimp only
 rw[hk,l5 h.e0,if_neg (by rw[h.e0];decide)]
 have hg:(yE x.keys k).2=QV x.keys k:=by
  unfold yE
  split
  ·rename_i hh;exact hh.symm
  ·rename_i hh;simpa using hh
 rw[hg,Bool.and_true]
 by_cases hh:QV x.keys k=true
 ·rw[if_pos hh,if_pos ((J4 hr k).1 hh)]
  refine⟨by simp,hr,fun z=>?_⟩
  constructor
  ·exact .inl
  ·rintro (h|rfl)
   ·exact h
   ·exact (J4 hr z).1 hh
 ·rw[if_neg hh,if_neg (fun e=>hh ((J4 hr k).2 e))]
  have hsz:(jN [k,⟨#[0]⟩]).length=k.size+1:=by rw[Q7,ZR,cW]
  have hs:j5 most (jN [k,⟨#[0]⟩]) x.s=(x.s.1++jN [k,⟨#[0]⟩],0):=by
   have:=KA most x.s.1 (jN [k,⟨#[0]⟩]) (by rw[hsz];omega)
   rw[← h.s] at this
   exact this
  have hb:jN [k,⟨#[0]⟩]=k.data.toList++[0]:=by simp[jN]
  refine⟨by dsimp only;rw[hs,hb],oM hr _ _,fun z=>?_⟩
  dsimp only
  rw[oN (by omega) (by omega)]
  simp
theorem VP {most:Int} (hmost:most≤1048576):∀(l:List ByteArray) {x:BS},Inv x→KL x.keys→(∀k∈l,qA k=0)→(x.s.1.length:Int)+vS l≤most →
 (x.putAll most true l).2.s.1=x.s.1++wantB (yK x.keys) l
 | [],x,_,_,_,_=>by simp[BS.putAll,wantB]
 | k::r,x,h,hr,hk,hm=>by
  simp only[vS,List.map_cons,List.sum_cons] at hm
  obtain⟨a,e,h1,h2,h3,h4,h5,h6,h7,h8⟩:=put_ok (most:=most) (sh:=true) h (hk k (by simp)) (by omega)
  obtain⟨g1,g2,g3⟩:=r9 (most:=most) h hr (hk k (by simp)) (by omega) hmost
  have j7:(x.put most true k).2.s.1.length=x.s.1.length+e.length:=by rw[h3,List.length_append]
  have ih:=VP hmost r h2 g2 (fun q hq=>hk q (by simp[hq])) (by unfold vS;omega)
  simp only[BS.putAll,wantB]
  rw[ih,g1,List.append_assoc]
  congr 2
  exact VO r (fun z=>by rw[g3 z];simp)
end Go.Proofs.YtjnpcddbgfmpcaaGreatDoor
