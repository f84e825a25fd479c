/-
  Texts of the proof.
-/
import Derived.Test.YtdjoffgkndncfaaGreatECappedPAX
import Derived.Test.YtdjoffgkndncfaaGreatECappedPBM
set_option linter.unusedVariables false
set_option linter.unusedSimpArgs false
namespace Go.Proofs.YtdjoffgkndncfaaGreat
open Go Go.ChangeShapes Go.WideShapes Go.ChangeAt Go.RowKit Go.Joins Go.Deep
open Go.Proofs.YtdjoffgkndncfaaGreat.Ft (V3 vV okV ValsAt inlineB legalB packF codeF typedF allF oneF allAt headF fitsL fitsV fitsF belowW isA unpackF)
def bodyF (d:List UInt8) (typ wid at_:Int) (t:Tr):Bool:=if farT typ=true then lookF d typ 0 0 wid at_ t else listF d typ wid at_ t
theorem far_five {typ:Int} (h:farT typ=true):typ=4∨typ=5∨typ=25∨typ=6∨typ=7:=by
 unfold farT at h
 simp only[Bool.or_eq_true,decide_eq_true_eq] at h
 omega
theorem look_far {d:List UInt8} {typ pos par wid at_:Int} {t:Tr} (h:farT typ=true):lookF d typ pos par wid at_ t=lookF d typ 0 0 wid at_ t:=by
 rcases far_five h with rfl|rfl|rfl|rfl|rfl<;>rfl
def nearV (v:V3) (t:Tr):Prop:=
 (v=(0,1,0)∧t=.mk 1 0 0 EMB [] [])∨(∃b:Bool,v=truthV b∧t=.mk 2 (if b then 1 else 0) 0 EMB [] []) ∨
 (∃n,i64ok n∧v=numV n∧t=.mk 3 n 0 EMB [] [])∨(∃u,u64ok u∧v=unsV u∧t=.mk 4 0 u EMB [] [])
structure farV (d:List UInt8) (v:V3) (t:Tr):Prop where
 far:inlineB v.1=false
 legal:legalB v.1=true
 isw:isW v.2.1=true
 n0:0≤v.2.2
 n1:v.2.2≤d.length
 lim:v.2.2 - aheadF v.1*v.2.1 < d.length
 body:∀e,bodyF (d++e) v.1 v.2.1 v.2.2 t=true
def Tells (d:List UInt8) (v:V3) (t:Tr):Prop:=nearV v t∨farV d v t
theorem Tells.more {d:List UInt8} {v:V3} {t:Tr} (h:Tells d v t) (e:List UInt8):Tells (d++e) v t:=by
 rcases h with h|h
 ·exact .inl h
 ·refine .inr ⟨h.far,h.legal,h.isw,h.n0,?_,?_,fun f=>by rw[List.append_assoc];exact h.body _⟩
  ·have:=h.n1;rw[List.length_append];omega
  ·have:=h.lim;rw[List.length_append];omega
theorem near_legal {v:V3} {t:Tr} (h:nearV v t):inlineB v.1=true∧legalB v.1=true∧isW v.2.1=true∧0≤v.2.2∧v.2.2≤18446744073709551615:=by
 rcases h with ⟨rfl,_⟩|⟨b,rfl,_⟩|⟨n,hn,rfl,_⟩|⟨u,hu,rfl,_⟩
 ·exact⟨by decide,by decide,rfl,by decide,by decide⟩
 ·cases b<;>exact⟨by decide,by decide,rfl,by decide,by decide⟩
 ·exact⟨by show inlineB 1=true;decide,by show legalB 1=true;decide,widthI_isW n,by show 0≤n % _;omega,by show n % _≤_;omega⟩
 ·unfold u64ok at hu
  exact⟨by show inlineB 2=true;decide,by show legalB 2=true;decide,widthOf_isW _,hu.1,hu.2⟩
theorem Tells.near {d:List UInt8} {v:V3} {t:Tr} (h:Tells d v t) (hd:d.length≤1048576):Near d.length v:=by
 rcases h with h|h
 ·obtain⟨h1,h2,h3,h4,h5⟩:=near_legal h
  refine⟨?_,⟨h4,h5⟩,fun _=>(isW_pos h3).2,fun e=>(by rw[h1] at e;cases e)⟩
  unfold legalE;rw[if_pos h2,if_pos h1]
 ·have h1:=h.n1
  refine⟨?_,And.intro h.n0 (by omega),fun e=>(by rw[h.far] at e;cases e),fun _=>h.n1⟩
  unfold legalE;rw[if_pos h.legal,if_neg (by rw[h.far];decide),if_pos h.isw]
theorem sgn_num {n x:Int} (hx:isW x=true) (hn:i64ok n) (hw:widthI n≤x):sgnF (lowF (n % 18446744073709551616) x) x=n:=by
 unfold i64ok at hn
 unfold widthI at hw
 rcases isW_cases hx with rfl|rfl|rfl|rfl
 all_goals
  unfold lowF sgnF
  simp only[Int.reduceToNat,Nat.reduceMul,Nat.reduceSub,Int.reducePow]
  split at hw
  ·split<;>omega
  split at hw
  ·split<;>omega
  split at hw
  ·split<;>omega
  ·split<;>omega
theorem low_uns {u x:Int} (hx:isW x=true) (hu:u64ok u) (hw:Ft.widthOf u.toNat≤x):lowF u x=u:=by
 unfold u64ok at hu
 unfold Ft.widthOf at hw
 have p8:(2:Nat) ^ 8=256:=by decide
 have p16:(2:Nat) ^ 16=65536:=by decide
 have p32:(2:Nat) ^ 32=4294967296:=by decide
 rw[p8,p16,p32] at hw
 rcases isW_cases hx with rfl|rfl|rfl|rfl
 all_goals
  unfold lowF
  simp only[Int.reduceToNat,Nat.reduceMul,Int.reducePow]
  repeat' split at hw
  all_goals omega
theorem bare_self (k n u:Int) (s:ByteArray):bareF (.mk k n u s [] []) k n u s=true:=bare_iff.2 rfl
theorem num_of {d:List UInt8} {p x u:Int} (h:loadF d p x=(u,0)) (h1:u≤9007199254740992):numF d p x=(u,true):=by
 unfold numF
 rw[h]
 simp only[Int.min_eq_left h1,decide_true,Bool.true_and,decide_eq_true h1]
theorem encN_far {x p:Int} {v:V3} (h:inlineB v.1=false):encN x p v=p - v.2.2:=by unfold encN;rw[h];simp
theorem encN_near {x p:Int} {v:V3} (h:inlineB v.1=true):encN x p v=lowF v.2.2 x:=by unfold encN;rw[if_pos h]
theorem elem_says {d0 e:List UInt8} {v:V3} {t:Tr} {p x lim:Int} (h:Tells d0 v t) (hx:isW x=true) (hl:loadF (d0++e) p x=(encN x p v,0)) (hi:inlineB v.1=true→v.2.1≤x) (hp:(d0.length:Int)≤p) (hp2:p≤9007199254740992) (hlim:(d0.length:Int)≤lim) :
 saysF (d0++e) v.1 p x (if inlineB v.1 then x else v.2.1) lim t=true:=by
 rw[says_eq]
 rcases h with h|h
 ·obtain⟨h1,h2,h3,h4,h5⟩:=near_legal h
  rw[if_pos h1,if_neg (by rw[hx,h2];decide),if_pos h1]
  have hwd:=hi h1
  rw[encN_near h1] at hl
  rcases h with ⟨rfl,rfl⟩|⟨b,rfl,rfl⟩|⟨n,hn,rfl,rfl⟩|⟨u,hu,rfl,rfl⟩
  ·show nullF _ p x _=true
   unfold nullF
   rw[hl,bare_self]
   rfl
  ·show boolF _ p x _=true
   unfold boolF
   rw[hl]
   have hp:=isW_pos hx
   have h0:lowF (truthV b).2.2 x=if b then 1 else 0:=by
    rcases isW_cases hx with rfl|rfl|rfl|rfl<;>cases b<;>decide
   rw[h0]
   cases b
   ·simp only[Bool.false_eq_true,if_false,if_true];rw[bare_self];rfl
   ·simp only[if_true];rw[if_neg (by decide),bare_self];rfl
  ·rw[show lookF (d0++e) (numV n).1 p x x 0 (.mk 3 n 0 EMB [] [])=intF (d0++e) p x (.mk 3 n 0 EMB [] []) from rfl]
   unfold intF numberF
   rw[loadInt_of hl,hl]
   rw[show (numV n).2.2=n % 18446744073709551616 from rfl,sgn_num hx hn hwd]
   simp only[Tr.kind,bare_self,ne_eq,not_true_eq_false,if_false,if_true,decide_true,Bool.and_self]
  ·rw[show lookF (d0++e) (unsV u).1 p x x 0 (.mk 4 0 u EMB [] [])=uintF (d0++e) p x (.mk 4 0 u EMB [] []) from rfl]
   unfold uintF numberF
   rw[hl]
   rw[show (unsV u).2.2=u from rfl,low_uns hx hu hwd]
   simp only[Tr.kind,bare_self,ne_eq,not_true_eq_false,if_false,decide_true,Bool.and_self]
   rw[if_neg (by decide)]
   rfl
 ·rw[h.far]
  simp only[Bool.false_eq_true,if_false]
  rw[if_neg (by rw[hx,h.isw,h.legal];decide)]
  have hN:=h.n0
  have hN1:=h.n1
  rw[encN_far h.far] at hl
  have hnum:=num_of hl (by omega)
  have hfb:farB (d0++e) v.1 p x v.2.1 lim=true:=by
   unfold farB
   rw[hnum]
   have:=h.lim
   simp only[Bool.true_and,Bool.and_eq_true,decide_eq_true_eq]
   omega
  rw[if_neg (by rw[hfb];decide),hnum]
  have hb:=h.body e
  unfold bodyF at hb
  rw[show p - (p - v.2.2,true).1=v.2.2 by simp only;omega]
  split
  ·rename_i hf
   rw[if_pos hf] at hb
   rw[look_far hf];exact hb
  ·rename_i hf
   rw[if_neg hf] at hb
   exact hb
theorem says_key {d:List UInt8} {p x w1 w2 lim:Int} {t:Tr} (h1:isW w1=true) (h2:isW w2=true):saysF d 4 p x w1 lim t=saysF d 4 p x w2 lim t:=by
 have ha:aheadF 4=0:=by decide
 have hfb:farB d 4 p x w1 lim=farB d 4 p x w2 lim:=by unfold farB;rw[ha];simp
 rw[says_eq,says_eq,h1,h2,hfb]
 rfl
structure HeldB (x p:Int) (tagged:Bool) (b X:List UInt8) (l:List V3):Prop where
 head:X.take b.length=b
 len:(X.length:Int)=p+x*l.length+(if tagged then (l.length:Int) else 0)
 elem:∀(k:Nat) (v:V3),l[k]? = some v→loadF X (p+k*x) x=(encN x (p+k*x) v,0)
 tag:tagged=true→∀(k:Nat) (v:V3),l[k]? = some v→X[(p+l.length*x).toNat+k]? = some (tagB x v)
theorem heldB {b:List UInt8} {l:List V3} {x p:Int} {len tagged:Bool} (hn:b.length≤1048576) (hl:l.length≤1048576) (h:∀v∈l,Near b.length v) (hx:allF l (0,0,0) b.length (if len then 1 else 0)=x) (hp:(b.length:Int)+padN b x+(if len then x else 0)=p) :
 isW x=true∧HeldB x p tagged b (b++(pieces x len tagged b l).flatten) l∧(p - (if len then x else 0)) % x=0∧(b.length:Int)≤p - (if len then x else 0)∧p - (if len then x else 0) < b.length+x∧(len=true→loadF (b++(pieces x len tagged b l).flatten) (p - x) x=((l.length:Int),0))∧(∀v∈l,inlineB v.1=true→v.2.1≤x):=by
 obtain⟨_,x0,hw,hall⟩:=allF_near (n:=b.length) (ahead:=if len then 1 else 0) (by cases len<;>simp) (by omega) (by omega) hl h
 rw[hx] at hw hall
 have hwp:=isW_pos hw
 have hfit:fitsL l b.length (if len then 1 else 0) x=true:=by
  have h:=hall
  unfold allAt at h
  simp only[Bool.and_eq_true] at h
  exact h.2
 have hpad:=padN_lt (l:=b) hw
 have hpe:=pad_eq hw b
 have hfe:fitE x p l:=fitE_of hw l (if len then 1 else 0) p (by rw[← hp,hpe];cases len<;>simp) (by cases len<;>simp) hfit
 have hlenf:len=true→(l.length:Int) < 2 ^ (8*x.toNat):=by
  intro hl1
  subst hl1
  have h:=hall
  unfold allAt headF at h
  simp only[Bool.and_eq_true,belowW] at h
  have:=h.1.1
  simpa using this
 have hpieces:(pieces x len tagged b l).flatten=(zeros (padN b x)++(if len then digB x.toNat l.length else []))++(encL x p l).flatten++(if tagged then l.map (tagB x) else []):=by
  unfold pieces
  rw[hp]
  cases len<;>cases tagged<;>simp[flatten_tags]
 have hAl:((b++(zeros (padN b x)++(if len then digB x.toNat l.length else []))).length:Int)=p:=by
  rw[← hp]
  cases len<;>simp[length_zeros,length_digB]<;>omega
 have hEl:=length_encL hw l p
 refine⟨hw,⟨?_,?_,?_,?_⟩,?_,?_,?_,?_,?_⟩
 ·exact List.take_left' rfl
 ·rw[hpieces]
  rw[← List.append_assoc,← List.append_assoc,List.length_append,List.length_append]
  cases tagged
  ·simp only[Bool.false_eq_true,if_false,List.length_nil] at hAl⊢;omega
  ·simp only[if_true,List.length_map] at hAl⊢;omega
 ·intro k v hk
  obtain⟨A,C,hA,hAk⟩:=encL_at hw l p k v hk
  have hb:=fitE_get l p k v hfe hk
  refine loadF_at (A:=b++(zeros (padN b x)++(if len then digB x.toNat l.length else []))++A) (C:=C++(if tagged then l.map (tagB x) else [])) hw ?_ ?_ hb.1 hb.2
  ·rw[hpieces,hA];simp only[List.append_assoc]
  ·rw[List.length_append];omega
 ·intro ht k v hk
  subst ht
  have hXl:(b++(zeros (padN b x)++(if len then digB x.toNat l.length else []))++(encL x p l).flatten).length=(p+l.length*x).toNat:=by
   rw[List.length_append]
   have:(l.length:Int)*x=x*l.length:=Int.mul_comm _ _
   omega
  rw[hpieces,← List.append_assoc,← List.append_assoc,← hXl,List.getElem?_append_right (by omega),Nat.add_sub_cancel_left,if_pos rfl,List.getElem?_map,hk]
  rfl
 ·have:p - (if len then x else 0)=((b.length:Int)+x - 1) / x*x:=by rw[← hp,← hpe];cases len<;>simp<;>omega
  rw[this]
  exact Int.mul_emod_left _ _
 ·rw[← hp];cases len<;>simp<;>omega
 ·rw[← hp];cases len<;>simp<;>omega
 ·intro hl1
  subst hl1
  simp only[if_true] at hp hpieces hAl⊢
  refine loadF_at (A:=b++zeros (padN b x)) (C:=(encL x p l).flatten++(if tagged then l.map (tagB x) else [])) hw ?_ ?_ (by omega) (hlenf rfl)
  ·rw[hpieces];simp only[List.append_assoc,Int.toNat_natCast]
  ·rw[List.length_append,length_zeros];omega
 ·intro v hv hi
  obtain⟨k,hk,hkv⟩:=List.getElem_of_mem hv
  have:=fitsL_get l _ _ x k v hfit (by rw[List.getElem?_eq_getElem hk,hkv])
  unfold fitsV fitsF at this
  rw[if_pos hi] at this
  exact of_decide_eq_true this
def TellsL (d:List UInt8) (l:List V3) (ts:List Tr):Prop:=l.length=ts.length∧∀(i:Nat) v t,l[i]? = some v→ts[i]? = some t→Tells d v t
theorem TellsL.more {d:List UInt8} {l:List V3} {ts:List Tr} (h:TellsL d l ts) (e:List UInt8):TellsL (d++e) l ts:=⟨h.1,fun i v t hv ht=>(h.2 i v t hv ht).more e⟩
theorem TellsL.near {d:List UInt8} {l:List V3} {ts:List Tr} (h:TellsL d l ts) (hd:d.length≤1048576):∀v∈l,Near d.length v:=by
 intro v hv
 obtain⟨k,hk,rfl⟩:=List.getElem_of_mem hv
 have hk2:k < ts.length:=by rw[← h.1];exact hk
 exact (h.2 k _ _ (List.getElem?_eq_getElem hk) (List.getElem?_eq_getElem hk2)).near hd
theorem TellsL.nil (d:List UInt8):TellsL d [] []:=⟨rfl,fun i v t h=>by simp at h⟩
theorem TellsL.cons {d:List UInt8} {v:V3} {t:Tr} {l:List V3} {ts:List Tr} (h:Tells d v t) (hl:TellsL d l ts):TellsL d (v::l) (t::ts):=by
 refine⟨by simp[hl.1],fun i x y hx hy=>?_⟩
 cases i with
 | zero=>simp at hx hy;subst hx hy;exact h
 | succ i=>exact hl.2 i x y (by simpa using hx) (by simpa using hy)
theorem get_more {X e:List UInt8} {i:Nat} {c:UInt8} (h:X[i]? = some c):(X++e)[i]? = some c:=by
 rw[List.getElem?_append_left (List.getElem?_eq_some_iff.1 h).1];exact h
theorem list_says {b:List UInt8} {l:List V3} {ts:List Tr} {x p typ kd many:Int} {len tagged:Bool} (ht:TellsL b l ts) (hn:b.length≤1048576) (hl:l.length≤65536) (hx:allF l (0,0,0) b.length (if len then 1 else 0)=x) (hp:(b.length:Int)+padN b x+(if len then x else 0)=p)
 (hs:shapeF typ=(kd,many)) (h17:kd≠17) (hg:taggedB kd=tagged) (hm:if len then many=0 else many≠0∧(ts.length:Int)=many) (hty:tagged=false→∀v∈l,v.1=(Ft.elemF typ).1∧(inlineB v.1=true∨v.1=4)) (e:List UInt8) :
 listF (b++(pieces x len tagged b l).flatten++e) typ x p (.mk kd 0 0 EMB [] ts)=true:=by
 obtain⟨hw,hH,hmod,hge,hlt,hlen,hin⟩:=heldB (tagged:=tagged) hn (by omega) (ht.near hn) hx hp
 have hwp:=isW_pos hw
 have hpl:(b.length:Int)≤p:=by cases len<;>simp at hge<;>omega
 have hpu:p < b.length+x+x:=by cases len<;>simp at hlt<;>omega
 have hmul0:0≤x*(l.length:Int):=Int.mul_nonneg (by omega) (by omega)
 have hmul8:x*(l.length:Int)≤8*l.length:=Int.mul_le_mul_of_nonneg_right hwp.2 (by omega)
 have hcomm:(l.length:Int)*x=x*l.length:=Int.mul_comm _ _
 obtain⟨hl1,hl2⟩:=ht
 obtain⟨R,hR⟩:∃R,(pieces x len tagged b l).flatten=R:=⟨_,rfl⟩
 rw[hR] at hH hlen⊢
 have hmany:(kd,many).2=many:=rfl
 unfold listF
 simp only[Tr.kids,Bool.and_eq_true]
 refine⟨front_iff.2 ⟨by rw[hs],rfl,rfl,rfl,fun _=>rfl,?_,?_,?_,fun h=>by rw[hs] at h;exact absurd h h17⟩,kids_iff.2 fun j t hj=>?_⟩
 ·cases len
  ·simpa using hmod
  ·simp only[if_true] at hmod
   have:p=(p - x)+x:=by omega
   rw[this,Int.add_emod_right];exact hmod
 ·rw[hs,hg,← hl1]
  have:=hH.len
  rw[List.length_append]
  cases tagged
  ·simp only[Bool.false_eq_true,if_false] at this⊢;omega
  ·simp only[if_true] at this⊢;omega
 ·rw[hs]
  dsimp only
  cases len
  ·simp only[Bool.false_eq_true,if_false] at hm
   rw[if_neg hm.1];exact hm.2
  ·simp only[if_true] at hm
   rw[if_pos hm,num_of (loadF_more (hlen rfl)) (by omega),hl1]
   exact⟨rfl,rfl⟩
 ·rw[Nat.zero_add]
  obtain⟨v,hv⟩:∃v,l[j]? = some v:=by
   have:j < ts.length:=(List.getElem?_eq_some_iff.1 hj).1
   exact⟨_,List.getElem?_eq_getElem (by omega)⟩
  have hjl:j < l.length:=(List.getElem?_eq_some_iff.1 hv).1
  have htv:=hl2 j v t hv hj
  have hjx:0≤(j:Int)*x:=Int.mul_nonneg (by omega) (by omega)
  have hjx8:(j:Int)*x≤j*8:=Int.mul_le_mul_of_nonneg_left hwp.2 (by omega)
  have hload:=loadF_more (Z:=e) (hH.elem j v hv)
  have hfirst:(b.length:Int)≤firstF typ x p:=by
   unfold firstF
   rw[hs]
   dsimp only
   rw[if_neg h17]
   cases len
   ·simp only[Bool.false_eq_true,if_false] at hm
    rw[if_neg hm.1];exact hpl
   ·simp only[if_true] at hm hge
    rw[if_pos hm];exact hge
  have hE:=elem_says (e:=R++e) htv hw (by rw[← List.append_assoc];exact hload) (hin v (List.mem_of_getElem? hv)) (by omega) (by omega) hfirst
  rw[← List.append_assoc] at hE
  unfold elemOf
  rw[hs,hg,← hl1]
  cases tagged
  ·simp only[Bool.false_eq_true,if_false]
   obtain⟨e1,e2⟩:=hty rfl v (List.mem_of_getElem? hv)
   rw[← e1]
   refine⟨trivial,?_⟩
   rcases e2 with e2|e2
   ·rw[if_pos e2] at hE;exact hE
   ·have hi4:inlineB v.1=false:=by rw[e2];decide
    rw[hi4] at hE
    simp only[Bool.false_eq_true,if_false] at hE
    have hw4:isW v.2.1=true:=by
     rcases htv with h|h
     ·exact (near_legal h).2.2.1
     ·exact h.isw
    rw[e2] at hE⊢
    rw[says_key hw hw4];exact hE
  ·simp only[if_true]
   have hT:=get_more (e:=e) (hH.tag rfl j v hv)
   have hq:(p+(l.length:Int)*x+(j:Int)).toNat=(p+(l.length:Int)*x).toNat+j:=by omega
   rw[hq,hT]
   simp only[Option.getD_some]
   have hle:legalE v=0:=(htv.near hn).1
   rw[unpack_tag hw hle]
   exact⟨rfl,hE⟩
structure KeysV (d:List UInt8) (v:V3) (names:List ByteArray):Prop where
 typ:v.1=14
 isw:isW v.2.1=true
 n0:0≤v.2.2
 n1:v.2.2≤d.length
 lim:v.2.2 - v.2.1 < d.length
 body:∀e,namesF (d++e) v.2.1 v.2.2 names=true
theorem KeysV.more {d:List UInt8} {v:V3} {names:List ByteArray} (h:KeysV d v names) (e:List UInt8):KeysV (d++e) v names:=
 ⟨h.typ,h.isw,h.n0,by have:=h.n1;rw[List.length_append];omega,by have:=h.lim;rw[List.length_append];omega,fun f=>by rw[List.append_assoc];exact h.body _⟩
def keyT (k:ByteArray):Tr:=.mk 5 0 0 k [] []
theorem names_says {b:List UInt8} {l:List V3} {names:List ByteArray} {x p:Int} (ht:TellsL b l (names.map keyT)) (h4:∀v∈l,v.1=4) (hn:b.length≤1048576) (hl:l.length≤65536) (hx:allF l (0,0,0) b.length 1=x) (hp:(b.length:Int)+padN b x+x=p) (e:List UInt8) :
 namesF (b++(pieces x true false b l).flatten++e) x p names=true:=by
 have hL:=list_says (len:=true) (tagged:=false) (typ:=14) (kd:=13) (many:=0) ht hn hl (by simpa using hx) (by simpa using hp) (by decide) (by decide) (by decide) (by simp) (fun _ v hv=>⟨by rw[h4 v hv];decide,.inr (h4 v hv)⟩) e
 unfold listF at hL
 simp only[Tr.kids,Bool.and_eq_true] at hL
 obtain⟨h1,h2⟩:=hL
 have hF:=front_iff.1 h1
 have hfx:=hF.fix
 have hrm:=hF.room
 have hmy:=hF.many
 have e14:shapeF 14=(13,0):=by decide
 rw[e14] at hrm hmy
 simp only[if_true,List.length_map] at hmy
 rw[List.length_map,show taggedB (13,0).1=false by decide] at hrm
 simp only[Bool.false_eq_true,if_false,Int.add_zero] at hrm
 generalize b++(pieces x true false b l).flatten++e=D at *
 unfold namesF
 simp only[Bool.and_eq_true,decide_eq_true_eq]
 refine⟨⟨⟨hfx,hrm⟩,hmy⟩,names_iff.2 fun j k hk=>?_⟩
 have hkk:=kids_iff.1 h2 j (keyT k) (by rw[List.getElem?_map,hk];rfl)
 unfold elemOf at hkk
 rw[e14,show taggedB (13,0).1=false by decide] at hkk
 simp only[Bool.false_eq_true,if_false,true_and,Nat.zero_add,show (Ft.elemF 14).1=4 by decide] at hkk
 have hfirst:firstF 14 x p=p - x:=by unfold firstF;rw[e14];rfl
 rw[hfirst] at hkk
 rw[Nat.zero_add]
 obtain⟨_,hc⟩:=says_cases hkk
 rcases hc with ⟨hnr,_⟩|⟨_,hfb,_,hlk⟩|⟨_,_,hft,_⟩
 ·exact absurd hnr (by decide)
 ·unfold keySays
  rw[hfb,Bool.true_and]
  have hkf:keyF D (p+(j:Int)*x - (numF D (p+(j:Int)*x) x).1) (keyT k)=true:=hlk
  unfold keyF at hkf
  simp only[Bool.and_eq_true] at hkf⊢
  exact⟨hkf.1.2,hkf.2⟩
 ·exact absurd hft (by decide)
theorem map_says {b:List UInt8} {k:V3} {l:List V3} {ts:List Tr} {names:List ByteArray} {x p:Int} (ht:TellsL b l ts) (hk:KeysV b k names) (hi:incB names=true) (hnl:names.length=ts.length) (hn:b.length≤1048576) (hl:l.length≤65536)
 (hx:allF l k b.length 3=x) (hp:(b.length:Int)+padN b x+3*x=p) (e:List UInt8):listF (b++(piecesM x k b l).flatten++e) 9 x p (.mk 17 0 0 EMB names ts)=true:=by
 have hK:KeyAt b.length k:=⟨hk.typ,hk.isw,hk.n0,hk.n1⟩
 obtain⟨hw,hH,hmod,hge,hlt,hin,hkn⟩:=heldM hn (by omega) (ht.near hn) hK hx hp
 have hwp:=isW_pos hw
 have hkp:=isW_pos hk.isw
 have hmul0:0≤x*(l.length:Int):=Int.mul_nonneg (by omega) (by omega)
 have hmul8:x*(l.length:Int)≤8*l.length:=Int.mul_le_mul_of_nonneg_right hwp.2 (by omega)
 have hcomm:(l.length:Int)*x=x*l.length:=Int.mul_comm _ _
 obtain⟨hl1,hl2⟩:=ht
 obtain⟨R,hR⟩:∃R,(piecesM x k b l).flatten=R:=⟨_,rfl⟩
 rw[hR] at hH⊢
 have hs:shapeF 9=(17,0):=by decide
 have hg:taggedB 17=true:=by decide
 have hk0:=hk.n0
 have hk1:=hk.n1
 have hk2:=hk.lim
 have hbody:=hk.body (R++e)
 rw[← List.append_assoc] at hbody
 unfold listF
 simp only[Tr.kids,Bool.and_eq_true]
 refine⟨front_iff.2 ⟨by rw[hs],rfl,rfl,rfl,fun h=>absurd (by rw[hs]) h,?_,?_,?_,fun _=>⟨by omega,hnl,?_⟩⟩,kids_iff.2 fun j t hj=>?_⟩
 ·have:p=(p - 3*x)+3*x:=by omega
  rw[this,Int.add_mul_emod_self_right];exact hmod
 ·rw[hs,hg,← hl1]
  have:=hH.len
  rw[List.length_append]
  simp only[if_true]
  omega
 ·rw[hs]
  dsimp only
  rw[if_pos rfl,num_of (loadF_more hH.many) (by omega),hl1]
  exact⟨rfl,rfl⟩
 ·have n1:=num_of (loadF_more (Z:=e) hH.off) (by omega)
  have n2:=num_of (loadF_more (Z:=e) hH.wide) (by omega)
  have e2:p - 3*x+x=p - 2*x:=by omega
  unfold keysF
  rw[e2,n1,n2]
  simp only[hk.isw,hi,Bool.true_and,Bool.and_true,Bool.and_eq_true,decide_eq_true_eq]
  have e3:p - 3*x - (p - 3*x - k.2.2)=k.2.2:=by omega
  rw[e3]
  exact⟨⟨by omega,by omega⟩,hbody⟩
 ·rw[Nat.zero_add]
  obtain⟨v,hv⟩:∃v,l[j]? = some v:=by
   have:j < ts.length:=(List.getElem?_eq_some_iff.1 hj).1
   exact⟨_,List.getElem?_eq_getElem (by omega)⟩
  have hjl:j < l.length:=(List.getElem?_eq_some_iff.1 hv).1
  have htv:=hl2 j v t hv hj
  have hjx:0≤(j:Int)*x:=Int.mul_nonneg (by omega) (by omega)
  have hjx8:(j:Int)*x≤j*8:=Int.mul_le_mul_of_nonneg_left hwp.2 (by omega)
  have hload:=loadF_more (Z:=e) (hH.elem j v hv)
  have hfirst:(b.length:Int)≤firstF 9 x p:=by
   unfold firstF
   rw[hs]
   simp only[if_true]
   exact hge
  have hE:=elem_says (e:=R++e) htv hw (by rw[← List.append_assoc];exact hload) (hin v (List.mem_of_getElem? hv)) (by omega) (by omega) hfirst
  rw[← List.append_assoc] at hE
  unfold elemOf
  rw[hs,hg,← hl1]
  simp only[if_true]
  have hT:=get_more (e:=e) (hH.tag j v hv)
  have hq:(p+(l.length:Int)*x+(j:Int)).toNat=(p+(l.length:Int)*x).toNat+j:=by omega
  rw[hq,hT]
  simp only[Option.getD_some]
  have hle:legalE v=0:=(htv.near hn).1
  rw[unpack_tag hw hle]
  exact⟨rfl,hE⟩
def leafF (most flags k n u:Int) (s:ByteArray) (x:BS):BS:=
 if k=1 then x.inline (0,1,0) else if k=2 then x.inline (truthV (decide (n=1))) else if k=3 then x.inline (numV n) else if k=4 then x.inline (unsV u)
 else if k=8 then x.apart most 6 (numV n) else if k=9 then x.apart most 7 (unsV u) else if k=5 then x.key most (onF flags 1) s else if k=6 then x.str most (onF flags 2) s else if k=7 then x.blob most s else x
mutual
def callsF (most flags:Int):Tr→BS→BS
 | .mk k n u s keys l,x=>
  if k=11 then x.vector most 1 0 (l.map fun t=>numV t.fn) else if k=12 then x.vector most 2 0 (l.map fun t=>unsV t.fu)
  else if k=14 then x.vector most 26 0 (l.map fun t=>truthV (decide (t.fn=1))) else if k=13 then x.keyVec most (onF flags 1) (l.map Tr.fs)
  else if k=15 then x.fixed most 1 (l.map fun t=>numV t.fn) else if k=16 then x.fixed most 2 (l.map fun t=>unsV t.fu)
  else if k=10 then (callsL most flags l x).endVec most x.stk.length
  else if k=17 then (callsM most flags l keys x).endMap most (onF flags 4) x.stk.length
  else leafF most flags k n u s x
def callsL (most flags:Int):List Tr→BS→BS
 | [],x=>x
 | t::r,x=>callsL most flags r (callsF most flags t x)
def callsM (most flags:Int):List Tr→List ByteArray→BS→BS
 | [],_,x=>x
 | t::r,ks,x=>callsM most flags r ks.tail (callsF most flags t (x.key most (onF flags 1) (ks.headD EMB)))
end
mutual
def costT:Tr→Nat | .mk k n u s keys l=>64+s.size+(keys.map fun k=>k.size+32).sum+costL l
def costL:List Tr→Nat | []=>0 | t::r=>costT t+32+costL r
end
structure Inv (x:BS):Prop where
 e0:x.e=0
 s0:x.s.2=0
 keys:∀z∈x.keys,Tells x.s.1 (4,1,z.2) (keyT z.1)∧nameF x.names z.2=z.1
 texts:∀z∈x.texts,Tells x.s.1 (5,Ft.widthOf z.1.size,z.2) (.mk 6 0 0 z.1 [] [])
 lists:∀z∈x.lists,0≤z.2∧∃v names,x.vals[z.2.toNat]? = some v∧KeysV x.s.1 v names∧listKey names=z.1∧∀k∈names,keyE k=0
 names:∀z∈x.names,z.1 < x.s.1.length
 vals:x.vals.length≤x.s.1.length
theorem Inv.s {x:BS} (h:Inv x):x.s=(x.s.1,0):=by
 have:=h.s0
 rw[← this]
theorem Inv.new:Inv BS.new:=⟨rfl,rfl,fun z h=>absurd h List.not_mem_nil,fun z h=>absurd h List.not_mem_nil,fun z h=>absurd h List.not_mem_nil,fun z h=>absurd h List.not_mem_nil,Nat.zero_le _⟩
theorem Inv.ext {x:BS} (h:Inv x) (e:List UInt8) (k:List V3):Inv {x with s:=(x.s.1++e,0),stk:=k}:=
 ⟨h.e0,rfl,fun z hz=>⟨(h.keys z hz).1.more e,(h.keys z hz).2⟩,fun z hz=>(h.texts z hz).more e,fun z hz=>by
  obtain⟨h0,v,nm,h1,h2,h3⟩:=h.lists z hz
  exact⟨h0,v,nm,h1,h2.more e,h3⟩,fun z hz=>by
  have:=h.names z hz
  show z.1 < ((x.s.1++e).length:Int)
  rw[List.length_append];omega,by
  have:=h.vals
  show x.vals.length≤(x.s.1++e).length
  rw[List.length_append];omega⟩
theorem Inv.stk {x:BS} (h:Inv x) (k:List V3):Inv {x with stk:=k}:=by
 have:=h.ext [] k
 rw[List.append_nil,← h.s] at this
 exact this
structure Pushed (x x':BS) (t:Tr) (c:Nat):Prop where
 inv:Inv x'
 grow:∃e,x'.s.1=x.s.1++e∧e.length≤c
 push:∃v,x'.stk=x.stk++[v]∧Tells x'.s.1 v t
 nms:∀a:Int,a < x.s.1.length→nameF x'.names a=nameF x.names a
theorem getP_mem {l:PoolL} {k:ByteArray} {a:Int} (h:getP l k=(a,true)):(k,a)∈l:=by
 unfold getP at h
 split at h
 ·rename_i hh
  have hlt:=hasP_lt hh
  have hg:(atsP l).getD (placeP l k) 0=(l[placeP l k]).2:=by simp[atsP,List.getD_eq_getElem?_getD,hlt]
  rw[hg] at h
  injection h with h1 h2
  have h3:=of_decide_eq_true hh
  unfold keysP at h3
  rw[List.getElem?_map,List.getElem?_eq_getElem hlt] at h3
  simp only[Option.map_some,Option.some.injEq] at h3
  have:l[placeP l k]=(k,a):=Prod.ext h3 h1
  rw[← this]
  exact List.getElem_mem hlt
 ·injection h with _ h2;cases h2
theorem nameF_old {names:List (Int × ByteArray)} {a b:Int} {k:ByteArray} (h:a≠b):nameF (names++[(b,k)]) a=nameF names a:=by
 unfold nameF
 rw[List.find?_append]
 cases names.find? (fun q=>decide (q.1=a)) with
 | some q=>rfl
 | none=>
  have:List.find? (fun q:Int × ByteArray=>decide (q.1=a)) [(b,k)]=none:=by simp[Ne.symm h]
  rw[this];rfl
theorem nameF_new {names:List (Int × ByteArray)} {b:Int} {k:ByteArray} (h:∀z∈names,z.1≠b):nameF (names++[(b,k)]) b=k:=by
 unfold nameF
 rw[List.find?_append]
 have:names.find? (fun q=>decide (q.1=b))=none:=by
  rw[List.find?_eq_none]
  intro z hz
  simpa using h z hz
 rw[this]
 simp
theorem bytes_key (k:ByteArray):bytesS [k,⟨#[0]⟩]=(ends k).data.toList:=by
 rw[ends_list]
 simp[bytesS]
theorem has_here {b e:List UInt8} {s:ByteArray} {at_:Int} (h:at_=b.length):hasF (b++s.data.toList++e) at_ s=true:=by
 subst h
 rw[has_iff]
 refine⟨by omega,?_,?_⟩
 ·rw[List.length_append,List.length_append,size_list];omega
 ·rw[Int.toNat_natCast,List.append_assoc,List.drop_left,← size_list,List.take_left' rfl]
theorem key_tells {b:List UInt8} {k:ByteArray} (hk:keyE k=0):Tells (b++bytesS [k,⟨#[0]⟩]) (4,1,(b.length:Int)) (keyT k):=by
 refine .inr ⟨by show inlineB 4=false;decide,by show legalB 4=true;decide,rfl,by show (0:Int)≤b.length;omega,?_,?_,fun e=>?_⟩
 ·show (b.length:Int)≤_
  rw[List.length_append];omega
 ·show (b.length:Int) - aheadF 4*1 < _
  rw[show aheadF 4=0 by decide,List.length_append]
  have:=bytesS_pos k
  omega
 ·show keyF _ _ _=true
  unfold keyF
  rw[bytes_key]
  show (bareF (keyT k) 5 0 0 k && decide (keyE k=0) && hasF (b++(ends k).data.toList++e) (b.length:Int) (ends k))=true
  rw[has_here rfl]
  simp only[keyT,bare_self,hk,decide_true,Bool.and_self]
theorem failz0 {x:BS} (h:x.e=0):x.fail 0=x:=by
 obtain⟨s,e,stk,a,b,c,d,f⟩:=x
 dsimp only at h
 subst h
 rfl
theorem put_ok {most:Int} {sh:Bool} {k:ByteArray} {x:BS} (h:Inv x) (hk:keyE k=0) (hr:(x.s.1.length:Int)+(k.size+1)≤most) :
 ∃a e,(x.put most sh k).1=(4,1,a)∧Inv (x.put most sh k).2∧(x.put most sh k).2.s.1=x.s.1++e∧e.length≤k.size+1∧(x.put most sh k).2.stk=x.stk∧Tells (x.put most sh k).2.s.1 (4,1,a) (keyT k)∧nameF (x.put most sh k).2.names a=k ∧
  ∀c:Int,c < x.s.1.length→nameF (x.put most sh k).2.names c=nameF x.names c:=by
 unfold BS.put
 dsimp only
 rw[hk,failz0 h.e0,if_neg (by rw[h.e0];decide)]
 by_cases hg:((getP x.keys k).2 && sh)=true
 ·rw[if_pos hg]
  rw[Bool.and_eq_true] at hg
  have hm:getP x.keys k=((getP x.keys k).1,true):=by rw[← hg.1]
  have h1:=h.keys _ (getP_mem hm)
  exact⟨_,[],rfl,h,by simp,Nat.zero_le _,rfl,h1.1,h1.2,fun c _=>rfl⟩
 ·rw[if_neg hg]
  have hsz:(bytesS [k,⟨#[0]⟩]).length=k.size+1:=by rw[bytes_key,size_list,ends_size]
  have hs:putS most (bytesS [k,⟨#[0]⟩]) x.s=(x.s.1++bytesS [k,⟨#[0]⟩],0):=by
   have:=put_fit most x.s.1 (bytesS [k,⟨#[0]⟩]) (by rw[hsz];omega)
   rw[← h.s] at this
   exact this
  have ht:=key_tells (b:=x.s.1) hk
  have hnb:∀z∈x.names,z.1≠(x.s.1.length:Int):=fun z hz e=>by have:=h.names z hz;omega
  refine⟨_,bytesS [k,⟨#[0]⟩],rfl,?_,by dsimp only;rw[hs],by rw[hsz];exact Nat.le_refl _,rfl,by dsimp only;rw[hs];exact ht,nameF_new hnb,fun c hc=>nameF_old (by omega)⟩
  dsimp only
  rw[hs]
  refine⟨rfl,rfl,fun z hz=>?_,fun z hz=>(h.texts z hz).more _,fun z hz=>?_,fun z hz=>?_,by have:=h.vals;show x.vals.length≤(x.s.1++_).length;rw[List.length_append];omega⟩
  ·rcases putP_mem hz with hz|⟨rfl,_⟩
   ·have h1:=h.keys z hz
    have hlt:z.2 < (x.s.1.length:Int):=by
     rcases h1.1 with hq|hq
     ·exact absurd (near_legal hq).1 (by show ¬inlineB 4=true;decide)
     ·have:=hq.lim
      rw[show ((4:Int),(1:Int),z.2).1=4 from rfl,show aheadF 4=0 by decide] at this
      simpa using this
    refine⟨h1.1.more _,?_⟩
    show nameF (x.names++[((x.s.1.length:Int),k)]) z.2=z.1
    rw[nameF_old (by omega)]
    exact h1.2
   ·exact⟨ht,nameF_new hnb⟩
  ·obtain⟨h0,v,nm,h1,h2,h3⟩:=h.lists z hz
   exact⟨h0,v,nm,h1,h2.more _,h3⟩
  ·show z.1 < ((x.s.1++bytesS [k,⟨#[0]⟩]).length:Int)
   rw[List.length_append,hsz]
   rcases List.mem_append.1 hz with hz|hz
   ·have:=h.names z hz;omega
   ·obtain rfl:=List.mem_singleton.1 hz
    show (x.s.1.length:Int) < _
    omega
theorem push_inv {x:BS} (h:Inv x) (v:V3) (hl:x.stk.length+1≤65536):x.push v={x with stk:=x.stk++[v]}:=push_ok h.e0 h.s0 hl
theorem key_ok {most:Int} {sh:Bool} {k:ByteArray} {x:BS} (h:Inv x) (hk:keyE k=0) (hr:(x.s.1.length:Int)+(k.size+1)≤most) (hl:x.stk.length+1≤65536) :
 Pushed x (x.key most sh k) (keyT k) (k.size+1)∧∃a,(x.key most sh k).stk=x.stk++[(4,1,a)]∧nameF (x.key most sh k).names a=k∧a < (x.key most sh k).s.1.length:=by
 obtain⟨a,e,h1,h2,h3,h4,h5,h6,h7,h8⟩:=put_ok (sh:=sh) h hk hr
 have hx:x.key most sh k={(x.put most sh k).2 with stk:=x.stk++[(4,1,a)]}:=by
  unfold BS.key
  rw[if_pos h.e0,push_inv h2 _ (by rw[h5];exact hl),h1,h5]
 rw[hx]
 have hlt:a < ((x.put most sh k).2.s.1.length:Int):=by
  rcases h6 with hq|hq
  ·exact absurd (near_legal hq).1 (by show ¬inlineB 4=true;decide)
  ·have:=hq.lim
   rw[show ((4:Int),(1:Int),a).1=4 from rfl,show aheadF 4=0 by decide] at this
   simpa using this
 exact⟨⟨h2.stk _,⟨e,h3,h4⟩,⟨_,rfl,h6⟩,h8⟩,a,rfl,h7,hlt⟩
theorem inline_ok {x:BS} {v:V3} {t:Tr} (h:Inv x) (hv:nearV v t) (hl:x.stk.length+1≤65536):Pushed x (x.inline v) t 0:=by
 have hx:x.inline v={x with stk:=x.stk++[v]}:=by unfold BS.inline;rw[if_pos h.e0,push_inv h v hl]
 rw[hx]
 exact⟨h.stk _,⟨[],by simp,Nat.le_refl _⟩,⟨v,rfl,.inl hv⟩,fun a _=>rfl⟩
theorem align_ok {most w:Int} {b:List UInt8} (hw:isW w=true) (h:(b.length:Int)+7≤most):alignS most w (b,0)=(b++zeros (padN b w),0):=alignS_fit hw (by have:=padN_le b hw;omega)
theorem pad_mod {w:Int} (hw:isW w=true) (b:List UInt8):((b.length:Int)+padN b w) % w=0:=by rw[pad_eq hw];exact Int.mul_emod_left _ _
theorem apart_ok {most:Int} {x:BS} {v:V3} {sg:Int} {t:Tr} (h:Inv x) (hl:x.stk.length+1≤65536) (hr:(x.s.1.length:Int)+15≤most) (hmost:most≤1048576)
 (hv:(sg=6∧∃n,i64ok n∧v=numV n∧t=.mk 8 n 0 EMB [] [])∨(sg=7∧∃u,u64ok u∧v=unsV u∧t=.mk 9 0 u EMB [] [])):Pushed x (x.apart most sg v) t 64:=by
 have hw:isW v.2.1=true:=by
  rcases hv with ⟨_,n,_,rfl,_⟩|⟨_,u,_,rfl,_⟩
  ·exact widthI_isW n
  ·exact widthOf_isW _
 have hwp:=isW_pos hw
 have hpad:=padN_le x.s.1 hw
 obtain⟨b,hb⟩:∃b,x.s.1=b:=⟨_,rfl⟩
 have hxs:x.s=(b,0):=by rw[h.s,hb]
 rw[hb] at hr hpad
 have e1:alignS most v.2.1 x.s=(b++zeros (padN b v.2.1),0):=by rw[hxs];exact align_ok hw (by omega)
 have hlow:=low_lt v.2.2 v.2.1
 have e2:numS most v.2.1 (lowF v.2.2 v.2.1) (alignS most v.2.1 x.s)=(b++(zeros (padN b v.2.1)++digB v.2.1.toNat (lowF v.2.2 v.2.1).toNat),0):=by
  rw[e1,numS_put hw hlow.2,put_fit _ _ _ (by rw[List.length_append,length_zeros,length_digB];omega),List.append_assoc]
 have e3:(((alignS most v.2.1 x.s).1.length:Nat):Int)=(b.length:Int)+padN b v.2.1:=by rw[e1];dsimp only;rw[List.length_append,length_zeros];omega
 obtain⟨E,hE⟩:∃E,zeros (padN b v.2.1)++digB v.2.1.toNat (lowF v.2.2 v.2.1).toNat=E:=⟨_,rfl⟩
 rw[hE] at e2
 have hEl:(E.length:Int)=padN b v.2.1+v.2.1:=by rw[← hE,List.length_append,length_zeros,length_digB];omega
 have hI:=h.ext E x.stk
 rw[hb] at hI
 have hx:x.apart most sg v={x with s:=(b++E,0),stk:=x.stk++[(sg,v.2.1,(b.length:Int)+padN b v.2.1)]}:=by
  unfold BS.apart
  rw[if_pos h.e0]
  dsimp only
  rw[e2,e3]
  exact push_inv (x:={x with s:=(b++E,0)}) hI _ hl
 rw[hx]
 have hload:∀e,loadF (b++E++e) ((b.length:Int)+padN b v.2.1) v.2.1=(lowF v.2.2 v.2.1,0):=fun e=>loadF_at (A:=b++zeros (padN b v.2.1)) (C:=e) hw (by rw[← hE];simp only[List.append_assoc]) (by rw[List.length_append,length_zeros];omega) hlow.1 hlow.2
 have hI2:=h.ext E (x.stk++[(sg,v.2.1,(b.length:Int)+padN b v.2.1)])
 rw[hb] at hI2
 refine⟨hI2,⟨E,by rw[hb],by omega⟩,⟨_,rfl,.inr ?_⟩,fun a _=>rfl⟩
 have hmod:=pad_mod hw b
 have hlen:(((b++E).length:Nat):Int)=b.length+padN b v.2.1+v.2.1:=by rw[List.length_append];omega
 rcases hv with ⟨rfl,n,hn,rfl,rfl⟩|⟨rfl,u,hu,rfl,rfl⟩
 ·refine⟨by show inlineB 6=false;decide,by show legalB 6=true;decide,hw,by show (0:Int)≤(b.length:Int)+padN b (numV n).2.1;omega,?_,?_,fun e=>?_⟩
  ·show (b.length:Int)+padN b (numV n).2.1≤((b++E).length:Int)
   omega
  ·show (b.length:Int)+padN b (numV n).2.1 - aheadF 6*(numV n).2.1 < ((b++E).length:Int)
   rw[show aheadF 6=0 by decide];omega
  ·show apartF _ 6 (numV n).2.1 ((b.length:Int)+padN b (numV n).2.1) _=true
   unfold apartF numberF
   rw[loadInt_of (hload e),hload e]
   rw[show (numV n).2.2=n % 18446744073709551616 from rfl,show (numV n).2.1=widthI n from rfl] at *
   rw[sgn_num hw hn (Int.le_refl _)]
   simp only[Tr.kind,bare_self,ne_eq,not_true_eq_false,if_false,if_true,decide_true,Bool.true_and,Bool.and_true,decide_eq_true_eq]
   exact hmod
 ·refine⟨by show inlineB 7=false;decide,by show legalB 7=true;decide,hw,by show (0:Int)≤(b.length:Int)+padN b (unsV u).2.1;omega,?_,?_,fun e=>?_⟩
  ·show (b.length:Int)+padN b (unsV u).2.1≤((b++E).length:Int)
   omega
  ·show (b.length:Int)+padN b (unsV u).2.1 - aheadF 7*(unsV u).2.1 < ((b++E).length:Int)
   rw[show aheadF 7=0 by decide];omega
  ·show apartF _ 7 (unsV u).2.1 ((b.length:Int)+padN b (unsV u).2.1) _=true
   unfold apartF numberF
   rw[hload e]
   rw[show (unsV u).2.2=u from rfl,show (unsV u).2.1=Ft.widthOf u.toNat from rfl] at *
   rw[low_uns hw hu (Int.le_refl _)]
   simp only[Tr.kind,bare_self,ne_eq,not_true_eq_false,if_false,decide_true,Bool.true_and,Bool.and_true,decide_eq_true_eq]
   rw[if_neg (by decide),if_neg (by decide)]
   simp only[Tr.kind,bare_self,decide_true,Bool.true_and,Bool.and_true,decide_eq_true_eq]
   exact hmod
theorem text_tells {b:List UInt8} {k:ByteArray} {typ:Int} (ht:typ=5∨typ=25) (hk:k.size≤1048576) (hb:b.length≤1048576) :
 Tells (b++textD b k (if typ=5 then ⟨#[0]⟩ else ByteArray.empty)) (typ,Ft.widthOf k.size,textP b k) (.mk (if typ=5 then 6 else 7) 0 0 k [] []):=by
 have hw:=widthOf_isW k.size
 have hwp:=isW_pos hw
 have hpad:=padN_le b hw
 have hlt:=length_textD b k (if typ=5 then ⟨#[0]⟩ else ByteArray.empty)
 obtain⟨w,hW⟩:∃w,Ft.widthOf k.size=w:=⟨_,rfl⟩
 have hpw:(k.size:Int) < 2 ^ (8*w.toNat):=by rw[← hW];exact width_pow k.size (by omega)
 have hP:textP b k=(b.length:Int)+padN b w+w:=by unfold textP;rw[hW]
 have hz:0≤((if typ=5 then (⟨#[0]⟩:ByteArray) else ByteArray.empty).size:Int):=by omega
 rw[hW] at hw hwp hpad hlt⊢
 have hfar:inlineB typ=false∧legalB typ=true∧aheadF typ=1:=by rcases ht with rfl | rfl<;>decide
 have hload:∀e,loadF (b++textD b k (if typ=5 then ⟨#[0]⟩ else ByteArray.empty)++e) (textP b k - w) w=((k.size:Int),0):=fun e=>by
  refine loadF_at (A:=b++zeros (padN b w)) (C:=bytesS [k,if typ=5 then ⟨#[0]⟩ else ByteArray.empty]++e) hw ?_ ?_ (by omega) hpw
  ·unfold textD;rw[hW];simp only[List.append_assoc,Int.toNat_natCast]
  ·rw[hP,List.length_append,length_zeros];omega
 refine .inr ⟨hfar.1,hfar.2.1,by show isW w=true;exact hw,by show 0≤textP b k;rw[hP];omega,?_,?_,fun e=>?_⟩
 ·show textP b k≤_
  rw[List.length_append,hP];omega
 ·show textP b k - aheadF typ*w < _
  rw[hfar.2.2,List.length_append,hP];omega
 ·have hbody:textF (b++textD b k (if typ=5 then ⟨#[0]⟩ else ByteArray.empty)++e) typ w (textP b k) (.mk (if typ=5 then 6 else 7) 0 0 k [] [])=true:=by
   unfold textF
   rw[num_of (hload e) (by omega)]
   have hmod:textP b k % w=0:=by
    rw[hP,Int.add_emod_right]
    exact pad_mod hw b
   have hh:hasF (b++textD b k (if typ=5 then ⟨#[0]⟩ else ByteArray.empty)++e) (textP b k) (if typ=5 then ends k else k)=true:=by
    have hA:(((b++zeros (padN b w)++digB w.toNat k.size).length:Nat):Int)=textP b k:=by
     rw[hP,List.length_append,List.length_append,length_zeros,length_digB];omega
    rcases ht with rfl|rfl
    ·simp only[if_true]
     have:=has_here (b:=b++zeros (padN b w)++digB w.toNat k.size) (s:=ends k) (e:=e) hA.symm
     rw[← bytes_key] at this
     unfold textD
     rw[hW]
     simp only[List.append_assoc] at this⊢
     exact this
    ·rw[if_neg (by decide),if_neg (by decide)]
     have:=has_here (b:=b++zeros (padN b w)++digB w.toNat k.size) (s:=k) (e:=e) hA.symm
     have hbe:bytesS [k,ByteArray.empty]=k.data.toList:=by simp[bytesS]
     unfold textD
     rw[hW,hbe]
     simp only[List.append_assoc] at this⊢
     exact this
   simp only[Tr.fs]
   rw[hh]
   simp only[bare_self,hmod,decide_true,Bool.and_self]
  rcases ht with rfl|rfl
  ·exact hbody
  ·exact hbody
theorem text_push {most t:Int} {x:BS} {k:ByteArray} (h:Inv x) (ht:t=5∨t=25) (hl:x.stk.length+1≤65536) (hr:(x.s.1.length:Int)+(k.size+64)≤most) (hmost:most≤1048576) :
 Pushed x (x.text most t k (if t=5 then ⟨#[0]⟩ else ByteArray.empty)) (.mk (if t=5 then 6 else 7) 0 0 k [] []) (k.size+64):=by
 have hw:=widthOf_isW k.size
 have hwp:=isW_pos hw
 have hpad:=padN_le x.s.1 hw
 have hlt:=length_textD x.s.1 k (if t=5 then ⟨#[0]⟩ else ByteArray.empty)
 have hz:((if t=5 then (⟨#[0]⟩:ByteArray) else ByteArray.empty).size:Int)≤1:=by rcases ht with rfl | rfl<;>decide
 have hT:=text_tells (b:=x.s.1) (k:=k) ht (by omega) (by omega)
 rw[text_ok (b:=x.s.1) h.e0 h.s hl (by omega) (by rw[List.length_append];omega)]
 have hI:=h.ext (textD x.s.1 k (if t=5 then ⟨#[0]⟩ else ByteArray.empty)) (x.stk++[(t,Ft.widthOf k.size,textP x.s.1 k)])
 refine⟨⟨hI.e0,hI.s0,hI.keys,fun z hz=>?_,hI.lists,hI.names,hI.vals⟩,⟨_,rfl,by omega⟩,⟨_,rfl,hT⟩,fun a _=>rfl⟩
 rcases ht with rfl|rfl
 ·simp only[if_true] at hz hT⊢
  rcases putP_mem hz with hz|⟨rfl,_⟩
  ·exact (h.texts z hz).more _
  ·exact hT
 ·exact hI.texts z hz
theorem str_push {most:Int} {sh:Bool} {x:BS} {k:ByteArray} (h:Inv x) (hl:x.stk.length+1≤65536) (hr:(x.s.1.length:Int)+(k.size+64)≤most) (hmost:most≤1048576):Pushed x (x.str most sh k) (.mk 6 0 0 k [] []) (k.size+64):=by
 unfold BS.str
 dsimp only
 rw[if_pos h.e0]
 by_cases hg:((getP x.texts k).2 && sh)=true
 ·rw[if_pos hg]
  rw[Bool.and_eq_true] at hg
  have hm:getP x.texts k=((getP x.texts k).1,true):=by rw[← hg.1]
  have h1:=h.texts _ (getP_mem hm)
  rw[push_inv h _ hl]
  exact⟨h.stk _,⟨[],by simp,Nat.zero_le _⟩,⟨_,rfl,h1⟩,fun a _=>rfl⟩
 ·rw[if_neg hg]
  exact text_push (t:=5) h (.inl rfl) hl hr hmost
theorem blob_push {most:Int} {x:BS} {k:ByteArray} (h:Inv x) (hl:x.stk.length+1≤65536) (hr:(x.s.1.length:Int)+(k.size+64)≤most) (hmost:most≤1048576):Pushed x (x.blob most k) (.mk 7 0 0 k [] []) (k.size+64):=by
 unfold BS.blob
 rw[if_pos h.e0]
 exact text_push (t:=25) h (.inr rfl) hl hr hmost
end Go.Proofs.YtdjoffgkndncfaaGreat
namespace Go.Proofs.YtdjoffgkndncfaaGreat
open Go Go.ChangeShapes Go.WideShapes Go.ChangeAt Go.RowKit Go.Joins Go.Deep
open Go.Proofs.YtdjoffgkndncfaaGreat.Ft (V3 vV okV ValsAt inlineB legalB packF codeF typedF allF oneF)
theorem leafE_good {most flags k n u:Int} {s:ByteArray} {x:BS} (h:x.Good):(leafF most flags k n u s x).Good:=by
 unfold leafF
 repeat' split
 all_goals first | exact h.inline | exact h.apart | exact h.key | exact h.str | exact h.blob | exact h
mutual
theorem calls_good {most flags:Int}:∀(t:Tr) {x:BS},x.Good→(callsF most flags t x).Good
 | .mk k n u s keys l,x,h=>by
  simp only[callsF]
  have h1:=(callsL_good (most:=most) (flags:=flags) l h).endVec (most:=most) (start:=x.stk.length)
  have h2:=(callsM_good (most:=most) (flags:=flags) l keys h).endMap (most:=most) (sh:=onF flags 4) (start:=x.stk.length)
  repeat' split
  all_goals first | exact h1 | exact h2 | exact h.vector | exact h.keyVec | exact h.fixed | exact leafE_good h
theorem callsL_good {most flags:Int}:∀(l:List Tr) {x:BS},x.Good→(callsL most flags l x).Good
 | [],_,h=>h
 | t::r,_,h=>callsL_good r (calls_good t h)
theorem callsM_good {most flags:Int}:∀(l:List Tr) (ks:List ByteArray) {x:BS},x.Good→(callsM most flags l ks x).Good
 | [],_,_,h=>h
 | t::r,ks,_,h=>callsM_good r ks.tail (calls_good t h.key)
end
mutual
def okE:Tr→Prop | .mk k n u s keys l=>(s.size≤1048576∧(∀q∈keys,q.size≤1048576)∧l.length≤4096∧(k=17→keys.length=l.length))∧okEL l
def okEL:List Tr→Prop | []=>True | t::r=>okE t∧okEL r
end
theorem okEL_iff:∀{l:List Tr},okEL l↔∀x∈l,okE x
 | []=>by simp[okEL]
 | t::r=>by simp[okEL,okEL_iff (l:=r)]
theorem callsL_snoc {most flags:Int}:∀(l:List Tr) (t:Tr) (x:BS),callsL most flags (l++[t]) x=callsF most flags t (callsL most flags l x)
 | [],_,_=>rfl
 | y::r,t,x=>callsL_snoc r t _
theorem callsM_snoc {most flags:Int}:∀(l:List Tr) (ks:List ByteArray) (t:Tr) (k:ByteArray) (x:BS),ks.length=l.length→callsM most flags (l++[t]) (ks++[k]) x=callsF most flags t ((callsM most flags l ks x).key most (onF flags 1) k)
 | [],ks,t,k,x,h=>by
  have:ks=[]:=List.length_eq_zero_iff.1 (by simpa using h)
  subst this;rfl
 | y::r,[],t,k,x,h=>by simp at h
 | y::r,q::ks,t,k,x,h=>callsM_snoc r ks t k _ (by simpa using h)
end Go.Proofs.YtdjoffgkndncfaaGreat
namespace Go.Proofs.YtdjoffgkndncfaaGreat
open Go Go.ChangeShapes Go.WideShapes Go.ChangeAt Go.RowKit Go.Joins Go.Deep
open Go.Proofs.YtdjoffgkndncfaaGreat.Ft (V3 vV okV ValsAt inlineB legalB packF codeF typedF allF oneF allAt headF fitsL fitsV fitsF belowW isA unpackF)
theorem takes_zero {el:Int} {v:V3} (h:v.1=el) (hl:legalE v=0):takesE el v=0:=by
 unfold takesE
 rw[h]
 simpa using hl
theorem vec_ok {most elem many typ kd:Int} {len tagged:Bool} {T:V3→Int} {l:List V3} {ts:List Tr} {x:BS} (h:Inv x) (ht:TellsL x.s.1 l ts) (hv:∀s,vputF most elem many l s=putF most T len tagged typ 0 l s) (hT:∀v∈l,T v=0)
 (hs:shapeF typ=(kd,if len then 0 else (ts.length:Int))) (h17:kd≠17) (hg:taggedB kd=tagged) (hne:len=false→ts≠[]) (hty:tagged=false→∀v∈l,v.1=(Ft.elemF typ).1∧(inlineB v.1=true∨v.1=4))
 (hl:x.stk.length+1≤65536) (hll:l.length≤65536) (hr:(x.s.1.length:Int)+(15+9*l.length:Nat)≤most) (hmost:most≤1048576) (hfar:inlineB typ=false∧legalB typ=true∧farT typ=false∧aheadF typ=if len then 1 else 0) :
 Pushed x (x.vector most elem many l) (.mk kd 0 0 EMB [] ts) (15+9*l.length):=by
 have hb:x.s.1.length≤1048576:=by omega
 obtain⟨b,hbe⟩:∃b,x.s.1=b:=⟨_,rfl⟩
 have hxs:x.s=(b,0):=by rw[h.s,hbe]
 rw[hbe] at ht hr hb
 obtain⟨X,hX⟩:∃X,allF l (0,0,0) b.length (if len then 1 else 0)=X:=⟨_,rfl⟩
 obtain⟨p,hp⟩:∃p,(b.length:Int)+padN b X+(if len then X else 0)=p:=⟨_,rfl⟩
 obtain⟨hw,hH,hmod,hge,hlt,hlen,hin⟩:=heldB (tagged:=tagged) hb (by omega) (ht.near hb) hX hp
 have hwp:=isW_pos hw
 have hle:=lenOf_le hw len tagged b l
 have hput:=putF_ok (most:=most) (T:=T) (len:=len) (tagged:=tagged) (kind:=typ) hT hb (by omega) (ht.near hb) hX (by omega)
 have hpl:=length_pieces hw len tagged b l
 have hbody:=list_says (many:=if len then 0 else (ts.length:Int)) ht hb hll hX hp hs h17 hg (by cases len<;>simp;exact hne rfl) hty
 rw[hp] at hput
 obtain⟨R,hR⟩:∃R,(pieces X len tagged b l).flatten=R:=⟨_,rfl⟩
 rw[hR] at hput hpl hH hbody
 have hI:=h.ext R x.stk
 have hx:x.vector most elem many l={x with s:=(b++R,0),stk:=x.stk++[(typ,X,p)]}:=by
  unfold BS.vector
  rw[if_pos h.e0,hv,hxs,hput]
  dsimp only
  rw[hbe] at hI
  rw[failz0 (x:={x with s:=(b++R,0)}) h.e0]
  exact push_inv (x:={x with s:=(b++R,0)}) hI _ hl
 rw[hx]
 have hI2:=h.ext R (x.stk++[(typ,X,p)])
 rw[hbe] at hI2
 have hXl:=hH.len
 have hmul0:0≤X*(l.length:Int):=Int.mul_nonneg (by omega) (by omega)
 refine⟨hI2,⟨R,by rw[hbe],by omega⟩,⟨_,rfl,.inr ⟨hfar.1,hfar.2.1,hw,?_,?_,?_,fun e=>?_⟩⟩,fun a _=>rfl⟩
 ·show 0≤p
  rw[← hp];cases len<;>simp<;>omega
 ·show p≤((b++R).length:Int)
  cases tagged<;>simp at hXl<;>simp<;>omega
 ·show p - aheadF typ*X < ((b++R).length:Int)
  rw[hfar.2.2.2,hXl]
  cases len
  ·have h1:1≤(l.length:Int):=by
    have:=hne rfl
    have h2:=ht.1
    have:ts.length≠0:=fun e=>this (List.length_eq_zero_iff.1 e)
    omega
   have h2:(1:Int)*1≤X*l.length:=Int.mul_le_mul (by omega) h1 (by omega) (by omega)
   cases tagged<;>simp<;>omega
  ·cases tagged<;>simp<;>omega
 ·show bodyF (b++R++e) typ X p _=true
  unfold bodyF
  rw[hfar.2.2.1]
  exact hbody e
theorem vp_of {most el many typ:Int} (hel:el≠-1) (ht:(typedF el many).1=typ) (l:List V3) (s:St):vputF most el many l s=putF most (takesE el) (decide (many=0)) false typ 0 l s:=by
 unfold vputF
 rw[if_neg hel,ht]
theorem typed_ok {most el typ kd:Int} {l:List V3} {ts:List Tr} {x:BS} (h:Inv x) (ht:TellsL x.s.1 l ts) (hel:el≠-1) (hty:(typedF el 0).1=typ) (hs:shapeF typ=(kd,0)) (h17:kd≠17) (hg:taggedB kd=false) (he:∀v∈l,v.1=el) (hel2:(Ft.elemF typ).1=el∧(inlineB el=true∨el=4))
 (hl:x.stk.length+1≤65536) (hll:l.length≤65536) (hr:(x.s.1.length:Int)+(15+9*l.length:Nat)≤most) (hmost:most≤1048576) (hfar:inlineB typ=false∧legalB typ=true∧farT typ=false∧aheadF typ=1):Pushed x (x.vector most el 0 l) (.mk kd 0 0 EMB [] ts) (15+9*l.length):=
 vec_ok (len:=true) (tagged:=false) h ht (fun s=>vp_of hel hty l s) (fun v hv=>takes_zero (he v hv) (ht.near (by omega) v hv).1) hs h17 hg (fun e=>by cases e) (fun _ v hv=>⟨by rw[he v hv,hel2.1],by rw[he v hv];exact hel2.2⟩) hl hll hr hmost hfar
theorem fixed_ok {most el kd:Int} {l:List V3} {ts:List Tr} {x:BS} (h:Inv x) (ht:TellsL x.s.1 l ts) (hk:(el=1∧kd=15)∨(el=2∧kd=16)) (he:∀v∈l,v.1=el) (hn:2≤l.length∧l.length≤4)
 (hl:x.stk.length+1≤65536) (hr:(x.s.1.length:Int)+(15+9*l.length:Nat)≤most) (hmost:most≤1048576):Pushed x (x.fixed most el l) (.mk kd 0 0 EMB [] ts) (15+9*l.length):=by
 unfold BS.fixed
 rw[if_pos h.e0,if_neg (by omega)]
 have hl1:=ht.1
 have hne:ts≠[]:=fun e=>by have h9:=congrArg List.length e;rw[← hl1,List.length_nil] at h9;omega
 have h3:l.length=2∨l.length=3∨l.length=4:=by omega
 have key:∀typ:Int,(typedF el l.length).1=typ→shapeF typ=(kd,(l.length:Int))→taggedB kd=false→kd≠17→(Ft.elemF typ).1=el→inlineB el=true→(inlineB typ=false∧legalB typ=true∧farT typ=false∧aheadF typ=0)→el≠-1→Pushed x (x.vector most el l.length l) (.mk kd 0 0 EMB [] ts) (15+9*l.length):=by
  intro typ h1 h2 h3 h4 h5 h6 h7 h8
  refine vec_ok (len:=false) (tagged:=false) (typ:=typ) h ht (fun s=>?_) (fun v hv=>takes_zero (he v hv) (ht.near (by omega) v hv).1) (by rw[h2,hl1];rfl) h4 h3 (fun _=>hne) (fun _ v hv=>⟨by rw[he v hv,h5],.inl (by rw[he v hv];exact h6)⟩) hl (by omega) hr hmost h7
  rw[vp_of h8 h1,decide_eq_false (show ¬((l.length:Nat):Int)=0 by omega)]
 rcases hk with ⟨rfl,rfl⟩|⟨rfl,rfl⟩
 ·rcases h3 with h3|h3|h3
  ·rw[h3] at key⊢;exact key 16 (by decide +kernel) (by decide) (by decide) (by decide) (by decide) (by decide) (by decide) (by decide)
  ·rw[h3] at key⊢;exact key 19 (by decide +kernel) (by decide) (by decide) (by decide) (by decide) (by decide) (by decide) (by decide)
  ·rw[h3] at key⊢;exact key 22 (by decide +kernel) (by decide) (by decide) (by decide) (by decide) (by decide) (by decide) (by decide)
 ·rcases h3 with h3|h3|h3
  ·rw[h3] at key⊢;exact key 17 (by decide +kernel) (by decide) (by decide) (by decide) (by decide) (by decide) (by decide) (by decide)
  ·rw[h3] at key⊢;exact key 20 (by decide +kernel) (by decide) (by decide) (by decide) (by decide) (by decide) (by decide) (by decide)
  ·rw[h3] at key⊢;exact key 23 (by decide +kernel) (by decide) (by decide) (by decide) (by decide) (by decide) (by decide) (by decide)
def keysC (l:List ByteArray):Nat:=(l.map fun k=>k.size+1).sum
theorem putAllT_ok {most:Int} {sh:Bool}:∀(l:List ByteArray) {x:BS},Inv x→(∀k∈l,keyE k=0)→(x.s.1.length:Int)+keysC l≤most →
 ∃e,Inv (x.putAll most sh l).2∧(x.putAll most sh l).2.s.1=x.s.1++e∧e.length≤keysC l∧(x.putAll most sh l).2.stk=x.stk∧TellsL (x.putAll most sh l).2.s.1 (x.putAll most sh l).1 (l.map keyT)∧(∀v∈(x.putAll most sh l).1,v.1=4)∧∀c:Int,c < x.s.1.length→nameF (x.putAll most sh l).2.names c=nameF x.names c
 | [],x,h,_,_=>⟨[],h,by simp[BS.putAll],Nat.zero_le _,rfl,TellsL.nil _,by simp[BS.putAll],fun _ _=>rfl⟩
 | k::r,x,h,hk,hr=>by
  simp only[keysC,List.map_cons,List.sum_cons] at hr
  obtain⟨a,e,h1,h2,h3,h4,h5,h6,h7,h8⟩:=put_ok (most:=most) (sh:=sh) h (hk k (by simp)) (by omega)
  have hlen:(x.put most sh k).2.s.1.length=x.s.1.length+e.length:=by rw[h3,List.length_append]
  obtain⟨e2,g1,g2,g3,g4,g5,g6,g7⟩:=putAllT_ok (most:=most) (sh:=sh) r h2 (fun q hq=>hk q (by simp[hq])) (by unfold keysC;omega)
  simp only[BS.putAll]
  refine⟨e++e2,g1,by rw[g2,h3,List.append_assoc],by rw[List.length_append];simp only[keysC,List.map_cons,List.sum_cons] at g3⊢;omega,by rw[g4,h5],?_,?_,fun c hc=>?_⟩
  ·refine TellsL.cons ?_ g5
   rw[g2,h1]
   exact h6.more _
  ·intro v hv
   rcases List.mem_cons.1 hv with rfl|hv
   ·rw[h1]
   ·exact g6 v hv
  ·rw[g7 c (by omega),h8 c hc]
theorem keyVec_ok {most:Int} {sh:Bool} {l:List ByteArray} {x:BS} (h:Inv x) (hk:∀k∈l,keyE k=0) (hl:x.stk.length+1≤65536) (hll:l.length≤65536) (hr:(x.s.1.length:Int)+(keysC l+(15+9*l.length):Nat)≤most) (hmost:most≤1048576) :
 Pushed x (x.keyVec most sh l) (.mk 13 0 0 EMB [] (l.map keyT)) (keysC l+(15+9*l.length)):=by
 obtain⟨e,h1,h2,h3,h4,h5,h6,h7⟩:=putAllT_ok (most:=most) (sh:=sh) l h hk (by omega)
 unfold BS.keyVec
 rw[if_pos h.e0]
 have hlen:(x.putAll most sh l).2.s.1.length=x.s.1.length+e.length:=by rw[h2,List.length_append]
 have hn:(x.putAll most sh l).1.length=l.length:=by rw[h5.1,List.length_map]
 generalize hY:x.putAll most sh l=Y at *
 have hP:=typed_ok (most:=most) (el:=4) (typ:=14) (kd:=13) h1 h5 (by decide) (by decide +kernel) (by decide) (by decide) (by decide) h6 ⟨by decide,.inr rfl⟩ (by rw[h4];exact hl) (by omega) (by rw[hn];omega) hmost (by decide)
 obtain⟨e2,g1,g2⟩:=hP.grow
 obtain⟨v,g3,g4⟩:=hP.push
 refine⟨hP.inv,⟨e++e2,by rw[g1,h2,List.append_assoc],by rw[List.length_append];rw[hn] at g2;omega⟩,⟨v,by rw[g3,h4],g4⟩,fun a ha=>?_⟩
 rw[hP.nms a (by omega),h7 a ha]
/-! ### what names a list of keys -/
theorem zero_split:∀{a b A B:List UInt8},(0:UInt8)∉a→(0:UInt8)∉b→a++0::A=b++0::B→a=b∧A=B
 | [],[],A,B,_,_,h=>by simp at h;exact⟨rfl,h⟩
 | [],y::b,A,B,_,hb,h=>by simp at h;exact absurd h.1 (fun e=>hb (by simp[← e]))
 | x::a,[],A,B,ha,_,h=>by simp at h;exact absurd h.1 (fun e=>ha (by simp[e]))
 | x::a,y::b,A,B,ha,hb,h=>by
  simp only[List.cons_append,List.cons.injEq] at h
  obtain⟨h1,h2⟩:=zero_split (fun e=>ha (by simp[e])) (fun e=>hb (by simp[e])) h.2
  exact⟨by rw[h.1,h1],h2⟩
theorem listKey_bytes (l:List ByteArray):(listKey l).data.toList=l.flatMap fun k=>k.data.toList++[0]:=by
 have:∀(l:List ByteArray) (a:ByteArray),(l.foldl (fun a k=>a++(k++⟨#[0]⟩)) a).data.toList=a.data.toList++l.flatMap fun k=>k.data.toList++[0]:=by
  intro l
  induction l with
  | nil=>intro a;simp
  | cons k r ih=>intro a;rw[List.foldl_cons,ih];simp
 have h:=this l ByteArray.empty
 have he:ByteArray.empty.data.toList=[]:=rfl
 rw[he,List.nil_append] at h
 exact h
theorem listKey_inj:∀{a b:List ByteArray},(∀k∈a,keyE k=0)→(∀k∈b,keyE k=0)→listKey a=listKey b→a=b:=by
 have key:∀{a b:List ByteArray},(∀k∈a,keyE k=0)→(∀k∈b,keyE k=0)→(a.flatMap fun k=>k.data.toList++[0])=(b.flatMap fun k=>k.data.toList++[(0:UInt8)])→a=b:=by
  intro a
  induction a with
  | nil=>
   intro b _ _ h
   cases b with
   | nil=>rfl
   | cons y b=>simp at h
  | cons x a ih=>
   intro b ha hb h
   cases b with
   | nil=>simp at h
   | cons y b=>
    simp only[List.flatMap_cons,List.append_assoc,List.cons_append,List.nil_append] at h
    obtain⟨h1,h2⟩:=zero_split (key_zero (ha x (by simp))) (key_zero (hb y (by simp))) h
    rw[bytes_inj h1,ih (fun k hk=>ha k (by simp[hk])) (fun k hk=>hb k (by simp[hk])) h2]
 intro a b ha hb h
 refine key ha hb ?_
 rw[← listKey_bytes,← listKey_bytes,h]
theorem table_keys {most:Int} {sh:Bool} {x:BS} {keys:List V3} {names:List ByteArray} (h:Inv x) (hk:TellsL x.s.1 keys (names.map keyT)) (h4:∀v∈keys,v.1=4) (hz:∀k∈names,keyE k=0) (hll:keys.length≤65536) (hr:(x.s.1.length:Int)+(15+9*keys.length:Nat)≤most) (hmost:most≤1048576) :
 let g:=getP x.lists (listKey names)
 let x1:BS:=if g.2 && sh then x else
  let q:=vputF most 4 0 keys x.s
  ({x with s:=q.2,e:=failS x.e q.1.2,lists:=putP (listKey names) x.vals.length x.lists,vals:=x.vals++[q.1.1]}:BS)
 let i:Int:=if g.2 && sh then g.1 else x.vals.length
 ∃e,Inv x1∧x1.s.1=x.s.1++e∧e.length≤15+9*keys.length∧x1.stk=x.stk∧x1.names=x.names∧KeysV x1.s.1 (x1.vals.getD i.toNat (0,0,0)) names:=by
 dsimp only
 by_cases hg:((getP x.lists (listKey names)).2 && sh)=true
 ·rw[if_pos hg,if_pos hg]
  rw[Bool.and_eq_true] at hg
  have hm:getP x.lists (listKey names)=((getP x.lists (listKey names)).1,true):=by rw[← hg.1]
  obtain⟨h0,v,nm,h1,h2,h3,h5⟩:=h.lists _ (getP_mem hm)
  have:nm=names:=listKey_inj h5 hz h3
  subst this
  refine⟨[],h,by simp,Nat.zero_le _,rfl,rfl,?_⟩
  rw[List.getD_eq_getElem?_getD,h1]
  exact h2
 ·rw[if_neg hg,if_neg hg]
  have hb:x.s.1.length≤1048576:=by omega
  obtain⟨b,hbe⟩:∃b,x.s.1=b:=⟨_,rfl⟩
  have hxs:x.s=(b,0):=by rw[h.s,hbe]
  rw[hbe] at hk hr hb
  obtain⟨X,hX⟩:∃X,allF keys (0,0,0) b.length 1=X:=⟨_,rfl⟩
  obtain⟨p,hp⟩:∃p,(b.length:Int)+padN b X+X=p:=⟨_,rfl⟩
  obtain⟨hw,hH,hmod,hge,hlt,hlen,hin⟩:=heldB (len:=true) (tagged:=false) hb (by omega) (hk.near hb) (by simpa using hX) (by simpa using hp)
  have hwp:=isW_pos hw
  have hle:=lenOf_le hw true false b keys
  have hput:=putF_ok (most:=most) (T:=takesE 4) (len:=true) (tagged:=false) (kind:=14) (fun v hv=>takes_zero (h4 v hv) (hk.near hb v hv).1) hb (by omega) (hk.near hb) (by simpa using hX) (by omega)
  have hpl:=length_pieces hw true false b keys
  have hbody:=names_says hk h4 hb hll hX hp
  have hvp:vputF most 4 0 keys x.s=(((14,X,p),0),(b++(pieces X true false b keys).flatten,0)):=by
   rw[vp_of (typ:=14) (by decide) (by decide +kernel),hxs]
   have:((b.length:Int)+padN b X+if true=true then X else 0)=p:=by rw[if_pos rfl];exact hp
   rw[this] at hput
   exact hput
  rw[hvp]
  obtain⟨R,hR⟩:∃R,(pieces X true false b keys).flatten=R:=⟨_,rfl⟩
  rw[hR] at hpl hH hbody⊢
  dsimp only
  have hI:=h.ext R x.stk
  rw[hbe] at hI
  have hXl:=hH.len
  simp only[Bool.false_eq_true,if_false,Int.add_zero] at hXl
  have hmul0:0≤X*(keys.length:Int):=Int.mul_nonneg (by omega) (by omega)
  have hKV:KeysV (b++R) (14,X,p) names:=⟨rfl,hw,by show 0≤p;omega,by show p≤((b++R).length:Int);omega,by show p - X < ((b++R).length:Int);omega,fun e=>hbody e⟩
  refine⟨R,⟨by show failS x.e 0=0;rw[h.e0];rfl,rfl,hI.keys,hI.texts,fun z hz'=>?_,hI.names,by have h1:=h.vals;rw[hbe] at h1;show (x.vals++[(14,X,p)]).length≤(b++R).length;rw[List.length_append,List.length_singleton];omega⟩,by rw[hbe],by omega,rfl,rfl,?_⟩
  ·rcases putP_mem hz' with hz'|⟨rfl,_⟩
   ·obtain⟨h0,v,nm,h1,h2,h3⟩:=hI.lists z hz'
    refine⟨h0,v,nm,?_,h2,h3⟩
    show (x.vals++[(14,X,p)])[z.2.toNat]? = some v
    rw[List.getElem?_append_left (List.getElem?_eq_some_iff.1 h1).1];exact h1
   ·refine⟨by show (0:Int)≤x.vals.length;omega,(14,X,p),names,?_,hKV,rfl,hz⟩
    show (x.vals++[(14,X,p)])[((x.vals.length:Nat):Int).toNat]? = _
    rw[Int.toNat_natCast,List.getElem?_append_right (Nat.le_refl _)];simp
  ·show KeysV (b++R) ((x.vals++[(14,X,p)]).getD ((x.vals.length:Nat):Int).toNat (0,0,0)) names
   rw[Int.toNat_natCast,List.getD_eq_getElem?_getD,List.getElem?_append_right (Nat.le_refl _)]
   simpa using hKV
theorem table_ok {most:Int} {sh:Bool} {x:BS} {keys vals:List V3} {names:List ByteArray} {ts:List Tr} (h:Inv x) (hk:TellsL x.s.1 keys (names.map keyT)) (h4:∀v∈keys,v.1=4) (hz:∀k∈names,keyE k=0) (hi:incB names=true) (hv:TellsL x.s.1 vals ts) (hnl:names.length=ts.length)
 (hl:x.stk.length+1≤65536) (hll:keys.length≤65536) (hr:(x.s.1.length:Int)+(46+18*keys.length:Nat)≤most) (hmost:most≤1048576) :
 Pushed x (x.table most sh (listKey names) keys vals) (.mk 17 0 0 EMB names ts) (46+18*keys.length):=by
 obtain⟨e,h1,h2,h3,h5,h6,h7⟩:=table_keys (most:=most) (sh:=sh) h hk h4 hz hll (by omega) hmost
 unfold BS.table
 dsimp only at h1 h2 h3 h5 h6 h7⊢
 generalize (if ((getP x.lists (listKey names)).2 && sh)=true then x else {s:=(vputF most 4 0 keys x.s).2,e:=failS x.e (vputF most 4 0 keys x.s).1.2,stk:=x.stk,keys:=x.keys,texts:=x.texts,lists:=putP (listKey names) (x.vals.length:Int) x.lists,names:=x.names,vals:=x.vals++[(vputF most 4 0 keys x.s).1.1]}:BS)=x1 at *
 generalize x1.vals.getD (if ((getP x.lists (listKey names)).2 && sh)=true then (getP x.lists (listKey names)).1 else (x.vals.length:Int)).toNat (0,0,0)=k at *
 rw[if_pos h1.e0]
 have hkl:keys.length=names.length:=by have:=hk.1;rw[List.length_map] at this;exact this
 have hvn:=hv.1
 have hlen:x1.s.1.length=x.s.1.length+e.length:=by rw[h2,List.length_append]
 have hv1:TellsL x1.s.1 vals ts:=by rw[h2];exact hv.more e
 have hb:x1.s.1.length≤1048576:=by omega
 obtain⟨b,hbe⟩:∃b,x1.s.1=b:=⟨_,rfl⟩
 have hxs:x1.s=(b,0):=by rw[h1.s,hbe]
 rw[hbe] at hv1 hb h7 hlen
 have hK:KeyAt b.length k:=⟨h7.typ,h7.isw,h7.n0,h7.n1⟩
 obtain⟨X,hX⟩:∃X,allF vals k b.length 3=X:=⟨_,rfl⟩
 obtain⟨p,hp⟩:∃p,(b.length:Int)+padN b X+3*X=p:=⟨_,rfl⟩
 obtain⟨hw,hH,hmod,hge,hlt,hin,hkn⟩:=heldM hb (by omega) (hv1.near hb) hK hX hp
 have hwp:=isW_pos hw
 have hle:=lenM_le hw b vals
 have hput:=putM_ok (most:=most) hb (by omega) (hv1.near hb) hK hX (by omega)
 rw[hp] at hput
 have hpl:=length_piecesM hw k b vals
 have hbody:=map_says hv1 h7 hi hnl hb (by omega) hX hp
 obtain⟨R,hR⟩:∃R,(piecesM X k b vals).flatten=R:=⟨_,rfl⟩
 rw[hR] at hput hpl hH hbody
 rw[hxs,hput]
 dsimp only
 have hI:=h1.ext R x1.stk
 rw[hbe] at hI
 rw[failz0 (x:={x1 with s:=(b++R,0)}) h1.e0,push_inv (x:={x1 with s:=(b++R,0)}) hI _ (by dsimp only;rw[h5];exact hl)]
 have hI2:=h1.ext R (x1.stk++[(9,X,p)])
 rw[hbe] at hI2
 have hXl:=hH.len
 have hmul0:0≤X*(vals.length:Int):=Int.mul_nonneg (by omega) (by omega)
 refine⟨hI2,⟨e++R,by show b++R=_;rw[← hbe,h2,List.append_assoc],by rw[List.length_append];omega⟩,⟨(9,X,p),by show x1.stk++_=_;rw[h5],.inr ⟨by show inlineB 9=false;decide,by show legalB 9=true;decide,hw,by show 0≤p;omega,by show p≤((b++R).length:Int);omega,?_,fun f=>?_⟩⟩,fun a _=>by show nameF x1.names a=_;rw[h6]⟩
 ·show p - aheadF 9*X < ((b++R).length:Int)
  rw[show aheadF 9=3 by decide];omega
 ·exact hbody f
/-! ### the stack's end as a map's entries -/
def flatE (es:List (V3 × V3)):List V3:=es.flatMap fun p=>[p.1,p.2]
theorem pairs_flat (names:List (Int × ByteArray)):∀es:List (V3 × V3),pairsF names (flatE es)=es.map fun p=>(nameF names p.1.2.2,p.1,p.2)
 | []=>rfl
 | p::r=>by
  show (nameF names p.1.2.2,p.1,p.2)::pairsF names (flatE r)=_
  rw[pairs_flat names r];rfl
theorem keyTys_flat:∀es:List (V3 × V3),(∀p∈es,p.1.1=4)→keyTys (flatE es)=true
 | [],_=>rfl
 | p::r,h=>by
  show (decide (p.1.1=4) && keyTys (flatE r))=true
  rw[keyTys_flat r fun q hq=>h q (by simp[hq]),h p (by simp)];rfl
theorem pair_inc:∀{l:List ByteArray},l.Pairwise (fun a b=>ltS a b=true)→incB l=true
 | [],_=>rfl
 | [_],_=>rfl
 | a::b::r,h=>by
  obtain⟨h1,h2⟩:=List.pairwise_cons.1 h
  show (ltS a b && incB (b::r))=true
  rw[h1 b (by simp),pair_inc h2];rfl
theorem sortP_self {α:Type} (l:List (ByteArray × α)) (h:(l.map Prod.fst).Pairwise fun a b=>ltS a b=true):sortP l=l:=by
 have hnd:(l.map Prod.fst).Nodup:=h.imp fun {a b} hab e=>by rw[e,ltS_irrefl] at hab;cases hab
 exact eq_of_strict _ _ (sortP_perm l) (sortP_sorted l hnd) (by rw[List.pairwise_map] at h;exact h)
theorem endMap_ok {most:Int} {sh:Bool} {x:BS} {K:List V3} {es:List (V3 × V3)} {names:List ByteArray} {ts:List Tr} (h:Inv x) (hst:x.stk=K++flatE es) (hk:TellsL x.s.1 (es.map (·.1)) (names.map keyT)) (h4:∀p∈es,p.1.1=4) (hnm:es.map (fun p=>nameF x.names p.1.2.2)=names) (hz:∀k∈names,keyE k=0)
 (hp:names.Pairwise fun a b=>ltS a b=true) (hv:TellsL x.s.1 (es.map (·.2)) ts) (hl:K.length+1≤65536) (hll:es.length≤65536) (hr:(x.s.1.length:Int)+(46+18*es.length:Nat)≤most) (hmost:most≤1048576) :
 Pushed {x with stk:=K} (x.endMap most sh K.length) (.mk 17 0 0 EMB names ts) (46+18*es.length):=by
 unfold BS.endMap
 have hd:x.stk.drop ((K.length:Nat):Int).toNat=flatE es:=by rw[hst,Int.toNat_natCast,List.drop_left]
 have hk2:x.stk.take ((K.length:Nat):Int).toNat=K:=by rw[hst,Int.toNat_natCast,List.take_left' rfl]
 rw[if_pos h.e0,if_pos ⟨by omega,by rw[hst,List.length_append];omega⟩]
 dsimp only
 rw[hd,hk2,if_pos (keyTys_flat es h4),pairs_flat]
 have hmap1:(es.map fun p=>(nameF x.names p.1.2.2,p.1,p.2)).map (·.1)=names:=by rw[List.map_map];exact hnm
 have hself:sortP (es.map fun p=>(nameF x.names p.1.2.2,p.1,p.2))=es.map fun p=>(nameF x.names p.1.2.2,p.1,p.2):=sortP_self _ (by rw[show (es.map fun p=>(nameF x.names p.1.2.2,p.1,p.2)).map Prod.fst=names from hmap1];exact hp)
 have hnd:names.Nodup:=hp.imp fun {a b} hab e=>by rw[e,ltS_irrefl] at hab;cases hab
 rw[hself,hmap1,if_pos hnd,List.map_map,List.map_map]
 have hlen:names.length=es.length:=by rw[← hnm,List.length_map]
 have hvn:=hv.1
 rw[List.length_map] at hvn
 have hT:=table_ok (most:=most) (sh:=sh) (x:={x with stk:=K}) (keys:=es.map (·.1)) (vals:=es.map (·.2)) (names:=names) (ts:=ts) (h.stk K) hk (fun v hv=>by obtain⟨p,hp,rfl⟩:=List.mem_map.1 hv;exact h4 p hp) hz (pair_inc hp) hv (by omega) hl (by rw[List.length_map];exact hll) (by rw[List.length_map];exact hr) hmost
 rw[List.length_map] at hT
 exact hT
/-! ### the calls of a tree -/
mutual
def rngT:Tr→Prop | .mk k n u s keys l=>(i64ok n∧u64ok u)∧rngL l
def rngL:List Tr→Prop | []=>True | t::r=>rngT t∧rngL r
end
theorem rngL_iff:∀{l:List Tr},rngL l↔∀x∈l,rngT x
 | []=>by simp[rngL]
 | t::r=>by simp[rngL,rngL_iff (l:=r)]
mutual
theorem rng_node {w:World}:∀{t:Tr} {v:Value},NodeAt w t v→rngT t
 | .mk k n u s keys l,v,⟨hb,kv,lv,vs,e,h1,h2,h3⟩=>⟨⟨hb.2.1,hb.2.2.1⟩,rng_kids h3⟩
theorem rng_kids {w:World}:∀{l:List Tr} {vs:List Value},KidsAt w l vs→rngL l
 | [],_,_=>trivial
 | t::r,_,⟨v,vr,e,h1,h2⟩=>⟨rng_node h1,rng_kids h2⟩
end
theorem kid_num {b:Nat} {t:Tr} (hv:valT b t) (hk:t.kind=3):t=.mk 3 t.fn 0 EMB [] []:=by
 obtain⟨k,n,u,s,keys,l⟩:=t
 obtain⟨_,h1,h2,_,h4,h5,h6⟩:=val_node hv
 simp only[Tr.kind] at hk
 subst hk
 rw[h1 (by decide),h2 (by decide),h5 (by decide) (by decide),h6 (by decide) (by decide) (by decide)]
 rfl
theorem kid_uns {b:Nat} {t:Tr} (hv:valT b t) (hk:t.kind=4):t=.mk 4 0 t.fu EMB [] []:=by
 obtain⟨k,n,u,s,keys,l⟩:=t
 obtain⟨_,h1,h2,_,h4,h5,h6⟩:=val_node hv
 simp only[Tr.kind] at hk
 subst hk
 rw[h1 (by decide),h2 (by decide),h4 (by decide) (by decide) (by decide),h6 (by decide) (by decide) (by decide)]
 rfl
theorem kid_bool {b:Nat} {t:Tr} (hv:valT b t) (hk:t.kind=2):t=.mk 2 (if decide (t.fn=1)=true then 1 else 0) 0 EMB [] []:=by
 obtain⟨k,n,u,s,keys,l⟩:=t
 obtain⟨_,h1,h2,_,h4,h5,h6⟩:=val_node hv
 simp only[Tr.kind] at hk
 subst hk
 have hb:=hv.2.1
 simp only[suchB,Bool.and_eq_true,decide_eq_true_eq,Bool.or_eq_true,Bool.not_eq_true'] at hb
 have hn:n=0∨n=1:=by
  have:=hb.1.1.1.2
  simpa using this
 rw[h1 (by decide),h2 (by decide),h5 (by decide) (by decide),h6 (by decide) (by decide) (by decide)]
 rcases hn with rfl|rfl<;>simp[Tr.fn,EMB]
theorem kid_key {b:Nat} {t:Tr} (hv:valT b t) (hk:t.kind=5):t=keyT t.fs∧keyE t.fs=0:=by
 obtain⟨k,n,u,s,keys,l⟩:=t
 obtain⟨_,h1,h2,_,h4,h5,h6⟩:=val_node hv
 simp only[Tr.kind] at hk
 subst hk
 have hz:=hv.2.2.1
 simp only[keyedE] at hz
 constructor
 ·rw[h1 (by decide),h2 (by decide),h4 (by decide) (by decide) (by decide),h5 (by decide) (by decide)]
  rfl
 ·show keyE s=0
  rw[keyE_eq]
  by_cases hzz:zeroB s=true
  ·rw[if_pos ⟨trivial,hzz⟩] at hz;cases hz
  ·rw[if_neg hzz]
theorem kids_kind {b:Nat} {k n u:Int} {s:ByteArray} {keys:List ByteArray} {l:List Tr} (hv:valT b (.mk k n u s keys l)) (hp:partF k≠0):∀x∈l,x.kind=partF k:=by
 have hb:=hv.2.1
 simp only[suchB,Bool.and_eq_true,decide_eq_true_eq,Bool.or_eq_true,Bool.not_eq_true'] at hb
 have ho:=hb.2
 intro x hx
 rw[List.any_eq_false] at ho
 have h1:=ho x hx
 unfold otherB at h1
 simp only[Bool.and_eq_true,bne_iff_ne,ne_eq,not_and,Decidable.not_not] at h1
 exact h1 hp
theorem tells_map {d:List UInt8} {f:Tr→V3}:∀{l:List Tr},(∀x∈l,nearV (f x) x)→TellsL d (l.map f) l
 | [],_=>TellsL.nil d
 | t::r,h=>TellsL.cons (.inl (h t (by simp))) (tells_map fun x hx=>h x (by simp[hx]))
theorem map_keyT {b:Nat} {l:List Tr} (hv:∀x∈l,valT b x) (hk:∀x∈l,x.kind=5):(l.map Tr.fs).map keyT=l:=by
 rw[List.map_map]
 conv=>rhs;rw[← List.map_id l]
 exact List.map_congr_left fun x hx=>((kid_key (hv x hx) (hk x hx)).1).symm
theorem keysC_cost {b:Nat}:∀{l:List Tr},keysC (l.map Tr.fs)+18*l.length≤costL l
 | []=>by simp[keysC,costL]
 | t::r=>by
  have ih:=keysC_cost (b:=b) (l:=r)
  obtain⟨k,n,u,s,keys,q⟩:=t
  simp only[keysC,costL,costT,List.map_cons,List.sum_cons,List.length_cons,Tr.fs] at ih⊢
  omega
theorem len_cost:∀(l:List Tr),32*l.length≤costL l
 | []=>by simp[costL]
 | t::r=>by have:=len_cost r;simp only[costL,List.length_cons];omega
theorem callsL_ok {most flags:Int}:∀(l:List Tr) (x:BS),(∀t∈l,∀x:BS,Inv x→(x.s.1.length:Int)+costT t≤most→x.stk.length+3*t.size≤65535→Pushed x (callsF most flags t x) t (costT t))→Inv x→(x.s.1.length:Int)+costL l≤most→x.stk.length+3*sizeL l≤65535 →
 ∃vs e,Inv (callsL most flags l x)∧(callsL most flags l x).s.1=x.s.1++e∧e.length+32*l.length≤costL l∧(callsL most flags l x).stk=x.stk++vs∧TellsL (callsL most flags l x).s.1 vs l∧∀c:Int,c < x.s.1.length→nameF (callsL most flags l x).names c=nameF x.names c
 | [],x,_,h,_,_=>⟨[],[],h,by simp[callsL],by simp[costL],by simp[callsL],TellsL.nil _,fun _ _=>rfl⟩
 | t::r,x,ih,h,hr,hs=>by
  simp only[costL] at hr
  simp only[sizeL] at hs
  have hP:=ih t (by simp) x h (by omega) (by omega)
  obtain⟨e,g1,g2⟩:=hP.grow
  obtain⟨v,g3,g4⟩:=hP.push
  have hlen:(callsF most flags t x).s.1.length=x.s.1.length+e.length:=by rw[g1,List.length_append]
  have hz:=t.size_pos
  obtain⟨vs,e2,i1,i2,i3,i4,i5,i6⟩:=callsL_ok r (callsF most flags t x) (fun q hq=>ih q (by simp[hq])) hP.inv (by omega) (by rw[g3,List.length_append,List.length_singleton];omega)
  simp only[callsL]
  refine⟨v::vs,e++e2,i1,by rw[i2,g1,List.append_assoc],by simp only[List.length_append,List.length_cons,costL];omega,by rw[i4,g3,List.append_assoc];rfl,TellsL.cons ?_ i5,fun c hc=>by rw[i6 c (by omega),hP.nms c hc]⟩
  rw[i2]
  exact g4.more _
theorem callsM_ok {most flags:Int}:∀(l:List Tr) (ks:List ByteArray) (x:BS),(∀t∈l,∀x:BS,Inv x→(x.s.1.length:Int)+costT t≤most→x.stk.length+3*t.size≤65535→Pushed x (callsF most flags t x) t (costT t))→Inv x→ks.length=l.length→(∀k∈ks,keyE k=0)→(x.s.1.length:Int)+(keysC ks+costL l:Nat)≤most→x.stk.length+1+3*sizeL l≤65535 →
 ∃es e,Inv (callsM most flags l ks x)∧(callsM most flags l ks x).s.1=x.s.1++e∧e.length+32*l.length≤keysC ks+costL l∧(callsM most flags l ks x).stk=x.stk++flatE es∧TellsL (callsM most flags l ks x).s.1 (es.map (·.1)) (ks.map keyT)∧(∀p∈es,p.1.1=4)∧es.map (fun p=>nameF (callsM most flags l ks x).names p.1.2.2)=ks∧TellsL (callsM most flags l ks x).s.1 (es.map (·.2)) l∧∀c:Int,c < x.s.1.length→nameF (callsM most flags l ks x).names c=nameF x.names c
 | [],ks,x,_,h,hk,_,_,_=>by
  have:ks=[]:=List.length_eq_zero_iff.1 (by simpa using hk)
  subst this
  exact⟨[],[],h,by simp[callsM],by simp[costL,keysC],by simp[callsM,flatE],TellsL.nil _,by simp,rfl,TellsL.nil _,fun _ _=>rfl⟩
 | t::r,[],x,_,h,hk,_,_,_=>by simp at hk
 | t::r,k::ks,x,ih,h,hk,hkz,hr,hs=>by
  simp only[costL,keysC,List.map_cons,List.sum_cons] at hr
  simp only[sizeL] at hs
  have hz:=t.size_pos
  obtain⟨hK,a,ka,kn,kl⟩:=key_ok (most:=most) (sh:=onF flags 1) h (hkz k (by simp)) (by omega) (by omega)
  obtain⟨e0,q1,q2⟩:=hK.grow
  obtain⟨v0,q3,q4⟩:=hK.push
  have ev:v0=(4,1,a):=by
   rw[ka] at q3
   have:=List.append_cancel_left q3
   simpa using this.symm
  subst ev
  have hlen0:(x.key most (onF flags 1) k).s.1.length=x.s.1.length+e0.length:=by rw[q1,List.length_append]
  have hP:=ih t (by simp) (x.key most (onF flags 1) k) hK.inv (by omega) (by rw[ka,List.length_append,List.length_singleton];omega)
  obtain⟨e,g1,g2⟩:=hP.grow
  obtain⟨v,g3,g4⟩:=hP.push
  have hlen:(callsF most flags t (x.key most (onF flags 1) k)).s.1.length=x.s.1.length+e0.length+e.length:=by rw[g1,List.length_append,hlen0]
  obtain⟨es,e2,i1,i2,i3,i4,i5,i6,i7,i8,i9⟩:=callsM_ok r ks (callsF most flags t (x.key most (onF flags 1) k)) (fun q hq=>ih q (by simp[hq])) hP.inv (by simpa using hk) (fun q hq=>hkz q (by simp[hq])) (by unfold keysC;omega) (by rw[g3,ka,List.length_append,List.length_append,List.length_singleton,List.length_singleton];omega)
  simp only[callsM,List.headD_cons,List.tail_cons]
  refine⟨((4,1,a),v)::es,e0++(e++e2),i1,by rw[i2,g1,q1,List.append_assoc,List.append_assoc],by simp only[List.length_append,List.length_cons,costL,keysC,List.map_cons,List.sum_cons] at i3⊢;omega,?_,?_,?_,?_,?_,fun c hc=>by rw[i9 c (by omega),hP.nms c (by omega),hK.nms c hc]⟩
  ·rw[i4,g3,ka,List.append_assoc,List.append_assoc];rfl
  ·refine TellsL.cons ?_ i5
   rw[i2,g1]
   exact (q4.more _).more _
  ·intro p hp
   rcases List.mem_cons.1 hp with rfl|hp
   ·rfl
   ·exact i6 p hp
  ·simp only[List.map_cons]
   rw[i7,i9 a (by omega),hP.nms a kl,kn]
  ·refine TellsL.cons ?_ i8
   rw[i2]
   exact g4.more _
theorem Pushed.wide {x x':BS} {t:Tr} {c d:Nat} (h:Pushed x x' t c) (hd:c≤d):Pushed x x' t d:=by
 obtain⟨e,h1,h2⟩:=h.grow
 exact⟨h.inv,⟨e,h1,Nat.le_trans h2 hd⟩,h.push,h.nms⟩
theorem Pushed.after {x y z:BS} {t:Tr} {c d:Nat} {e:List UInt8} {K:List V3} (h:Pushed {y with stk:=K} z t c) (hs:y.s.1=x.s.1++e) (hk:K=x.stk) (hd:e.length+c≤d) (hn:∀a:Int,a < x.s.1.length→nameF y.names a=nameF x.names a):Pushed x z t d:=by
 obtain⟨e2,h1,h2⟩:=h.grow
 obtain⟨v,h3,h4⟩:=h.push
 refine⟨h.inv,⟨e++e2,by rw[h1];show y.s.1++e2=_;rw[hs,List.append_assoc],by rw[List.length_append];omega⟩,⟨v,by rw[h3,← hk],h4⟩,fun a ha=>?_⟩
 rw[h.nms a (by show a < (y.s.1.length:Int);rw[hs,List.length_append];omega)]
 exact hn a ha
theorem calls_ok {most flags:Int} (hmost:most≤1048576):∀(m:Nat) (t:Tr) (b:Nat) (x:BS),t.size≤m→valT b t→srtT t→rngT t→Inv x→(x.s.1.length:Int)+costT t≤most→x.stk.length+3*t.size≤65535→Pushed x (callsF most flags t x) t (costT t):=by
 intro m
 induction m with
 | zero=>intro t b x h;have:=t.size_pos;omega
 | succ m ihm=>
  intro t b x hz hv hs hr h hrm hst
  obtain⟨k,n,u,s,keys,l⟩:=t
  have hn:=val_node hv
  obtain⟨v0,v1,v2,v3,v4,v5,v6⟩:=hn
  have hall:=valL_iff.1 hv.2.2.2
  obtain⟨s1,s2⟩:=srt_iff.1 hs
  have hrl:=rngL_iff.1 hr.2
  have hr0:=hr.1
  simp only[Tr.size] at hz hst
  have hll:=length_sizeL l
  have hlc:=len_cost l
  simp only[costT] at hrm
  have ihl:∀t∈l,∀x:BS,Inv x→(x.s.1.length:Int)+costT t≤most→x.stk.length+3*t.size≤65535→Pushed x (callsF most flags t x) t (costT t):=fun t ht y=>ihm t (b+1) y (by have:=size_mem ht;omega) (hall t ht) (s2 t ht) (hrl t ht)
  have hpk:=kids_kind hv
  simp only[callsF,costT]
  have hsk:k≤9→callsF most flags (.mk k n u s keys l) x=leafF most flags k n u s x:=fun h9=>by
   simp only[callsF]
   rw[if_neg (by omega),if_neg (by omega),if_neg (by omega),if_neg (by omega),if_neg (by omega),if_neg (by omega),if_neg (by omega),if_neg (by omega)]
  have hk17:=kinds k v0.1 v0.2
  rcases hk17 with rfl|rfl|rfl|rfl|rfl|rfl|rfl|rfl|rfl|rfl|rfl|rfl|rfl|rfl|rfl|rfl|rfl
  ·-- null
   obtain rfl:=v1 (by decide);obtain rfl:=v2 (by decide);obtain rfl:=v4 (by decide) (by decide) (by decide);obtain rfl:=v5 (by decide) (by decide);obtain rfl:=v6 (by decide) (by decide) (by decide)
   exact (inline_ok h (.inl ⟨rfl,rfl⟩) (by omega)).wide (by omega)
  ·have hkb:=kid_bool hv rfl
   have hP:=inline_ok (v:=truthV (decide (n=1))) (t:=.mk 2 n u s keys l) h (.inr (.inl ⟨decide (n=1),rfl,hkb⟩)) (by omega)
   exact hP.wide (by omega)
  ·have hkb:=kid_num hv rfl
   have hP:=inline_ok (v:=numV n) (t:=.mk 3 n u s keys l) h (.inr (.inr (.inl ⟨n,hr0.1,rfl,hkb⟩))) (by omega)
   exact hP.wide (by omega)
  ·have hkb:=kid_uns hv rfl
   have hP:=inline_ok (v:=unsV u) (t:=.mk 4 n u s keys l) h (.inr (.inr (.inr ⟨u,hr0.2,rfl,hkb⟩))) (by omega)
   exact hP.wide (by omega)
  ·obtain⟨hkb,hke⟩:=kid_key hv rfl
   rw[hkb]
   exact (key_ok h hke (by show _+((s.size:Int)+1)≤_;omega) (by omega)).1.wide (by show s.size+1≤_;omega)
  ·obtain rfl:=v1 (by decide);obtain rfl:=v2 (by decide);obtain rfl:=v4 (by decide) (by decide) (by decide);obtain rfl:=v5 (by decide) (by decide)
   exact (str_push h (by omega) (by omega) hmost).wide (by omega)
  ·obtain rfl:=v1 (by decide);obtain rfl:=v2 (by decide);obtain rfl:=v4 (by decide) (by decide) (by decide);obtain rfl:=v5 (by decide) (by decide)
   exact (blob_push h (by omega) (by omega) hmost).wide (by omega)
  ·obtain rfl:=v1 (by decide);obtain rfl:=v2 (by decide);obtain rfl:=v5 (by decide) (by decide);obtain rfl:=v6 (by decide) (by decide) (by decide)
   exact (apart_ok h (by omega) (by omega) hmost (.inl ⟨rfl,n,hr0.1,rfl,rfl⟩)).wide (by omega)
  ·obtain rfl:=v1 (by decide);obtain rfl:=v2 (by decide);obtain rfl:=v4 (by decide) (by decide) (by decide);obtain rfl:=v6 (by decide) (by decide) (by decide)
   exact (apart_ok h (by omega) (by omega) hmost (.inr ⟨rfl,u,hr0.2,rfl,rfl⟩)).wide (by omega)
  ·-- untyped vector
   obtain rfl:=v2 (by decide);obtain rfl:=v4 (by decide) (by decide) (by decide);obtain rfl:=v5 (by decide) (by decide);obtain rfl:=v6 (by decide) (by decide) (by decide)
   obtain⟨vs,e,i1,i2,i3,i4,i5,i6⟩:=callsL_ok l x ihl h (by omega) (by omega)
   have hvl:=i5.1
   have hlen:(callsL most flags l x).s.1.length=x.s.1.length+e.length:=by rw[i2,List.length_append]
   have hE:(callsL most flags l x).endVec most x.stk.length=({callsL most flags l x with stk:=x.stk}:BS).vector most (-1) 0 vs:=by
    unfold BS.endVec
    rw[if_pos i1.e0,if_pos ⟨by omega,by rw[i4,List.length_append];omega⟩,i4,Int.toNat_natCast,List.drop_left,List.take_left' rfl]
   show Pushed x ((callsL most flags l x).endVec most x.stk.length) _ _
   rw[hE]
   have hP:=vec_ok (most:=most) (elem:=-1) (many:=0) (typ:=10) (kd:=10) (len:=true) (tagged:=true) (T:=legalE) (x:={callsL most flags l x with stk:=x.stk}) (i1.stk x.stk) i5 (fun s=>rfl) (fun v hv=>(i5.near (by omega) v hv).1) (by show shapeF 10=(10,0);decide) (by decide) (by decide) (fun e=>by cases e) (fun e=>by cases e) (by show x.stk.length+1≤_;omega) (by omega) (by show ((callsL most flags l x).s.1.length:Int)+_≤most;omega) hmost (by decide)
   exact hP.after i2 rfl (by omega) i6
  ·obtain rfl:=v2 (by decide);obtain rfl:=v4 (by decide) (by decide) (by decide);obtain rfl:=v5 (by decide) (by decide);obtain rfl:=v6 (by decide) (by decide) (by decide)
   have hkk:=hpk (by decide)
   have hT:TellsL x.s.1 (l.map fun t=>numV t.fn) l:=tells_map fun t ht=>.inr (.inr (.inl ⟨t.fn,by have:=(hrl t ht);cases t;exact this.1.1,rfl,kid_num (hall t ht) (hkk t ht)⟩))
   have hP:=typed_ok (most:=most) (el:=1) (typ:=11) (kd:=11) h hT (by decide) (by decide +kernel) (by decide) (by decide) (by decide) (fun v hv=>by obtain⟨t,_,rfl⟩:=List.mem_map.1 hv;rfl) ⟨by decide,.inl (by decide)⟩ (by omega) (by rw[List.length_map];omega) (by rw[List.length_map];omega) hmost (by decide)
   rw[List.length_map] at hP
   exact hP.wide (by omega)
  ·obtain rfl:=v2 (by decide);obtain rfl:=v4 (by decide) (by decide) (by decide);obtain rfl:=v5 (by decide) (by decide);obtain rfl:=v6 (by decide) (by decide) (by decide)
   have hkk:=hpk (by decide)
   have hT:TellsL x.s.1 (l.map fun t=>unsV t.fu) l:=tells_map fun t ht=>.inr (.inr (.inr ⟨t.fu,by have:=(hrl t ht);cases t;exact this.1.2,rfl,kid_uns (hall t ht) (hkk t ht)⟩))
   have hP:=typed_ok (most:=most) (el:=2) (typ:=12) (kd:=12) h hT (by decide) (by decide +kernel) (by decide) (by decide) (by decide) (fun v hv=>by obtain⟨t,_,rfl⟩:=List.mem_map.1 hv;rfl) ⟨by decide,.inl (by decide)⟩ (by omega) (by rw[List.length_map];omega) (by rw[List.length_map];omega) hmost (by decide)
   rw[List.length_map] at hP
   exact hP.wide (by omega)
  ·obtain rfl:=v2 (by decide);obtain rfl:=v4 (by decide) (by decide) (by decide);obtain rfl:=v5 (by decide) (by decide);obtain rfl:=v6 (by decide) (by decide) (by decide)
   have hkk:=hpk (by decide)
   have hmk:=map_keyT hall hkk
   have hkc:=keysC_cost (b:=0) (l:=l)
   have hP:=keyVec_ok (most:=most) (sh:=onF flags 1) (l:=l.map Tr.fs) h (fun q hq=>by obtain⟨t,ht,rfl⟩:=List.mem_map.1 hq;exact (kid_key (hall t ht) (hkk t ht)).2) (by omega) (by rw[List.length_map];omega) (by rw[List.length_map];omega) hmost
   rw[List.length_map,hmk] at hP
   exact hP.wide (by omega)
  ·obtain rfl:=v2 (by decide);obtain rfl:=v4 (by decide) (by decide) (by decide);obtain rfl:=v5 (by decide) (by decide);obtain rfl:=v6 (by decide) (by decide) (by decide)
   have hkk:=hpk (by decide)
   have hT:TellsL x.s.1 (l.map fun t=>truthV (decide (t.fn=1))) l:=tells_map fun t ht=>.inr (.inl ⟨decide (t.fn=1),rfl,kid_bool (hall t ht) (hkk t ht)⟩)
   have hP:=typed_ok (most:=most) (el:=26) (typ:=36) (kd:=14) h hT (by decide) (by decide +kernel) (by decide) (by decide) (by decide) (fun v hv=>by obtain⟨t,_,rfl⟩:=List.mem_map.1 hv;rfl) ⟨by decide,.inl (by decide)⟩ (by omega) (by rw[List.length_map];omega) (by rw[List.length_map];omega) hmost (by decide)
   rw[List.length_map] at hP
   exact hP.wide (by omega)
  ·obtain rfl:=v2 (by decide);obtain rfl:=v4 (by decide) (by decide) (by decide);obtain rfl:=v5 (by decide) (by decide);obtain rfl:=v6 (by decide) (by decide) (by decide)
   have hkk:=hpk (by decide)
   have hT:TellsL x.s.1 (l.map fun t=>numV t.fn) l:=tells_map fun t ht=>.inr (.inr (.inl ⟨t.fn,by have:=(hrl t ht);cases t;exact this.1.1,rfl,kid_num (hall t ht) (hkk t ht)⟩))
   have hfx:2≤l.length∧l.length≤4:=by
    have hb:=hv.2.1
    simp only[suchB,Bool.and_eq_true,decide_eq_true_eq,Bool.or_eq_true,Bool.not_eq_true'] at hb
    have:=hb.1.2
    simpa using this
   have hP:=fixed_ok (most:=most) (el:=1) (kd:=15) h hT (.inl ⟨rfl,rfl⟩) (fun v hv=>by obtain⟨t,_,rfl⟩:=List.mem_map.1 hv;rfl) (by rw[List.length_map];exact hfx) (by omega) (by rw[List.length_map];omega) hmost
   rw[List.length_map] at hP
   exact hP.wide (by omega)
  ·obtain rfl:=v2 (by decide);obtain rfl:=v4 (by decide) (by decide) (by decide);obtain rfl:=v5 (by decide) (by decide);obtain rfl:=v6 (by decide) (by decide) (by decide)
   have hkk:=hpk (by decide)
   have hT:TellsL x.s.1 (l.map fun t=>unsV t.fu) l:=tells_map fun t ht=>.inr (.inr (.inr ⟨t.fu,by have:=(hrl t ht);cases t;exact this.1.2,rfl,kid_uns (hall t ht) (hkk t ht)⟩))
   have hfx:2≤l.length∧l.length≤4:=by
    have hb:=hv.2.1
    simp only[suchB,Bool.and_eq_true,decide_eq_true_eq,Bool.or_eq_true,Bool.not_eq_true'] at hb
    have:=hb.1.2
    simpa using this
   have hP:=fixed_ok (most:=most) (el:=2) (kd:=16) h hT (.inr ⟨rfl,rfl⟩) (fun v hv=>by obtain⟨t,_,rfl⟩:=List.mem_map.1 hv;rfl) (by rw[List.length_map];exact hfx) (by omega) (by rw[List.length_map];omega) hmost
   rw[List.length_map] at hP
   exact hP.wide (by omega)
  ·-- map
   obtain rfl:=v4 (by decide) (by decide) (by decide);obtain rfl:=v5 (by decide) (by decide);obtain rfl:=v6 (by decide) (by decide) (by decide)
   obtain⟨hnd,hkl⟩:=v3 rfl
   have hkz:∀q∈keys,keyE q=0:=by
    have hz:=hv.2.2.1
    simp only[keyedE] at hz
    rw[if_neg (by decide)] at hz
    intro q hq
    rw[keyE_eq,((keysE_iff keys []).1 hz).1 q hq |>.1]
    rfl
   have hkc:keysC keys+31*l.length≤(keys.map fun k=>k.size+32).sum:=by
    rw[← hkl]
    clear hkz hnd hkl s1 v3 hv hs hr hrm hr0 hpk hsk
    induction keys with
    | nil=>simp[keysC]
    | cons q r ih=>simp only[keysC,List.map_cons,List.sum_cons,List.length_cons] at ih⊢;omega
   obtain⟨es,e,i1,i2,i3,i4,i5,i6,i7,i8,i9⟩:=callsM_ok l keys x ihl h hkl hkz (by omega) (by omega)
   have hel:=i8.1
   rw[List.length_map] at hel
   have hlen:(callsM most flags l keys x).s.1.length=x.s.1.length+e.length:=by rw[i2,List.length_append]
   have hP:=endMap_ok (most:=most) (sh:=onF flags 4) (K:=x.stk) i1 i4 i5 i6 i7 hkz s1 i8 (by omega) (by omega) (by omega) hmost
   exact hP.after i2 rfl (by omega) i9
mutual
def smT (K:Nat):Tr→Prop | .mk k n u s keys l=>(s.size≤K∧∀q∈keys,q.size≤K)∧smL K l
def smL (K:Nat):List Tr→Prop | []=>True | t::r=>smT K t∧smL K r
end
theorem smL_iff {K:Nat}:∀{l:List Tr},smL K l↔∀x∈l,smT K x
 | []=>by simp[smL]
 | t::r=>by simp[smL,smL_iff (l:=r)]
theorem cost_le {K:Nat}:∀(m:Nat) (t:Tr) (b:Nat),t.size≤m→valT b t→smT K t→costT t+(32+K+32)≤(128+2*K)*t.size:=by
 intro m
 induction m with
 | zero=>intro t b h;have:=t.size_pos;omega
 | succ m ih=>
  intro t b h hv hs
  obtain⟨k,n,u,s,keys,l⟩:=t
  obtain⟨_,_,v3,v4,_⟩:=val_node hv
  have hall:=valL_iff.1 hv.2.2.2
  have hsl:=smL_iff.1 hs.2
  simp only[Tr.size] at h
  have hkeys:(keys.map fun q=>q.size+32).sum≤(K+32)*l.length:=by
   have h1:∀r:List ByteArray,(∀q∈r,q.size≤K)→(r.map fun q=>q.size+32).sum≤(K+32)*r.length:=by
    intro r
    induction r with
    | nil=>intro _;simp
    | cons q r ihr=>
     intro hq
     have:=ihr fun z hz=>hq z (by simp[hz])
     have:=hq q (by simp)
     simp only[List.map_cons,List.sum_cons,List.length_cons,Nat.mul_add,Nat.mul_one] at this⊢
     omega
   have h2:=h1 keys hs.1.2
   by_cases e:k=17
   ·rw[(v4 e).2] at h2;exact h2
   ·rw[v3 e];simp
  have hl:∀r:List Tr,(∀x∈r,x∈l)→costL r+(K+32)*r.length≤(128+2*K)*sizeL r:=by
   intro r
   induction r with
   | nil=>intro _;simp[costL,sizeL]
   | cons x r ihr=>
    intro hm
    have h1:=ihr fun z hz=>hm z (by simp[hz])
    have hx:=hm x (by simp)
    have h2:=ih x (b+1) (by have:=size_mem hx;omega) (hall x hx) (hsl x hx)
    simp only[costL,sizeL,List.length_cons,Nat.mul_add,Nat.mul_one] at h1⊢
    omega
  have h3:=hl l fun _ h=>h
  have h4:=hs.1.1
  simp only[costT,Tr.size,Nat.mul_add,Nat.mul_one] at h3⊢
  omega
theorem sm_sort {K:Nat}:∀(m:Nat) (t:Tr),t.size≤m→smT K t→smT K (sortT t):=by
 intro m
 induction m with
 | zero=>intro t h;have:=t.size_pos;omega
 | succ m ih=>
  intro t h hs
  obtain⟨k,n,u,s,keys,l⟩:=t
  simp only[Tr.size] at h
  have hsl:=smL_iff.1 hs.2
  have hk:∀x∈l,smT K (sortT x):=fun x hx=>ih x (by have:=size_mem hx;omega) (hsl x hx)
  simp only[sortT]
  by_cases e:k=17
  ·rw[if_pos e]
   refine⟨⟨hs.1.1,fun q hq=>?_⟩,smL_iff.2 fun x hx=>?_⟩
   ·obtain⟨p,hp,rfl⟩:=List.mem_map.1 hq
    exact hs.1.2 _ (List.of_mem_zip ((sortP_perm _).mem_iff.1 hp)).1
   ·obtain⟨p,hp,rfl⟩:=List.mem_map.1 hx
    have h1:=(List.of_mem_zip ((sortP_perm _).mem_iff.1 hp)).2
    rw[sortL_map] at h1
    obtain⟨y,hy,e⟩:=List.mem_map.1 h1
    rw[← e];exact hk y hy
  ·rw[if_neg e,sortL_map]
   refine⟨hs.1,smL_iff.2 fun x hx=>?_⟩
   obtain⟨y,hy,rfl⟩:=List.mem_map.1 hx
   exact hk y hy
theorem rng_sort:∀(m:Nat) (t:Tr),t.size≤m→rngT t→rngT (sortT t):=by
 intro m
 induction m with
 | zero=>intro t h;have:=t.size_pos;omega
 | succ m ih=>
  intro t h hs
  obtain⟨k,n,u,s,keys,l⟩:=t
  simp only[Tr.size] at h
  have hsl:=rngL_iff.1 hs.2
  have hk:∀x∈l,rngT (sortT x):=fun x hx=>ih x (by have:=size_mem hx;omega) (hsl x hx)
  simp only[sortT]
  by_cases e:k=17
  ·rw[if_pos e]
   refine⟨hs.1,rngL_iff.2 fun x hx=>?_⟩
   obtain⟨p,hp,rfl⟩:=List.mem_map.1 hx
   have h1:=(List.of_mem_zip ((sortP_perm _).mem_iff.1 hp)).2
   rw[sortL_map] at h1
   obtain⟨y,hy,e⟩:=List.mem_map.1 h1
   rw[← e];exact hk y hy
  ·rw[if_neg e,sortL_map]
   refine⟨hs.1,rngL_iff.2 fun x hx=>?_⟩
   obtain⟨y,hy,rfl⟩:=List.mem_map.1 hx
   exact hk y hy
theorem cut_sm (K:Nat):∀(m:Nat) (t:Tr) (left:Nat),t.size≤m→smT K (cutTr K left t).1:=by
 intro m
 induction m with
 | zero=>intro t left h;have:=t.size_pos;omega
 | succ m ih=>
  intro t left h
  obtain⟨k,n,u,s,keys,l⟩:=t
  simp only[Tr.size] at h
  simp only[cutTr]
  refine⟨⟨by rw[shortS_size];exact Nat.min_le_right _ _,fun q hq=>?_⟩,?_⟩
  ·unfold textsS at hq
   obtain⟨z,_,rfl⟩:=List.mem_map.1 hq
   rw[shortS_size];exact Nat.min_le_right _ _
  ·have:∀(r:List Tr) (left:Nat),(∀x∈r,x∈l)→smL K (cutTrs K left r).1:=by
    intro r
    induction r with
    | nil=>intro left _;simp[cutTrs,smL]
    | cons x r ihr=>
     intro left hm
     rw[cutTrs]
     by_cases e:left=0
     ·rw[if_pos e];trivial
     ·rw[if_neg e]
      have hx:=hm x (by simp)
      exact⟨ih x _ (by have:=size_mem hx;omega),ihr _ fun z hz=>hm z (by simp[hz])⟩
   exact this l left fun _ h=>h
structure Built (most flags:Int) (t:Tr) (b:List UInt8) (v:V3):Prop where
 inv:Inv (callsF most flags (sortT t) BS.new)
 s:(callsF most flags (sortT t) BS.new).s=(b,0)
 stk:(callsF most flags (sortT t) BS.new).stk=[v]
 tells:Tells b v (sortT t)
 len:b.length≤40000
theorem build_ok {flags:Int} {t:Tr} (hc:treeE t=0) (hsm:smT 60 t) (hr:rngT t) (hz:t.size≤120):∃b v,Built 1048576 flags t b v:=by
 obtain⟨_,hv⟩:=check_val.1 hc
 obtain⟨hv2,hz2⟩:=val_sort t.size t 0 (Nat.le_refl _) hv
 have hcost:=cost_le (K:=60) _ (sortT t) 0 (Nat.le_refl _) hv2 (sm_sort _ t (Nat.le_refl _) hsm)
 have hP:=calls_ok (most:=1048576) (flags:=flags) (by decide) (sortT t).size (sortT t) 0 BS.new (Nat.le_refl _) hv2 (srt_sort t.size t 0 (Nat.le_refl _) hv) (rng_sort _ t (Nat.le_refl _) hr) Inv.new (by show ((0:Nat):Int)+_≤_;omega) (by show 0+_≤_;omega)
 obtain⟨e,h1,h2⟩:=hP.grow
 obtain⟨v,h3,h4⟩:=hP.push
 rw[show BS.new.s.1=[] from rfl,List.nil_append] at h1
 rw[show BS.new.stk=[] from rfl,List.nil_append] at h3
 exact⟨e,v,hP.inv,by rw[hP.inv.s,h1],h3,by rw[← h1];exact h4,by omega⟩
theorem Built.near {most flags:Int} {t:Tr} {b:List UInt8} {v:V3} (h:Built most flags t b v):Near b.length v:=h.tells.near (by have:=h.len;omega)
theorem Built.doc_len {most flags:Int} {t:Tr} {b:List UInt8} {v:V3} (h:Built most flags t b v):(docF b v).length≤40017∧b.length+3≤(docF b v).length:=by
 have hb:=h.len
 have hw:=(one_near (by omega) h.near).1
 have hl:=length_doc hw
 have hp:=isW_pos hw
 have hpad:=padN_le b hw
 omega
def SimS (m:Int) (s S:St):Prop:=(s=S∧(S.1.length:Int)≤m)∨(s.2=5∧m < S.1.length)
structure StepS (m M:Int) (G:Int→St→St):Prop where
 err:∀S,(G M S).2=0→S.2=0
 ge:∀S,S.1.length≤(G M S).1.length
 stuck:∀s,s.2≠0→G m s=s
 fit:∀S,S.2=0→(S.1.length:Int)≤m→(G M S).2=0→SimS m (G m S) (G M S)
section
variable {m M:Int} {G H:Int→St→St}
theorem StepS.sim (h:StepS m M G) {s S:St} (hs:SimS m s S) (he:(G M S).2=0):SimS m (G m s) (G M S):=by
 rcases hs with ⟨rfl,hl⟩|⟨h5,hl⟩
 ·exact h.fit s (h.err s he) hl he
 ·have:=h.ge S
  rw[h.stuck s (by rw[h5];decide)]
  exact .inr ⟨h5,by omega⟩
theorem StepS.comp (h:StepS m M G) (k:StepS m M H):StepS m M (fun q s=>H q (G q s)):=
 ⟨fun S e=>h.err S (k.err _ e),fun S=>Nat.le_trans (h.ge S) (k.ge _),fun s e=>by show H m (G m s)=s;rw[h.stuck s e,k.stuck s e],fun S h0 hl he=>k.sim (h.fit S h0 hl (k.err _ he)) he⟩
theorem StepS.id:StepS m M (fun _ s=>s):=⟨fun S e=>e,fun S=>Nat.le_refl _,fun s _=>rfl,fun S _ hl _=>.inl ⟨rfl,hl⟩⟩
theorem put_sim {y:List UInt8} {S:St} (h0:S.2=0) (hl:(S.1.length:Int)≤m) (he:(putS M y S).2=0):SimS m (putS m y S) (putS M y S):=by
 obtain⟨b,e⟩:=S
 try dsimp only at h0 hl
 subst h0
 have h1:=(putS_zero he).2
 have hM:putS M y (b,0)=(b++y,0):=Prod.ext h1 he
 rw[hM]
 by_cases hf:(b.length:Int)+y.length≤m
 ·rw[put_fit _ _ _ hf]
  exact .inl ⟨rfl,by rw[List.length_append];omega⟩
 ·rw[putS_full hf]
  exact .inr ⟨rfl,by rw[List.length_append];omega⟩
theorem StepS.put (y:List UInt8):StepS m M (fun k s=>putS k y s):=⟨fun S e=>(putS_zero e).1,fun S=>putS_ge,fun s e=>putS_stuck e,fun S h0 hl he=>put_sim h0 hl he⟩
theorem StepS.align (x:Int):StepS m M (fun k s=>alignS k x s):=by
 refine⟨fun S e=>alignS_err e,fun S=>alignS_ge,fun s e=>alignS_stuck e,fun S h0 hl he=>?_⟩
 unfold alignS at he⊢
 split
 ·rename_i hw
  rw[if_pos hw] at he
  exact put_sim h0 hl he
 ·rename_i hw
  rw[if_neg hw] at he
  exact (failP_err (by decide) he).2.elim
theorem num_sim {x u:Int} {S:St} (h0:S.2=0) (hl:(S.1.length:Int)≤m) (he:(numS M x u S).2=0):SimS m (numS m x u S) (numS M x u S):=by
 unfold numS at he⊢
 by_cases hw:isW x=true
 ·rw[if_pos hw] at he⊢
  rw[if_pos hw]
  by_cases hf:fitU x u=true
  ·rw[if_pos hf] at he⊢
   rw[if_pos hf]
   exact put_sim h0 hl he
  ·rw[if_neg hf] at he
   exact (failP_err (by decide) he).2.elim
 ·rw[if_neg hw] at he
  exact (failP_err (by decide) he).2.elim
theorem StepS.num (x u:Int):StepS m M (fun k s=>numS k x u s):=⟨fun S e=>(numS_err e).1,fun S=>numS_ge,fun s e=>numS_stuck e,fun S h0 hl he=>num_sim h0 hl he⟩
theorem elemS_err {x:Int} {v:V3} {S:St} (e:(elemS M x S v).2=0):S.2=0:=by
 unfold elemS at e
 split at e
 ·exact (numS_err e).1
 ·exact (numS_err e).1
theorem StepS.elem (x:Int) (v:V3):StepS m M (fun k s=>elemS k x s v):=by
 refine⟨fun S e=>elemS_err e,fun S=>elemS_ge,fun s e=>elemS_stuck e,fun S h0 hl he=>?_⟩
 unfold elemS at he⊢
 split
 ·rename_i hi
  rw[if_pos hi] at he
  exact num_sim h0 hl he
 ·rename_i hi
  rw[if_neg hi] at he
  exact num_sim h0 hl he
theorem StepS.elems (x:Int):∀l:List V3,StepS m M (fun k s=>elemsS k x l s)
 | []=>StepS.id
 | v::r=>(StepS.elem x v).comp (StepS.elems x r)
theorem StepS.tags (x:Int):∀l:List V3,StepS m M (fun k s=>tagsS k x l s)
 | []=>StepS.id
 | v::r=>(show StepS m M (fun k s=>tagS k x s v) from StepS.put _).comp (StepS.tags x r)
theorem putF_sim {T:V3→Int} {len tagged:Bool} {kind e0:Int} {l:List V3} {S:St} (h0:S.2=0) (hl:(S.1.length:Int)≤m) (he:(putF M T len tagged kind e0 l S).1.2=0) (he2:(putF M T len tagged kind e0 l S).2.2=0) :
 (putF m T len tagged kind e0 l S=putF M T len tagged kind e0 l S∧((putF M T len tagged kind e0 l S).2.1.length:Int)≤m)∨((putF m T len tagged kind e0 l S).1.2=5∧(putF m T len tagged kind e0 l S).2.2=5∧m < (putF M T len tagged kind e0 l S).2.1.length):=by
 unfold putF at he he2⊢
 try dsimp only at he he2⊢
 by_cases ha:eachL T e0 l≠0
 ·rw[if_pos ha] at he;exact absurd he ha
 simp only[if_neg ha] at he he2⊢
 generalize allF l (0,0,0) S.1.length (if len=true then 1 else 0)=X at *
 by_cases hb:X=0
 ·rw[if_pos hb] at he;cases he
 simp only[if_neg hb] at he he2⊢
 have hG1:StepS m M (fun k s=>if len=true then numS k X l.length (alignS k X s) else alignS k X s):=by
  cases len
  ·exact StepS.align X
  ·exact (StepS.align X).comp (StepS.num X _)
 have hG2:StepS m M (fun k s=>if tagged=true then tagsS k X l (elemsS k X l s) else elemsS k X l s):=by
  cases tagged
  ·exact StepS.elems X l
  ·exact (StepS.elems X l).comp (StepS.tags X l)
 have hM2:(if tagged=true then tagsS M X l (elemsS M X l (if len=true then numS M X l.length (alignS M X S) else alignS M X S)) else elemsS M X l (if len=true then numS M X l.length (alignS M X S) else alignS M X S)).2=0:=by
  by_cases hc:(if tagged=true then tagsS M X l (elemsS M X l (if len=true then numS M X l.length (alignS M X S) else alignS M X S)) else elemsS M X l (if len=true then numS M X l.length (alignS M X S) else alignS M X S)).2≠0
  ·rw[if_pos hc] at he;exact absurd he hc
  ·exact Decidable.not_not.1 hc
 have s1:=hG1.sim (s:=S) (S:=S) (.inl ⟨rfl,hl⟩) (hG2.err _ hM2)
 have s2:=hG2.sim s1 hM2
 have st:=hG2.stuck
 have ge2:=hG2.ge (if len=true then numS M X l.length (alignS M X S) else alignS M X S)
 try dsimp only at s1 s2 st ge2
 generalize (if len=true then numS M X l.length (alignS M X S) else alignS M X S)=A at *
 generalize (if len=true then numS m X l.length (alignS m X S) else alignS m X S)=a at *
 rcases s1 with ⟨rfl,h1⟩|⟨h1,h2⟩
 ·generalize (if tagged=true then tagsS M X l (elemsS M X l a) else elemsS M X l a)=B at *
  generalize (if tagged=true then tagsS m X l (elemsS m X l a) else elemsS m X l a)=b at *
  rcases s2 with ⟨rfl,h3⟩|⟨h3,h4⟩
  ·rw[if_neg (by rw[hM2];decide)]
   exact .inl ⟨rfl,h3⟩
  ·rw[if_neg (c:=B.2≠0) (by rw[hM2];decide),if_pos (by rw[h3];decide)]
   exact .inr ⟨h3,h3,h4⟩
 ·rw[st a (by rw[h1];decide)]
  generalize (if tagged=true then tagsS M X l (elemsS M X l A) else elemsS M X l A)=B at *
  rw[if_neg (c:=B.2≠0) (by rw[hM2];decide),if_pos (by rw[h1];decide)]
  exact .inr ⟨h1,h1,by show m < (B.1.length:Int);omega⟩
theorem vputF_sim {elem many:Int} {l:List V3} {S:St} (h0:S.2=0) (hl:(S.1.length:Int)≤m) (he:(vputF M elem many l S).1.2=0) (he2:(vputF M elem many l S).2.2=0) :
 (vputF m elem many l S=vputF M elem many l S∧((vputF M elem many l S).2.1.length:Int)≤m)∨((vputF m elem many l S).1.2=5∧(vputF m elem many l S).2.2=5∧m < (vputF M elem many l S).2.1.length):=by
 unfold vputF at he he2⊢
 split
 ·rename_i h
  simp only[if_pos h] at he he2⊢
  exact putF_sim h0 hl he he2
 ·rename_i h
  simp only[if_neg h] at he he2⊢
  exact putF_sim h0 hl he he2
theorem putM_sim {k:V3} {l:List V3} {S:St} (h0:S.2=0) (hl:(S.1.length:Int)≤m) (he:(putM M k l S).1.2=0) (he2:(putM M k l S).2.2=0) :
 (putM m k l S=putM M k l S∧((putM M k l S).2.1.length:Int)≤m)∨((putM m k l S).1.2=5∧(putM m k l S).2.2=5∧m < (putM M k l S).2.1.length):=by
 unfold putM at he he2⊢
 try dsimp only at he he2⊢
 by_cases ha:checkE k l≠0
 ·rw[if_pos ha] at he;exact absurd he ha
 simp only[if_neg ha] at he he2⊢
 generalize allF l k S.1.length 3=X at *
 by_cases hb:X=0
 ·rw[if_pos hb] at he;cases he
 simp only[if_neg hb] at he he2⊢
 have hG1:StepS m M (fun q s=>headM q X k l.length s):=(((StepS.align X).comp (StepS.elem X k)).comp (StepS.num X k.2.1)).comp (StepS.num X l.length)
 have hG2:StepS m M (fun q s=>tagsS q X l (elemsS q X l s)):=(StepS.elems X l).comp (StepS.tags X l)
 have hM2:(tagsS M X l (elemsS M X l (headM M X k l.length S))).2=0:=by
  by_cases hc:(tagsS M X l (elemsS M X l (headM M X k l.length S))).2≠0
  ·rw[if_pos hc] at he;exact absurd he hc
  ·exact Decidable.not_not.1 hc
 have s1:=hG1.sim (s:=S) (S:=S) (.inl ⟨rfl,hl⟩) (hG2.err _ hM2)
 have s2:=hG2.sim s1 hM2
 have st:=hG2.stuck
 have ge2:=hG2.ge (headM M X k l.length S)
 try dsimp only at s1 s2 st ge2
 generalize headM M X k l.length S=A at *
 generalize headM m X k l.length S=a at *
 rcases s1 with ⟨rfl,h1⟩|⟨h1,h2⟩
 ·generalize tagsS M X l (elemsS M X l a)=B at *
  generalize tagsS m X l (elemsS m X l a)=b at *
  rcases s2 with ⟨rfl,h3⟩|⟨h3,h4⟩
  ·rw[if_neg (by rw[hM2];decide)]
   exact .inl ⟨rfl,h3⟩
  ·rw[if_neg (c:=B.2≠0) (by rw[hM2];decide),if_pos (by rw[h3];decide)]
   exact .inr ⟨h3,h3,h4⟩
 ·rw[st a (by rw[h1];decide)]
  generalize tagsS M X l (elemsS M X l A)=B at *
  rw[if_neg (c:=B.2≠0) (by rw[hM2];decide),if_pos (by rw[h1];decide)]
  exact .inr ⟨h1,h1,by show m < (B.1.length:Int);omega⟩
end
/-! ### the builder's steps -/
def After (m:Int) (y x' y':BS):Prop:=y'.s.2=0∧y.s.1.length≤y'.s.1.length∧((y.s.1.length:Int)≤m→(x'=y'∧(y'.s.1.length:Int)≤m)∨(x'.e=5∧m < y'.s.1.length))
structure SimF (m M:Int) (f:Int→BS→BS):Prop where
 stuck:∀k x,x.e≠0→(f k x).e=x.e
 step:∀y,y.e=0→y.s.2=0→(f M y).e=0→After m y (f m y) (f M y)
section
variable {m M:Int} {f:Int→BS→BS}
theorem SimF.comp {g:BS→Int→BS→BS} (h:SimF m M f) (k:∀x0,SimF m M (g x0)):SimF m M (fun q x=>g x q (f q x)):=by
 refine⟨fun q x hx=>?_,fun y h0 h1 he=>?_⟩
 ·have e:=h.stuck q x hx
  show (g x q (f q x)).e=x.e
  rw[(k x).stuck q _ (by rw[e];exact hx),e]
 ·have hf:(f M y).e=0:=Decidable.byContradiction fun hn=>by
   have:=(k y).stuck M (f M y) hn
   try dsimp only at he
   rw[this] at he
   exact hn he
  obtain⟨a1,a2,a3⟩:=h.step y h0 h1 hf
  obtain⟨b1,b2,b3⟩:=(k y).step (f M y) hf a1 he
  refine⟨b1,Nat.le_trans a2 b2,fun hl=>?_⟩
  rcases a3 hl with ⟨e,h3⟩|⟨h5,h3⟩
  ·try dsimp only
   rw[e]
   exact b3 h3
  ·refine .inr ⟨?_,by (try dsimp only at b2⊢);omega⟩
   show (g y m (f m y)).e=5
   rw[(k y).stuck m _ (by rw[h5];decide),h5]
theorem SimF.id:SimF m M (fun _ x=>x):=⟨fun _ _ _=>rfl,fun y _ h1 _=>⟨h1,Nat.le_refl _,fun hl=>.inl ⟨rfl,hl⟩⟩⟩
theorem failS_stuck {e z:Int} (h:e≠0):failS e z=e:=by unfold failS;rw[if_neg h]
theorem failS_zero (z:Int):failS 0 z=z:=by unfold failS;rw[if_pos rfl]
theorem fail_keep {x:BS} {z:Int} (h:x.e≠0):x.fail z=x:=by unfold BS.fail;rw[failS_stuck h]
theorem push_stuck {x:BS} {v:V3} (h:x.e≠0):(x.push v).e=x.e:=by
 unfold BS.push
 rw[failS_stuck h,if_neg h]
theorem push_zero {x:BS} {v:V3} (h:(x.push v).e=0):x.e=0∧x.s.2=0∧(x.push v).s=x.s:=by
 by_cases hx:x.e=0
 ·by_cases hs:x.s.2=0
  ·refine⟨hx,hs,?_⟩
   unfold BS.push
   split
   ·split<;>rfl
   ·rfl
  ·exfalso
   unfold BS.push at h
   rw[hx,failS_zero,if_neg hs] at h
   exact hs h
 ·rw[push_stuck hx] at h;exact absurd h hx
theorem push_five {x:BS} {v:V3} (h:x.e=0) (h5:x.s.2=5):(x.push v).e=5:=by
 unfold BS.push
 rw[h,failS_zero,h5,if_neg (by decide)]
theorem SimF.inline (v:V3):SimF m M (fun _ x=>x.inline v):=by
 refine⟨fun k x hx=>by show (x.inline v).e=_;unfold BS.inline;rw[if_neg hx],fun y h0 h1 he=>?_⟩
 try dsimp only at he⊢
 unfold BS.inline at he⊢
 rw[if_pos h0] at he⊢
 obtain⟨_,_,h3⟩:=push_zero he
 exact⟨by rw[h3];exact h1,by rw[h3];exact Nat.le_refl _,fun hl=>.inl ⟨rfl,by rw[h3];exact hl⟩⟩
theorem SimF.apart (t:Int) (v:V3):SimF m M (fun k x=>x.apart k t v):=by
 refine⟨fun k x hx=>by show (x.apart k t v).e=_;unfold BS.apart;rw[if_neg hx],fun y h0 h1 he=>?_⟩
 try dsimp only at he⊢
 unfold BS.apart at he⊢
 rw[if_pos h0] at he⊢
 rw[if_pos h0]
 try dsimp only at he⊢
 obtain⟨_,h2,h3⟩:=push_zero he
 have hA:StepS m M (fun k s=>alignS k v.2.1 s):=StepS.align _
 have hN:StepS m M (fun k s=>numS k v.2.1 (lowF v.2.2 v.2.1) s):=StepS.num _ _
 have g:=Nat.le_trans (hA.ge y.s) (hN.ge _)
 try dsimp only at g h2 h3
 refine⟨by rw[h3];exact h2,by rw[h3];exact g,fun hl=>?_⟩
 have s1:=hA.sim (s:=y.s) (S:=y.s) (.inl ⟨rfl,hl⟩) (hN.err _ h2)
 have s2:=hN.sim s1 h2
 try dsimp only at s1 s2
 rcases s1 with ⟨e1,_⟩|⟨e1,_⟩
 ·rw[e1] at s2⊢
  rcases s2 with ⟨e2,l2⟩|⟨e2,l2⟩
  ·rw[e2]
   refine .inl ⟨rfl,?_⟩
   rw[h3];exact l2
  ·exact .inr ⟨push_five h0 e2,by rw[h3];exact l2⟩
 ·have e2:(numS m v.2.1 (lowF v.2.2 v.2.1) (alignS m v.2.1 y.s)).2=5:=by rw[numS_stuck (by rw[e1];decide)];exact e1
  rcases s2 with ⟨e3,l2⟩|⟨_,l2⟩
  ·rw[e3,h2] at e2;cases e2
  ·exact .inr ⟨push_five h0 e2,by rw[h3];exact l2⟩
theorem put_stuck19 {k:Int} {sh:Bool} {q:ByteArray} {x:BS} (h:x.e≠0):x.put k sh q=((0,0,0),x):=by
 unfold BS.put
 rw[fail_keep h]
 try dsimp only
 rw[if_pos h]
theorem put_sim19 {sh:Bool} {q:ByteArray} {y:BS} (h0:y.e=0) (h1:y.s.2=0) (he:(y.put M sh q).2.e=0) :
 (y.put M sh q).2.s.2=0∧y.s.1.length≤(y.put M sh q).2.s.1.length∧((y.s.1.length:Int)≤m→(y.put m sh q=y.put M sh q∧((y.put M sh q).2.s.1.length:Int)≤m)∨((y.put m sh q).2.e=5∧m < (y.put M sh q).2.s.1.length)):=by
 unfold BS.put at he⊢
 try dsimp only at he⊢
 by_cases hf:(y.fail (keyE q)).e≠0
 ·rw[if_pos hf] at he;exact absurd he hf
 simp only[if_neg hf] at he⊢
 have hfs:(y.fail (keyE q)).s=y.s:=rfl
 by_cases hg:((getP y.keys q).2 && sh)=true
 ·simp only[if_pos hg] at he⊢
  exact⟨h1,Nat.le_refl _,fun hl=>.inl ⟨by first | rfl | trivial,hl⟩⟩
 ·simp only[if_neg hg] at he⊢
  have hP:StepS m M (fun k s=>putS k (bytesS [q,⟨#[0]⟩]) s):=StepS.put _
  refine⟨he,hP.ge _,fun hl=>?_⟩
  rcases hP.sim (s:=y.s) (S:=y.s) (.inl ⟨rfl,hl⟩) he with ⟨e1,l1⟩|⟨e1,l1⟩
  ·try dsimp only at e1 l1
   rw[e1]
   exact .inl ⟨rfl,l1⟩
  ·exact .inr ⟨e1,l1⟩
theorem SimF.key (sh:Bool) (q:ByteArray):SimF m M (fun k x=>x.key k sh q):=by
 refine⟨fun k x hx=>by show (x.key k sh q).e=_;unfold BS.key;rw[if_neg hx],fun y h0 h1 he=>?_⟩
 try dsimp only at he⊢
 unfold BS.key at he⊢
 rw[if_pos h0] at he⊢
 rw[if_pos h0]
 obtain⟨h2,h3,h4⟩:=push_zero he
 obtain⟨a1,a2,a3⟩:=put_sim19 (m:=m) h0 h1 h2
 refine⟨by rw[h4];exact h3,by rw[h4];exact a2,fun hl=>?_⟩
 rcases a3 hl with ⟨e,l⟩|⟨e,l⟩
 ·rw[e];exact .inl ⟨rfl,by rw[h4];exact l⟩
 ·exact .inr ⟨by rw[push_stuck (by rw[e];decide)];exact e,by rw[h4];exact l⟩
theorem text_sim {t:Int} {q z:ByteArray} {y:BS} (h0:y.e=0) (h1:y.s.2=0) (he:(y.text M t q z).e=0):After m y (y.text m t q z) (y.text M t q z):=by
 unfold BS.text at he⊢
 try dsimp only at he⊢
 obtain⟨_,h2,h3⟩:=push_zero he
 have hA:StepS m M (fun k s=>numS k (Ft.widthOf q.size) q.size (alignS k (Ft.widthOf q.size) s)):=(StepS.align _).comp (StepS.num _ _)
 have hN:StepS m M (fun k s=>putS k (bytesS [q,z]) s):=StepS.put _
 have g:=Nat.le_trans (hA.ge y.s) (hN.ge _)
 try dsimp only at g h2 h3
 refine⟨by rw[h3];exact h2,by rw[h3];exact g,fun hl=>?_⟩
 have s1:=hA.sim (s:=y.s) (S:=y.s) (.inl ⟨rfl,hl⟩) (hN.err _ h2)
 have s2:=hN.sim s1 h2
 try dsimp only at s1 s2
 rcases s1 with ⟨e1,_⟩|⟨e1,_⟩
 ·rw[e1] at s2⊢
  rcases s2 with ⟨e2,l2⟩|⟨e2,l2⟩
  ·rw[e2]
   refine .inl ⟨rfl,?_⟩
   rw[h3];exact l2
  ·exact .inr ⟨push_five h0 e2,by rw[h3];exact l2⟩
 ·have e2:(putS m (bytesS [q,z]) (numS m (Ft.widthOf q.size) q.size (alignS m (Ft.widthOf q.size) y.s))).2=5:=by rw[putS_stuck (by rw[e1];decide)];exact e1
  rcases s2 with ⟨e3,l2⟩|⟨_,l2⟩
  ·rw[e3,h2] at e2;cases e2
  ·exact .inr ⟨push_five h0 e2,by rw[h3];exact l2⟩
theorem SimF.str (sh:Bool) (q:ByteArray):SimF m M (fun k x=>x.str k sh q):=by
 refine⟨fun k x hx=>by show (x.str k sh q).e=_;unfold BS.str;dsimp only;rw[if_neg hx],fun y h0 h1 he=>?_⟩
 try dsimp only at he⊢
 unfold BS.str at he⊢
 try dsimp only at he⊢
 simp only[if_pos h0] at he⊢
 by_cases hg:((getP y.texts q).2 && sh)=true
 ·simp only[if_pos hg] at he⊢
  obtain⟨_,_,h3⟩:=push_zero he
  exact⟨by rw[h3];exact h1,by rw[h3];exact Nat.le_refl _,fun hl=>.inl ⟨rfl,by rw[h3];exact hl⟩⟩
 ·simp only[if_neg hg] at he⊢
  exact text_sim h0 h1 he
theorem SimF.blob (q:ByteArray):SimF m M (fun k x=>x.blob k q):=by
 refine⟨fun k x hx=>by show (x.blob k q).e=_;unfold BS.blob;rw[if_neg hx],fun y h0 h1 he=>?_⟩
 try dsimp only at he⊢
 unfold BS.blob at he⊢
 simp only[if_pos h0] at he⊢
 exact text_sim h0 h1 he
theorem fail_zero_iff {x:BS} {z:Int} (h:(x.fail z).e=0):x.e=0∧z=0:=by
 have h1:failS x.e z=0:=h
 by_cases hx:x.e=0
 ·rw[hx,failS_zero] at h1;exact⟨hx,h1⟩
 ·rw[failS_stuck hx] at h1;exact absurd h1 hx
theorem SimF.vector (elem many:Int) (l:List V3):SimF m M (fun k x=>x.vector k elem many l):=by
 refine⟨fun k x hx=>by show (x.vector k elem many l).e=_;unfold BS.vector;dsimp only;rw[if_neg hx],fun y h0 h1 he=>?_⟩
 try dsimp only at he⊢
 unfold BS.vector at he⊢
 try dsimp only at he⊢
 simp only[if_pos h0] at he⊢
 obtain⟨h2,h3,h4⟩:=push_zero he
 obtain⟨_,h5⟩:=fail_zero_iff h2
 have h3':(vputF M elem many l y.s).2.2=0:=h3
 have h4':(BS.push (vputF M elem many l y.s).1.1 (BS.fail (vputF M elem many l y.s).1.2 {y with s:=(vputF M elem many l y.s).2})).s=(vputF M elem many l y.s).2:=h4
 have g:=vputF_ge (most:=M) (elem:=elem) (many:=many) (l:=l) (s:=y.s)
 refine⟨by rw[h4'];exact h3',by rw[h4'];exact g,fun hl=>?_⟩
 rcases vputF_sim h1 hl h5 h3' with ⟨e,q⟩|⟨e1,e2,q⟩
 ·rw[e];exact .inl ⟨rfl,by rw[h4'];exact q⟩
 ·refine .inr ⟨?_,by rw[h4'];exact q⟩
  have hf:(BS.fail (vputF m elem many l y.s).1.2 {y with s:=(vputF m elem many l y.s).2}).e=5:=by
   show failS y.e (vputF m elem many l y.s).1.2=5
   rw[h0,failS_zero,e1]
  rw[push_stuck (by rw[hf];decide),hf]
theorem putAll_stuck {k:Int} {sh:Bool}:∀(l:List ByteArray) {x:BS},x.e≠0→(x.putAll k sh l).2.e=x.e
 | [],_,_=>rfl
 | q::r,x,h=>by
  show ((x.put k sh q).2.putAll k sh r).2.e=x.e
  rw[put_stuck19 h]
  exact putAll_stuck r h
theorem putAll_sim {sh:Bool}:∀(l:List ByteArray) {y:BS},y.e=0→y.s.2=0→(y.putAll M sh l).2.e=0 →
 (y.putAll M sh l).2.s.2=0∧y.s.1.length≤(y.putAll M sh l).2.s.1.length∧((y.s.1.length:Int)≤m→(y.putAll m sh l=y.putAll M sh l∧((y.putAll M sh l).2.s.1.length:Int)≤m)∨((y.putAll m sh l).2.e=5∧m < (y.putAll M sh l).2.s.1.length))
 | [],y,h0,h1,_=>⟨h1,Nat.le_refl _,fun hl=>.inl ⟨rfl,hl⟩⟩
 | q::r,y,h0,h1,he=>by
  have he':((y.put M sh q).2.putAll M sh r).2.e=0:=he
  have hp:(y.put M sh q).2.e=0:=Decidable.byContradiction fun hn=>by
   rw[putAll_stuck r hn] at he';exact hn he'
  obtain⟨a1,a2,a3⟩:=put_sim19 (m:=m) h0 h1 hp
  obtain⟨b1,b2,b3⟩:=putAll_sim r hp a1 he'
  simp only[BS.putAll]
  refine⟨b1,Nat.le_trans a2 b2,fun hl=>?_⟩
  rcases a3 hl with ⟨e,l1⟩|⟨e,l1⟩
  ·rw[e]
   rcases b3 l1 with ⟨e2,l2⟩|⟨e2,l2⟩
   ·rw[e2];exact .inl ⟨rfl,l2⟩
   ·exact .inr ⟨e2,l2⟩
  ·exact .inr ⟨by rw[putAll_stuck r (by rw[e];decide)];exact e,by omega⟩
theorem SimF.keyVec (sh:Bool) (l:List ByteArray):SimF m M (fun k x=>x.keyVec k sh l):=by
 refine⟨fun k x hx=>by show (x.keyVec k sh l).e=_;unfold BS.keyVec;rw[if_neg hx],fun y h0 h1 he=>?_⟩
 try dsimp only at he⊢
 unfold BS.keyVec at he⊢
 simp only[if_pos h0] at he⊢
 have hV:=SimF.vector (m:=m) (M:=M) 4 0
 have hp:(y.putAll M sh l).2.e=0:=Decidable.byContradiction fun hn=>by
  have:=(hV (y.putAll M sh l).1).stuck M _ hn
  try dsimp only at this
  rw[this] at he;exact hn he
 obtain⟨a1,a2,a3⟩:=putAll_sim (m:=m) l h0 h1 hp
 obtain⟨b1,b2,b3⟩:=(hV (y.putAll M sh l).1).step _ hp a1 he
 refine⟨b1,Nat.le_trans a2 b2,fun hl=>?_⟩
 rcases a3 hl with ⟨e,l1⟩|⟨e,l1⟩
 ·rw[e];exact b3 l1
 ·refine .inr ⟨?_,by (try dsimp only at b2⊢);omega⟩
  have:=(hV (y.putAll m sh l).1).stuck m (y.putAll m sh l).2 (by rw[e];decide)
  try dsimp only at this
  rw[this,e]
theorem SimF.fixed (elem:Int) (l:List V3):SimF m M (fun k x=>x.fixed k elem l):=by
 refine⟨fun k x hx=>by show (x.fixed k elem l).e=_;unfold BS.fixed;rw[if_neg hx],fun y h0 h1 he=>?_⟩
 try dsimp only at he⊢
 unfold BS.fixed at he⊢
 simp only[if_pos h0] at he⊢
 by_cases hc:l.length < 2∨4 < l.length
 ·rw[if_pos hc] at he
  exact absurd (fail_zero_iff he).2 (by decide)
 ·simp only[if_neg hc] at he⊢
  exact (SimF.vector elem l.length l).step y h0 h1 he
theorem SimF.endVec (start:Int):SimF m M (fun k x=>x.endVec k start):=by
 refine⟨fun k x hx=>by show (x.endVec k start).e=_;unfold BS.endVec;rw[if_neg hx],fun y h0 h1 he=>?_⟩
 try dsimp only at he⊢
 unfold BS.endVec at he⊢
 simp only[if_pos h0] at he⊢
 by_cases hc:0≤start∧start≤y.stk.length
 ·simp only[if_pos hc] at he⊢
  exact (SimF.vector (-1) 0 (y.stk.drop start.toNat)).step {y with stk:=y.stk.take start.toNat} h0 h1 he
 ·rw[if_neg hc] at he
  exact absurd (fail_zero_iff he).2 (by decide)
theorem table_sim {sh:Bool} {list:ByteArray} {keys vals:List V3} {y:BS} (h0:y.e=0) (h1:y.s.2=0) (he:(y.table M sh list keys vals).e=0):After m y (y.table m sh list keys vals) (y.table M sh list keys vals):=by
 unfold BS.table at he⊢
 try dsimp only at he⊢
 have hput:∀(x:BS) (k:V3),x.e=0→x.s.2=0→((BS.push (putM M k vals x.s).1.1 (BS.fail (putM M k vals x.s).1.2 {x with s:=(putM M k vals x.s).2})).e=0) →
  After m x (BS.push (putM m k vals x.s).1.1 (BS.fail (putM m k vals x.s).1.2 {x with s:=(putM m k vals x.s).2})) (BS.push (putM M k vals x.s).1.1 (BS.fail (putM M k vals x.s).1.2 {x with s:=(putM M k vals x.s).2})):=by
  intro x k h0 h1 he
  obtain⟨h2,h3,h4⟩:=push_zero he
  obtain⟨_,h5⟩:=fail_zero_iff h2
  have h3':(putM M k vals x.s).2.2=0:=h3
  have h4':(BS.push (putM M k vals x.s).1.1 (BS.fail (putM M k vals x.s).1.2 {x with s:=(putM M k vals x.s).2})).s=(putM M k vals x.s).2:=h4
  have g:x.s.1.length≤(putM M k vals x.s).2.1.length:=by
   unfold putM
   try dsimp only
   split
   ·exact Nat.le_refl _
   split
   ·exact Nat.le_refl _
   have hh:∀X,x.s.1.length≤(tagsS M X vals (elemsS M X vals (headM M X k vals.length x.s))).1.length:=fun X=>
    Nat.le_trans (Nat.le_trans (Nat.le_trans (Nat.le_trans (Nat.le_trans alignS_ge elemS_ge) numS_ge) numS_ge) (elemsS_ge vals _)) (tagsS_ge vals _)
   split<;>exact hh _
  refine⟨by rw[h4'];exact h3',by rw[h4'];exact g,fun hl=>?_⟩
  rcases putM_sim h1 hl h5 h3' with ⟨e,q⟩|⟨e1,e2,q⟩
  ·rw[e];exact .inl ⟨rfl,by rw[h4'];exact q⟩
  ·refine .inr ⟨?_,by rw[h4'];exact q⟩
   have hf:(BS.fail (putM m k vals x.s).1.2 {x with s:=(putM m k vals x.s).2}).e=5:=by
    show failS x.e (putM m k vals x.s).1.2=5
    rw[h0,failS_zero,e1]
   rw[push_stuck (by rw[hf];decide),hf]
 by_cases hg:((getP y.lists list).2 && sh)=true
 ·simp only[if_pos hg,if_pos h0] at he⊢
  exact hput y _ h0 h1 he
 ·simp only[if_neg hg] at he⊢
  by_cases hx:failS y.e (vputF M 4 0 keys y.s).1.2=0
  ·rw[if_pos hx] at he⊢
   have h5:(vputF M 4 0 keys y.s).1.2=0:=by rw[h0,failS_zero] at hx;exact hx
   have hk2:=push_zero he
   have hs2:(vputF M 4 0 keys y.s).2.2=0:=by
    refine Decidable.byContradiction fun hn=>?_
    have hpm:(putM M ((y.vals++[(vputF M 4 0 keys y.s).1.1]).getD (y.vals.length:Int).toNat (0,0,0)) vals (vputF M 4 0 keys y.s).2).2.2=0:=hk2.2.1
    unfold putM at hpm
    try dsimp only at hpm
    split at hpm
    ·exact hn hpm
    split at hpm
    ·exact hn hpm
    have hst:∀X k,tagsS M X vals (elemsS M X vals (headM M X k vals.length (vputF M 4 0 keys y.s).2))=(vputF M 4 0 keys y.s).2:=fun X k=>by
     unfold headM
     rw[alignS_stuck hn,elemS_stuck hn,numS_stuck hn,numS_stuck hn,elemsS_stuck hn,tagsS_stuck hn]
    rw[hst] at hpm
    split at hpm
    ·exact hn hpm
    ·exact hn hpm
   have g:=vputF_ge (most:=M) (elem:=4) (many:=0) (l:=keys) (s:=y.s)
   have hA:=hput {y with s:=(vputF M 4 0 keys y.s).2,e:=failS y.e (vputF M 4 0 keys y.s).1.2,lists:=putP list y.vals.length y.lists,vals:=y.vals++[(vputF M 4 0 keys y.s).1.1]} ((y.vals++[(vputF M 4 0 keys y.s).1.1]).getD (y.vals.length:Int).toNat (0,0,0)) hx hs2 he
   obtain⟨b1,b2,b3⟩:=hA
   refine⟨b1,Nat.le_trans g b2,fun hl=>?_⟩
   rcases vputF_sim h1 hl h5 hs2 with ⟨e,q⟩|⟨e1,e2,q⟩
   ·rw[e,if_pos hx]
    exact b3 q
   ·refine .inr ⟨?_,by (try dsimp only at b2⊢);omega⟩
    rw[if_neg (by rw[h0,failS_zero,e1];decide),h0,failS_zero,e1]
  ·rw[if_neg hx] at he
   exact absurd he hx
theorem SimF.endMap (sh:Bool) (start:Int):SimF m M (fun k x=>x.endMap k sh start):=by
 refine⟨fun k x hx=>by show (x.endMap k sh start).e=_;unfold BS.endMap;rw[if_neg hx],fun y h0 h1 he=>?_⟩
 try dsimp only at he⊢
 unfold BS.endMap at he⊢
 simp only[if_pos h0] at he⊢
 by_cases hc:0≤start∧start≤y.stk.length
 ·simp only[if_pos hc] at he⊢
  by_cases hk:keyTys (y.stk.drop start.toNat)=true
  ·simp only[if_pos hk] at he⊢
   by_cases hn:((pairsF y.names (y.stk.drop start.toNat)).map (·.1)).Nodup
   ·simp only[if_pos hn] at he⊢
    exact table_sim (y:={y with stk:=y.stk.take start.toNat}) h0 h1 he
   ·rw[if_neg hn] at he
    exact absurd (fail_zero_iff he).2 (by decide)
  ·rw[if_neg hk] at he
   exact absurd (fail_zero_iff he).2 (by decide)
 ·rw[if_neg hc] at he
  exact absurd (fail_zero_iff he).2 (by decide)
end
theorem SimF.ite {m M:Int} {f g:Int→BS→BS} {c:Prop} [Decidable c] (h:SimF m M f) (k:SimF m M g):SimF m M (fun q x=>if c then f q x else g q x):=by
 by_cases hc:c
 ·simpa only [if_pos hc] using h
 ·simpa only [if_neg hc] using k
theorem SimF.leaf {m M:Int} (flags k n u:Int) (s:ByteArray):SimF m M (fun q x=>leafF q flags k n u s x):=by
 unfold leafF
 exact (SimF.inline _).ite <| (SimF.inline _).ite <| (SimF.inline _).ite <| (SimF.inline _).ite <| (SimF.apart _ _).ite <| (SimF.apart _ _).ite <| (SimF.key _ _).ite <| (SimF.str _ _).ite <| (SimF.blob _).ite SimF.id
mutual
theorem SimF.calls {m M flags:Int}:∀t:Tr,SimF m M (fun q x=>callsF q flags t x)
 | .mk k n u s keys l=>by
  have h1:SimF m M (fun q x=>(Go.Proofs.YtdjoffgkndncfaaGreat.callsL q flags l x).endVec q x.stk.length):=SimF.comp (g:=fun x0 q x=>x.endVec q x0.stk.length) (SimF.callsL l) fun x0=>SimF.endVec _
  have h2:SimF m M (fun q x=>(Go.Proofs.YtdjoffgkndncfaaGreat.callsM q flags l keys x).endMap q (onF flags 4) x.stk.length):=SimF.comp (g:=fun x0 q x=>x.endMap q (onF flags 4) x0.stk.length) (SimF.callsM l keys) fun x0=>SimF.endMap _ _
  simp only[callsF]
  exact (SimF.vector _ _ _).ite <| (SimF.vector _ _ _).ite <| (SimF.vector _ _ _).ite <| (SimF.keyVec _ _).ite <| (SimF.fixed _ _).ite <| (SimF.fixed _ _).ite <| h1.ite <| h2.ite <| SimF.leaf _ _ _ _ _
theorem SimF.callsL {m M flags:Int}:∀l:List Tr,SimF m M (fun q x=>callsL q flags l x)
 | []=>by simp only[Go.Proofs.YtdjoffgkndncfaaGreat.callsL];exact SimF.id
 | t::r=>by
  simp only[Go.Proofs.YtdjoffgkndncfaaGreat.callsL]
  exact SimF.comp (g:=fun _ q x=>Go.Proofs.YtdjoffgkndncfaaGreat.callsL q flags r x) (SimF.calls t) fun _=>SimF.callsL r
theorem SimF.callsM {m M flags:Int}:∀(l:List Tr) (ks:List ByteArray),SimF m M (fun q x=>callsM q flags l ks x)
 | [],ks=>by simp only[Go.Proofs.YtdjoffgkndncfaaGreat.callsM];exact SimF.id
 | t::r,ks=>by
  simp only[Go.Proofs.YtdjoffgkndncfaaGreat.callsM]
  exact SimF.comp (g:=fun _ q x=>Go.Proofs.YtdjoffgkndncfaaGreat.callsM q flags r ks.tail x) (SimF.comp (g:=fun _ q x=>callsF q flags t x) (SimF.key _ _) fun _=>SimF.calls t) fun _=>SimF.callsM r ks.tail
end
theorem capped_ok {flags m:Int} {t:Tr} {b:List UInt8} {v:V3} (h:Built 1048576 flags t b v) (h0:0≤m):((callsF m flags (sortT t) BS.new).finish m).1=if ((docF b v).length:Int)≤m then (docF b v,0) else ([],5):=by
 have hS:=(SimF.calls (m:=m) (M:=1048576) (flags:=flags) (sortT t)).step BS.new rfl rfl h.inv.e0
 obtain⟨_,_,h3⟩:=hS
 have hb:=h.len
 have hd:=h.doc_len
 have hy:=h.s
 have hn:=h.near
 rcases h3 (by show ((0:Nat):Int)≤m;omega) with ⟨e,l⟩|⟨e,l⟩
 ·try dsimp only at e l
  rw[e]
  rw[hy] at l
  try dsimp only at l
  split
  ·rename_i hm
   exact finish_ok h.inv.e0 hy h.stk (by omega) hn hm
  ·rename_i hm
   exact finish_full h.inv.e0 hy h.stk (by omega) l hn hm
 ·try dsimp only at e l
  rw[hy] at l
  try dsimp only at l
  rw[if_neg (by omega)]
  unfold BS.finish
  try dsimp only
  have hx:(if (callsF m flags (sortT t) BS.new).stk.length≠1 then (callsF m flags (sortT t) BS.new).fail 140 else callsF m flags (sortT t) BS.new)=callsF m flags (sortT t) BS.new:=by
   rw[fail_keep (by rw[e];decide)]
   split<;>rfl
  rw[hx,if_pos (by rw[e];decide),e]
end Go.Proofs.YtdjoffgkndncfaaGreat
