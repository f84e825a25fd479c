/-
  Texts of the proof.
-/
import Derived.Test.YtdjoffgkndncfaaGreatEOrderPAX
import Derived.Test.YtdjoffgkndncfaaGreatEOrderPBM
set_option linter.unusedVariables false
set_option linter.unusedSimpArgs false
namespace Go.Proofs.YtdjoffgkndncfaaGreat
open Go Go.ChangeShapes Go.WideShapes Go.ChangeAt Go.RowKit Go.Joins Go.Deep
open Go.Proofs.YtdjoffgkndncfaaGreat.Ft (V3 vV okV ValsAt inlineB legalB packF codeF typedF allF oneF allAt headF fitsL fitsV fitsF belowW isA unpackF)
def jMJ (d:List UInt8) (typ wid at_:Int) (t:Tr):Bool:=if jGC typ=true then jDi d typ 0 0 wid at_ t else jEs d typ wid at_ t
theorem jOb {typ:Int} (h:jGC typ=true):typ=4∨typ=5∨typ=25∨typ=6∨typ=7:=by
 unfold jGC at h
 simp only[Bool.or_eq_true,decide_eq_true_eq] at h
 omega
theorem jOc {d:List UInt8} {typ pos par wid at_:Int} {t:Tr} (h:jGC typ=true):jDi d typ pos par wid at_ t=jDi d typ 0 0 wid at_ t:=by
 rcases jOb h with rfl|rfl|rfl|rfl|rfl<;>rfl
def jMK (v:V3) (t:Tr):Prop:=
 (v=(0,1,0)∧t=.mk 1 0 0 EMB [] [])∨(∃b:Bool,v=jAL b∧t=.mk 2 (if b then 1 else 0) 0 EMB [] []) ∨
 (∃n,jAV n∧v=jAn n∧t=.mk 3 n 0 EMB [] [])∨(∃u,jAv u∧v=jAo u∧t=.mk 4 0 u EMB [] [])
structure farV (d:List UInt8) (v:V3) (t:Tr):Prop where
 far:inlineB v.1=false
 legal:legalB v.1=true
 isw:isW v.2.1=true
 n0:0≤v.2.2
 n1:v.2.2≤d.length
 lim:v.2.2 - jA3 v.1*v.2.1 < d.length
 body:∀e,jMJ (d++e) v.1 v.2.1 v.2.2 t=true
def Tells (d:List UInt8) (v:V3) (t:Tr):Prop:=jMK v t∨farV d v t
theorem Tells.more {d:List UInt8} {v:V3} {t:Tr} (h:Tells d v t) (e:List UInt8):Tells (d++e) v t:=by
 rcases h with h|h
 ·exact .inl h
 ·refine .inr ⟨h.far,h.legal,h.isw,h.n0,?_,?_,fun f=>by rw[List.append_assoc];exact h.body _⟩
  ·have:=h.n1;rw[List.length_append];omega
  ·have:=h.lim;rw[List.length_append];omega
theorem jCk {v:V3} {t:Tr} (h:jMK v t):inlineB v.1=true∧legalB v.1=true∧isW v.2.1=true∧0≤v.2.2∧v.2.2≤18446744073709551615:=by
 rcases h with ⟨rfl,_⟩|⟨b,rfl,_⟩|⟨n,hn,rfl,_⟩|⟨u,hu,rfl,_⟩
 ·exact⟨by decide,by decide,rfl,by decide,by decide⟩
 ·cases b<;>exact⟨by decide,by decide,rfl,by decide,by decide⟩
 ·exact⟨by show inlineB 1=true;decide,by show legalB 1=true;decide,jEf n,by show 0≤n % _;omega,by show n % _≤_;omega⟩
 ·unfold jAv at hu
  exact⟨by show inlineB 2=true;decide,by show legalB 2=true;decide,jA2 _,hu.1,hu.2⟩
theorem Tells.near {d:List UInt8} {v:V3} {t:Tr} (h:Tells d v t) (hd:d.length≤1048576):jEI d.length v:=by
 rcases h with h|h
 ·obtain⟨h1,h2,h3,h4,h5⟩:=jCk h
  refine⟨?_,⟨h4,h5⟩,fun _=>(jq h3).2,fun e=>(by rw[h1] at e;cases e)⟩
  unfold jZ;rw[if_pos h2,if_pos h1]
 ·have h1:=h.n1
  refine⟨?_,And.intro h.n0 (by omega),fun e=>(by rw[h.far] at e;cases e),fun _=>h.n1⟩
  unfold jZ;rw[if_pos h.legal,if_neg (by rw[h.far];decide),if_pos h.isw]
theorem jML {n x:Int} (hx:isW x=true) (hn:jAV n) (hw:jDP n≤x):sgnF (jz (n % 18446744073709551616) x) x=n:=by
 unfold jAV at hn
 unfold jDP at hw
 rcases ju hx with rfl|rfl|rfl|rfl
 all_goals
  unfold jz sgnF
  simp only[Int.reduceToNat,Nat.reduceMul,Nat.reduceSub,Int.reducePow]
  split at hw
  ·split<;>omega
  split at hw
  ·split<;>omega
  split at hw
  ·split<;>omega
  ·split<;>omega
theorem jMM {u x:Int} (hx:isW x=true) (hu:jAv u) (hw:Ft.widthOf u.toNat≤x):jz u x=u:=by
 unfold jAv at hu
 unfold Ft.widthOf at hw
 have p8:(2:Nat) ^ 8=256:=by decide
 have p16:(2:Nat) ^ 16=65536:=by decide
 have p32:(2:Nat) ^ 32=4294967296:=by decide
 rw[p8,p16,p32] at hw
 rcases ju hx with rfl|rfl|rfl|rfl
 all_goals
  unfold jz
  simp only[Int.reduceToNat,Nat.reduceMul,Int.reducePow]
  repeat' split at hw
  all_goals omega
theorem jA9 (k n u:Int) (s:ByteArray):jEP (.mk k n u s [] []) k n u s=true:=bare_iff.2 rfl
theorem jFb {d:List UInt8} {p x u:Int} (h:jAy d p x=(u,0)) (h1:u≤9007199254740992):jBl d p x=(u,true):=by
 unfold jBl
 rw[h]
 simp only[Int.min_eq_left h1,decide_true,Bool.true_and,decide_eq_true h1]
theorem jOd {x p:Int} {v:V3} (h:inlineB v.1=false):jCU x p v=p - v.2.2:=by unfold jCU;rw[h];simp
theorem jNF {x p:Int} {v:V3} (h:inlineB v.1=true):jCU x p v=jz v.2.2 x:=by unfold jCU;rw[if_pos h]
theorem jIR {d0 e:List UInt8} {v:V3} {t:Tr} {p x lim:Int} (h:Tells d0 v t) (hx:isW x=true) (hl:jAy (d0++e) p x=(jCU x p v,0)) (hi:inlineB v.1=true→v.2.1≤x) (hp:(d0.length:Int)≤p) (hp2:p≤9007199254740992) (hlim:(d0.length:Int)≤lim) :
 jFj (d0++e) v.1 p x (if inlineB v.1 then x else v.2.1) lim t=true:=by
 rw[jGH]
 rcases h with h|h
 ·obtain⟨h1,h2,h3,h4,h5⟩:=jCk h
  rw[if_pos h1,if_neg (by rw[hx,h2];decide),if_pos h1]
  have hwd:=hi h1
  rw[jNF h1] at hl
  rcases h with ⟨rfl,rfl⟩|⟨b,rfl,rfl⟩|⟨n,hn,rfl,rfl⟩|⟨u,hu,rfl,rfl⟩
  ·show nullF _ p x _=true
   unfold nullF
   rw[hl,jA9]
   rfl
  ·show boolF _ p x _=true
   unfold boolF
   rw[hl]
   have hp:=jq hx
   have h0:jz (jAL b).2.2 x=if b then 1 else 0:=by
    rcases ju hx with rfl|rfl|rfl|rfl<;>cases b<;>decide
   rw[h0]
   cases b
   ·simp only[Bool.false_eq_true,if_false,if_true];rw[jA9];rfl
   ·simp only[if_true];rw[if_neg (by decide),jA9];rfl
  ·rw[show jDi (d0++e) (jAn n).1 p x x 0 (.mk 3 n 0 EMB [] [])=intF (d0++e) p x (.mk 3 n 0 EMB [] []) from rfl]
   unfold intF jDF
   rw[jG1 hl,hl]
   rw[show (jAn n).2.2=n % 18446744073709551616 from rfl,jML hx hn hwd]
   simp only[Tr.kind,jA9,ne_eq,not_true_eq_false,if_false,if_true,decide_true,Bool.and_self]
  ·rw[show jDi (d0++e) (jAo u).1 p x x 0 (.mk 4 0 u EMB [] [])=uintF (d0++e) p x (.mk 4 0 u EMB [] []) from rfl]
   unfold uintF jDF
   rw[hl]
   rw[show (jAo u).2.2=u from rfl,jMM hx hu hwd]
   simp only[Tr.kind,jA9,ne_eq,not_true_eq_false,if_false,decide_true,Bool.and_self]
   rw[if_neg (by decide)]
   rfl
 ·rw[h.far]
  simp only[Bool.false_eq_true,if_false]
  rw[if_neg (by rw[hx,h.isw,h.legal];decide)]
  have hN:=h.n0
  have hN1:=h.n1
  rw[jOd h.far] at hl
  have hnum:=jFb hl (by omega)
  have hfb:jGd (d0++e) v.1 p x v.2.1 lim=true:=by
   unfold jGd
   rw[hnum]
   have:=h.lim
   simp only[Bool.true_and,Bool.and_eq_true,decide_eq_true_eq]
   omega
  rw[if_neg (by rw[hfb];decide),hnum]
  have hb:=h.body e
  unfold jMJ at hb
  rw[show p - (p - v.2.2,true).1=v.2.2 by simp only;omega]
  split
  ·rename_i hf
   rw[if_pos hf] at hb
   rw[jOc hf];exact hb
  ·rename_i hf
   rw[if_neg hf] at hb
   exact hb
theorem jOe {d:List UInt8} {p x w1 w2 lim:Int} {t:Tr} (h1:isW w1=true) (h2:isW w2=true):jFj d 4 p x w1 lim t=jFj d 4 p x w2 lim t:=by
 have ha:jA3 4=0:=by decide
 have hfb:jGd d 4 p x w1 lim=jGd d 4 p x w2 lim:=by unfold jGd;rw[ha];simp
 rw[jGH,jGH,h1,h2,hfb]
 rfl
structure HeldB (x p:Int) (tagged:Bool) (b X:List UInt8) (l:List V3):Prop where
 head:X.take b.length=b
 len:(X.length:Int)=p+x*l.length+(if tagged then (l.length:Int) else 0)
 elem:∀(k:Nat) (v:V3),l[k]? = some v→jAy X (p+k*x) x=(jCU x (p+k*x) v,0)
 tag:tagged=true→∀(k:Nat) (v:V3),l[k]? = some v→X[(p+l.length*x).toNat+k]? = some (jBQ x v)
theorem heldB {b:List UInt8} {l:List V3} {x p:Int} {len tagged:Bool} (hn:b.length≤1048576) (hl:l.length≤1048576) (h:∀v∈l,jEI b.length v) (hx:allF l (0,0,0) b.length (if len then 1 else 0)=x) (hp:(b.length:Int)+jW b x+(if len then x else 0)=p) :
 isW x=true∧HeldB x p tagged b (b++(jBC x len tagged b l).flatten) l∧(p - (if len then x else 0)) % x=0∧(b.length:Int)≤p - (if len then x else 0)∧p - (if len then x else 0) < b.length+x∧(len=true→jAy (b++(jBC x len tagged b l).flatten) (p - x) x=((l.length:Int),0))∧(∀v∈l,inlineB v.1=true→v.2.1≤x):=by
 obtain⟨_,x0,hw,hall⟩:=jFU (n:=b.length) (ahead:=if len then 1 else 0) (by cases len<;>simp) (by omega) (by omega) hl h
 rw[hx] at hw hall
 have hwp:=jq hw
 have hfit:fitsL l b.length (if len then 1 else 0) x=true:=by
  have h:=hall
  unfold allAt at h
  simp only[Bool.and_eq_true] at h
  exact h.2
 have hpad:=jEn (l:=b) hw
 have hpe:=jFS hw b
 have hfe:fitE x p l:=jE3 hw l (if len then 1 else 0) p (by rw[← hp,hpe];cases len<;>simp) (by cases len<;>simp) hfit
 have hlenf:len=true→(l.length:Int) < 2 ^ (8*x.toNat):=by
  intro hl1
  subst hl1
  have h:=hall
  unfold allAt headF at h
  simp only[Bool.and_eq_true,belowW] at h
  have:=h.1.1
  simpa using this
 have hpieces:(jBC x len tagged b l).flatten=(jX (jW b x)++(if len then jk x.toNat l.length else []))++(jCm x p l).flatten++(if tagged then l.map (jBQ x) else []):=by
  unfold jBC
  rw[hp]
  cases len<;>cases tagged<;>simp[jE4]
 have hAl:((b++(jX (jW b x)++(if len then jk x.toNat l.length else []))).length:Int)=p:=by
  rw[← hp]
  cases len<;>simp[jN,jT]<;>omega
 have hEl:=jCK hw l p
 refine⟨hw,⟨?_,?_,?_,?_⟩,?_,?_,?_,?_,?_⟩
 ·exact List.take_left' rfl
 ·rw[hpieces]
  rw[← List.append_assoc,← List.append_assoc,List.length_append,List.length_append]
  cases tagged
  ·simp only[Bool.false_eq_true,if_false,List.length_nil] at hAl⊢;omega
  ·simp only[if_true,List.length_map] at hAl⊢;omega
 ·intro k v hk
  obtain⟨A,C,hA,hAk⟩:=jI9 hw l p k v hk
  have hb:=jGz l p k v hfe hk
  refine jCL (A:=b++(jX (jW b x)++(if len then jk x.toNat l.length else []))++A) (C:=C++(if tagged then l.map (jBQ x) else [])) hw ?_ ?_ hb.1 hb.2
  ·rw[hpieces,hA];simp only[List.append_assoc]
  ·rw[List.length_append];omega
 ·intro ht k v hk
  subst ht
  have hXl:(b++(jX (jW b x)++(if len then jk x.toNat l.length else []))++(jCm x p l).flatten).length=(p+l.length*x).toNat:=by
   rw[List.length_append]
   have:(l.length:Int)*x=x*l.length:=Int.mul_comm _ _
   omega
  rw[hpieces,← List.append_assoc,← List.append_assoc,← hXl,List.getElem?_append_right (by omega),Nat.add_sub_cancel_left,if_pos rfl,List.getElem?_map,hk]
  rfl
 ·have:p - (if len then x else 0)=((b.length:Int)+x - 1) / x*x:=by rw[← hp,← hpe];cases len<;>simp<;>omega
  rw[this]
  exact Int.mul_emod_left _ _
 ·rw[← hp];cases len<;>simp<;>omega
 ·rw[← hp];cases len<;>simp<;>omega
 ·intro hl1
  subst hl1
  simp only[if_true] at hp hpieces hAl⊢
  refine jCL (A:=b++jX (jW b x)) (C:=(jCm x p l).flatten++(if tagged then l.map (jBQ x) else [])) hw ?_ ?_ (by omega) (hlenf rfl)
  ·rw[hpieces];simp only[List.append_assoc,Int.toNat_natCast]
  ·rw[List.length_append,jN];omega
 ·intro v hv hi
  obtain⟨k,hk,hkv⟩:=List.getElem_of_mem hv
  have:=jFV l _ _ x k v hfit (by rw[List.getElem?_eq_getElem hk,hkv])
  unfold fitsV fitsF at this
  rw[if_pos hi] at this
  exact of_decide_eq_true this
def TellsL (d:List UInt8) (l:List V3) (ts:List Tr):Prop:=l.length=ts.length∧∀(i:Nat) v t,l[i]? = some v→ts[i]? = some t→Tells d v t
theorem TellsL.more {d:List UInt8} {l:List V3} {ts:List Tr} (h:TellsL d l ts) (e:List UInt8):TellsL (d++e) l ts:=⟨h.1,fun i v t hv ht=>(h.2 i v t hv ht).more e⟩
theorem TellsL.near {d:List UInt8} {l:List V3} {ts:List Tr} (h:TellsL d l ts) (hd:d.length≤1048576):∀v∈l,jEI d.length v:=by
 intro v hv
 obtain⟨k,hk,rfl⟩:=List.getElem_of_mem hv
 have hk2:k < ts.length:=by rw[← h.1];exact hk
 exact (h.2 k _ _ (List.getElem?_eq_getElem hk) (List.getElem?_eq_getElem hk2)).near hd
theorem TellsL.nil (d:List UInt8):TellsL d [] []:=⟨rfl,fun i v t h=>by simp at h⟩
theorem TellsL.cons {d:List UInt8} {v:V3} {t:Tr} {l:List V3} {ts:List Tr} (h:Tells d v t) (hl:TellsL d l ts):TellsL d (v::l) (t::ts):=by
 refine⟨by simp[hl.1],fun i x y hx hy=>?_⟩
 cases i with
 | zero=>simp at hx hy;subst hx hy;exact h
 | succ i=>exact hl.2 i x y (by simpa using hx) (by simpa using hy)
theorem jKk {X e:List UInt8} {i:Nat} {c:UInt8} (h:X[i]? = some c):(X++e)[i]? = some c:=by
 rw[List.getElem?_append_left (List.getElem?_eq_some_iff.1 h).1];exact h
theorem jIS {b:List UInt8} {l:List V3} {ts:List Tr} {x p typ kd many:Int} {len tagged:Bool} (ht:TellsL b l ts) (hn:b.length≤1048576) (hl:l.length≤65536) (hx:allF l (0,0,0) b.length (if len then 1 else 0)=x) (hp:(b.length:Int)+jW b x+(if len then x else 0)=p)
 (hs:jAg typ=(kd,many)) (h17:kd≠17) (hg:jCE kd=tagged) (hm:if len then many=0 else many≠0∧(ts.length:Int)=many) (hty:tagged=false→∀v∈l,v.1=(Ft.elemF typ).1∧(inlineB v.1=true∨v.1=4)) (e:List UInt8) :
 jEs (b++(jBC x len tagged b l).flatten++e) typ x p (.mk kd 0 0 EMB [] ts)=true:=by
 obtain⟨hw,hH,hmod,hge,hlt,hlen,hin⟩:=heldB (tagged:=tagged) hn (by omega) (ht.near hn) hx hp
 have hwp:=jq hw
 have hpl:(b.length:Int)≤p:=by cases len<;>simp at hge<;>omega
 have hpu:p < b.length+x+x:=by cases len<;>simp at hlt<;>omega
 have hmul0:0≤x*(l.length:Int):=Int.mul_nonneg (by omega) (by omega)
 have hmul8:x*(l.length:Int)≤8*l.length:=Int.mul_le_mul_of_nonneg_right hwp.2 (by omega)
 have hcomm:(l.length:Int)*x=x*l.length:=Int.mul_comm _ _
 obtain⟨hl1,hl2⟩:=ht
 obtain⟨R,hR⟩:∃R,(jBC x len tagged b l).flatten=R:=⟨_,rfl⟩
 rw[hR] at hH hlen⊢
 have hmany:(kd,many).2=many:=rfl
 unfold jEs
 simp only[Tr.kids,Bool.and_eq_true]
 refine⟨front_iff.2 ⟨by rw[hs],rfl,rfl,rfl,fun _=>rfl,?_,?_,?_,fun h=>by rw[hs] at h;exact absurd h h17⟩,kids_iff.2 fun j t hj=>?_⟩
 ·cases len
  ·simpa using hmod
  ·simp only[if_true] at hmod
   have:p=(p - x)+x:=by omega
   rw[this,Int.add_emod_right];exact hmod
 ·rw[hs,hg,← hl1]
  have:=hH.len
  rw[List.length_append]
  cases tagged
  ·simp only[Bool.false_eq_true,if_false] at this⊢;omega
  ·simp only[if_true] at this⊢;omega
 ·rw[hs]
  dsimp only
  cases len
  ·simp only[Bool.false_eq_true,if_false] at hm
   rw[if_neg hm.1];exact hm.2
  ·simp only[if_true] at hm
   rw[if_pos hm,jFb (jB8 (hlen rfl)) (by omega),hl1]
   exact⟨rfl,rfl⟩
 ·rw[Nat.zero_add]
  obtain⟨v,hv⟩:∃v,l[j]? = some v:=by
   have:j < ts.length:=(List.getElem?_eq_some_iff.1 hj).1
   exact⟨_,List.getElem?_eq_getElem (by omega)⟩
  have hjl:j < l.length:=(List.getElem?_eq_some_iff.1 hv).1
  have htv:=hl2 j v t hv hj
  have hjx:0≤(j:Int)*x:=Int.mul_nonneg (by omega) (by omega)
  have hjx8:(j:Int)*x≤j*8:=Int.mul_le_mul_of_nonneg_left hwp.2 (by omega)
  have hload:=jB8 (Z:=e) (hH.elem j v hv)
  have hfirst:(b.length:Int)≤jDk typ x p:=by
   unfold jDk
   rw[hs]
   dsimp only
   rw[if_neg h17]
   cases len
   ·simp only[Bool.false_eq_true,if_false] at hm
    rw[if_neg hm.1];exact hpl
   ·simp only[if_true] at hm hge
    rw[if_pos hm];exact hge
  have hE:=jIR (e:=R++e) htv hw (by rw[← List.append_assoc];exact hload) (hin v (List.mem_of_getElem? hv)) (by omega) (by omega) hfirst
  rw[← List.append_assoc] at hE
  unfold jDG
  rw[hs,hg,← hl1]
  cases tagged
  ·simp only[Bool.false_eq_true,if_false]
   obtain⟨e1,e2⟩:=hty rfl v (List.mem_of_getElem? hv)
   rw[← e1]
   refine⟨trivial,?_⟩
   rcases e2 with e2|e2
   ·rw[if_pos e2] at hE;exact hE
   ·have hi4:inlineB v.1=false:=by rw[e2];decide
    rw[hi4] at hE
    simp only[Bool.false_eq_true,if_false] at hE
    have hw4:isW v.2.1=true:=by
     rcases htv with h|h
     ·exact (jCk h).2.2.1
     ·exact h.isw
    rw[e2] at hE⊢
    rw[jOe hw hw4];exact hE
  ·simp only[if_true]
   have hT:=jKk (e:=e) (hH.tag rfl j v hv)
   have hq:(p+(l.length:Int)*x+(j:Int)).toNat=(p+(l.length:Int)*x).toNat+j:=by omega
   rw[hq,hT]
   simp only[Option.getD_some]
   have hle:jZ v=0:=(htv.near hn).1
   rw[jG0 hw hle]
   exact⟨rfl,hE⟩
structure KeysV (d:List UInt8) (v:V3) (names:List ByteArray):Prop where
 typ:v.1=14
 isw:isW v.2.1=true
 n0:0≤v.2.2
 n1:v.2.2≤d.length
 lim:v.2.2 - v.2.1 < d.length
 body:∀e,jIw (d++e) v.2.1 v.2.2 names=true
theorem KeysV.more {d:List UInt8} {v:V3} {names:List ByteArray} (h:KeysV d v names) (e:List UInt8):KeysV (d++e) v names:=
 ⟨h.typ,h.isw,h.n0,by have:=h.n1;rw[List.length_append];omega,by have:=h.lim;rw[List.length_append];omega,fun f=>by rw[List.append_assoc];exact h.body _⟩
def jDy (k:ByteArray):Tr:=.mk 5 0 0 k [] []
theorem jLg {b:List UInt8} {l:List V3} {names:List ByteArray} {x p:Int} (ht:TellsL b l (names.map jDy)) (h4:∀v∈l,v.1=4) (hn:b.length≤1048576) (hl:l.length≤65536) (hx:allF l (0,0,0) b.length 1=x) (hp:(b.length:Int)+jW b x+x=p) (e:List UInt8) :
 jIw (b++(jBC x true false b l).flatten++e) x p names=true:=by
 have hL:=jIS (len:=true) (tagged:=false) (typ:=14) (kd:=13) (many:=0) ht hn hl (by simpa using hx) (by simpa using hp) (by decide) (by decide) (by decide) (by simp) (fun _ v hv=>⟨by rw[h4 v hv];decide,.inr (h4 v hv)⟩) e
 unfold jEs at hL
 simp only[Tr.kids,Bool.and_eq_true] at hL
 obtain⟨h1,h2⟩:=hL
 have hF:=front_iff.1 h1
 have hfx:=hF.fix
 have hrm:=hF.room
 have hmy:=hF.many
 have e14:jAg 14=(13,0):=by decide
 rw[e14] at hrm hmy
 simp only[if_true,List.length_map] at hmy
 rw[List.length_map,show jCE (13,0).1=false by decide] at hrm
 simp only[Bool.false_eq_true,if_false,Int.add_zero] at hrm
 generalize b++(jBC x true false b l).flatten++e=D at *
 unfold jIw
 simp only[Bool.and_eq_true,decide_eq_true_eq]
 refine⟨⟨⟨hfx,hrm⟩,hmy⟩,names_iff.2 fun j k hk=>?_⟩
 have hkk:=kids_iff.1 h2 j (jDy k) (by rw[List.getElem?_map,hk];rfl)
 unfold jDG at hkk
 rw[e14,show jCE (13,0).1=false by decide] at hkk
 simp only[Bool.false_eq_true,if_false,true_and,Nat.zero_add,show (Ft.elemF 14).1=4 by decide] at hkk
 have hfirst:jDk 14 x p=p - x:=by unfold jDk;rw[e14];rfl
 rw[hfirst] at hkk
 rw[Nat.zero_add]
 obtain⟨_,hc⟩:=jLM hkk
 rcases hc with ⟨hnr,_⟩|⟨_,hfb,_,hlk⟩|⟨_,_,hft,_⟩
 ·exact absurd hnr (by decide)
 ·unfold jIv
  rw[hfb,Bool.true_and]
  have hkf:keyF D (p+(j:Int)*x - (jBl D (p+(j:Int)*x) x).1) (jDy k)=true:=hlk
  unfold keyF at hkf
  simp only[Bool.and_eq_true] at hkf⊢
  exact⟨hkf.1.2,hkf.2⟩
 ·exact absurd hft (by decide)
theorem jOf {b:List UInt8} {k:V3} {l:List V3} {ts:List Tr} {names:List ByteArray} {x p:Int} (ht:TellsL b l ts) (hk:KeysV b k names) (hi:incB names=true) (hnl:names.length=ts.length) (hn:b.length≤1048576) (hl:l.length≤65536)
 (hx:allF l k b.length 3=x) (hp:(b.length:Int)+jW b x+3*x=p) (e:List UInt8):jEs (b++(jBc x k b l).flatten++e) 9 x p (.mk 17 0 0 EMB names ts)=true:=by
 have hK:jFt b.length k:=⟨hk.typ,hk.isw,hk.n0,hk.n1⟩
 obtain⟨hw,hH,hmod,hge,hlt,hin,hkn⟩:=heldM hn (by omega) (ht.near hn) hK hx hp
 have hwp:=jq hw
 have hkp:=jq hk.isw
 have hmul0:0≤x*(l.length:Int):=Int.mul_nonneg (by omega) (by omega)
 have hmul8:x*(l.length:Int)≤8*l.length:=Int.mul_le_mul_of_nonneg_right hwp.2 (by omega)
 have hcomm:(l.length:Int)*x=x*l.length:=Int.mul_comm _ _
 obtain⟨hl1,hl2⟩:=ht
 obtain⟨R,hR⟩:∃R,(jBc x k b l).flatten=R:=⟨_,rfl⟩
 rw[hR] at hH⊢
 have hs:jAg 9=(17,0):=by decide
 have hg:jCE 17=true:=by decide
 have hk0:=hk.n0
 have hk1:=hk.n1
 have hk2:=hk.lim
 have hbody:=hk.body (R++e)
 rw[← List.append_assoc] at hbody
 unfold jEs
 simp only[Tr.kids,Bool.and_eq_true]
 refine⟨front_iff.2 ⟨by rw[hs],rfl,rfl,rfl,fun h=>absurd (by rw[hs]) h,?_,?_,?_,fun _=>⟨by omega,hnl,?_⟩⟩,kids_iff.2 fun j t hj=>?_⟩
 ·have:p=(p - 3*x)+3*x:=by omega
  rw[this,Int.add_mul_emod_self_right];exact hmod
 ·rw[hs,hg,← hl1]
  have:=hH.len
  rw[List.length_append]
  simp only[if_true]
  omega
 ·rw[hs]
  dsimp only
  rw[if_pos rfl,jFb (jB8 hH.many) (by omega),hl1]
  exact⟨rfl,rfl⟩
 ·have n1:=jFb (jB8 (Z:=e) hH.off) (by omega)
  have n2:=jFb (jB8 (Z:=e) hH.wide) (by omega)
  have e2:p - 3*x+x=p - 2*x:=by omega
  unfold keysF
  rw[e2,n1,n2]
  simp only[hk.isw,hi,Bool.true_and,Bool.and_true,Bool.and_eq_true,decide_eq_true_eq]
  have e3:p - 3*x - (p - 3*x - k.2.2)=k.2.2:=by omega
  rw[e3]
  exact⟨⟨by omega,by omega⟩,hbody⟩
 ·rw[Nat.zero_add]
  obtain⟨v,hv⟩:∃v,l[j]? = some v:=by
   have:j < ts.length:=(List.getElem?_eq_some_iff.1 hj).1
   exact⟨_,List.getElem?_eq_getElem (by omega)⟩
  have hjl:j < l.length:=(List.getElem?_eq_some_iff.1 hv).1
  have htv:=hl2 j v t hv hj
  have hjx:0≤(j:Int)*x:=Int.mul_nonneg (by omega) (by omega)
  have hjx8:(j:Int)*x≤j*8:=Int.mul_le_mul_of_nonneg_left hwp.2 (by omega)
  have hload:=jB8 (Z:=e) (hH.elem j v hv)
  have hfirst:(b.length:Int)≤jDk 9 x p:=by
   unfold jDk
   rw[hs]
   simp only[if_true]
   exact hge
  have hE:=jIR (e:=R++e) htv hw (by rw[← List.append_assoc];exact hload) (hin v (List.mem_of_getElem? hv)) (by omega) (by omega) hfirst
  rw[← List.append_assoc] at hE
  unfold jDG
  rw[hs,hg,← hl1]
  simp only[if_true]
  have hT:=jKk (e:=e) (hH.tag j v hv)
  have hq:(p+(l.length:Int)*x+(j:Int)).toNat=(p+(l.length:Int)*x).toNat+j:=by omega
  rw[hq,hT]
  simp only[Option.getD_some]
  have hle:jZ v=0:=(htv.near hn).1
  rw[jG0 hw hle]
  exact⟨rfl,hE⟩
def jCM (most flags k n u:Int) (s:ByteArray) (x:BS):BS:=
 if k=1 then x.inline (0,1,0) else if k=2 then x.inline (jAL (decide (n=1))) else if k=3 then x.inline (jAn n) else if k=4 then x.inline (jAo u)
 else if k=8 then x.apart most 6 (jAn n) else if k=9 then x.apart most 7 (jAo u) else if k=5 then x.key most (onF flags 1) s else if k=6 then x.str most (onF flags 2) s else if k=7 then x.blob most s else x
mutual
def jf (most flags:Int):Tr→BS→BS
 | .mk k n u s keys l,x=>
  if k=11 then x.vector most 1 0 (l.map fun t=>jAn t.fn) else if k=12 then x.vector most 2 0 (l.map fun t=>jAo t.fu)
  else if k=14 then x.vector most 26 0 (l.map fun t=>jAL (decide (t.fn=1))) else if k=13 then x.keyVec most (onF flags 1) (l.map Tr.fs)
  else if k=15 then x.fixed most 1 (l.map fun t=>jAn t.fn) else if k=16 then x.fixed most 2 (l.map fun t=>jAo t.fu)
  else if k=10 then (jAS most flags l x).endVec most x.stk.length
  else if k=17 then (jAl most flags l keys x).endMap most (onF flags 4) x.stk.length
  else jCM most flags k n u s x
def jAS (most flags:Int):List Tr→BS→BS
 | [],x=>x
 | t::r,x=>jAS most flags r (jf most flags t x)
def jAl (most flags:Int):List Tr→List ByteArray→BS→BS
 | [],_,x=>x
 | t::r,ks,x=>jAl most flags r ks.tail (jf most flags t (x.key most (onF flags 1) (ks.headD EMB)))
end
mutual
def jCr:Tr→Nat | .mk k n u s keys l=>64+s.size+(keys.map fun k=>k.size+32).sum+jBb l
def jBb:List Tr→Nat | []=>0 | t::r=>jCr t+32+jBb r
end
structure Inv (x:BS):Prop where
 e0:x.e=0
 s0:x.s.2=0
 keys:∀z∈x.keys,Tells x.s.1 (4,1,z.2) (jDy z.1)∧jAB x.names z.2=z.1
 texts:∀z∈x.texts,Tells x.s.1 (5,Ft.widthOf z.1.size,z.2) (.mk 6 0 0 z.1 [] [])
 lists:∀z∈x.lists,0≤z.2∧∃v names,x.vals[z.2.toNat]? = some v∧KeysV x.s.1 v names∧jo names=z.1∧∀k∈names,jAx k=0
 names:∀z∈x.names,z.1 < x.s.1.length
 vals:x.vals.length≤x.s.1.length
theorem Inv.s {x:BS} (h:Inv x):x.s=(x.s.1,0):=by
 have:=h.s0
 rw[← this]
theorem Inv.new:Inv BS.new:=⟨rfl,rfl,fun z h=>absurd h List.not_mem_nil,fun z h=>absurd h List.not_mem_nil,fun z h=>absurd h List.not_mem_nil,fun z h=>absurd h List.not_mem_nil,Nat.zero_le _⟩
theorem Inv.ext {x:BS} (h:Inv x) (e:List UInt8) (k:List V3):Inv {x with s:=(x.s.1++e,0),stk:=k}:=
 ⟨h.e0,rfl,fun z hz=>⟨(h.keys z hz).1.more e,(h.keys z hz).2⟩,fun z hz=>(h.texts z hz).more e,fun z hz=>by
  obtain⟨h0,v,nm,h1,h2,h3⟩:=h.lists z hz
  exact⟨h0,v,nm,h1,h2.more e,h3⟩,fun z hz=>by
  have:=h.names z hz
  show z.1 < ((x.s.1++e).length:Int)
  rw[List.length_append];omega,by
  have:=h.vals
  show x.vals.length≤(x.s.1++e).length
  rw[List.length_append];omega⟩
theorem Inv.stk {x:BS} (h:Inv x) (k:List V3):Inv {x with stk:=k}:=by
 have:=h.ext [] k
 rw[List.append_nil,← h.s] at this
 exact this
structure Pushed (x x':BS) (t:Tr) (c:Nat):Prop where
 inv:Inv x'
 grow:∃e,x'.s.1=x.s.1++e∧e.length≤c
 push:∃v,x'.stk=x.stk++[v]∧Tells x'.s.1 v t
 nms:∀a:Int,a < x.s.1.length→jAB x'.names a=jAB x.names a
theorem jHH {l:jAX} {k:ByteArray} {a:Int} (h:jAa l k=(a,true)):(k,a)∈l:=by
 unfold jAa at h
 split at h
 ·rename_i hh
  have hlt:=jGI hh
  have hg:(jC3 l).getD (jAs l k) 0=(l[jAs l k]).2:=by simp[jC3,List.getD_eq_getElem?_getD,hlt]
  rw[hg] at h
  injection h with h1 h2
  have h3:=of_decide_eq_true hh
  unfold jDZ at h3
  rw[List.getElem?_map,List.getElem?_eq_getElem hlt] at h3
  simp only[Option.map_some,Option.some.injEq] at h3
  have:l[jAs l k]=(k,a):=Prod.ext h3 h1
  rw[← this]
  exact List.getElem_mem hlt
 ·injection h with _ h2;cases h2
theorem jIT {names:List (Int × ByteArray)} {a b:Int} {k:ByteArray} (h:a≠b):jAB (names++[(b,k)]) a=jAB names a:=by
 unfold jAB
 rw[List.find?_append]
 cases names.find? (fun q=>decide (q.1=a)) with
 | some q=>rfl
 | none=>
  have:List.find? (fun q:Int × ByteArray=>decide (q.1=a)) [(b,k)]=none:=by simp[Ne.symm h]
  rw[this];rfl
theorem jIU {names:List (Int × ByteArray)} {b:Int} {k:ByteArray} (h:∀z∈names,z.1≠b):jAB (names++[(b,k)]) b=k:=by
 unfold jAB
 rw[List.find?_append]
 have:names.find? (fun q=>decide (q.1=b))=none:=by
  rw[List.find?_eq_none]
  intro z hz
  simpa using h z hz
 rw[this]
 simp
theorem jFc (k:ByteArray):jL [k,⟨#[0]⟩]=(jGB k).data.toList:=by
 rw[jMp]
 simp[jL]
theorem jHI {b e:List UInt8} {s:ByteArray} {at_:Int} (h:at_=b.length):jJr (b++s.data.toList++e) at_ s=true:=by
 subst h
 rw[has_iff]
 refine⟨by omega,?_,?_⟩
 ·rw[List.length_append,List.length_append,jFQ];omega
 ·rw[Int.toNat_natCast,List.append_assoc,List.drop_left,← jFQ,List.take_left' rfl]
theorem jNG {b:List UInt8} {k:ByteArray} (hk:jAx k=0):Tells (b++jL [k,⟨#[0]⟩]) (4,1,(b.length:Int)) (jDy k):=by
 refine .inr ⟨by show inlineB 4=false;decide,by show legalB 4=true;decide,rfl,by show (0:Int)≤b.length;omega,?_,?_,fun e=>?_⟩
 ·show (b.length:Int)≤_
  rw[List.length_append];omega
 ·show (b.length:Int) - jA3 4*1 < _
  rw[show jA3 4=0 by decide,List.length_append]
  have:=jEd k
  omega
 ·show keyF _ _ _=true
  unfold keyF
  rw[jFc]
  show (jEP (jDy k) 5 0 0 k && decide (jAx k=0) && jJr (b++(jGB k).data.toList++e) (b.length:Int) (jGB k))=true
  rw[jHI rfl]
  simp only[jDy,jA9,hk,decide_true,Bool.and_self]
theorem jLh {x:BS} (h:x.e=0):x.fail 0=x:=by
 obtain⟨s,e,stk,a,b,c,d,f⟩:=x
 dsimp only at h
 subst h
 rfl
theorem put_ok {most:Int} {sh:Bool} {k:ByteArray} {x:BS} (h:Inv x) (hk:jAx k=0) (hr:(x.s.1.length:Int)+(k.size+1)≤most) :
 ∃a e,(x.put most sh k).1=(4,1,a)∧Inv (x.put most sh k).2∧(x.put most sh k).2.s.1=x.s.1++e∧e.length≤k.size+1∧(x.put most sh k).2.stk=x.stk∧Tells (x.put most sh k).2.s.1 (4,1,a) (jDy k)∧jAB (x.put most sh k).2.names a=k ∧
  ∀c:Int,c < x.s.1.length→jAB (x.put most sh k).2.names c=jAB x.names c:=by
 unfold BS.put
 dsimp only
 rw[hk,jLh h.e0,if_neg (by rw[h.e0];decide)]
 by_cases hg:((jAa x.keys k).2 && sh)=true
 ·rw[if_pos hg]
  rw[Bool.and_eq_true] at hg
  have hm:jAa x.keys k=((jAa x.keys k).1,true):=by rw[← hg.1]
  have h1:=h.keys _ (jHH hm)
  exact⟨_,[],rfl,h,by simp,Nat.zero_le _,rfl,h1.1,h1.2,fun c _=>rfl⟩
 ·rw[if_neg hg]
  have hsz:(jL [k,⟨#[0]⟩]).length=k.size+1:=by rw[jFc,jFQ,jMh]
  have hs:je most (jL [k,⟨#[0]⟩]) x.s=(x.s.1++jL [k,⟨#[0]⟩],0):=by
   have:=jBH most x.s.1 (jL [k,⟨#[0]⟩]) (by rw[hsz];omega)
   rw[← h.s] at this
   exact this
  have ht:=jNG (b:=x.s.1) hk
  have hnb:∀z∈x.names,z.1≠(x.s.1.length:Int):=fun z hz e=>by have:=h.names z hz;omega
  refine⟨_,jL [k,⟨#[0]⟩],rfl,?_,by dsimp only;rw[hs],by rw[hsz];exact Nat.le_refl _,rfl,by dsimp only;rw[hs];exact ht,jIU hnb,fun c hc=>jIT (by omega)⟩
  dsimp only
  rw[hs]
  refine⟨rfl,rfl,fun z hz=>?_,fun z hz=>(h.texts z hz).more _,fun z hz=>?_,fun z hz=>?_,by have:=h.vals;show x.vals.length≤(x.s.1++_).length;rw[List.length_append];omega⟩
  ·rcases jDv hz with hz|⟨rfl,_⟩
   ·have h1:=h.keys z hz
    have hlt:z.2 < (x.s.1.length:Int):=by
     rcases h1.1 with hq|hq
     ·exact absurd (jCk hq).1 (by show ¬inlineB 4=true;decide)
     ·have:=hq.lim
      rw[show ((4:Int),(1:Int),z.2).1=4 from rfl,show jA3 4=0 by decide] at this
      simpa using this
    refine⟨h1.1.more _,?_⟩
    show jAB (x.names++[((x.s.1.length:Int),k)]) z.2=z.1
    rw[jIT (by omega)]
    exact h1.2
   ·exact⟨ht,jIU hnb⟩
  ·obtain⟨h0,v,nm,h1,h2,h3⟩:=h.lists z hz
   exact⟨h0,v,nm,h1,h2.more _,h3⟩
  ·show z.1 < ((x.s.1++jL [k,⟨#[0]⟩]).length:Int)
   rw[List.length_append,hsz]
   rcases List.mem_append.1 hz with hz|hz
   ·have:=h.names z hz;omega
   ·obtain rfl:=List.mem_singleton.1 hz
    show (x.s.1.length:Int) < _
    omega
theorem jC8 {x:BS} (h:Inv x) (v:V3) (hl:x.stk.length+1≤65536):x.push v={x with stk:=x.stk++[v]}:=jMG h.e0 h.s0 hl
theorem jOg {most:Int} {sh:Bool} {k:ByteArray} {x:BS} (h:Inv x) (hk:jAx k=0) (hr:(x.s.1.length:Int)+(k.size+1)≤most) (hl:x.stk.length+1≤65536) :
 Pushed x (x.key most sh k) (jDy k) (k.size+1)∧∃a,(x.key most sh k).stk=x.stk++[(4,1,a)]∧jAB (x.key most sh k).names a=k∧a < (x.key most sh k).s.1.length:=by
 obtain⟨a,e,h1,h2,h3,h4,h5,h6,h7,h8⟩:=put_ok (sh:=sh) h hk hr
 have hx:x.key most sh k={(x.put most sh k).2 with stk:=x.stk++[(4,1,a)]}:=by
  unfold BS.key
  rw[if_pos h.e0,jC8 h2 _ (by rw[h5];exact hl),h1,h5]
 rw[hx]
 have hlt:a < ((x.put most sh k).2.s.1.length:Int):=by
  rcases h6 with hq|hq
  ·exact absurd (jCk hq).1 (by show ¬inlineB 4=true;decide)
  ·have:=hq.lim
   rw[show ((4:Int),(1:Int),a).1=4 from rfl,show jA3 4=0 by decide] at this
   simpa using this
 exact⟨⟨h2.stk _,⟨e,h3,h4⟩,⟨_,rfl,h6⟩,h8⟩,a,rfl,h7,hlt⟩
theorem jEG {x:BS} {v:V3} {t:Tr} (h:Inv x) (hv:jMK v t) (hl:x.stk.length+1≤65536):Pushed x (x.inline v) t 0:=by
 have hx:x.inline v={x with stk:=x.stk++[v]}:=by unfold BS.inline;rw[if_pos h.e0,jC8 h v hl]
 rw[hx]
 exact⟨h.stk _,⟨[],by simp,Nat.le_refl _⟩,⟨v,rfl,.inl hv⟩,fun a _=>rfl⟩
theorem jOh {most w:Int} {b:List UInt8} (hw:isW w=true) (h:(b.length:Int)+7≤most):jF most w (b,0)=(b++jX (jW b w),0):=jG7 hw (by have:=jE8 b hw;omega)
theorem jMN {w:Int} (hw:isW w=true) (b:List UInt8):((b.length:Int)+jW b w) % w=0:=by rw[jFS hw];exact Int.mul_emod_left _ _
theorem jKl {most:Int} {x:BS} {v:V3} {sg:Int} {t:Tr} (h:Inv x) (hl:x.stk.length+1≤65536) (hr:(x.s.1.length:Int)+15≤most) (hmost:most≤1048576)
 (hv:(sg=6∧∃n,jAV n∧v=jAn n∧t=.mk 8 n 0 EMB [] [])∨(sg=7∧∃u,jAv u∧v=jAo u∧t=.mk 9 0 u EMB [] [])):Pushed x (x.apart most sg v) t 64:=by
 have hw:isW v.2.1=true:=by
  rcases hv with ⟨_,n,_,rfl,_⟩|⟨_,u,_,rfl,_⟩
  ·exact jEf n
  ·exact jA2 _
 have hwp:=jq hw
 have hpad:=jE8 x.s.1 hw
 obtain⟨b,hb⟩:∃b,x.s.1=b:=⟨_,rfl⟩
 have hxs:x.s=(b,0):=by rw[h.s,hb]
 rw[hb] at hr hpad
 have e1:jF most v.2.1 x.s=(b++jX (jW b v.2.1),0):=by rw[hxs];exact jOh hw (by omega)
 have hlow:=jLV v.2.2 v.2.1
 have e2:jU most v.2.1 (jz v.2.2 v.2.1) (jF most v.2.1 x.s)=(b++(jX (jW b v.2.1)++jk v.2.1.toNat (jz v.2.2 v.2.1).toNat),0):=by
  rw[e1,jCJ hw hlow.2,jBH _ _ _ (by rw[List.length_append,jN,jT];omega),List.append_assoc]
 have e3:(((jF most v.2.1 x.s).1.length:Nat):Int)=(b.length:Int)+jW b v.2.1:=by rw[e1];dsimp only;rw[List.length_append,jN];omega
 obtain⟨E,hE⟩:∃E,jX (jW b v.2.1)++jk v.2.1.toNat (jz v.2.2 v.2.1).toNat=E:=⟨_,rfl⟩
 rw[hE] at e2
 have hEl:(E.length:Int)=jW b v.2.1+v.2.1:=by rw[← hE,List.length_append,jN,jT];omega
 have hI:=h.ext E x.stk
 rw[hb] at hI
 have hx:x.apart most sg v={x with s:=(b++E,0),stk:=x.stk++[(sg,v.2.1,(b.length:Int)+jW b v.2.1)]}:=by
  unfold BS.apart
  rw[if_pos h.e0]
  dsimp only
  rw[e2,e3]
  exact jC8 (x:={x with s:=(b++E,0)}) hI _ hl
 rw[hx]
 have hload:∀e,jAy (b++E++e) ((b.length:Int)+jW b v.2.1) v.2.1=(jz v.2.2 v.2.1,0):=fun e=>jCL (A:=b++jX (jW b v.2.1)) (C:=e) hw (by rw[← hE];simp only[List.append_assoc]) (by rw[List.length_append,jN];omega) hlow.1 hlow.2
 have hI2:=h.ext E (x.stk++[(sg,v.2.1,(b.length:Int)+jW b v.2.1)])
 rw[hb] at hI2
 refine⟨hI2,⟨E,by rw[hb],by omega⟩,⟨_,rfl,.inr ?_⟩,fun a _=>rfl⟩
 have hmod:=jMN hw b
 have hlen:(((b++E).length:Nat):Int)=b.length+jW b v.2.1+v.2.1:=by rw[List.length_append];omega
 rcases hv with ⟨rfl,n,hn,rfl,rfl⟩|⟨rfl,u,hu,rfl,rfl⟩
 ·refine⟨by show inlineB 6=false;decide,by show legalB 6=true;decide,hw,by show (0:Int)≤(b.length:Int)+jW b (jAn n).2.1;omega,?_,?_,fun e=>?_⟩
  ·show (b.length:Int)+jW b (jAn n).2.1≤((b++E).length:Int)
   omega
  ·show (b.length:Int)+jW b (jAn n).2.1 - jA3 6*(jAn n).2.1 < ((b++E).length:Int)
   rw[show jA3 6=0 by decide];omega
  ·show jGb _ 6 (jAn n).2.1 ((b.length:Int)+jW b (jAn n).2.1) _=true
   unfold jGb jDF
   rw[jG1 (hload e),hload e]
   rw[show (jAn n).2.2=n % 18446744073709551616 from rfl,show (jAn n).2.1=jDP n from rfl] at *
   rw[jML hw hn (Int.le_refl _)]
   simp only[Tr.kind,jA9,ne_eq,not_true_eq_false,if_false,if_true,decide_true,Bool.true_and,Bool.and_true,decide_eq_true_eq]
   exact hmod
 ·refine⟨by show inlineB 7=false;decide,by show legalB 7=true;decide,hw,by show (0:Int)≤(b.length:Int)+jW b (jAo u).2.1;omega,?_,?_,fun e=>?_⟩
  ·show (b.length:Int)+jW b (jAo u).2.1≤((b++E).length:Int)
   omega
  ·show (b.length:Int)+jW b (jAo u).2.1 - jA3 7*(jAo u).2.1 < ((b++E).length:Int)
   rw[show jA3 7=0 by decide];omega
  ·show jGb _ 7 (jAo u).2.1 ((b.length:Int)+jW b (jAo u).2.1) _=true
   unfold jGb jDF
   rw[hload e]
   rw[show (jAo u).2.2=u from rfl,show (jAo u).2.1=Ft.widthOf u.toNat from rfl] at *
   rw[jMM hw hu (Int.le_refl _)]
   simp only[Tr.kind,jA9,ne_eq,not_true_eq_false,if_false,decide_true,Bool.true_and,Bool.and_true,decide_eq_true_eq]
   rw[if_neg (by decide),if_neg (by decide)]
   simp only[Tr.kind,jA9,decide_true,Bool.true_and,Bool.and_true,decide_eq_true_eq]
   exact hmod
theorem jLi {b:List UInt8} {k:ByteArray} {typ:Int} (ht:typ=5∨typ=25) (hk:k.size≤1048576) (hb:b.length≤1048576) :
 Tells (b++jCq b k (if typ=5 then ⟨#[0]⟩ else ByteArray.empty)) (typ,Ft.widthOf k.size,jCO b k) (.mk (if typ=5 then 6 else 7) 0 0 k [] []):=by
 have hw:=jA2 k.size
 have hwp:=jq hw
 have hpad:=jE8 b hw
 have hlt:=jDT b k (if typ=5 then ⟨#[0]⟩ else ByteArray.empty)
 obtain⟨w,hW⟩:∃w,Ft.widthOf k.size=w:=⟨_,rfl⟩
 have hpw:(k.size:Int) < 2 ^ (8*w.toNat):=by rw[← hW];exact jIM k.size (by omega)
 have hP:jCO b k=(b.length:Int)+jW b w+w:=by unfold jCO;rw[hW]
 have hz:0≤((if typ=5 then (⟨#[0]⟩:ByteArray) else ByteArray.empty).size:Int):=by omega
 rw[hW] at hw hwp hpad hlt⊢
 have hfar:inlineB typ=false∧legalB typ=true∧jA3 typ=1:=by rcases ht with rfl | rfl<;>decide
 have hload:∀e,jAy (b++jCq b k (if typ=5 then ⟨#[0]⟩ else ByteArray.empty)++e) (jCO b k - w) w=((k.size:Int),0):=fun e=>by
  refine jCL (A:=b++jX (jW b w)) (C:=jL [k,if typ=5 then ⟨#[0]⟩ else ByteArray.empty]++e) hw ?_ ?_ (by omega) hpw
  ·unfold jCq;rw[hW];simp only[List.append_assoc,Int.toNat_natCast]
  ·rw[hP,List.length_append,jN];omega
 refine .inr ⟨hfar.1,hfar.2.1,by show isW w=true;exact hw,by show 0≤jCO b k;rw[hP];omega,?_,?_,fun e=>?_⟩
 ·show jCO b k≤_
  rw[List.length_append,hP];omega
 ·show jCO b k - jA3 typ*w < _
  rw[hfar.2.2,List.length_append,hP];omega
 ·have hbody:textF (b++jCq b k (if typ=5 then ⟨#[0]⟩ else ByteArray.empty)++e) typ w (jCO b k) (.mk (if typ=5 then 6 else 7) 0 0 k [] [])=true:=by
   unfold textF
   rw[jFb (hload e) (by omega)]
   have hmod:jCO b k % w=0:=by
    rw[hP,Int.add_emod_right]
    exact jMN hw b
   have hh:jJr (b++jCq b k (if typ=5 then ⟨#[0]⟩ else ByteArray.empty)++e) (jCO b k) (if typ=5 then jGB k else k)=true:=by
    have hA:(((b++jX (jW b w)++jk w.toNat k.size).length:Nat):Int)=jCO b k:=by
     rw[hP,List.length_append,List.length_append,jN,jT];omega
    rcases ht with rfl|rfl
    ·simp only[if_true]
     have:=jHI (b:=b++jX (jW b w)++jk w.toNat k.size) (s:=jGB k) (e:=e) hA.symm
     rw[← jFc] at this
     unfold jCq
     rw[hW]
     simp only[List.append_assoc] at this⊢
     exact this
    ·rw[if_neg (by decide),if_neg (by decide)]
     have:=jHI (b:=b++jX (jW b w)++jk w.toNat k.size) (s:=k) (e:=e) hA.symm
     have hbe:jL [k,ByteArray.empty]=k.data.toList:=by simp[jL]
     unfold jCq
     rw[hW,hbe]
     simp only[List.append_assoc] at this⊢
     exact this
   simp only[Tr.fs]
   rw[hh]
   simp only[jA9,hmod,decide_true,Bool.and_self]
  rcases ht with rfl|rfl
  ·exact hbody
  ·exact hbody
theorem jIV {most t:Int} {x:BS} {k:ByteArray} (h:Inv x) (ht:t=5∨t=25) (hl:x.stk.length+1≤65536) (hr:(x.s.1.length:Int)+(k.size+64)≤most) (hmost:most≤1048576) :
 Pushed x (x.text most t k (if t=5 then ⟨#[0]⟩ else ByteArray.empty)) (.mk (if t=5 then 6 else 7) 0 0 k [] []) (k.size+64):=by
 have hw:=jA2 k.size
 have hwp:=jq hw
 have hpad:=jE8 x.s.1 hw
 have hlt:=jDT x.s.1 k (if t=5 then ⟨#[0]⟩ else ByteArray.empty)
 have hz:((if t=5 then (⟨#[0]⟩:ByteArray) else ByteArray.empty).size:Int)≤1:=by rcases ht with rfl | rfl<;>decide
 have hT:=jLi (b:=x.s.1) (k:=k) ht (by omega) (by omega)
 rw[text_ok (b:=x.s.1) h.e0 h.s hl (by omega) (by rw[List.length_append];omega)]
 have hI:=h.ext (jCq x.s.1 k (if t=5 then ⟨#[0]⟩ else ByteArray.empty)) (x.stk++[(t,Ft.widthOf k.size,jCO x.s.1 k)])
 refine⟨⟨hI.e0,hI.s0,hI.keys,fun z hz=>?_,hI.lists,hI.names,hI.vals⟩,⟨_,rfl,by omega⟩,⟨_,rfl,hT⟩,fun a _=>rfl⟩
 rcases ht with rfl|rfl
 ·simp only[if_true] at hz hT⊢
  rcases jDv hz with hz|⟨rfl,_⟩
  ·exact (h.texts z hz).more _
  ·exact hT
 ·exact hI.texts z hz
theorem jOi {most:Int} {sh:Bool} {x:BS} {k:ByteArray} (h:Inv x) (hl:x.stk.length+1≤65536) (hr:(x.s.1.length:Int)+(k.size+64)≤most) (hmost:most≤1048576):Pushed x (x.str most sh k) (.mk 6 0 0 k [] []) (k.size+64):=by
 unfold BS.str
 dsimp only
 rw[if_pos h.e0]
 by_cases hg:((jAa x.texts k).2 && sh)=true
 ·rw[if_pos hg]
  rw[Bool.and_eq_true] at hg
  have hm:jAa x.texts k=((jAa x.texts k).1,true):=by rw[← hg.1]
  have h1:=h.texts _ (jHH hm)
  rw[jC8 h _ hl]
  exact⟨h.stk _,⟨[],by simp,Nat.zero_le _⟩,⟨_,rfl,h1⟩,fun a _=>rfl⟩
 ·rw[if_neg hg]
  exact jIV (t:=5) h (.inl rfl) hl hr hmost
theorem jNH {most:Int} {x:BS} {k:ByteArray} (h:Inv x) (hl:x.stk.length+1≤65536) (hr:(x.s.1.length:Int)+(k.size+64)≤most) (hmost:most≤1048576):Pushed x (x.blob most k) (.mk 7 0 0 k [] []) (k.size+64):=by
 unfold BS.blob
 rw[if_pos h.e0]
 exact jIV (t:=25) h (.inr rfl) hl hr hmost
end Go.Proofs.YtdjoffgkndncfaaGreat
namespace Go.Proofs.YtdjoffgkndncfaaGreat
open Go Go.ChangeShapes Go.WideShapes Go.ChangeAt Go.RowKit Go.Joins Go.Deep
open Go.Proofs.YtdjoffgkndncfaaGreat.Ft (V3 vV okV ValsAt inlineB legalB packF codeF typedF allF oneF)
theorem jLj {most flags k n u:Int} {s:ByteArray} {x:BS} (h:x.Good):(jCM most flags k n u s x).Good:=by
 unfold jCM
 repeat' split
 all_goals first | exact h.inline | exact h.apart | exact h.key | exact h.str | exact h.blob | exact h
mutual
theorem jHJ {most flags:Int}:∀(t:Tr) {x:BS},x.Good→(jf most flags t x).Good
 | .mk k n u s keys l,x,h=>by
  simp only[jf]
  have h1:=(jCs (most:=most) (flags:=flags) l h).endVec (most:=most) (start:=x.stk.length)
  have h2:=(jCt (most:=most) (flags:=flags) l keys h).endMap (most:=most) (sh:=onF flags 4) (start:=x.stk.length)
  repeat' split
  all_goals first | exact h1 | exact h2 | exact h.vector | exact h.keyVec | exact h.fixed | exact jLj h
theorem jCs {most flags:Int}:∀(l:List Tr) {x:BS},x.Good→(jAS most flags l x).Good
 | [],_,h=>h
 | t::r,_,h=>jCs r (jHJ t h)
theorem jCt {most flags:Int}:∀(l:List Tr) (ks:List ByteArray) {x:BS},x.Good→(jAl most flags l ks x).Good
 | [],_,_,h=>h
 | t::r,ks,_,h=>jCt r ks.tail (jHJ t h.key)
end
mutual
def okE:Tr→Prop | .mk k n u s keys l=>(s.size≤1048576∧(∀q∈keys,q.size≤1048576)∧l.length≤4096∧(k=17→keys.length=l.length))∧okEL l
def okEL:List Tr→Prop | []=>True | t::r=>okE t∧okEL r
end
theorem okEL_iff:∀{l:List Tr},okEL l↔∀x∈l,okE x
 | []=>by simp[okEL]
 | t::r=>by simp[okEL,okEL_iff (l:=r)]
theorem jFv {most flags:Int}:∀(l:List Tr) (t:Tr) (x:BS),jAS most flags (l++[t]) x=jf most flags t (jAS most flags l x)
 | [],_,_=>rfl
 | y::r,t,x=>jFv r t _
theorem jFw {most flags:Int}:∀(l:List Tr) (ks:List ByteArray) (t:Tr) (k:ByteArray) (x:BS),ks.length=l.length→jAl most flags (l++[t]) (ks++[k]) x=jf most flags t ((jAl most flags l ks x).key most (onF flags 1) k)
 | [],ks,t,k,x,h=>by
  have:ks=[]:=List.length_eq_zero_iff.1 (by simpa using h)
  subst this;rfl
 | y::r,[],t,k,x,h=>by simp at h
 | y::r,q::ks,t,k,x,h=>jFw r ks t k _ (by simpa using h)
end Go.Proofs.YtdjoffgkndncfaaGreat
namespace Go.Proofs.YtdjoffgkndncfaaGreat
open Go Go.ChangeShapes Go.WideShapes Go.ChangeAt Go.RowKit Go.Joins Go.Deep
open Go.Proofs.YtdjoffgkndncfaaGreat.Ft (V3 vV okV ValsAt inlineB legalB packF codeF typedF allF oneF allAt headF fitsL fitsV fitsF belowW isA unpackF)
theorem jEg {el:Int} {v:V3} (h:v.1=el) (hl:jZ v=0):jc el v=0:=by
 unfold jc
 rw[h]
 simpa using hl
theorem jLk {most elem many typ kd:Int} {len tagged:Bool} {T:V3→Int} {l:List V3} {ts:List Tr} {x:BS} (h:Inv x) (ht:TellsL x.s.1 l ts) (hv:∀s,j5 most elem many l s=jAE most T len tagged typ 0 l s) (hT:∀v∈l,T v=0)
 (hs:jAg typ=(kd,if len then 0 else (ts.length:Int))) (h17:kd≠17) (hg:jCE kd=tagged) (hne:len=false→ts≠[]) (hty:tagged=false→∀v∈l,v.1=(Ft.elemF typ).1∧(inlineB v.1=true∨v.1=4))
 (hl:x.stk.length+1≤65536) (hll:l.length≤65536) (hr:(x.s.1.length:Int)+(15+9*l.length:Nat)≤most) (hmost:most≤1048576) (hfar:inlineB typ=false∧legalB typ=true∧jGC typ=false∧jA3 typ=if len then 1 else 0) :
 Pushed x (x.vector most elem many l) (.mk kd 0 0 EMB [] ts) (15+9*l.length):=by
 have hb:x.s.1.length≤1048576:=by omega
 obtain⟨b,hbe⟩:∃b,x.s.1=b:=⟨_,rfl⟩
 have hxs:x.s=(b,0):=by rw[h.s,hbe]
 rw[hbe] at ht hr hb
 obtain⟨X,hX⟩:∃X,allF l (0,0,0) b.length (if len then 1 else 0)=X:=⟨_,rfl⟩
 obtain⟨p,hp⟩:∃p,(b.length:Int)+jW b X+(if len then X else 0)=p:=⟨_,rfl⟩
 obtain⟨hw,hH,hmod,hge,hlt,hlen,hin⟩:=heldB (tagged:=tagged) hb (by omega) (ht.near hb) hX hp
 have hwp:=jq hw
 have hle:=jKF hw len tagged b l
 have hput:=jMD (most:=most) (T:=T) (len:=len) (tagged:=tagged) (kind:=typ) hT hb (by omega) (ht.near hb) hX (by omega)
 have hpl:=jCv hw len tagged b l
 have hbody:=jIS (many:=if len then 0 else (ts.length:Int)) ht hb hll hX hp hs h17 hg (by cases len<;>simp;exact hne rfl) hty
 rw[hp] at hput
 obtain⟨R,hR⟩:∃R,(jBC X len tagged b l).flatten=R:=⟨_,rfl⟩
 rw[hR] at hput hpl hH hbody
 have hI:=h.ext R x.stk
 have hx:x.vector most elem many l={x with s:=(b++R,0),stk:=x.stk++[(typ,X,p)]}:=by
  unfold BS.vector
  rw[if_pos h.e0,hv,hxs,hput]
  dsimp only
  rw[hbe] at hI
  rw[jLh (x:={x with s:=(b++R,0)}) h.e0]
  exact jC8 (x:={x with s:=(b++R,0)}) hI _ hl
 rw[hx]
 have hI2:=h.ext R (x.stk++[(typ,X,p)])
 rw[hbe] at hI2
 have hXl:=hH.len
 have hmul0:0≤X*(l.length:Int):=Int.mul_nonneg (by omega) (by omega)
 refine⟨hI2,⟨R,by rw[hbe],by omega⟩,⟨_,rfl,.inr ⟨hfar.1,hfar.2.1,hw,?_,?_,?_,fun e=>?_⟩⟩,fun a _=>rfl⟩
 ·show 0≤p
  rw[← hp];cases len<;>simp<;>omega
 ·show p≤((b++R).length:Int)
  cases tagged<;>simp at hXl<;>simp<;>omega
 ·show p - jA3 typ*X < ((b++R).length:Int)
  rw[hfar.2.2.2,hXl]
  cases len
  ·have h1:1≤(l.length:Int):=by
    have:=hne rfl
    have h2:=ht.1
    have:ts.length≠0:=fun e=>this (List.length_eq_zero_iff.1 e)
    omega
   have h2:(1:Int)*1≤X*l.length:=Int.mul_le_mul (by omega) h1 (by omega) (by omega)
   cases tagged<;>simp<;>omega
  ·cases tagged<;>simp<;>omega
 ·show jMJ (b++R++e) typ X p _=true
  unfold jMJ
  rw[hfar.2.2.1]
  exact hbody e
theorem vp_of {most el many typ:Int} (hel:el≠-1) (ht:(typedF el many).1=typ) (l:List V3) (s:St):j5 most el many l s=jAE most (jc el) (decide (many=0)) false typ 0 l s:=by
 unfold j5
 rw[if_neg hel,ht]
theorem jFA {most el typ kd:Int} {l:List V3} {ts:List Tr} {x:BS} (h:Inv x) (ht:TellsL x.s.1 l ts) (hel:el≠-1) (hty:(typedF el 0).1=typ) (hs:jAg typ=(kd,0)) (h17:kd≠17) (hg:jCE kd=false) (he:∀v∈l,v.1=el) (hel2:(Ft.elemF typ).1=el∧(inlineB el=true∨el=4))
 (hl:x.stk.length+1≤65536) (hll:l.length≤65536) (hr:(x.s.1.length:Int)+(15+9*l.length:Nat)≤most) (hmost:most≤1048576) (hfar:inlineB typ=false∧legalB typ=true∧jGC typ=false∧jA3 typ=1):Pushed x (x.vector most el 0 l) (.mk kd 0 0 EMB [] ts) (15+9*l.length):=
 jLk (len:=true) (tagged:=false) h ht (fun s=>vp_of hel hty l s) (fun v hv=>jEg (he v hv) (ht.near (by omega) v hv).1) hs h17 hg (fun e=>by cases e) (fun _ v hv=>⟨by rw[he v hv,hel2.1],by rw[he v hv];exact hel2.2⟩) hl hll hr hmost hfar
theorem jKm {most el kd:Int} {l:List V3} {ts:List Tr} {x:BS} (h:Inv x) (ht:TellsL x.s.1 l ts) (hk:(el=1∧kd=15)∨(el=2∧kd=16)) (he:∀v∈l,v.1=el) (hn:2≤l.length∧l.length≤4)
 (hl:x.stk.length+1≤65536) (hr:(x.s.1.length:Int)+(15+9*l.length:Nat)≤most) (hmost:most≤1048576):Pushed x (x.fixed most el l) (.mk kd 0 0 EMB [] ts) (15+9*l.length):=by
 unfold BS.fixed
 rw[if_pos h.e0,if_neg (by omega)]
 have hl1:=ht.1
 have hne:ts≠[]:=fun e=>by have h9:=congrArg List.length e;rw[← hl1,List.length_nil] at h9;omega
 have h3:l.length=2∨l.length=3∨l.length=4:=by omega
 have key:∀typ:Int,(typedF el l.length).1=typ→jAg typ=(kd,(l.length:Int))→jCE kd=false→kd≠17→(Ft.elemF typ).1=el→inlineB el=true→(inlineB typ=false∧legalB typ=true∧jGC typ=false∧jA3 typ=0)→el≠-1→Pushed x (x.vector most el l.length l) (.mk kd 0 0 EMB [] ts) (15+9*l.length):=by
  intro typ h1 h2 h3 h4 h5 h6 h7 h8
  refine jLk (len:=false) (tagged:=false) (typ:=typ) h ht (fun s=>?_) (fun v hv=>jEg (he v hv) (ht.near (by omega) v hv).1) (by rw[h2,hl1];rfl) h4 h3 (fun _=>hne) (fun _ v hv=>⟨by rw[he v hv,h5],.inl (by rw[he v hv];exact h6)⟩) hl (by omega) hr hmost h7
  rw[vp_of h8 h1,decide_eq_false (show ¬((l.length:Nat):Int)=0 by omega)]
 rcases hk with ⟨rfl,rfl⟩|⟨rfl,rfl⟩
 ·rcases h3 with h3|h3|h3
  ·rw[h3] at key⊢;exact key 16 (by decide +kernel) (by decide) (by decide) (by decide) (by decide) (by decide) (by decide) (by decide)
  ·rw[h3] at key⊢;exact key 19 (by decide +kernel) (by decide) (by decide) (by decide) (by decide) (by decide) (by decide) (by decide)
  ·rw[h3] at key⊢;exact key 22 (by decide +kernel) (by decide) (by decide) (by decide) (by decide) (by decide) (by decide) (by decide)
 ·rcases h3 with h3|h3|h3
  ·rw[h3] at key⊢;exact key 17 (by decide +kernel) (by decide) (by decide) (by decide) (by decide) (by decide) (by decide) (by decide)
  ·rw[h3] at key⊢;exact key 20 (by decide +kernel) (by decide) (by decide) (by decide) (by decide) (by decide) (by decide) (by decide)
  ·rw[h3] at key⊢;exact key 23 (by decide +kernel) (by decide) (by decide) (by decide) (by decide) (by decide) (by decide) (by decide)
def jBw (l:List ByteArray):Nat:=(l.map fun k=>k.size+1).sum
theorem jHK {most:Int} {sh:Bool}:∀(l:List ByteArray) {x:BS},Inv x→(∀k∈l,jAx k=0)→(x.s.1.length:Int)+jBw l≤most →
 ∃e,Inv (x.putAll most sh l).2∧(x.putAll most sh l).2.s.1=x.s.1++e∧e.length≤jBw l∧(x.putAll most sh l).2.stk=x.stk∧TellsL (x.putAll most sh l).2.s.1 (x.putAll most sh l).1 (l.map jDy)∧(∀v∈(x.putAll most sh l).1,v.1=4)∧∀c:Int,c < x.s.1.length→jAB (x.putAll most sh l).2.names c=jAB x.names c
 | [],x,h,_,_=>⟨[],h,by simp[BS.putAll],Nat.zero_le _,rfl,TellsL.nil _,by simp[BS.putAll],fun _ _=>rfl⟩
 | k::r,x,h,hk,hr=>by
  simp only[jBw,List.map_cons,List.sum_cons] at hr
  obtain⟨a,e,h1,h2,h3,h4,h5,h6,h7,h8⟩:=put_ok (most:=most) (sh:=sh) h (hk k (by simp)) (by omega)
  have hlen:(x.put most sh k).2.s.1.length=x.s.1.length+e.length:=by rw[h3,List.length_append]
  obtain⟨e2,g1,g2,g3,g4,g5,g6,g7⟩:=jHK (most:=most) (sh:=sh) r h2 (fun q hq=>hk q (by simp[hq])) (by unfold jBw;omega)
  simp only[BS.putAll]
  refine⟨e++e2,g1,by rw[g2,h3,List.append_assoc],by rw[List.length_append];simp only[jBw,List.map_cons,List.sum_cons] at g3⊢;omega,by rw[g4,h5],?_,?_,fun c hc=>?_⟩
  ·refine TellsL.cons ?_ g5
   rw[g2,h1]
   exact h6.more _
  ·intro v hv
   rcases List.mem_cons.1 hv with rfl|hv
   ·rw[h1]
   ·exact g6 v hv
  ·rw[g7 c (by omega),h8 c hc]
theorem jNI {most:Int} {sh:Bool} {l:List ByteArray} {x:BS} (h:Inv x) (hk:∀k∈l,jAx k=0) (hl:x.stk.length+1≤65536) (hll:l.length≤65536) (hr:(x.s.1.length:Int)+(jBw l+(15+9*l.length):Nat)≤most) (hmost:most≤1048576) :
 Pushed x (x.keyVec most sh l) (.mk 13 0 0 EMB [] (l.map jDy)) (jBw l+(15+9*l.length)):=by
 obtain⟨e,h1,h2,h3,h4,h5,h6,h7⟩:=jHK (most:=most) (sh:=sh) l h hk (by omega)
 unfold BS.keyVec
 rw[if_pos h.e0]
 have hlen:(x.putAll most sh l).2.s.1.length=x.s.1.length+e.length:=by rw[h2,List.length_append]
 have hn:(x.putAll most sh l).1.length=l.length:=by rw[h5.1,List.length_map]
 generalize hY:x.putAll most sh l=Y at *
 have hP:=jFA (most:=most) (el:=4) (typ:=14) (kd:=13) h1 h5 (by decide) (by decide +kernel) (by decide) (by decide) (by decide) h6 ⟨by decide,.inr rfl⟩ (by rw[h4];exact hl) (by omega) (by rw[hn];omega) hmost (by decide)
 obtain⟨e2,g1,g2⟩:=hP.grow
 obtain⟨v,g3,g4⟩:=hP.push
 refine⟨hP.inv,⟨e++e2,by rw[g1,h2,List.append_assoc],by rw[List.length_append];rw[hn] at g2;omega⟩,⟨v,by rw[g3,h4],g4⟩,fun a ha=>?_⟩
 rw[hP.nms a (by omega),h7 a ha]
/-! ### what names a list of keys -/
theorem jHL:∀{a b A B:List UInt8},(0:UInt8)∉a→(0:UInt8)∉b→a++0::A=b++0::B→a=b∧A=B
 | [],[],A,B,_,_,h=>by simp at h;exact⟨rfl,h⟩
 | [],y::b,A,B,_,hb,h=>by simp at h;exact absurd h.1 (fun e=>hb (by simp[← e]))
 | x::a,[],A,B,ha,_,h=>by simp at h;exact absurd h.1 (fun e=>ha (by simp[e]))
 | x::a,y::b,A,B,ha,hb,h=>by
  simp only[List.cons_append,List.cons.injEq] at h
  obtain⟨h1,h2⟩:=jHL (fun e=>ha (by simp[e])) (fun e=>hb (by simp[e])) h.2
  exact⟨by rw[h.1,h1],h2⟩
theorem jES (l:List ByteArray):(jo l).data.toList=l.flatMap fun k=>k.data.toList++[0]:=by
 have:∀(l:List ByteArray) (a:ByteArray),(l.foldl (fun a k=>a++(k++⟨#[0]⟩)) a).data.toList=a.data.toList++l.flatMap fun k=>k.data.toList++[0]:=by
  intro l
  induction l with
  | nil=>intro a;simp
  | cons k r ih=>intro a;rw[List.foldl_cons,ih];simp
 have h:=this l ByteArray.empty
 have he:ByteArray.empty.data.toList=[]:=rfl
 rw[he,List.nil_append] at h
 exact h
theorem jKn:∀{a b:List ByteArray},(∀k∈a,jAx k=0)→(∀k∈b,jAx k=0)→jo a=jo b→a=b:=by
 have key:∀{a b:List ByteArray},(∀k∈a,jAx k=0)→(∀k∈b,jAx k=0)→(a.flatMap fun k=>k.data.toList++[0])=(b.flatMap fun k=>k.data.toList++[(0:UInt8)])→a=b:=by
  intro a
  induction a with
  | nil=>
   intro b _ _ h
   cases b with
   | nil=>rfl
   | cons y b=>simp at h
  | cons x a ih=>
   intro b ha hb h
   cases b with
   | nil=>simp at h
   | cons y b=>
    simp only[List.flatMap_cons,List.append_assoc,List.cons_append,List.nil_append] at h
    obtain⟨h1,h2⟩:=jHL (jJ4 (ha x (by simp))) (jJ4 (hb y (by simp))) h
    rw[bytes_inj h1,ih (fun k hk=>ha k (by simp[hk])) (fun k hk=>hb k (by simp[hk])) h2]
 intro a b ha hb h
 refine key ha hb ?_
 rw[← jES,← jES,h]
theorem jLl {most:Int} {sh:Bool} {x:BS} {keys:List V3} {names:List ByteArray} (h:Inv x) (hk:TellsL x.s.1 keys (names.map jDy)) (h4:∀v∈keys,v.1=4) (hz:∀k∈names,jAx k=0) (hll:keys.length≤65536) (hr:(x.s.1.length:Int)+(15+9*keys.length:Nat)≤most) (hmost:most≤1048576) :
 let g:=jAa x.lists (jo names)
 let x1:BS:=if g.2 && sh then x else
  let q:=j5 most 4 0 keys x.s
  ({x with s:=q.2,e:=js x.e q.1.2,lists:=jAK (jo names) x.vals.length x.lists,vals:=x.vals++[q.1.1]}:BS)
 let i:Int:=if g.2 && sh then g.1 else x.vals.length
 ∃e,Inv x1∧x1.s.1=x.s.1++e∧e.length≤15+9*keys.length∧x1.stk=x.stk∧x1.names=x.names∧KeysV x1.s.1 (x1.vals.getD i.toNat (0,0,0)) names:=by
 dsimp only
 by_cases hg:((jAa x.lists (jo names)).2 && sh)=true
 ·rw[if_pos hg,if_pos hg]
  rw[Bool.and_eq_true] at hg
  have hm:jAa x.lists (jo names)=((jAa x.lists (jo names)).1,true):=by rw[← hg.1]
  obtain⟨h0,v,nm,h1,h2,h3,h5⟩:=h.lists _ (jHH hm)
  have:nm=names:=jKn h5 hz h3
  subst this
  refine⟨[],h,by simp,Nat.zero_le _,rfl,rfl,?_⟩
  rw[List.getD_eq_getElem?_getD,h1]
  exact h2
 ·rw[if_neg hg,if_neg hg]
  have hb:x.s.1.length≤1048576:=by omega
  obtain⟨b,hbe⟩:∃b,x.s.1=b:=⟨_,rfl⟩
  have hxs:x.s=(b,0):=by rw[h.s,hbe]
  rw[hbe] at hk hr hb
  obtain⟨X,hX⟩:∃X,allF keys (0,0,0) b.length 1=X:=⟨_,rfl⟩
  obtain⟨p,hp⟩:∃p,(b.length:Int)+jW b X+X=p:=⟨_,rfl⟩
  obtain⟨hw,hH,hmod,hge,hlt,hlen,hin⟩:=heldB (len:=true) (tagged:=false) hb (by omega) (hk.near hb) (by simpa using hX) (by simpa using hp)
  have hwp:=jq hw
  have hle:=jKF hw true false b keys
  have hput:=jMD (most:=most) (T:=jc 4) (len:=true) (tagged:=false) (kind:=14) (fun v hv=>jEg (h4 v hv) (hk.near hb v hv).1) hb (by omega) (hk.near hb) (by simpa using hX) (by omega)
  have hpl:=jCv hw true false b keys
  have hbody:=jLg hk h4 hb hll hX hp
  have hvp:j5 most 4 0 keys x.s=(((14,X,p),0),(b++(jBC X true false b keys).flatten,0)):=by
   rw[vp_of (typ:=14) (by decide) (by decide +kernel),hxs]
   have:((b.length:Int)+jW b X+if true=true then X else 0)=p:=by rw[if_pos rfl];exact hp
   rw[this] at hput
   exact hput
  rw[hvp]
  obtain⟨R,hR⟩:∃R,(jBC X true false b keys).flatten=R:=⟨_,rfl⟩
  rw[hR] at hpl hH hbody⊢
  dsimp only
  have hI:=h.ext R x.stk
  rw[hbe] at hI
  have hXl:=hH.len
  simp only[Bool.false_eq_true,if_false,Int.add_zero] at hXl
  have hmul0:0≤X*(keys.length:Int):=Int.mul_nonneg (by omega) (by omega)
  have hKV:KeysV (b++R) (14,X,p) names:=⟨rfl,hw,by show 0≤p;omega,by show p≤((b++R).length:Int);omega,by show p - X < ((b++R).length:Int);omega,fun e=>hbody e⟩
  refine⟨R,⟨by show js x.e 0=0;rw[h.e0];rfl,rfl,hI.keys,hI.texts,fun z hz'=>?_,hI.names,by have h1:=h.vals;rw[hbe] at h1;show (x.vals++[(14,X,p)]).length≤(b++R).length;rw[List.length_append,List.length_singleton];omega⟩,by rw[hbe],by omega,rfl,rfl,?_⟩
  ·rcases jDv hz' with hz'|⟨rfl,_⟩
   ·obtain⟨h0,v,nm,h1,h2,h3⟩:=hI.lists z hz'
    refine⟨h0,v,nm,?_,h2,h3⟩
    show (x.vals++[(14,X,p)])[z.2.toNat]? = some v
    rw[List.getElem?_append_left (List.getElem?_eq_some_iff.1 h1).1];exact h1
   ·refine⟨by show (0:Int)≤x.vals.length;omega,(14,X,p),names,?_,hKV,rfl,hz⟩
    show (x.vals++[(14,X,p)])[((x.vals.length:Nat):Int).toNat]? = _
    rw[Int.toNat_natCast,List.getElem?_append_right (Nat.le_refl _)];simp
  ·show KeysV (b++R) ((x.vals++[(14,X,p)]).getD ((x.vals.length:Nat):Int).toNat (0,0,0)) names
   rw[Int.toNat_natCast,List.getD_eq_getElem?_getD,List.getElem?_append_right (Nat.le_refl _)]
   simpa using hKV
theorem jOj {most:Int} {sh:Bool} {x:BS} {keys vals:List V3} {names:List ByteArray} {ts:List Tr} (h:Inv x) (hk:TellsL x.s.1 keys (names.map jDy)) (h4:∀v∈keys,v.1=4) (hz:∀k∈names,jAx k=0) (hi:incB names=true) (hv:TellsL x.s.1 vals ts) (hnl:names.length=ts.length)
 (hl:x.stk.length+1≤65536) (hll:keys.length≤65536) (hr:(x.s.1.length:Int)+(46+18*keys.length:Nat)≤most) (hmost:most≤1048576) :
 Pushed x (x.table most sh (jo names) keys vals) (.mk 17 0 0 EMB names ts) (46+18*keys.length):=by
 obtain⟨e,h1,h2,h3,h5,h6,h7⟩:=jLl (most:=most) (sh:=sh) h hk h4 hz hll (by omega) hmost
 unfold BS.table
 dsimp only at h1 h2 h3 h5 h6 h7⊢
 generalize (if ((jAa x.lists (jo names)).2 && sh)=true then x else {s:=(j5 most 4 0 keys x.s).2,e:=js x.e (j5 most 4 0 keys x.s).1.2,stk:=x.stk,keys:=x.keys,texts:=x.texts,lists:=jAK (jo names) (x.vals.length:Int) x.lists,names:=x.names,vals:=x.vals++[(j5 most 4 0 keys x.s).1.1]}:BS)=x1 at *
 generalize x1.vals.getD (if ((jAa x.lists (jo names)).2 && sh)=true then (jAa x.lists (jo names)).1 else (x.vals.length:Int)).toNat (0,0,0)=k at *
 rw[if_pos h1.e0]
 have hkl:keys.length=names.length:=by have:=hk.1;rw[List.length_map] at this;exact this
 have hvn:=hv.1
 have hlen:x1.s.1.length=x.s.1.length+e.length:=by rw[h2,List.length_append]
 have hv1:TellsL x1.s.1 vals ts:=by rw[h2];exact hv.more e
 have hb:x1.s.1.length≤1048576:=by omega
 obtain⟨b,hbe⟩:∃b,x1.s.1=b:=⟨_,rfl⟩
 have hxs:x1.s=(b,0):=by rw[h1.s,hbe]
 rw[hbe] at hv1 hb h7 hlen
 have hK:jFt b.length k:=⟨h7.typ,h7.isw,h7.n0,h7.n1⟩
 obtain⟨X,hX⟩:∃X,allF vals k b.length 3=X:=⟨_,rfl⟩
 obtain⟨p,hp⟩:∃p,(b.length:Int)+jW b X+3*X=p:=⟨_,rfl⟩
 obtain⟨hw,hH,hmod,hge,hlt,hin,hkn⟩:=heldM hb (by omega) (hv1.near hb) hK hX hp
 have hwp:=jq hw
 have hle:=lenM_le hw b vals
 have hput:=putM_ok (most:=most) hb (by omega) (hv1.near hb) hK hX (by omega)
 rw[hp] at hput
 have hpl:=jDu hw k b vals
 have hbody:=jOf hv1 h7 hi hnl hb (by omega) hX hp
 obtain⟨R,hR⟩:∃R,(jBc X k b vals).flatten=R:=⟨_,rfl⟩
 rw[hR] at hput hpl hH hbody
 rw[hxs,hput]
 dsimp only
 have hI:=h1.ext R x1.stk
 rw[hbe] at hI
 rw[jLh (x:={x1 with s:=(b++R,0)}) h1.e0,jC8 (x:={x1 with s:=(b++R,0)}) hI _ (by dsimp only;rw[h5];exact hl)]
 have hI2:=h1.ext R (x1.stk++[(9,X,p)])
 rw[hbe] at hI2
 have hXl:=hH.len
 have hmul0:0≤X*(vals.length:Int):=Int.mul_nonneg (by omega) (by omega)
 refine⟨hI2,⟨e++R,by show b++R=_;rw[← hbe,h2,List.append_assoc],by rw[List.length_append];omega⟩,⟨(9,X,p),by show x1.stk++_=_;rw[h5],.inr ⟨by show inlineB 9=false;decide,by show legalB 9=true;decide,hw,by show 0≤p;omega,by show p≤((b++R).length:Int);omega,?_,fun f=>?_⟩⟩,fun a _=>by show jAB x1.names a=_;rw[h6]⟩
 ·show p - jA3 9*X < ((b++R).length:Int)
  rw[show jA3 9=3 by decide];omega
 ·exact hbody f
/-! ### the stack's end as a map's entries -/
def jFx (es:List (V3 × V3)):List V3:=es.flatMap fun p=>[p.1,p.2]
theorem jHM (names:List (Int × ByteArray)):∀es:List (V3 × V3),jn names (jFx es)=es.map fun p=>(jAB names p.1.2.2,p.1,p.2)
 | []=>rfl
 | p::r=>by
  show (jAB names p.1.2.2,p.1,p.2)::jn names (jFx r)=_
  rw[jHM names r];rfl
theorem jFy:∀es:List (V3 × V3),(∀p∈es,p.1.1=4)→jAk (jFx es)=true
 | [],_=>rfl
 | p::r,h=>by
  show (decide (p.1.1=4) && jAk (jFx r))=true
  rw[jFy r fun q hq=>h q (by simp[hq]),h p (by simp)];rfl
theorem jKo:∀{l:List ByteArray},l.Pairwise (fun a b=>ltS a b=true)→incB l=true
 | [],_=>rfl
 | [_],_=>rfl
 | a::b::r,h=>by
  obtain⟨h1,h2⟩:=List.pairwise_cons.1 h
  show (ltS a b && incB (b::r))=true
  rw[h1 b (by simp),jKo h2];rfl
theorem jLm {α:Type} (l:List (ByteArray × α)) (h:(l.map Prod.fst).Pairwise fun a b=>ltS a b=true):jAp l=l:=by
 have hnd:(l.map Prod.fst).Nodup:=h.imp fun {a b} hab e=>by rw[e,jB4] at hab;cases hab
 exact jBt _ _ (jAD l) (jA4 l hnd) (by rw[List.pairwise_map] at h;exact h)
theorem jNJ {most:Int} {sh:Bool} {x:BS} {K:List V3} {es:List (V3 × V3)} {names:List ByteArray} {ts:List Tr} (h:Inv x) (hst:x.stk=K++jFx es) (hk:TellsL x.s.1 (es.map (·.1)) (names.map jDy)) (h4:∀p∈es,p.1.1=4) (hnm:es.map (fun p=>jAB x.names p.1.2.2)=names) (hz:∀k∈names,jAx k=0)
 (hp:names.Pairwise fun a b=>ltS a b=true) (hv:TellsL x.s.1 (es.map (·.2)) ts) (hl:K.length+1≤65536) (hll:es.length≤65536) (hr:(x.s.1.length:Int)+(46+18*es.length:Nat)≤most) (hmost:most≤1048576) :
 Pushed {x with stk:=K} (x.endMap most sh K.length) (.mk 17 0 0 EMB names ts) (46+18*es.length):=by
 unfold BS.endMap
 have hd:x.stk.drop ((K.length:Nat):Int).toNat=jFx es:=by rw[hst,Int.toNat_natCast,List.drop_left]
 have hk2:x.stk.take ((K.length:Nat):Int).toNat=K:=by rw[hst,Int.toNat_natCast,List.take_left' rfl]
 rw[if_pos h.e0,if_pos ⟨by omega,by rw[hst,List.length_append];omega⟩]
 dsimp only
 rw[hd,hk2,if_pos (jFy es h4),jHM]
 have hmap1:(es.map fun p=>(jAB x.names p.1.2.2,p.1,p.2)).map (·.1)=names:=by rw[List.map_map];exact hnm
 have hself:jAp (es.map fun p=>(jAB x.names p.1.2.2,p.1,p.2))=es.map fun p=>(jAB x.names p.1.2.2,p.1,p.2):=jLm _ (by rw[show (es.map fun p=>(jAB x.names p.1.2.2,p.1,p.2)).map Prod.fst=names from hmap1];exact hp)
 have hnd:names.Nodup:=hp.imp fun {a b} hab e=>by rw[e,jB4] at hab;cases hab
 rw[hself,hmap1,if_pos hnd,List.map_map,List.map_map]
 have hlen:names.length=es.length:=by rw[← hnm,List.length_map]
 have hvn:=hv.1
 rw[List.length_map] at hvn
 have hT:=jOj (most:=most) (sh:=sh) (x:={x with stk:=K}) (keys:=es.map (·.1)) (vals:=es.map (·.2)) (names:=names) (ts:=ts) (h.stk K) hk (fun v hv=>by obtain⟨p,hp,rfl⟩:=List.mem_map.1 hv;exact h4 p hp) hz (jKo hp) hv (by omega) hl (by rw[List.length_map];exact hll) (by rw[List.length_map];exact hr) hmost
 rw[List.length_map] at hT
 exact hT
/-! ### the calls of a tree -/
mutual
def jJK:Tr→Prop | .mk k n u s keys l=>(jAV n∧jAv u)∧rngL l
def rngL:List Tr→Prop | []=>True | t::r=>jJK t∧rngL r
end
theorem rngL_iff:∀{l:List Tr},rngL l↔∀x∈l,jJK x
 | []=>by simp[rngL]
 | t::r=>by simp[rngL,rngL_iff (l:=r)]
mutual
theorem jHN {w:World}:∀{t:Tr} {v:Value},NodeAt w t v→jJK t
 | .mk k n u s keys l,v,⟨hb,kv,lv,vs,e,h1,h2,h3⟩=>⟨⟨hb.2.1,hb.2.2.1⟩,jKp h3⟩
theorem jKp {w:World}:∀{l:List Tr} {vs:List Value},KidsAt w l vs→rngL l
 | [],_,_=>trivial
 | t::r,_,⟨v,vr,e,h1,h2⟩=>⟨jHN h1,jKp h2⟩
end
theorem jJL {b:Nat} {t:Tr} (hv:jCd b t) (hk:t.kind=3):t=.mk 3 t.fn 0 EMB [] []:=by
 obtain⟨k,n,u,s,keys,l⟩:=t
 obtain⟨_,h1,h2,_,h4,h5,h6⟩:=jBa hv
 simp only[Tr.kind] at hk
 subst hk
 rw[h1 (by decide),h2 (by decide),h5 (by decide) (by decide),h6 (by decide) (by decide) (by decide)]
 rfl
theorem jJM {b:Nat} {t:Tr} (hv:jCd b t) (hk:t.kind=4):t=.mk 4 0 t.fu EMB [] []:=by
 obtain⟨k,n,u,s,keys,l⟩:=t
 obtain⟨_,h1,h2,_,h4,h5,h6⟩:=jBa hv
 simp only[Tr.kind] at hk
 subst hk
 rw[h1 (by decide),h2 (by decide),h4 (by decide) (by decide) (by decide),h6 (by decide) (by decide) (by decide)]
 rfl
theorem jKq {b:Nat} {t:Tr} (hv:jCd b t) (hk:t.kind=2):t=.mk 2 (if decide (t.fn=1)=true then 1 else 0) 0 EMB [] []:=by
 obtain⟨k,n,u,s,keys,l⟩:=t
 obtain⟨_,h1,h2,_,h4,h5,h6⟩:=jBa hv
 simp only[Tr.kind] at hk
 subst hk
 have hb:=hv.2.1
 simp only[jl,Bool.and_eq_true,decide_eq_true_eq,Bool.or_eq_true,Bool.not_eq_true'] at hb
 have hn:n=0∨n=1:=by
  have:=hb.1.1.1.2
  simpa using this
 rw[h1 (by decide),h2 (by decide),h5 (by decide) (by decide),h6 (by decide) (by decide) (by decide)]
 rcases hn with rfl|rfl<;>simp[Tr.fn,EMB]
theorem jJN {b:Nat} {t:Tr} (hv:jCd b t) (hk:t.kind=5):t=jDy t.fs∧jAx t.fs=0:=by
 obtain⟨k,n,u,s,keys,l⟩:=t
 obtain⟨_,h1,h2,_,h4,h5,h6⟩:=jBa hv
 simp only[Tr.kind] at hk
 subst hk
 have hz:=hv.2.2.1
 simp only[jAW] at hz
 constructor
 ·rw[h1 (by decide),h2 (by decide),h4 (by decide) (by decide) (by decide),h5 (by decide) (by decide)]
  rfl
 ·show jAx s=0
  rw[jIu]
  by_cases hzz:jA8 s=true
  ·rw[if_pos ⟨trivial,hzz⟩] at hz;cases hz
  ·rw[if_neg hzz]
theorem jNK {b:Nat} {k n u:Int} {s:ByteArray} {keys:List ByteArray} {l:List Tr} (hv:jCd b (.mk k n u s keys l)) (hp:jCH k≠0):∀x∈l,x.kind=jCH k:=by
 have hb:=hv.2.1
 simp only[jl,Bool.and_eq_true,decide_eq_true_eq,Bool.or_eq_true,Bool.not_eq_true'] at hb
 have ho:=hb.2
 intro x hx
 rw[List.any_eq_false] at ho
 have h1:=ho x hx
 unfold jAf at h1
 simp only[Bool.and_eq_true,bne_iff_ne,ne_eq,not_and,Decidable.not_not] at h1
 exact h1 hp
theorem jCa {d:List UInt8} {f:Tr→V3}:∀{l:List Tr},(∀x∈l,jMK (f x) x)→TellsL d (l.map f) l
 | [],_=>TellsL.nil d
 | t::r,h=>TellsL.cons (.inl (h t (by simp))) (jCa fun x hx=>h x (by simp[hx]))
theorem jOk {b:Nat} {l:List Tr} (hv:∀x∈l,jCd b x) (hk:∀x∈l,x.kind=5):(l.map Tr.fs).map jDy=l:=by
 rw[List.map_map]
 conv=>rhs;rw[← List.map_id l]
 exact List.map_congr_left fun x hx=>((jJN (hv x hx) (hk x hx)).1).symm
theorem jHO {b:Nat}:∀{l:List Tr},jBw (l.map Tr.fs)+18*l.length≤jBb l
 | []=>by simp[jBw,jBb]
 | t::r=>by
  have ih:=jHO (b:=b) (l:=r)
  obtain⟨k,n,u,s,keys,q⟩:=t
  simp only[jBw,jBb,jCr,List.map_cons,List.sum_cons,List.length_cons,Tr.fs] at ih⊢
  omega
theorem jKr:∀(l:List Tr),32*l.length≤jBb l
 | []=>by simp[jBb]
 | t::r=>by have:=jKr r;simp only[jBb,List.length_cons];omega
theorem jIW {most flags:Int}:∀(l:List Tr) (x:BS),(∀t∈l,∀x:BS,Inv x→(x.s.1.length:Int)+jCr t≤most→x.stk.length+3*t.size≤65535→Pushed x (jf most flags t x) t (jCr t))→Inv x→(x.s.1.length:Int)+jBb l≤most→x.stk.length+3*j7 l≤65535 →
 ∃vs e,Inv (jAS most flags l x)∧(jAS most flags l x).s.1=x.s.1++e∧e.length+32*l.length≤jBb l∧(jAS most flags l x).stk=x.stk++vs∧TellsL (jAS most flags l x).s.1 vs l∧∀c:Int,c < x.s.1.length→jAB (jAS most flags l x).names c=jAB x.names c
 | [],x,_,h,_,_=>⟨[],[],h,by simp[jAS],by simp[jBb],by simp[jAS],TellsL.nil _,fun _ _=>rfl⟩
 | t::r,x,ih,h,hr,hs=>by
  simp only[jBb] at hr
  simp only[j7] at hs
  have hP:=ih t (by simp) x h (by omega) (by omega)
  obtain⟨e,g1,g2⟩:=hP.grow
  obtain⟨v,g3,g4⟩:=hP.push
  have hlen:(jf most flags t x).s.1.length=x.s.1.length+e.length:=by rw[g1,List.length_append]
  have hz:=t.size_pos
  obtain⟨vs,e2,i1,i2,i3,i4,i5,i6⟩:=jIW r (jf most flags t x) (fun q hq=>ih q (by simp[hq])) hP.inv (by omega) (by rw[g3,List.length_append,List.length_singleton];omega)
  simp only[jAS]
  refine⟨v::vs,e++e2,i1,by rw[i2,g1,List.append_assoc],by simp only[List.length_append,List.length_cons,jBb];omega,by rw[i4,g3,List.append_assoc];rfl,TellsL.cons ?_ i5,fun c hc=>by rw[i6 c (by omega),hP.nms c hc]⟩
  rw[i2]
  exact g4.more _
theorem jIX {most flags:Int}:∀(l:List Tr) (ks:List ByteArray) (x:BS),(∀t∈l,∀x:BS,Inv x→(x.s.1.length:Int)+jCr t≤most→x.stk.length+3*t.size≤65535→Pushed x (jf most flags t x) t (jCr t))→Inv x→ks.length=l.length→(∀k∈ks,jAx k=0)→(x.s.1.length:Int)+(jBw ks+jBb l:Nat)≤most→x.stk.length+1+3*j7 l≤65535 →
 ∃es e,Inv (jAl most flags l ks x)∧(jAl most flags l ks x).s.1=x.s.1++e∧e.length+32*l.length≤jBw ks+jBb l∧(jAl most flags l ks x).stk=x.stk++jFx es∧TellsL (jAl most flags l ks x).s.1 (es.map (·.1)) (ks.map jDy)∧(∀p∈es,p.1.1=4)∧es.map (fun p=>jAB (jAl most flags l ks x).names p.1.2.2)=ks∧TellsL (jAl most flags l ks x).s.1 (es.map (·.2)) l∧∀c:Int,c < x.s.1.length→jAB (jAl most flags l ks x).names c=jAB x.names c
 | [],ks,x,_,h,hk,_,_,_=>by
  have:ks=[]:=List.length_eq_zero_iff.1 (by simpa using hk)
  subst this
  exact⟨[],[],h,by simp[jAl],by simp[jBb,jBw],by simp[jAl,jFx],TellsL.nil _,by simp,rfl,TellsL.nil _,fun _ _=>rfl⟩
 | t::r,[],x,_,h,hk,_,_,_=>by simp at hk
 | t::r,k::ks,x,ih,h,hk,hkz,hr,hs=>by
  simp only[jBb,jBw,List.map_cons,List.sum_cons] at hr
  simp only[j7] at hs
  have hz:=t.size_pos
  obtain⟨hK,a,ka,kn,kl⟩:=jOg (most:=most) (sh:=onF flags 1) h (hkz k (by simp)) (by omega) (by omega)
  obtain⟨e0,q1,q2⟩:=hK.grow
  obtain⟨v0,q3,q4⟩:=hK.push
  have ev:v0=(4,1,a):=by
   rw[ka] at q3
   have:=List.append_cancel_left q3
   simpa using this.symm
  subst ev
  have hlen0:(x.key most (onF flags 1) k).s.1.length=x.s.1.length+e0.length:=by rw[q1,List.length_append]
  have hP:=ih t (by simp) (x.key most (onF flags 1) k) hK.inv (by omega) (by rw[ka,List.length_append,List.length_singleton];omega)
  obtain⟨e,g1,g2⟩:=hP.grow
  obtain⟨v,g3,g4⟩:=hP.push
  have hlen:(jf most flags t (x.key most (onF flags 1) k)).s.1.length=x.s.1.length+e0.length+e.length:=by rw[g1,List.length_append,hlen0]
  obtain⟨es,e2,i1,i2,i3,i4,i5,i6,i7,i8,i9⟩:=jIX r ks (jf most flags t (x.key most (onF flags 1) k)) (fun q hq=>ih q (by simp[hq])) hP.inv (by simpa using hk) (fun q hq=>hkz q (by simp[hq])) (by unfold jBw;omega) (by rw[g3,ka,List.length_append,List.length_append,List.length_singleton,List.length_singleton];omega)
  simp only[jAl,List.headD_cons,List.tail_cons]
  refine⟨((4,1,a),v)::es,e0++(e++e2),i1,by rw[i2,g1,q1,List.append_assoc,List.append_assoc],by simp only[List.length_append,List.length_cons,jBb,jBw,List.map_cons,List.sum_cons] at i3⊢;omega,?_,?_,?_,?_,?_,fun c hc=>by rw[i9 c (by omega),hP.nms c (by omega),hK.nms c hc]⟩
  ·rw[i4,g3,ka,List.append_assoc,List.append_assoc];rfl
  ·refine TellsL.cons ?_ i5
   rw[i2,g1]
   exact (q4.more _).more _
  ·intro p hp
   rcases List.mem_cons.1 hp with rfl|hp
   ·rfl
   ·exact i6 p hp
  ·simp only[List.map_cons]
   rw[i7,i9 a (by omega),hP.nms a kl,kn]
  ·refine TellsL.cons ?_ i8
   rw[i2]
   exact g4.more _
theorem Pushed.wide {x x':BS} {t:Tr} {c d:Nat} (h:Pushed x x' t c) (hd:c≤d):Pushed x x' t d:=by
 obtain⟨e,h1,h2⟩:=h.grow
 exact⟨h.inv,⟨e,h1,Nat.le_trans h2 hd⟩,h.push,h.nms⟩
theorem Pushed.after {x y z:BS} {t:Tr} {c d:Nat} {e:List UInt8} {K:List V3} (h:Pushed {y with stk:=K} z t c) (hs:y.s.1=x.s.1++e) (hk:K=x.stk) (hd:e.length+c≤d) (hn:∀a:Int,a < x.s.1.length→jAB y.names a=jAB x.names a):Pushed x z t d:=by
 obtain⟨e2,h1,h2⟩:=h.grow
 obtain⟨v,h3,h4⟩:=h.push
 refine⟨h.inv,⟨e++e2,by rw[h1];show y.s.1++e2=_;rw[hs,List.append_assoc],by rw[List.length_append];omega⟩,⟨v,by rw[h3,← hk],h4⟩,fun a ha=>?_⟩
 rw[h.nms a (by show a < (y.s.1.length:Int);rw[hs,List.length_append];omega)]
 exact hn a ha
theorem jOl {most flags:Int} (hmost:most≤1048576):∀(m:Nat) (t:Tr) (b:Nat) (x:BS),t.size≤m→jCd b t→jJ2 t→jJK t→Inv x→(x.s.1.length:Int)+jCr t≤most→x.stk.length+3*t.size≤65535→Pushed x (jf most flags t x) t (jCr t):=by
 intro m
 induction m with
 | zero=>intro t b x h;have:=t.size_pos;omega
 | succ m ihm=>
  intro t b x hz hv hs hr h hrm hst
  obtain⟨k,n,u,s,keys,l⟩:=t
  have hn:=jBa hv
  obtain⟨v0,v1,v2,v3,v4,v5,v6⟩:=hn
  have hall:=valL_iff.1 hv.2.2.2
  obtain⟨s1,s2⟩:=srt_iff.1 hs
  have hrl:=rngL_iff.1 hr.2
  have hr0:=hr.1
  simp only[Tr.size] at hz hst
  have hll:=jCP l
  have hlc:=jKr l
  simp only[jCr] at hrm
  have ihl:∀t∈l,∀x:BS,Inv x→(x.s.1.length:Int)+jCr t≤most→x.stk.length+3*t.size≤65535→Pushed x (jf most flags t x) t (jCr t):=fun t ht y=>ihm t (b+1) y (by have:=jAN ht;omega) (hall t ht) (s2 t ht) (hrl t ht)
  have hpk:=jNK hv
  simp only[jf,jCr]
  have hsk:k≤9→jf most flags (.mk k n u s keys l) x=jCM most flags k n u s x:=fun h9=>by
   simp only[jf]
   rw[if_neg (by omega),if_neg (by omega),if_neg (by omega),if_neg (by omega),if_neg (by omega),if_neg (by omega),if_neg (by omega),if_neg (by omega)]
  have hk17:=jL5 k v0.1 v0.2
  rcases hk17 with rfl|rfl|rfl|rfl|rfl|rfl|rfl|rfl|rfl|rfl|rfl|rfl|rfl|rfl|rfl|rfl|rfl
  ·-- null
   obtain rfl:=v1 (by decide);obtain rfl:=v2 (by decide);obtain rfl:=v4 (by decide) (by decide) (by decide);obtain rfl:=v5 (by decide) (by decide);obtain rfl:=v6 (by decide) (by decide) (by decide)
   exact (jEG h (.inl ⟨rfl,rfl⟩) (by omega)).wide (by omega)
  ·have hkb:=jKq hv rfl
   have hP:=jEG (v:=jAL (decide (n=1))) (t:=.mk 2 n u s keys l) h (.inr (.inl ⟨decide (n=1),rfl,hkb⟩)) (by omega)
   exact hP.wide (by omega)
  ·have hkb:=jJL hv rfl
   have hP:=jEG (v:=jAn n) (t:=.mk 3 n u s keys l) h (.inr (.inr (.inl ⟨n,hr0.1,rfl,hkb⟩))) (by omega)
   exact hP.wide (by omega)
  ·have hkb:=jJM hv rfl
   have hP:=jEG (v:=jAo u) (t:=.mk 4 n u s keys l) h (.inr (.inr (.inr ⟨u,hr0.2,rfl,hkb⟩))) (by omega)
   exact hP.wide (by omega)
  ·obtain⟨hkb,hke⟩:=jJN hv rfl
   rw[hkb]
   exact (jOg h hke (by show _+((s.size:Int)+1)≤_;omega) (by omega)).1.wide (by show s.size+1≤_;omega)
  ·obtain rfl:=v1 (by decide);obtain rfl:=v2 (by decide);obtain rfl:=v4 (by decide) (by decide) (by decide);obtain rfl:=v5 (by decide) (by decide)
   exact (jOi h (by omega) (by omega) hmost).wide (by omega)
  ·obtain rfl:=v1 (by decide);obtain rfl:=v2 (by decide);obtain rfl:=v4 (by decide) (by decide) (by decide);obtain rfl:=v5 (by decide) (by decide)
   exact (jNH h (by omega) (by omega) hmost).wide (by omega)
  ·obtain rfl:=v1 (by decide);obtain rfl:=v2 (by decide);obtain rfl:=v5 (by decide) (by decide);obtain rfl:=v6 (by decide) (by decide) (by decide)
   exact (jKl h (by omega) (by omega) hmost (.inl ⟨rfl,n,hr0.1,rfl,rfl⟩)).wide (by omega)
  ·obtain rfl:=v1 (by decide);obtain rfl:=v2 (by decide);obtain rfl:=v4 (by decide) (by decide) (by decide);obtain rfl:=v6 (by decide) (by decide) (by decide)
   exact (jKl h (by omega) (by omega) hmost (.inr ⟨rfl,u,hr0.2,rfl,rfl⟩)).wide (by omega)
  ·-- untyped vector
   obtain rfl:=v2 (by decide);obtain rfl:=v4 (by decide) (by decide) (by decide);obtain rfl:=v5 (by decide) (by decide);obtain rfl:=v6 (by decide) (by decide) (by decide)
   obtain⟨vs,e,i1,i2,i3,i4,i5,i6⟩:=jIW l x ihl h (by omega) (by omega)
   have hvl:=i5.1
   have hlen:(jAS most flags l x).s.1.length=x.s.1.length+e.length:=by rw[i2,List.length_append]
   have hE:(jAS most flags l x).endVec most x.stk.length=({jAS most flags l x with stk:=x.stk}:BS).vector most (-1) 0 vs:=by
    unfold BS.endVec
    rw[if_pos i1.e0,if_pos ⟨by omega,by rw[i4,List.length_append];omega⟩,i4,Int.toNat_natCast,List.drop_left,List.take_left' rfl]
   show Pushed x ((jAS most flags l x).endVec most x.stk.length) _ _
   rw[hE]
   have hP:=jLk (most:=most) (elem:=-1) (many:=0) (typ:=10) (kd:=10) (len:=true) (tagged:=true) (T:=jZ) (x:={jAS most flags l x with stk:=x.stk}) (i1.stk x.stk) i5 (fun s=>rfl) (fun v hv=>(i5.near (by omega) v hv).1) (by show jAg 10=(10,0);decide) (by decide) (by decide) (fun e=>by cases e) (fun e=>by cases e) (by show x.stk.length+1≤_;omega) (by omega) (by show ((jAS most flags l x).s.1.length:Int)+_≤most;omega) hmost (by decide)
   exact hP.after i2 rfl (by omega) i6
  ·obtain rfl:=v2 (by decide);obtain rfl:=v4 (by decide) (by decide) (by decide);obtain rfl:=v5 (by decide) (by decide);obtain rfl:=v6 (by decide) (by decide) (by decide)
   have hkk:=hpk (by decide)
   have hT:TellsL x.s.1 (l.map fun t=>jAn t.fn) l:=jCa fun t ht=>.inr (.inr (.inl ⟨t.fn,by have:=(hrl t ht);cases t;exact this.1.1,rfl,jJL (hall t ht) (hkk t ht)⟩))
   have hP:=jFA (most:=most) (el:=1) (typ:=11) (kd:=11) h hT (by decide) (by decide +kernel) (by decide) (by decide) (by decide) (fun v hv=>by obtain⟨t,_,rfl⟩:=List.mem_map.1 hv;rfl) ⟨by decide,.inl (by decide)⟩ (by omega) (by rw[List.length_map];omega) (by rw[List.length_map];omega) hmost (by decide)
   rw[List.length_map] at hP
   exact hP.wide (by omega)
  ·obtain rfl:=v2 (by decide);obtain rfl:=v4 (by decide) (by decide) (by decide);obtain rfl:=v5 (by decide) (by decide);obtain rfl:=v6 (by decide) (by decide) (by decide)
   have hkk:=hpk (by decide)
   have hT:TellsL x.s.1 (l.map fun t=>jAo t.fu) l:=jCa fun t ht=>.inr (.inr (.inr ⟨t.fu,by have:=(hrl t ht);cases t;exact this.1.2,rfl,jJM (hall t ht) (hkk t ht)⟩))
   have hP:=jFA (most:=most) (el:=2) (typ:=12) (kd:=12) h hT (by decide) (by decide +kernel) (by decide) (by decide) (by decide) (fun v hv=>by obtain⟨t,_,rfl⟩:=List.mem_map.1 hv;rfl) ⟨by decide,.inl (by decide)⟩ (by omega) (by rw[List.length_map];omega) (by rw[List.length_map];omega) hmost (by decide)
   rw[List.length_map] at hP
   exact hP.wide (by omega)
  ·obtain rfl:=v2 (by decide);obtain rfl:=v4 (by decide) (by decide) (by decide);obtain rfl:=v5 (by decide) (by decide);obtain rfl:=v6 (by decide) (by decide) (by decide)
   have hkk:=hpk (by decide)
   have hmk:=jOk hall hkk
   have hkc:=jHO (b:=0) (l:=l)
   have hP:=jNI (most:=most) (sh:=onF flags 1) (l:=l.map Tr.fs) h (fun q hq=>by obtain⟨t,ht,rfl⟩:=List.mem_map.1 hq;exact (jJN (hall t ht) (hkk t ht)).2) (by omega) (by rw[List.length_map];omega) (by rw[List.length_map];omega) hmost
   rw[List.length_map,hmk] at hP
   exact hP.wide (by omega)
  ·obtain rfl:=v2 (by decide);obtain rfl:=v4 (by decide) (by decide) (by decide);obtain rfl:=v5 (by decide) (by decide);obtain rfl:=v6 (by decide) (by decide) (by decide)
   have hkk:=hpk (by decide)
   have hT:TellsL x.s.1 (l.map fun t=>jAL (decide (t.fn=1))) l:=jCa fun t ht=>.inr (.inl ⟨decide (t.fn=1),rfl,jKq (hall t ht) (hkk t ht)⟩)
   have hP:=jFA (most:=most) (el:=26) (typ:=36) (kd:=14) h hT (by decide) (by decide +kernel) (by decide) (by decide) (by decide) (fun v hv=>by obtain⟨t,_,rfl⟩:=List.mem_map.1 hv;rfl) ⟨by decide,.inl (by decide)⟩ (by omega) (by rw[List.length_map];omega) (by rw[List.length_map];omega) hmost (by decide)
   rw[List.length_map] at hP
   exact hP.wide (by omega)
  ·obtain rfl:=v2 (by decide);obtain rfl:=v4 (by decide) (by decide) (by decide);obtain rfl:=v5 (by decide) (by decide);obtain rfl:=v6 (by decide) (by decide) (by decide)
   have hkk:=hpk (by decide)
   have hT:TellsL x.s.1 (l.map fun t=>jAn t.fn) l:=jCa fun t ht=>.inr (.inr (.inl ⟨t.fn,by have:=(hrl t ht);cases t;exact this.1.1,rfl,jJL (hall t ht) (hkk t ht)⟩))
   have hfx:2≤l.length∧l.length≤4:=by
    have hb:=hv.2.1
    simp only[jl,Bool.and_eq_true,decide_eq_true_eq,Bool.or_eq_true,Bool.not_eq_true'] at hb
    have:=hb.1.2
    simpa using this
   have hP:=jKm (most:=most) (el:=1) (kd:=15) h hT (.inl ⟨rfl,rfl⟩) (fun v hv=>by obtain⟨t,_,rfl⟩:=List.mem_map.1 hv;rfl) (by rw[List.length_map];exact hfx) (by omega) (by rw[List.length_map];omega) hmost
   rw[List.length_map] at hP
   exact hP.wide (by omega)
  ·obtain rfl:=v2 (by decide);obtain rfl:=v4 (by decide) (by decide) (by decide);obtain rfl:=v5 (by decide) (by decide);obtain rfl:=v6 (by decide) (by decide) (by decide)
   have hkk:=hpk (by decide)
   have hT:TellsL x.s.1 (l.map fun t=>jAo t.fu) l:=jCa fun t ht=>.inr (.inr (.inr ⟨t.fu,by have:=(hrl t ht);cases t;exact this.1.2,rfl,jJM (hall t ht) (hkk t ht)⟩))
   have hfx:2≤l.length∧l.length≤4:=by
    have hb:=hv.2.1
    simp only[jl,Bool.and_eq_true,decide_eq_true_eq,Bool.or_eq_true,Bool.not_eq_true'] at hb
    have:=hb.1.2
    simpa using this
   have hP:=jKm (most:=most) (el:=2) (kd:=16) h hT (.inr ⟨rfl,rfl⟩) (fun v hv=>by obtain⟨t,_,rfl⟩:=List.mem_map.1 hv;rfl) (by rw[List.length_map];exact hfx) (by omega) (by rw[List.length_map];omega) hmost
   rw[List.length_map] at hP
   exact hP.wide (by omega)
  ·-- map
   obtain rfl:=v4 (by decide) (by decide) (by decide);obtain rfl:=v5 (by decide) (by decide);obtain rfl:=v6 (by decide) (by decide) (by decide)
   obtain⟨hnd,hkl⟩:=v3 rfl
   have hkz:∀q∈keys,jAx q=0:=by
    have hz:=hv.2.2.1
    simp only[jAW] at hz
    rw[if_neg (by decide)] at hz
    intro q hq
    rw[jIu,((jFO keys []).1 hz).1 q hq |>.1]
    rfl
   have hkc:jBw keys+31*l.length≤(keys.map fun k=>k.size+32).sum:=by
    rw[← hkl]
    clear hkz hnd hkl s1 v3 hv hs hr hrm hr0 hpk hsk
    induction keys with
    | nil=>simp[jBw]
    | cons q r ih=>simp only[jBw,List.map_cons,List.sum_cons,List.length_cons] at ih⊢;omega
   obtain⟨es,e,i1,i2,i3,i4,i5,i6,i7,i8,i9⟩:=jIX l keys x ihl h hkl hkz (by omega) (by omega)
   have hel:=i8.1
   rw[List.length_map] at hel
   have hlen:(jAl most flags l keys x).s.1.length=x.s.1.length+e.length:=by rw[i2,List.length_append]
   have hP:=jNJ (most:=most) (sh:=onF flags 4) (K:=x.stk) i1 i4 i5 i6 i7 hkz s1 i8 (by omega) (by omega) (by omega) hmost
   exact hP.after i2 rfl (by omega) i9
mutual
def smT (K:Nat):Tr→Prop | .mk k n u s keys l=>(s.size≤K∧∀q∈keys,q.size≤K)∧smL K l
def smL (K:Nat):List Tr→Prop | []=>True | t::r=>smT K t∧smL K r
end
theorem smL_iff {K:Nat}:∀{l:List Tr},smL K l↔∀x∈l,smT K x
 | []=>by simp[smL]
 | t::r=>by simp[smL,smL_iff (l:=r)]
theorem cost_le {K:Nat}:∀(m:Nat) (t:Tr) (b:Nat),t.size≤m→jCd b t→smT K t→jCr t+(32+K+32)≤(128+2*K)*t.size:=by
 intro m
 induction m with
 | zero=>intro t b h;have:=t.size_pos;omega
 | succ m ih=>
  intro t b h hv hs
  obtain⟨k,n,u,s,keys,l⟩:=t
  obtain⟨_,_,v3,v4,_⟩:=jBa hv
  have hall:=valL_iff.1 hv.2.2.2
  have hsl:=smL_iff.1 hs.2
  simp only[Tr.size] at h
  have hkeys:(keys.map fun q=>q.size+32).sum≤(K+32)*l.length:=by
   have h1:∀r:List ByteArray,(∀q∈r,q.size≤K)→(r.map fun q=>q.size+32).sum≤(K+32)*r.length:=by
    intro r
    induction r with
    | nil=>intro _;simp
    | cons q r ihr=>
     intro hq
     have:=ihr fun z hz=>hq z (by simp[hz])
     have:=hq q (by simp)
     simp only[List.map_cons,List.sum_cons,List.length_cons,Nat.mul_add,Nat.mul_one] at this⊢
     omega
   have h2:=h1 keys hs.1.2
   by_cases e:k=17
   ·rw[(v4 e).2] at h2;exact h2
   ·rw[v3 e];simp
  have hl:∀r:List Tr,(∀x∈r,x∈l)→jBb r+(K+32)*r.length≤(128+2*K)*j7 r:=by
   intro r
   induction r with
   | nil=>intro _;simp[jBb,j7]
   | cons x r ihr=>
    intro hm
    have h1:=ihr fun z hz=>hm z (by simp[hz])
    have hx:=hm x (by simp)
    have h2:=ih x (b+1) (by have:=jAN hx;omega) (hall x hx) (hsl x hx)
    simp only[jBb,j7,List.length_cons,Nat.mul_add,Nat.mul_one] at h1⊢
    omega
  have h3:=hl l fun _ h=>h
  have h4:=hs.1.1
  simp only[jCr,Tr.size,Nat.mul_add,Nat.mul_one] at h3⊢
  omega
theorem jMO {K:Nat}:∀(m:Nat) (t:Tr),t.size≤m→smT K t→smT K (jh t):=by
 intro m
 induction m with
 | zero=>intro t h;have:=t.size_pos;omega
 | succ m ih=>
  intro t h hs
  obtain⟨k,n,u,s,keys,l⟩:=t
  simp only[Tr.size] at h
  have hsl:=smL_iff.1 hs.2
  have hk:∀x∈l,smT K (jh x):=fun x hx=>ih x (by have:=jAN hx;omega) (hsl x hx)
  simp only[jh]
  by_cases e:k=17
  ·rw[if_pos e]
   refine⟨⟨hs.1.1,fun q hq=>?_⟩,smL_iff.2 fun x hx=>?_⟩
   ·obtain⟨p,hp,rfl⟩:=List.mem_map.1 hq
    exact hs.1.2 _ (List.of_mem_zip ((jAD _).mem_iff.1 hp)).1
   ·obtain⟨p,hp,rfl⟩:=List.mem_map.1 hx
    have h1:=(List.of_mem_zip ((jAD _).mem_iff.1 hp)).2
    rw[jv] at h1
    obtain⟨y,hy,e⟩:=List.mem_map.1 h1
    rw[← e];exact hk y hy
  ·rw[if_neg e,jv]
   refine⟨hs.1,smL_iff.2 fun x hx=>?_⟩
   obtain⟨y,hy,rfl⟩:=List.mem_map.1 hx
   exact hk y hy
theorem jOm:∀(m:Nat) (t:Tr),t.size≤m→jJK t→jJK (jh t):=by
 intro m
 induction m with
 | zero=>intro t h;have:=t.size_pos;omega
 | succ m ih=>
  intro t h hs
  obtain⟨k,n,u,s,keys,l⟩:=t
  simp only[Tr.size] at h
  have hsl:=rngL_iff.1 hs.2
  have hk:∀x∈l,jJK (jh x):=fun x hx=>ih x (by have:=jAN hx;omega) (hsl x hx)
  simp only[jh]
  by_cases e:k=17
  ·rw[if_pos e]
   refine⟨hs.1,rngL_iff.2 fun x hx=>?_⟩
   obtain⟨p,hp,rfl⟩:=List.mem_map.1 hx
   have h1:=(List.of_mem_zip ((jAD _).mem_iff.1 hp)).2
   rw[jv] at h1
   obtain⟨y,hy,e⟩:=List.mem_map.1 h1
   rw[← e];exact hk y hy
  ·rw[if_neg e,jv]
   refine⟨hs.1,rngL_iff.2 fun x hx=>?_⟩
   obtain⟨y,hy,rfl⟩:=List.mem_map.1 hx
   exact hk y hy
theorem cut_sm (K:Nat):∀(m:Nat) (t:Tr) (left:Nat),t.size≤m→smT K (jA7 K left t).1:=by
 intro m
 induction m with
 | zero=>intro t left h;have:=t.size_pos;omega
 | succ m ih=>
  intro t left h
  obtain⟨k,n,u,s,keys,l⟩:=t
  simp only[Tr.size] at h
  simp only[jA7]
  refine⟨⟨by rw[jCG];exact Nat.min_le_right _ _,fun q hq=>?_⟩,?_⟩
  ·unfold jAR at hq
   obtain⟨z,_,rfl⟩:=List.mem_map.1 hq
   rw[jCG];exact Nat.min_le_right _ _
  ·have:∀(r:List Tr) (left:Nat),(∀x∈r,x∈l)→smL K (ja K left r).1:=by
    intro r
    induction r with
    | nil=>intro left _;simp[ja,smL]
    | cons x r ihr=>
     intro left hm
     rw[ja]
     by_cases e:left=0
     ·rw[if_pos e];trivial
     ·rw[if_neg e]
      have hx:=hm x (by simp)
      exact⟨ih x _ (by have:=jAN hx;omega),ihr _ fun z hz=>hm z (by simp[hz])⟩
   exact this l left fun _ h=>h
structure Built (most flags:Int) (t:Tr) (b:List UInt8) (v:V3):Prop where
 inv:Inv (jf most flags (jh t) BS.new)
 s:(jf most flags (jh t) BS.new).s=(b,0)
 stk:(jf most flags (jh t) BS.new).stk=[v]
 tells:Tells b v (jh t)
 len:b.length≤40000
theorem jOn {flags:Int} {t:Tr} (hc:jAw t=0) (hsm:smT 60 t) (hr:jJK t) (hz:t.size≤120):∃b v,Built 1048576 flags t b v:=by
 obtain⟨_,hv⟩:=check_val.1 hc
 obtain⟨hv2,hz2⟩:=jGp t.size t 0 (Nat.le_refl _) hv
 have hcost:=cost_le (K:=60) _ (jh t) 0 (Nat.le_refl _) hv2 (jMO _ t (Nat.le_refl _) hsm)
 have hP:=jOl (most:=1048576) (flags:=flags) (by decide) (jh t).size (jh t) 0 BS.new (Nat.le_refl _) hv2 (jJ3 t.size t 0 (Nat.le_refl _) hv) (jOm _ t (Nat.le_refl _) hr) Inv.new (by show ((0:Nat):Int)+_≤_;omega) (by show 0+_≤_;omega)
 obtain⟨e,h1,h2⟩:=hP.grow
 obtain⟨v,h3,h4⟩:=hP.push
 rw[show BS.new.s.1=[] from rfl,List.nil_append] at h1
 rw[show BS.new.stk=[] from rfl,List.nil_append] at h3
 exact⟨e,v,hP.inv,by rw[hP.inv.s,h1],h3,by rw[← h1];exact h4,by omega⟩
theorem Built.near {most flags:Int} {t:Tr} {b:List UInt8} {v:V3} (h:Built most flags t b v):jEI b.length v:=h.tells.near (by have:=h.len;omega)
theorem Built.doc_len {most flags:Int} {t:Tr} {b:List UInt8} {v:V3} (h:Built most flags t b v):(jHe b v).length≤40017∧b.length+3≤(jHe b v).length:=by
 have hb:=h.len
 have hw:=(jE7 (by omega) h.near).1
 have hl:=jG8 hw
 have hp:=jq hw
 have hpad:=jE8 b hw
 omega
section
variable {m M:Int} {G H:Int→St→St}
end
/-! ### the builder's steps -/
section
variable {m M:Int} {f:Int→BS→BS}
end
end Go.Proofs.YtdjoffgkndncfaaGreat
