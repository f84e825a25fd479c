/-
  Texts of the proof.
-/
import Derived.Test.YtdjoffgkndncfaaGreatDTurnedPAX
import Derived.Test.YtdjoffgkndncfaaGreatDTurnedPBM
set_option linter.unusedVariables false
set_option linter.unusedSimpArgs false
namespace Go.Proofs.YtdjoffgkndncfaaGreat
open Go Go.ChangeShapes Go.WideShapes Go.ChangeAt Go.RowKit Go.Joins Go.Deep
open Go.Proofs.YtdjoffgkndncfaaGreat.Ft (V3 vV okV ValsAt inlineB legalB packF codeF typedF allF oneF allAt headF fitsL fitsV fitsF belowW isA unpackF)
theorem sgn_num {n x:Int} (hx:isW x=true) (hn:kU n) (hw:Q2 n≤x):mJ (zP (n % 18446744073709551616) x) x=n:=by
 unfold kU at hn;unfold Q2 at hw;rcases zE hx with rfl|rfl|rfl|rfl
 all_goals
  unfold zP mJ;simp only[Int.reduceToNat,Nat.reduceMul,Nat.reduceSub,Int.reducePow];split at hw
  ·split<;>omega
  split at hw
  ·split<;>omega
  split at hw
  ·split<;>omega
  ·split<;>omega
theorem low_uns {u x:Int} (hx:isW x=true) (hu:qX u) (hw:Ft.widthOf u.toNat≤x):zP u x=u:=by
 unfold qX at hu;unfold Ft.widthOf at hw;have p8:(2:Nat) ^ 8=256:=by decide
 have p16:(2:Nat) ^ 16=65536:=by decide
 have p32:(2:Nat) ^ 32=4294967296:=by decide
 rw[p8,p16,p32] at hw;rcases zE hx with rfl|rfl|rfl|rfl
 all_goals
  unfold zP;simp only[Int.reduceToNat,Nat.reduceMul,Int.reducePow]
  repeat' split at hw
  all_goals omega
theorem num_of {d:List UInt8} {p x u:Int} (h:kJ d p x=(u,0)) (h1:u≤9007199254740992):z6 d p x=(u,true):=by
 unfold z6;rw[h];simp only[Int.min_eq_left h1,decide_true,Bool.true_and,decide_eq_true h1]
theorem l4 {x p:Int} {v:V3} (h:inlineB v.1=true):QH x p v=zP v.2.2 x:=by unfold QH;rw[if_pos h]
structure wU (x p:Int) (kC:Bool) (b X:List UInt8) (l:List V3):Prop where
 head:X.take b.length=b
 len:(X.length:Int)=p+x*l.length+(if kC then (l.length:Int) else 0)
 elem:∀(k:Nat) (v:V3),l[k]? = some v→kJ X (p+k*x) x=(QH x (p+k*x) v,0)
 tag:kC=true→∀(k:Nat) (v:V3),l[k]? = some v→X[(p+l.length*x).toNat+k]? = some (KX x v)
theorem heldB {b:List UInt8} {l:List V3} {x p:Int} {len kC:Bool} (hn:b.length≤1048576) (hl:l.length≤1048576) (h:∀v∈l,QZ b.length v) (hx:allF l (0,0,0) b.length (if len then 1 else 0)=x) (hp:(b.length:Int)+zF b x+(if len then x else 0)=p) :
 isW x=true∧wU x p kC b (b++(vJ x len kC b l).flatten) l∧(p - (if len then x else 0)) % x=0∧(b.length:Int)≤p - (if len then x else 0)∧p - (if len then x else 0) < b.length+x∧(len=true→kJ (b++(vJ x len kC b l).flatten) (p - x) x=((l.length:Int),0))∧(∀v∈l,inlineB v.1=true→v.2.1≤x):=by
 obtain⟨_,x0,hw,JI⟩:=VM (n:=b.length) (ahead:=if len then 1 else 0) (by cases len<;>simp) zo zo hl h;rw[hx] at hw JI;have hwp:=zY hw
 have hfit:fitsL l b.length (if len then 1 else 0) x=true:=by
  have h:=JI;unfold allAt at h;simp only[Bool.and_eq_true] at h;exact h.2
 have hpad:=uT (l:=b) hw;have hpe:=tS hw b;have hfe:fitE x p l:=nD hw l (if len then 1 else 0) p (by rw[← hp,hpe];cases len<;>simp) (by cases len<;>simp) hfit
 have hlenf:len=true→(l.length:Int) < 2 ^ (8*x.toNat):=by
  intro hl1;subst hl1;have h:=JI;unfold allAt headF at h;simp only[Bool.and_eq_true,belowW] at h;have:=h.1.1;simpa using this
 have hpieces:(vJ x len kC b l).flatten=(kM (zF b x)++(if len then yD x.toNat l.length else []))++(aG x p l).flatten++(if kC then l.map (KX x) else []):=by
  unfold vJ;rw[hp];cases len<;>cases kC<;>simp[nE]
 have hAl:((b++(kM (zF b x)++(if len then yD x.toNat l.length else []))).length:Int)=p:=by
  rw[← hp];cases len<;>simp[zM,zW]<;>omega
 have hEl:=QY hw l p;refine⟨hw,⟨?_,?_,?_,?_⟩,?_,?_,?_,?_,?_⟩
 ·exact List.take_left' rfl
 ·rw[hpieces];rw[← List.append_assoc,← List.append_assoc,List.length_append,List.length_append];cases kC
  ·simp only[Bool.false_eq_true,if_false,List.length_nil] at hAl⊢;omega
  ·simp only[if_true,List.length_map] at hAl⊢;omega
 ·intro k v hk;obtain⟨A,C,hA,hAk⟩:=wI hw l p k v hk;have hb:=pR l p k v hfe hk;refine fO (A:=b++(kM (zF b x)++(if len then yD x.toNat l.length else []))++A) (C:=C++(if kC then l.map (KX x) else [])) hw ?_ ?_ hb.1 hb.2
  ·rw[hpieces,hA];simp only[List.append_assoc]
  ·rw[List.length_append];omega
 ·intro ht k v hk;subst ht
  have hXl:(b++(kM (zF b x)++(if len then yD x.toNat l.length else []))++(aG x p l).flatten).length=(p+l.length*x).toNat:=by
   rw[List.length_append];have:(l.length:Int)*x=x*l.length:=Int.mul_comm _ _;omega
  rw[hpieces,← List.append_assoc,← List.append_assoc,← hXl,List.getElem?_append_right zo,Nat.add_sub_cancel_left,if_pos rfl,List.getElem?_map,hk];rfl
 ·have:p - (if len then x else 0)=((b.length:Int)+x - 1) / x*x:=by rw[← hp,← hpe];cases len<;>simp<;>omega
  rw[this];exact Int.mul_emod_left _ _
 ·rw[← hp];cases len<;>simp<;>omega
 ·rw[← hp];cases len<;>simp<;>omega
 ·intro hl1;subst hl1;simp only[if_true] at hp hpieces hAl⊢;refine fO (A:=b++kM (zF b x)) (C:=(aG x p l).flatten++(if kC then l.map (KX x) else [])) hw ?_ ?_ zo (hlenf rfl)
  ·rw[hpieces];simp only[List.append_assoc,Int.toNat_natCast]
  ·rw[List.length_append,zM];omega
 ·intro v hv hi;obtain⟨k,hk,hkv⟩:=List.getElem_of_mem hv;have:=lH l _ _ x k v hfit (by rw[List.getElem?_eq_getElem hk,hkv]);unfold fitsV fitsF at this;rw[if_pos hi] at this;exact of_decide_eq_true this
theorem DB {X e:List UInt8} {i:Nat} {c:UInt8} (h:X[i]? = some c):(X++e)[i]? = some c:=by
 rw[List.getElem?_append_left (List.getElem?_eq_some_iff.1 h).1];exact h
def KY (jB jC k n u:Int) (s:ByteArray) (x:BS):BS:=
 if k=1 then x.inline (0,1,0) else if k=2 then x.inline (qH (decide (n=1))) else if k=3 then x.inline (z7 n) else if k=4 then x.inline (yF u)
 else if k=8 then x.apart jB 6 (z7 n) else if k=9 then x.apart jB 7 (yF u) else if k=5 then x.key jB (onF jC 1) s else if k=6 then x.str jB (onF jC 2) s else if k=7 then x.blob jB s else x
mutual
def zB (jB jC:Int):Tr→BS→BS
 | .mk k n u s keys l,x=>
  if k=11 then x.vector jB 1 0 (l.map fun t=>z7 t.fn) else if k=12 then x.vector jB 2 0 (l.map fun t=>yF t.fu)
  else if k=14 then x.vector jB 26 0 (l.map fun t=>qH (decide (t.fn=1))) else if k=13 then x.keyVec jB (onF jC 1) (l.map Tr.fs)
  else if k=15 then x.fixed jB 1 (l.map fun t=>z7 t.fn) else if k=16 then x.fixed jB 2 (l.map fun t=>yF t.fu)
  else if k=10 then (J5 jB jC l x).endVec jB x.stk.length
  else if k=17 then (KK jB jC l keys x).endMap jB (onF jC 4) x.stk.length
  else KY jB jC k n u s x
def J5 (jB jC:Int):List Tr→BS→BS
 | [],x=>x
 | t::r,x=>J5 jB jC r (zB jB jC t x)
def KK (jB jC:Int):List Tr→List ByteArray→BS→BS
 | [],_,x=>x
 | t::r,ks,x=>KK jB jC r ks.tail (zB jB jC t (x.key jB (onF jC 1) (ks.headD EMB)))
end
mutual
def costT:Tr→Nat | .mk k n u s keys l=>64+s.size+(keys.map fun k=>k.size+32).sum+rS l
def rS:List Tr→Nat | []=>0 | t::r=>costT t+32+rS r
end
end Go.Proofs.YtdjoffgkndncfaaGreat
namespace Go.Proofs.YtdjoffgkndncfaaGreat
open Go Go.ChangeShapes Go.WideShapes Go.ChangeAt Go.RowKit Go.Joins Go.Deep
open Go.Proofs.YtdjoffgkndncfaaGreat.Ft (V3 vV okV ValsAt inlineB legalB packF codeF typedF allF oneF)
theorem t8 {jB jC k n u:Int} {s:ByteArray} {x:BS} (h:x.Good):(KY jB jC k n u s x).Good:=by
 unfold KY
 repeat' split
 all_goals first | exact h.inline | exact h.apart | exact h.key | exact h.str | exact h.blob | exact h
mutual
theorem gK {jB jC:Int}:∀(t:Tr) {x:BS},x.Good→(zB jB jC t x).Good
 | .mk k n u s keys l,x,h=>by
  simp only[zB];have h1:=(Z2 (jB:=jB) (jC:=jC) l h).endVec (jB:=jB) (start:=x.stk.length);have h2:=(Z3 (jB:=jB) (jC:=jC) l keys h).endMap (jB:=jB) (sh:=onF jC 4) (start:=x.stk.length)
  repeat' split
  all_goals first | exact h1 | exact h2 | exact h.vector | exact h.keyVec | exact h.fixed | exact t8 h
theorem Z2 {jB jC:Int}:∀(l:List Tr) {x:BS},x.Good→(J5 jB jC l x).Good
 | [],_,h=>h
 | t::r,_,h=>Z2 r (gK t h)
theorem Z3 {jB jC:Int}:∀(l:List Tr) (ks:List ByteArray) {x:BS},x.Good→(KK jB jC l ks x).Good
 | [],_,_,h=>h
 | t::r,ks,_,h=>Z3 r ks.tail (gK t h.key)
end
mutual
def okE:Tr→Prop | .mk k n u s keys l=>(s.size≤1048576∧(∀q∈keys,q.size≤1048576)∧l.length≤4096∧(k=17→keys.length=l.length))∧okEL l
def okEL:List Tr→Prop | []=>True | t::r=>okE t∧okEL r
end
theorem okEL_iff:∀{l:List Tr},okEL l↔∀x∈l,okE x
 | []=>by simp[okEL]
 | t::r=>by simp[okEL,okEL_iff (l:=r)]
theorem dL {jB jC:Int}:∀(l:List Tr) (t:Tr) (x:BS),J5 jB jC (l++[t]) x=zB jB jC t (J5 jB jC l x)
 | [],_,_=>rfl
 | y::r,t,x=>dL r t _
theorem dM {jB jC:Int}:∀(l:List Tr) (ks:List ByteArray) (t:Tr) (k:ByteArray) (x:BS),ks.length=l.length→KK jB jC (l++[t]) (ks++[k]) x=zB jB jC t ((KK jB jC l ks x).key jB (onF jC 1) k)
 | [],ks,t,k,x,h=>by
  have:ks=[]:=List.length_eq_zero_iff.1 iG;subst this;rfl
 | y::r,[],t,k,x,h=>by simp at h
 | y::r,q::ks,t,k,x,h=>dM r ks t k _ iG
end Go.Proofs.YtdjoffgkndncfaaGreat
namespace Go.Proofs.YtdjoffgkndncfaaGreat
open Go Go.ChangeShapes Go.WideShapes Go.ChangeAt Go.RowKit Go.Joins Go.Deep
open Go.Proofs.YtdjoffgkndncfaaGreat.Ft (V3 vV okV ValsAt inlineB legalB packF codeF typedF allF oneF allAt headF fitsL fitsV fitsF belowW isA unpackF)
mutual
def rngT:Tr→Prop | .mk k n u s keys l=>(kU n∧qX u)∧rngL l
def rngL:List Tr→Prop | []=>True | t::r=>rngT t∧rngL r
end
theorem rngL_iff:∀{l:List Tr},rngL l↔∀x∈l,rngT x
 | []=>by simp[rngL]
 | t::r=>by simp[rngL,rngL_iff (l:=r)]
mutual
theorem rT {w:World}:∀{t:Tr} {v:Value},jO w t v→rngT t
 | .mk k n u s keys l,v,⟨hb,kv,lv,vs,e,h1,h2,h3⟩=>⟨⟨hb.2.1,hb.2.2.1⟩,rU h3⟩
theorem rU {w:World}:∀{l:List Tr} {vs:List Value},y9 w l vs→rngL l
 | [],_,_=>trivial
 | t::r,_,⟨v,vr,e,h1,h2⟩=>⟨rT h1,rU h2⟩
end
mutual
def smT (K:Nat):Tr→Prop | .mk k n u s keys l=>(s.size≤K∧∀q∈keys,q.size≤K)∧smL K l
def smL (K:Nat):List Tr→Prop | []=>True | t::r=>smT K t∧smL K r
end
theorem smL_iff {K:Nat}:∀{l:List Tr},smL K l↔∀x∈l,smT K x
 | []=>by simp[smL]
 | t::r=>by simp[smL,smL_iff (l:=r)]
theorem cost_le {K:Nat}:∀(m:Nat) (t:Tr) (b:Nat),t.size≤m→dX b t→smT K t→costT t+(32+K+32)≤(128+2*K)*t.size:=by
 intro m
 induction m with
 | zero=>intro t b h;have:=t.size_pos;omega
 | succ m ih=>
  intro t b h hv hs;obtain⟨k,n,u,s,keys,l⟩:=t;obtain⟨_,_,v3,v4,_⟩:=fC hv;have JI:=valL_iff.1 hv.2.2.2;have hsl:=smL_iff.1 hs.2;simp only[Tr.size] at h
  have qP:(keys.map fun q=>q.size+32).sum≤(K+32)*l.length:=by
   have h1:∀r:List ByteArray,(∀q∈r,q.size≤K)→(r.map fun q=>q.size+32).sum≤(K+32)*r.length:=by
    intro r
    induction r with
    | nil=>intro _;simp
    | cons q r ihr=>
     intro hq;have:=ihr fun z hz=>hq z (by simp[hz]);have:=hq q zp2;simp only[List.map_cons,List.sum_cons,List.length_cons,Nat.mul_add,Nat.mul_one] at this⊢;omega
   have h2:=h1 keys hs.1.2;by_cases e:k=17
   ·rw[(v4 e).2] at h2;exact h2
   ·rw[v3 e];simp
  have hl:∀r:List Tr,(∀x∈r,x∈l)→rS r+(K+32)*r.length≤(128+2*K)*yN r:=by
   intro r
   induction r with
   | nil=>intro _;simp[rS,yN]
   | cons x r ihr=>
    intro hm;have h1:=ihr fun z hz=>hm z (by simp[hz]);have hx:=hm x zp2;have h2:=ih x (b+1) zp16 (JI x hx) (hsl x hx);simp only[rS,yN,List.length_cons,Nat.mul_add,Nat.mul_one] at h1⊢;omega
  have h3:=hl l fun _ h=>h;have h4:=hs.1.1;simp only[costT,Tr.size,Nat.mul_add,Nat.mul_one] at h3⊢;omega
theorem sm_sort {K:Nat}:∀(m:Nat) (t:Tr),t.size≤m→smT K t→smT K (yV t):=by
 intro m
 induction m with
 | zero=>intro t h;have:=t.size_pos;omega
 | succ m ih=>
  intro t h hs;obtain⟨k,n,u,s,keys,l⟩:=t;simp only[Tr.size] at h;have hsl:=smL_iff.1 hs.2;have hk:∀x∈l,smT K (yV x):=fun x hx=>ih x zp16 (hsl x hx);simp only[yV];by_cases e:k=17
  ·rw[if_pos e];refine⟨⟨hs.1.1,fun q hq=>?_⟩,smL_iff.2 fun x hx=>?_⟩
   ·obtain⟨p,hp,rfl⟩:=List.mem_map.1 hq;exact hs.1.2 _ (List.of_mem_zip ((vG _).mem_iff.1 hp)).1
   ·obtain⟨p,hp,rfl⟩:=List.mem_map.1 hx;have h1:=(List.of_mem_zip ((vG _).mem_iff.1 hp)).2;rw[vA] at h1;obtain⟨y,hy,e⟩:=List.mem_map.1 h1;rw[← e];exact hk y hy
  ·rw[if_neg e,vA];refine⟨hs.1,smL_iff.2 fun x hx=>?_⟩;obtain⟨y,hy,rfl⟩:=List.mem_map.1 hx;exact hk y hy
section
variable {m M:Int} {G H:Int→St→St}
end
/-! ### the builder's steps -/
section
variable {m M:Int} {f:Int→BS→BS}
end
end Go.Proofs.YtdjoffgkndncfaaGreat
