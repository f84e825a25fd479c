/-
  Texts of the proof.
-/
import Derived.Test.YtjnpcddbgfmpcaaGreatDoorBListsPBX
import Derived.Lib.Strings
set_option linter.unusedVariables false
set_option linter.unusedSimpArgs false
namespace Go.Proofs.YtjnpcddbgfmpcaaGreatDoor
open Go Go.ChangeShapes Go.WideShapes Go.ChangeAt Go.RowKit Go.Joins Go.Deep
theorem Q6:∀(k:List UInt8),(0:UInt8)∉k→Lib.indexByte k 0 = -1
 | [],_=>rfl
 | b::r,h=>by
  have hb:(b == 0)=false:=by
   rw[beq_eq_false_iff_ne]
   exact fun e=>h (by simp[e])
  have ih:=Q6 r (fun e=>h (by simp[e]))
  unfold Lib.indexByte
  rw[ih,hb]
  rfl
theorem pZ (k:ByteArray):yL (Q5 k)=0:=by
 unfold yL
 rw[Q6 _ (cU k)]
 rfl
theorem lS {n:Nat}:∀(l:List ByteArray),(∀k∈l,k.size≤n)→vX l≤(n+1)*l.length
 | [],_=>Nat.zero_le _
 | k::r,h=>by
  have ih:=lS r (fun z hz=>h z (by simp[hz]))
  have hk:=h k (by simp)
  unfold vX at ih⊢
  rw[List.map_cons,List.sum_cons,List.length_cons,Nat.mul_add]
  omega
def dH (N:List ByteArray) (s:ByteArray):Bool:=N.any fun y=>y.toList == s.toList
theorem tC {N:List ByteArray} {k:Nat} {y:ByteArray} (s:ByteArray) (h:N[k]? = some y):(dH (N.take k) s || (y.toList == s.toList))=dH (N.take (k+1)) s:=by
 obtain⟨hl,hs⟩:=List.getElem?_eq_some_iff.1 h
 unfold dH
 rw[List.take_succ_eq_append_getElem hl,hs,List.any_append]
 simp
theorem had_iff {N:List ByteArray} {s:ByteArray}:dH N s=true↔s∈N:=by
 unfold dH
 rw[List.any_eq_true]
 constructor
 ·rintro ⟨y,hy,he⟩
  rw[VC,decide_eq_true_eq] at he
  rw[← he];exact hy
 ·intro h
  exact⟨s,h,by rw[VC];exact decide_eq_true rfl⟩
theorem had_no {N:List ByteArray} {s:ByteArray}:dH N s=false↔s∉N:=by
 rw[← had_iff,Bool.not_eq_true]
end Go.Proofs.YtjnpcddbgfmpcaaGreatDoor
namespace Go.Proofs.YtjnpcddbgfmpcaaGreatDoor
open Go Go.ChangeShapes Go.WideShapes Go.ChangeAt Go.RowKit Go.Joins Go.Deep
open Go.Proofs.YtjnpcddbgfmpcaaGreatDoor.Ft (V3 vV okV ValsAt inlineB legalB packF codeF typedF allF)
def seqB (x:BS) (l:List ByteArray):BS:=l.foldl (fun x s=>(x.key 1048576 true s).inline (0,1,0)) x
theorem p4 (x:BS) (l:List ByteArray) (s:ByteArray):seqB x (l++[s])=((seqB x l).key 1048576 true s).inline (0,1,0):=by
 unfold seqB
 rw[List.foldl_append]
 rfl
theorem vN:∀(l:List ByteArray) {x:BS},x.Good→(seqB x l).Good
 | [],_,h=>h
 | s::r,x,h=>vN r (x:=(x.key 1048576 true s).inline (0,1,0)) (BS.Good.inline (v:=(0,1,0)) (BS.Good.key (most:=1048576) (sh:=true) (k:=s) h))
open Classical in
theorem NB.news {L:k8} {V:List V3}:∀(l:List ByteArray) {N:List ByteArray} {b:List UInt8} {x:BS},NB [] N N b L V x→(∀k∈l,yL k=0)→(N++l).Nodup→(b.length:Int)+vX l≤1000→(N++l).length≤40 →
 ∃b',NB [] (N++l) (N++l) b' L V (seqB x l)∧b'.length≤b.length+vX l
 | [],N,b,x,h,_,_,_,_=>⟨b,by rw[List.append_nil];exact h,by omega⟩
 | s::r,N,b,x,h,hk,hnd,hb,hl=>by
  have e1:vX (s::r)=(s.size+1)+vX r:=by unfold vX;simp
  rw[e1] at hb⊢
  have hns:s∉N:=fun hm=>by
   rw[List.nodup_append] at hnd
   exact hnd.2.2 s hm s (by simp) rfl
  rw[List.length_append,List.length_cons] at hl
  have hst:=h.step (hk s (by simp)) (by omega) (by decide) (by omega)
  rw[if_neg hns] at hst
  have e2:(s.data.toList++[0]:List UInt8).length=s.size+1:=by
   rw[List.length_append,Array.length_toList];rfl
  obtain⟨b',h1,h2⟩:=NB.news r (x:=(x.key 1048576 true s).inline (0,1,0)) hst (fun k hm=>hk k (by simp[hm])) (by rw[List.append_assoc];exact hnd) (by rw[List.length_append,e2];omega) (by rw[List.length_append,List.length_append,List.length_singleton];omega)
  rw[List.append_assoc] at h1
  exact⟨b',h1,by rw[List.length_append,e2] at h2;omega⟩
open Classical in
theorem NB.olds {K:List V3} {L:k8} {V:List V3} {b:List UInt8} (hK:K.length≤2) (hb:b.length≤2000):∀(l:List ByteArray) {M P:List ByteArray} {x:BS},NB K M P b L V x→(∀k∈l,yL k=0∧k.size≤40∧k∈P)→(M++l).length≤40 →
 ∃P',NB K (M++l) P' b L V (seqB x l)
 | [],M,P,x,h,_,_=>⟨P,by rw[List.append_nil];exact h⟩
 | s::r,M,P,x,h,hk,hl=>by
  obtain⟨k1,k2,k3⟩:=hk s (by simp)
  rw[List.length_append,List.length_cons] at hl
  have hst:=h.step k1 (by omega) hK (by omega)
  rw[if_pos k3,List.append_nil] at hst
  obtain⟨P',h1⟩:=NB.olds hK hb r (x:=(x.key 1048576 true s).inline (0,1,0)) hst (fun k hm=>by
   obtain⟨a1,a2,a3⟩:=hk k (by simp[hm])
   exact⟨a1,a2,by simp[a3]⟩) (by rw[List.length_append,List.length_append,List.length_singleton];omega)
  rw[List.append_assoc] at h1
  exact⟨P',h1⟩
theorem p5 {N M:List ByteArray} (hnd:N.Nodup) (hp:M.Perm N) (hl:N.length≤20) (hk:∀k∈N,yL k=0∧k.size≤20) :
 ∃y:BS,(∀sh,(seqB BS.new N).endMap 1048576 sh 0=y)∧∃dx dy:List UInt8,((((seqB y M).endMap 1048576 true 1).endVec 1048576 0).finish 1048576).1=(dx,0)∧((((seqB y M).endMap 1048576 false 1).endVec 1048576 0).finish 1048576).1=(dy,0)∧dx.length < dy.length:=by
 have hkc:vX N≤21*N.length:=lS (n:=20) N (fun q hq=>(hk q hq).2)
 obtain⟨b,h1,h2⟩:=NB.news N (x:=BS.new) NB.nil (fun k hm=>(hk k hm).1) (by rw[List.nil_append];exact hnd) (by show ((0:Nat):Int)+vX N≤1000;omega) (by rw[List.nil_append];omega)
 rw[List.nil_append] at h1
 have h2':b.length≤0+vX N:=h2
 obtain⟨b2,X,p,q,y,f1,f2,f3,f4,f5,f6,f7,f8,f9,f10⟩:=NB.first h1 hnd (fun k hm=>(hk k hm).1) hl (by omega)
 obtain⟨P',g1⟩:=NB.olds (K:=[(9,1,q)]) (by simp) (by omega) M (x:=y) f2 (fun k hm=>by
  have hmN:=hp.mem_iff.1 hm
  exact⟨(hk k hmN).1,by have:=(hk k hmN).2;omega,hmN⟩) (by rw[List.nil_append,hp.length_eq];omega)
 rw[List.nil_append] at g1
 exact⟨y,f1,NB.second g1 hp hnd hl f3 f4 f5 f6 f7 f8 f9 (by omega)⟩
theorem Lv.keeps {w0 w w':World} {R:List BRec} {Kp Z:List (Nat × Obj)} (h:Lv w0 R Kp w) (hg:jA w w') (hz:∀z∈Z,w.heap.size≤z.1∧w'.heap[z.1]? = some z.2):Lv w0 R (Z++Kp) w':=by
 obtain⟨κ,h1,h2,h3,h4⟩:=h
 refine⟨κ,fun i r hr=>(h1 i r hr).grew hg,h2,fun z hm=>?_,Below.trans h4 (Below.mono hg h4.size)⟩
 rcases List.mem_append.1 hm with hm|hm
 ·refine⟨(hz z hm).2,fun i hi=>Decidable.byContradiction fun hk=>?_⟩
  have h5:=((h1 i _ (List.getElem?_eq_getElem hi)).lt z.1 hk).2
  have h6:=(hz z hm).1
  omega
 ·exact⟨hg.heap (h3 z hm).1,(h3 z hm).2⟩
theorem zR.kept {w:World} {B:Nat} {v:Value} {N:List ByteArray} (h:zR w B v N):∃Z:List (Nat × Obj),(∀z∈Z,B≤z.1∧w.heap[z.1]? = some z.2)∧∀w2,aD Z w2→zR w2 B v N:=by
 rcases h.2 with ⟨rfl,hn⟩|⟨g,cap,cur,rfl,hge,hh,hcap,hmax,hsz,htk⟩
 ·have he:N=[]:=List.length_eq_zero_iff.1 hn
  subst he
  exact⟨[],fun z hz=>by simp at hz,fun w2 _=>zR.nil _ _⟩
 ·refine⟨[(g,.cells cur 9 (0,0))],fun z hz=>?_,fun w2 hw=>?_⟩
  ·rw[List.mem_singleton] at hz
   subst hz
   exact⟨hge,hh⟩
  ·exact⟨h.1,.inr ⟨g,cap,cur,rfl,hge,hw (g,.cells cur 9 (0,0)) (List.mem_singleton.2 rfl),hcap,hmax,hsz,htk⟩⟩
theorem aE (w:World) (ty:TypeId) (B:Nat) (v:Value) (ss:List ByteArray) (jZ:zR w B v ss) (sv:Value) (l2:List ByteArray) (hsv:kB w sv l2) (kE:ss.length+l2.length≤1099511627776) (hB:B≤w.heap.size) :
 ∃v' w',(Builtin.append_ #[22,22] ty #[v,sv]).run Tryz.prog w=.ok v' w'∧zR w' B v' (ss++l2)∧w.grownBy w' v.ownBlock:=by
 obtain⟨i0,hi,hz0,hz1,hz2⟩:=YC
 obtain⟨sa,cap,rfl,_,_,kO,hc⟩:=hsv
 cases sa with
 | none=>
  have h0:l2=[]:=by
   cases l2 with
   | nil=>rfl
   | cons y r=>obtain⟨_,b,off,e,_⟩:=hc 0 y rfl;cases e
  subst h0
  have:=kO rfl
  subst this
  have hrun:=run_append_owned_none (P:=Tryz.prog) (w:=w) B 22 ty 9 i0 1 Tryz.underlying22 hi v ss.length _ jZ
  exact⟨v,w,hrun,by rw[List.append_nil];exact jZ,⟨rfl,rfl,rfl,Nat.le_refl _,fun _ _ _=>rfl⟩⟩
 | some ad=>
  have hnews:∀j u,(l2.map Value.string)[j]? = some u→w.cell? (ad.add j)=some u:=by
   intro j u hj
   rw[List.getElem?_map] at hj
   cases hq:l2[j]? with
   | none=>rw[hq] at hj;cases hj
   | some s=>
    rw[hq] at hj
    obtain⟨_,b,off,e,j8⟩:=hc j s hq
    cases e
    simp at hj
    subst hj
    rw[KR _ b off j rfl]
    exact j8
  obtain⟨v',w',hr,h2,h3,h4⟩:=yR (P:=Tryz.prog) w B 22 ty 9 i0 (.string ⟨#[]⟩) 1 16 Tryz.underlying22 hi hz0 hz1 hz2 rfl (by decide) v ss.length _ jZ ad l2.length cap (l2.map Value.string) (by simp) hnews (by intro u hu;obtain⟨s,_,rfl⟩:=List.mem_map.1 hu;rfl) (by unfold maxLen;omega) (by omega) hB
  refine⟨v',w',hr,?_,h3⟩
  unfold zR
  rw[List.length_append,List.map_append]
  exact h2
def AtP (X:Value→World→Prop) (m:Nat):Nat→Value→World→Prop:=fun p v w=>m≤p∧(p=m→X v w)
theorem AtP.st {X:Value→World→Prop} {m:Nat} (h:∀v w w',jA w w'→X v w→X v w'):(∀(p:Nat) (v:Value) (w w':World),jA w w'→AtP X m p v w→AtP X m p v w')∧∀(p:Nat) (v:Value) (w w':World),True→AtP X m p v w→AtP X m (p+1) v w':=
 ⟨fun p v w w' hg h2=>⟨h2.1,fun e=>h _ _ _ hg (h2.2 e)⟩,fun p v w w' _ h2=>⟨Nat.le_succ_of_le h2.1,fun e=>by have:=h2.1;omega⟩⟩
theorem fF {w:World} {a:Option Addr} {c:Nat} {l:List ByteArray} {k:Nat} (h:kB w (.slice a l.length c) l) (hk:k≤l.length):kB w (.slice (if c=k then a else a.map (·.add k)) (l.length - k) (c - k)) (l.drop k):=by
 obtain⟨a',c',e,h1,h2,h3,h4⟩:=h
 injection e with e1 e2 e3
 subst e1 e3
 refine⟨_,c - k,by rw[List.length_drop],by rw[List.length_drop];omega,by unfold kV at *;omega,fun hn=>?_,fun i s hs=>?_⟩
 ·by_cases hc:c=k
  ·omega
  ·rw[if_neg hc] at hn
   cases a with
   | none=>have:=h3 rfl;omega
   | some ad=>cases hn
 ·rw[List.getElem?_drop] at hs
  obtain⟨q1,b,off,rfl,q2⟩:=h4 (k+i) s hs
  have hlt:=(List.getElem?_eq_some_iff.1 hs).1
  rw[if_neg (by omega)]
  exact⟨q1,b,off+k,by rw[Option.map_some,KR _ b off k rfl],by rw[Nat.add_assoc];exact q2⟩
theorem p6 {w:World} {a:Option Addr} {c:Nat} {l:List ByteArray} {k:Nat} (h:kB w (.slice a l.length c) l) (hk:k≤l.length):kB w (.slice a k c) (l.take k):=by
 obtain⟨a',c',e,h1,h2,h3,h4⟩:=h
 injection e with e1 e2 e3
 subst e1 e3
 have hl:(l.take k).length=k:=by rw[List.length_take];omega
 refine⟨a,c,by rw[hl],by omega,h2,h3,fun i s hs=>?_⟩
 rw[List.getElem?_take] at hs
 split at hs
 ·exact h4 i s hs
 ·cases hs
def cW (B:Nat) (u:Value) (R:List ByteArray) (v:Value) (w:World):Prop:=
 ∃g v9,v=.slice (some ⟨g,0,none⟩) 2 2∧B≤g∧w.heap[g]? = some (.cells #[u,v9] 22 (0,0))∧zR w B v9 R
theorem cW.grew {B:Nat} {u:Value} {R:List ByteArray} {v:Value} {w w':World} (h:cW B u R v w) (hg:jA w w'):cW B u R v w':=by
 obtain⟨g,v9,h1,h2,h3,h4⟩:=h
 exact⟨g,v9,h1,h2,hg.heap h3,h4.grew hg⟩
theorem p7 (w:World) (B:Nat) (hB:B≤w.heap.size):zR (w.alloc (.cells #[] 9)) B (.slice (some ⟨w.heap.size,0,none⟩) 0 0) []:=
 ⟨rfl,.inr ⟨w.heap.size,0,#[],rfl,hB,heap_alloc_new w _,Nat.le_refl _,by decide,rfl,rfl⟩⟩
def StB (y0 zb zc:BS):Nat→BS→BS→Prop
 | 0,x1,x2=>x1=BS.new∧x2=BS.new
 | 1,x1,x2=>x1=y0∧x2=y0
 | _,x1,x2=>x1=zb∧x2=zc
theorem on51:onF 5 1=true:=by decide
theorem on54:onF 5 4=true:=by decide
theorem on11:onF 1 1=true:=by decide
theorem on14:onF 1 4=false:=by decide
end Go.Proofs.YtjnpcddbgfmpcaaGreatDoor
