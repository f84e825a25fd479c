/-
  Texts of the proof.
-/
import Derived.Test.YtjnpcddbgfmpcaaGreatDoorBMapsPBW
import Derived.Lib.Replace
set_option linter.unusedVariables false
set_option linter.unusedSimpArgs false
namespace Go.Proofs.YtjnpcddbgfmpcaaGreatDoor
open Go Go.ChangeShapes Go.WideShapes Go.ChangeAt Go.RowKit Go.Joins Go.Deep
def KN (b:UInt8):UInt8:=if b=0 then 45 else b
theorem dash_ne (b:UInt8):KN b≠0:=by
 unfold KN
 split
 ·decide
 ·assumption
theorem fD {l:List UInt8} (h:(0:UInt8)∉l):l.map KN=l:=by
 induction l with
 | nil=>rfl
 | cons b r ih=>
  have hb:b≠0:=fun e=>h (by simp[e])
  rw[List.map_cons,ih (fun e=>h (by simp[e]))]
  unfold KN
  rw[if_neg hb]
theorem cQ (s:List UInt8) (i:Nat):Lib.occAt s [0] i=true↔s[i]? = some 0:=by
 unfold Lib.occAt
 have e:s[i]? = (s.drop i)[0]? := by rw[List.getElem?_drop,Nat.add_zero]
 rw[e]
 cases s.drop i with
 | nil=>simp[List.isPrefixOf]
 | cons b r=>
  simp only[List.isPrefixOf,List.getElem?_cons_zero,Option.some.injEq,Bool.and_true,beq_iff_eq]
  exact⟨fun h=>h.symm,fun h=>h.symm⟩
theorem fE:∀(n:Nat) (s:List UInt8),s.length < n→Lib.replaceK [0] [45] (Lib.countFrom [0] n s) s=s.map KN
 | 0,s,h=>absurd h (Nat.not_lt_zero _)
 | n+1,s,h=>by
  rcases Lib.index_spec s [0] with ⟨h1,h2⟩|⟨i,h1,h2,h3,h4⟩
  ·have hz:(0:UInt8)∉s:=fun hm=>by
    obtain⟨j,hj⟩:=List.getElem?_of_mem hm
    have hl:=(List.getElem?_eq_some_iff.1 hj).1
    have:=h2 j (by omega)
    rw[(cQ s j).2 hj] at this
    cases this
   unfold Lib.countFrom
   rw[h1,fD hz]
   rfl
  ·have hi:=(cQ s i).1 h3
   obtain⟨hil,hie⟩:=List.getElem?_eq_some_iff.1 hi
   have hne:((i:Int) == -1)=false:=by rw[beq_eq_false_iff_ne];omega
   have hz:(0:UInt8)∉s.take i:=fun hm=>by
    obtain⟨j,hj⟩:=List.getElem?_of_mem hm
    have hl:=(List.getElem?_eq_some_iff.1 hj).1
    rw[List.length_take] at hl
    rw[List.getElem?_take,if_pos (by omega)] at hj
    have:=h4 j (by omega)
    rw[(cQ s j).2 hj] at this
    cases this
   unfold Lib.countFrom
   rw[h1,hne,if_neg (by decide),Nat.add_comm 1,Lib.replaceK_hit [0] [45] _ s i h1]
   have hih:=fE n (s.drop (i+1)) (by rw[List.length_drop];omega)
   have e1:(((i:Int).toNat)+([0]:List UInt8).length)=i+1:=by simp
   rw[e1]
   show s.take i++[45]++Lib.replaceK [0] [45] _ (s.drop (i+1))=_
   rw[hih]
   have e2:s=s.take i++0::s.drop (i+1):=by
    have:=List.take_append_drop i s
    rw[List.drop_eq_getElem_cons hil,hie] at this
    exact this.symm
   have e3:s.map KN=(s.take i).map KN++KN 0::(s.drop (i+1)).map KN:=by
    conv=>lhs;rw[e2]
    rw[List.map_append,List.map_cons]
   rw[e3,fD hz,List.append_assoc]
   rfl
theorem rC (s:List UInt8):Lib.replaceAll s [0] [45]=s.map KN:=by
 unfold Lib.replaceAll Lib.replace Lib.replaceNum
 rw[if_neg (by decide),if_pos (.inl (by decide))]
 exact fE (s.length+1) s (by omega)
def Q4 (k:ByteArray):ByteArray:=⟨(k.data.toList.map KN).toArray⟩
theorem nM (k:ByteArray):(Q4 k).size=k.size:=by
 show (k.data.toList.map KN).toArray.size=k.data.size
 simp
theorem cR (k:ByteArray):(0:UInt8)∉(Q4 k).data.toList:=by
 intro h
 have e:(Q4 k).data.toList=k.data.toList.map KN:=by simp[Q4]
 rw[e] at h
 obtain⟨b,_,hb⟩:=List.mem_map.1 h
 exact dash_ne b hb
end Go.Proofs.YtjnpcddbgfmpcaaGreatDoor
namespace Go.Proofs.YtjnpcddbgfmpcaaGreatDoor
open Go Go.ChangeShapes Go.WideShapes Go.ChangeAt Go.RowKit Go.Joins Go.Deep
open Go.Proofs.YtjnpcddbgfmpcaaGreatDoor.Ft (V3 vV okV ValsAt inlineB legalB packF codeF typedF allF oneF allAt headF fitsL fitsV fitsF belowW isA unpackF)
theorem dC {α β:Type} (f:α→β) (l:List (ByteArray × α)) (hnd:(l.map Prod.fst).Nodup):kW (l.map fun q=>(q.1,f q.2))=(kW l).map fun q=>(q.1,f q.2):=by
 have hnd2:((l.map fun q=>(q.1,f q.2)).map Prod.fst).Nodup:=by rw[List.map_map];exact hnd
 refine KR _ _ ((z8 _).trans ((z8 l).map _).symm) (qX _ hnd2) ?_
 rw[List.pairwise_map]
 exact qX l hnd
theorem VT {α:Type} {d:List UInt8} {f:α→V3} {g:α→Tr}:∀{l:List α},(∀x∈l,qG d (f x) (g x))→zP d (l.map f) (l.map g)
 | [],_=>zP.nil d
 | t::r,h=>zP.cons (h t (by simp)) (VT fun x hx=>h x (by simp[hx]))
abbrev EntE:=(V3 × V3) × Tr
theorem nN {most:Int} {sh:Bool} {x:BS} {K:List V3} {E:List (ByteArray × EntE)} (h:Inv x) (hst:x.stk=K++ZE (E.map (·.2.1)))
 (hE:∀q∈E,qG x.s.1 q.2.1.1 (ZH q.1)∧q.2.1.1.1=4∧zM x.names q.2.1.1.2.2=q.1∧yI q.1=0∧qG x.s.1 q.2.1.2 q.2.2) (hnd:(E.map Prod.fst).Nodup)
 (hl:K.length+1≤65536) (hll:E.length≤65536) (hr:(x.s.1.length:Int)+(46+18*E.length:Nat)≤most) (hmost:most≤1048576) :
 Z6 {x with stk:=K} (x.endMap most sh K.length) (.mk 17 0 0 EMB ((kW E).map (·.1)) ((kW E).map (·.2.2))) (46+18*E.length):=by
 have hd:x.stk.drop ((K.length:Nat):Int).toNat=ZE (E.map (·.2.1)):=by rw[hst,Int.toNat_natCast,List.drop_left]
 have hk2:x.stk.take ((K.length:Nat):Int).toNat=K:=by rw[hst,Int.toNat_natCast,List.take_left' rfl]
 have hpairs:(E.map (·.2.1)).map (fun p=>(zM x.names p.1.2.2,p.1,p.2))=E.map (fun q=>(q.1,(fun a:EntE=>(a.1.1,a.1.2)) q.2)):=by
  rw[List.map_map]
  refine List.map_congr_left fun q hq=>?_
  show (zM x.names q.2.1.1.2.2,q.2.1.1,q.2.1.2)=(q.1,q.2.1.1,q.2.1.2)
  rw[(hE q hq).2.2.1]
 have e1:(E.map (fun q=>(q.1,(fun a:EntE=>(a.1.1,a.1.2)) q.2))).map (·.1)=E.map Prod.fst:=by rw[List.map_map];rfl
 have h4:∀p∈E.map (·.2.1),p.1.1=4:=fun p hp=>by
  obtain⟨q,hq,rfl⟩:=List.mem_map.1 hp
  exact (hE q hq).2.1
 unfold BS.endMap
 rw[if_pos h.e0,if_pos ⟨by omega,by rw[hst,List.length_append];omega⟩]
 dsimp only
 rw[hd,hk2,if_pos (V6 _ h4),cI,hpairs,e1,if_pos hnd,dC (fun a:EntE=>(a.1.1,a.1.2)) E hnd,List.map_map,List.map_map,List.map_map]
 have hm:∀q∈kW E,q∈E:=fun q hq=>(z8 E).mem_iff.1 hq
 have j8:(kW E).length=E.length:=(z8 E).length_eq
 have hinc:((kW E).map Prod.fst).Pairwise fun a b=>ltS a b=true:=by rw[List.pairwise_map];exact qX E hnd
 have hkt:zP x.s.1 ((kW E).map fun q=>q.2.1.1) (((kW E).map Prod.fst).map ZH):=by
  rw[List.map_map]
  exact VT fun q hq=>(hE q (hm q hq)).1
 have hvt:zP x.s.1 ((kW E).map fun q=>q.2.1.2) ((kW E).map fun q=>q.2.2):=VT fun q hq=>(hE q (hm q hq)).2.2.2.2
 have hT:=tA (most:=most) (sh:=sh) (x:={x with stk:=K}) (keys:=(kW E).map fun q=>q.2.1.1) (vals:=(kW E).map fun q=>q.2.1.2) (names:=(kW E).map Prod.fst) (ts:=(kW E).map fun q=>q.2.2) (h.stk K) hkt
  (fun v hv=>by obtain⟨q,hq,rfl⟩:=List.mem_map.1 hv;exact (hE q (hm q hq)).2.1) (fun k hk=>by obtain⟨q,hq,rfl⟩:=List.mem_map.1 hk;exact (hE q (hm q hq)).2.2.2.1) (lJ hinc) hvt (by rw[List.length_map,List.length_map]) hl
  (by rw[List.length_map,j8];exact hll) (by rw[List.length_map,j8];exact hr) hmost
 rw[List.length_map,j8] at hT
 exact hT
theorem cS {d:List UInt8} {pos w n:Int} (h2:(yZ d pos w).2=true) (h1:(yZ d pos w).1=n):kC d pos w=(n,0):=by
 unfold yZ at h1 h2
 simp only[Bool.and_eq_true,decide_eq_true_eq] at h2
 dsimp only at h1
 have h3:=h2.2
 exact Prod.ext (by dsimp only;omega) h2.1
theorem nO (typ:Int):(zI typ).1≠4:=by
 unfold zI
 repeat' split
 all_goals first | decide | (intro h9;dsimp only at h9;omega)
theorem tI {d:List UInt8} {typ pos par wid lim u:Int} (h:QN d typ pos par wid lim (.mk 4 0 u EMB [] [])=true):kC d pos par=(u,0):=by
 obtain⟨_,hc⟩:=bG h
 rcases hc with ⟨hn,hk⟩|⟨_,_,hf,hk⟩|⟨_,_,_,hk⟩
 ·have hk0:=hk
  rcases Y0 (.inl hn) hk with ⟨rfl,ht⟩|⟨rfl,ht⟩|⟨rfl,ht⟩|⟨rfl,ht⟩|⟨rfl,s,ht,_⟩|⟨rfl,s,ht,_⟩|⟨rfl,s,ht,_⟩|⟨rfl,ht⟩|⟨rfl,ht⟩
  all_goals first | (have h9:=congrArg Tr.kind ht;simp[Tr.kind] at h9;done) | skip
  have hu:u=(kC d pos par).1:=congrArg Tr.fu ht
  have hk1:bC d pos par (.mk 4 0 u EMB [] [])=true:=hk0
  unfold bC J2 at hk1
  by_cases he:(kC d pos par).2=0
  ·exact Prod.ext hu.symm he
  ·rw[if_pos he,Bool.and_false] at hk1;cases hk1
 ·rcases Y0 (.inr hf) hk with ⟨rfl,ht⟩|⟨rfl,ht⟩|⟨rfl,ht⟩|⟨rfl,ht⟩|⟨rfl,s,ht,_⟩|⟨rfl,s,ht,_⟩|⟨rfl,s,ht,_⟩|⟨rfl,ht⟩|⟨rfl,ht⟩
  all_goals first | (have h9:=congrArg Tr.kind ht;simp[Tr.kind] at h9;done) | exact absurd hf (by decide)
 ·unfold KG at hk
  rw[Bool.and_eq_true] at hk
  exact absurd (front_iff.1 hk.1).kind.symm (nO typ)
structure lY (d:List UInt8) (p X:Int) (names:List ByteArray) (us:List Int):Prop where
 room:0≤p - 3*X
 same:names.length=us.length
 many:kC d (p - X) X=((us.length:Int),0)
 keys:∃wide off:Int,isW wide=true∧kC d (p - 2*X) X=(wide,0)∧kC d (p - 3*X) X=(off,0)∧off≤p - 3*X∧cU names=true∧YZ d wide (p - 3*X - off) names=true
 vals:∀(i:Nat) u,us[i]? = some u→kC d (p+i*X) X=(u,0)
theorem rD {d:List UInt8} {p X:Int} {names:List ByteArray} {us:List Int} (h:KG d 9 X p (.mk 17 0 0 EMB names (us.map fun u=>.mk 4 0 u EMB [] []))=true):lY d p X names us:=by
 unfold KG at h
 rw[Bool.and_eq_true] at h
 obtain⟨h1,h2⟩:=h
 have hF:=front_iff.1 h1
 have e9:zI 9=(17,0):=by decide
 have ht:=hF.table
 have hm:=hF.many
 rw[e9] at ht hm
 obtain⟨t0,t1,t2⟩:=ht rfl
 simp only[if_true,List.length_map] at hm t1
 unfold n7 at t2
 simp only[Bool.and_eq_true,decide_eq_true_eq] at t2
 obtain⟨⟨⟨⟨⟨⟨k1,k2⟩,k3⟩,k4⟩,k5⟩,k6⟩,k7⟩:=t2
 have e2:p - 3*X+X=p - 2*X:=by omega
 rw[e2] at k2 k3 k5 k7
 refine⟨t0,t1,cS hm.1 hm.2,⟨_,_,k3,cS k2 rfl,cS k1 rfl,k4,k6,k7⟩,fun i u hu=>?_⟩
 have hk:=kids_iff.1 h2 i (.mk 4 0 u EMB [] []) (by rw[Tr.kids,List.getElem?_map,hu];rfl)
 rw[Nat.zero_add] at hk
 exact tI hk.2
theorem rE (es:List (V3 × V3)) (p:V3 × V3):ZE (es++[p])=ZE es++[p.1,p.2]:=by
 unfold ZE
 rw[List.flatMap_append]
 simp
theorem nP (l:List ByteArray) (k:ByteArray):vY (l++[k])=vY l+(k.size+1):=by
 unfold vY
 simp
structure EntA (x:BS) (i:Nat) (q:ByteArray × EntE):Prop where
 key:qG x.s.1 q.2.1.1 (ZH q.1)
 four:q.2.1.1.1=4
 name:zM x.names q.2.1.1.2.2=q.1
 old:q.2.1.1.2.2 < x.s.1.length
 val:qG x.s.1 q.2.1.2 q.2.2
 tree:q.2.2=.mk 4 0 (i:Int) EMB [] []
structure MB (N:List ByteArray) (x:BS):Prop where
 inv:Inv x
 len:x.s.1.length≤vY N
 ent:∃E:List (ByteArray × EntE),x.stk=ZE (E.map (·.2.1))∧E.map Prod.fst=N∧∀(i:Nat) q,E[i]? = some q→EntA x i q
theorem MB.nil:MB [] BS.new:=⟨Inv.new,Nat.zero_le _,[],rfl,rfl,fun i q h=>by simp at h⟩
theorem MB.step {most:Int} {sh:Bool} {N:List ByteArray} {x:BS} {s:ByteArray} (h:MB N x) (hk:yI s=0) (hN:N.length≤40) (hC:(vY N:Int)+(s.size+1)≤most):MB (N++[s]) ((x.key most sh s).inline (yR (N.length:Int))):=by
 obtain⟨h1,h2,E,h3,h4,h5⟩:=h
 have hEN:E.length=N.length:=by rw[← h4,List.length_map]
 have hst:x.stk.length=2*N.length:=by rw[h3,lI,List.length_map,hEN]
 obtain⟨hK,a,ka,kn,kl⟩:=key_ok (most:=most) (sh:=sh) h1 hk (by omega) (by omega)
 obtain⟨e0,q1,q2⟩:=hK.grow
 obtain⟨v0,q3,q4⟩:=hK.push
 have ev:v0=(4,1,a):=by
  rw[ka] at q3
  have:=List.append_cancel_left q3
  simpa using this.symm
 subst ev
 have hI:=pT (x:=x.key most sh s) (v:=yR (N.length:Int)) (t:=.mk 4 0 (N.length:Int) EMB [] []) hK.inv (.inr (.inr (.inr ⟨_,by unfold dJ;omega,rfl,rfl⟩))) (by rw[ka,List.length_append,List.length_singleton];omega)
 obtain⟨e,g1,g2⟩:=hI.grow
 obtain⟨v,g3,g4⟩:=hI.push
 have e9:e=[]:=List.eq_nil_of_length_eq_zero (by omega)
 subst e9
 rw[List.append_nil] at g1
 have j8:((x.key most sh s).inline (yR (N.length:Int))).s.1.length=x.s.1.length+e0.length:=by rw[g1,q1,List.length_append]
 refine⟨hI.inv,by rw[j8,nP];omega,E++[(s,((4,1,a),v),.mk 4 0 (N.length:Int) EMB [] [])],?_,by rw[List.map_append,h4];rfl,fun i q hq=>?_⟩
 ·rw[g3,ka,h3,List.map_append,List.map_singleton,rE,List.append_assoc];rfl
 ·by_cases hi:i < E.length
  ·rw[List.getElem?_append_left hi] at hq
   have hA:=h5 i q hq
   have ho:=hA.old
   refine⟨?_,hA.four,?_,by rw[j8];omega,?_,hA.tree⟩
   ·rw[g1,q1];exact hA.key.more _
   ·rw[hI.nms _ (by rw[q1,List.length_append];omega),hK.nms _ ho];exact hA.name
   ·rw[g1,q1];exact hA.val.more _
  ·rw[List.getElem?_append_right (by omega)] at hq
   have hi0:i - E.length=0:=by
    have:=(List.getElem?_eq_some_iff.1 hq).1
    simp at this
    omega
   rw[hi0] at hq
   simp at hq
   subst hq
   have ei:i=N.length:=by omega
   subst ei
   refine⟨?_,rfl,?_,?_,g4,rfl⟩
   ·show qG _ (4,1,a) (ZH s)
    rw[g1];exact q4
   ·show zM _ a=s
    rw[hI.nms a kl];exact kn
   ·show a < _
    rw[g1];exact kl
theorem rF {typ:Int} (h:(zI typ).1=17):typ=9:=by
 unfold zI at h
 repeat' split at h
 all_goals first | assumption | (exfalso;revert h;dsimp only;decide)
theorem map_doc {sh:Bool} {N:List ByteArray} {x:BS} (h:MB N x) (hnd:N.Nodup) (hz:∀k∈N,yI k=0) (hl:N.length≤40) (hc:vY N≤2000) :
 ∃(d:List UInt8) (X p:Int) (names:List ByteArray) (us:List Int),((x.endMap 1048576 sh 0).finish 1048576).1=(d,0)∧(∃(m w T:Nat) (off:Int),gJ d m w T off 9 X∧(m:Int) - w - off=p)∧isW X=true∧lY d p X names us∧us.length=N.length ∧
  ∀(i:Nat) u,us[i]? = some u→∃j:Nat,u=(j:Int)∧j < N.length∧names[i]? = N[j]? := by
 obtain⟨h1,h2,E,h3,h4,h5⟩:=h
 have hEN:E.length=N.length:=by rw[← h4,List.length_map]
 have hE:∀q∈E,qG x.s.1 q.2.1.1 (ZH q.1)∧q.2.1.1.1=4∧zM x.names q.2.1.1.2.2=q.1∧yI q.1=0∧qG x.s.1 q.2.1.2 q.2.2:=fun q hq=>by
  obtain⟨i,hi⟩:=List.getElem?_of_mem hq
  have hA:=h5 i q hi
  exact⟨hA.key,hA.four,hA.name,hz _ (by rw[← h4];exact List.mem_map_of_mem hq),hA.val⟩
 have hP:=nN (most:=1048576) (sh:=sh) (K:=[]) (E:=E) h1 (by rw[h3];rfl) hE (by rw[h4];exact hnd) (by decide) (by omega) (by omega) (by decide)
 have hP':Z6 {x with stk:=[]} (x.endMap 1048576 sh 0) (.mk 17 0 0 EMB ((kW E).map (·.1)) ((kW E).map (·.2.2))) (46+18*E.length):=hP
 clear hP
 obtain⟨e,g1,g2⟩:=hP'.grow
 obtain⟨v,g3,g4⟩:=hP'.push
 have hI:=hP'.inv
 generalize x.endMap 1048576 sh 0=y at *
 have hm:∀q∈kW E,q∈E:=fun q hq=>(z8 E).mem_iff.1 hq
 have j8:(kW E).length=E.length:=(z8 E).length_eq
 have htree:∀q∈kW E,q.2.2=.mk 4 0 q.2.2.fu EMB [] []:=fun q hq=>by
  obtain⟨i,hi⟩:=List.getElem?_of_mem (hm q hq)
  rw[(h5 i q hi).tree]
  rfl
 have hts:(kW E).map (·.2.2)=((kW E).map fun q=>q.2.2.fu).map fun u=>.mk 4 0 u EMB [] []:=by
  rw[List.map_map]
  exact List.map_congr_left fun q hq=>htree q hq
 rw[hts] at g4
 have hb:y.s.1.length≤3000:=by
  rw[g1]
  show (x.s.1++e).length≤3000
  rw[List.length_append];omega
 obtain⟨b,hyb⟩:∃b,y.s.1=b:=⟨_,rfl⟩
 rw[hyb] at g4 hb
 have hys:y.s=(b,0):=by rw[hI.s,hyb]
 have hstk:y.stk=[v]:=g3
 have hfar:farV b v (.mk 17 0 0 EMB ((kW E).map (·.1)) (((kW E).map fun q=>q.2.2.fu).map fun u=>.mk 4 0 u EMB [] [])):=by
  rcases g4 with g|g
  ·exfalso
   rcases g with ⟨_,g⟩|⟨_,_,g⟩|⟨_,_,_,g⟩|⟨_,_,_,g⟩<;>(have g9:=congrArg Tr.kind g;simp[Tr.kind] at g9)
  ·exact g
 have hnear:ZG b.length v:=(show qG b v _ from .inr hfar).near (by omega)
 have hone:=ZY (show b.length≤1048576 by omega) hnear
 have hdl:=Y8 hone.1
 have hop:=kI hone.1
 have hpad:=padN_le b hone.1
 have hfin:=pH (most:=1048576) (x:=y) hI.e0 hys hstk (by omega) hnear (by rw[hdl];omega)
 obtain⟨m,w,T,off,hr,ho⟩:=nL (show b.length≤1048576 by omega) hnear hfar.far
 obtain⟨tl,htl⟩:∃tl,VN b v=b++tl:=⟨_,rfl⟩
 have hbody:=hfar.body tl
 rw[← htl] at hbody
 have hnf:YH v.1=false:=by
  cases hf:YH v.1 with
  | false=>rfl
  | true=>
   exfalso
   unfold eQ at hbody
   rw[if_pos hf] at hbody
   rcases Y0 (.inr hf) hbody with ⟨_,ht⟩|⟨_,ht⟩|⟨_,ht⟩|⟨_,ht⟩|⟨_,s,ht,_⟩|⟨_,s,ht,_⟩|⟨_,s,ht,_⟩|⟨_,ht⟩|⟨_,ht⟩
   all_goals (have h9:=congrArg Tr.kind ht;simp[Tr.kind] at h9)
 unfold eQ at hbody
 rw[if_neg (by rw[hnf];decide)] at hbody
 have h9:v.1=9:=by
  have hb2:=hbody
  unfold KG at hb2
  rw[Bool.and_eq_true] at hb2
  exact rF (front_iff.1 hb2.1).kind.symm
 rw[h9] at hbody hr
 refine⟨VN b v,v.2.1,v.2.2,_,_,hfin,⟨m,w,T,off,hr,ho⟩,hfar.isw,rD hbody,by rw[List.length_map,j8,hEN],fun i u hu=>?_⟩
 rw[List.getElem?_map] at hu
 cases hq:(kW E)[i]? with
 | none=>rw[hq] at hu;cases hu
 | some q=>
  rw[hq] at hu
  obtain⟨j,hj⟩:=List.getElem?_of_mem (hm q (List.mem_of_getElem? hq))
  have ht:=(h5 j q hj).tree
  have hjl:=(List.getElem?_eq_some_iff.1 hj).1
  refine⟨j,?_,by omega,?_⟩
  ·have e2:q.2.2.fu=u:=by simpa using hu
   rw[← e2,ht]
   rfl
  ·rw[List.getElem?_map,hq,← h4,List.getElem?_map,hj]
end Go.Proofs.YtjnpcddbgfmpcaaGreatDoor
