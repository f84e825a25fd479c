/-
  Texts of the proof.
-/
import Derived.Test.YtjnpcddbgfmpcaaGreatDoorBListsPBW
import Derived.Lib.Replace
set_option linter.unusedVariables false
set_option linter.unusedSimpArgs false
namespace Go.Proofs.YtjnpcddbgfmpcaaGreatDoor
open Go Go.ChangeShapes Go.WideShapes Go.ChangeAt Go.RowKit Go.Joins Go.Deep
def KO (b:UInt8):UInt8:=if b=0 then 45 else b
theorem dash_ne (b:UInt8):KO b≠0:=by
 unfold KO
 split
 ·decide
 ·assumption
theorem fB {l:List UInt8} (h:(0:UInt8)∉l):l.map KO=l:=by
 induction l with
 | nil=>rfl
 | cons b r ih=>
  have hb:b≠0:=fun e=>h (by simp[e])
  rw[List.map_cons,ih (fun e=>h (by simp[e]))]
  unfold KO
  rw[if_neg hb]
theorem cT (s:List UInt8) (i:Nat):Lib.occAt s [0] i=true↔s[i]? = some 0:=by
 unfold Lib.occAt
 have e:s[i]? = (s.drop i)[0]? := by rw[List.getElem?_drop,Nat.add_zero]
 rw[e]
 cases s.drop i with
 | nil=>simp[List.isPrefixOf]
 | cons b r=>
  simp only[List.isPrefixOf,List.getElem?_cons_zero,Option.some.injEq,Bool.and_true,beq_iff_eq]
  exact⟨fun h=>h.symm,fun h=>h.symm⟩
theorem fC:∀(n:Nat) (s:List UInt8),s.length < n→Lib.replaceK [0] [45] (Lib.countFrom [0] n s) s=s.map KO
 | 0,s,h=>absurd h (Nat.not_lt_zero _)
 | n+1,s,h=>by
  rcases Lib.index_spec s [0] with ⟨h1,h2⟩|⟨i,h1,h2,h3,h4⟩
  ·have hz:(0:UInt8)∉s:=fun hm=>by
    obtain⟨j,hj⟩:=List.getElem?_of_mem hm
    have hl:=(List.getElem?_eq_some_iff.1 hj).1
    have:=h2 j (by omega)
    rw[(cT s j).2 hj] at this
    cases this
   unfold Lib.countFrom
   rw[h1,fB hz]
   rfl
  ·have hi:=(cT s i).1 h3
   obtain⟨hil,hie⟩:=List.getElem?_eq_some_iff.1 hi
   have hne:((i:Int) == -1)=false:=by rw[beq_eq_false_iff_ne];omega
   have hz:(0:UInt8)∉s.take i:=fun hm=>by
    obtain⟨j,hj⟩:=List.getElem?_of_mem hm
    have hl:=(List.getElem?_eq_some_iff.1 hj).1
    rw[List.length_take] at hl
    rw[List.getElem?_take,if_pos (by omega)] at hj
    have:=h4 j (by omega)
    rw[(cT s j).2 hj] at this
    cases this
   unfold Lib.countFrom
   rw[h1,hne,if_neg (by decide),Nat.add_comm 1,Lib.replaceK_hit [0] [45] _ s i h1]
   have hih:=fC n (s.drop (i+1)) (by rw[List.length_drop];omega)
   have e1:(((i:Int).toNat)+([0]:List UInt8).length)=i+1:=by simp
   rw[e1]
   show s.take i++[45]++Lib.replaceK [0] [45] _ (s.drop (i+1))=_
   rw[hih]
   have e2:s=s.take i++0::s.drop (i+1):=by
    have:=List.take_append_drop i s
    rw[List.drop_eq_getElem_cons hil,hie] at this
    exact this.symm
   have e3:s.map KO=(s.take i).map KO++KO 0::(s.drop (i+1)).map KO:=by
    conv=>lhs;rw[e2]
    rw[List.map_append,List.map_cons]
   rw[e3,fB hz,List.append_assoc]
   rfl
theorem pV (s:List UInt8):Lib.replaceAll s [0] [45]=s.map KO:=by
 unfold Lib.replaceAll Lib.replace Lib.replaceNum
 rw[if_neg (by decide),if_pos (.inl (by decide))]
 exact fC (s.length+1) s (by omega)
def Q5 (k:ByteArray):ByteArray:=⟨(k.data.toList.map KO).toArray⟩
theorem nC (k:ByteArray):(Q5 k).size=k.size:=by
 show (k.data.toList.map KO).toArray.size=k.data.size
 simp
theorem cU (k:ByteArray):(0:UInt8)∉(Q5 k).data.toList:=by
 intro h
 have e:(Q5 k).data.toList=k.data.toList.map KO:=by simp[Q5]
 rw[e] at h
 obtain⟨b,_,hb⟩:=List.mem_map.1 h
 exact dash_ne b hb
end Go.Proofs.YtjnpcddbgfmpcaaGreatDoor
namespace Go.Proofs.YtjnpcddbgfmpcaaGreatDoor
open Go Go.ChangeShapes Go.WideShapes Go.ChangeAt Go.RowKit Go.Joins Go.Deep
open Go.Proofs.YtjnpcddbgfmpcaaGreatDoor.Ft (V3 vV okV ValsAt inlineB legalB packF codeF typedF allF oneF allAt headF fitsL fitsV fitsF belowW isA unpackF)
theorem J9 {α β:Type} (f:α→β) (l:List (ByteArray × α)) (hnd:(l.map Prod.fst).Nodup):kM (l.map fun q=>(q.1,f q.2))=(kM l).map fun q=>(q.1,f q.2):=by
 have hnd2:((l.map fun q=>(q.1,f q.2)).map Prod.fst).Nodup:=by rw[List.map_map];exact hnd
 refine JB _ _ ((zH _).trans ((zH l).map _).symm) (yT _ hnd2) ?_
 rw[List.pairwise_map]
 exact yT l hnd
theorem VS {α:Type} {d:List UInt8} {f:α→V3} {g:α→Tr}:∀{l:List α},(∀x∈l,vB d (f x) (g x))→zP d (l.map f) (l.map g)
 | [],_=>zP.nil d
 | t::r,h=>zP.cons (h t (by simp)) (VS fun x hx=>h x (by simp[hx]))
abbrev EntE:=(V3 × V3) × Tr
theorem nD {most:Int} {sh:Bool} {x:BS} {K:List V3} {E:List (ByteArray × EntE)} (h:Inv x) (hst:x.stk=K++KM (E.map (·.2.1)))
 (hE:∀q∈E,vB x.s.1 q.2.1.1 (YM q.1)∧q.2.1.1.1=4∧zN x.names q.2.1.1.2.2=q.1∧yL q.1=0∧vB x.s.1 q.2.1.2 q.2.2) (hnd:(E.map Prod.fst).Nodup)
 (hl:K.length+1≤65536) (hll:E.length≤65536) (hr:(x.s.1.length:Int)+(46+18*E.length:Nat)≤most) (hmost:most≤1048576) :
 cX {x with stk:=K} (x.endMap most sh K.length) (.mk 17 0 0 EMB ((kM E).map (·.1)) ((kM E).map (·.2.2))) (46+18*E.length):=by
 have hd:x.stk.drop ((K.length:Nat):Int).toNat=KM (E.map (·.2.1)):=by rw[hst,Int.toNat_natCast,List.drop_left]
 have hk2:x.stk.take ((K.length:Nat):Int).toNat=K:=by rw[hst,Int.toNat_natCast,List.take_left' rfl]
 have hpairs:(E.map (·.2.1)).map (fun p=>(zN x.names p.1.2.2,p.1,p.2))=E.map (fun q=>(q.1,(fun a:EntE=>(a.1.1,a.1.2)) q.2)):=by
  rw[List.map_map]
  refine List.map_congr_left fun q hq=>?_
  show (zN x.names q.2.1.1.2.2,q.2.1.1,q.2.1.2)=(q.1,q.2.1.1,q.2.1.2)
  rw[(hE q hq).2.2.1]
 have e1:(E.map (fun q=>(q.1,(fun a:EntE=>(a.1.1,a.1.2)) q.2))).map (·.1)=E.map Prod.fst:=by rw[List.map_map];rfl
 have h4:∀p∈E.map (·.2.1),p.1.1=4:=fun p hp=>by
  obtain⟨q,hq,rfl⟩:=List.mem_map.1 hp
  exact (hE q hq).2.1
 unfold BS.endMap
 rw[if_pos h.e0,if_pos ⟨by omega,by rw[hst,List.length_append];omega⟩]
 dsimp only
 rw[hd,hk2,if_pos (Z2 _ h4),QA,hpairs,e1,if_pos hnd,J9 (fun a:EntE=>(a.1.1,a.1.2)) E hnd,List.map_map,List.map_map,List.map_map]
 have hm:∀q∈kM E,q∈E:=fun q hq=>(zH E).mem_iff.1 hq
 have kE:(kM E).length=E.length:=(zH E).length_eq
 have hinc:((kM E).map Prod.fst).Pairwise fun a b=>ltS a b=true:=by rw[List.pairwise_map];exact yT E hnd
 have hkt:zP x.s.1 ((kM E).map fun q=>q.2.1.1) (((kM E).map Prod.fst).map YM):=by
  rw[List.map_map]
  exact VS fun q hq=>(hE q (hm q hq)).1
 have hvt:zP x.s.1 ((kM E).map fun q=>q.2.1.2) ((kM E).map fun q=>q.2.2):=VS fun q hq=>(hE q (hm q hq)).2.2.2.2
 have hT:=sV (most:=most) (sh:=sh) (x:={x with stk:=K}) (keys:=(kM E).map fun q=>q.2.1.1) (vals:=(kM E).map fun q=>q.2.1.2) (names:=(kM E).map Prod.fst) (ts:=(kM E).map fun q=>q.2.2) (h.stk K) hkt
  (fun v hv=>by obtain⟨q,hq,rfl⟩:=List.mem_map.1 hv;exact (hE q (hm q hq)).2.1) (fun k hk=>by obtain⟨q,hq,rfl⟩:=List.mem_map.1 hk;exact (hE q (hm q hq)).2.2.2.1) (lG hinc) hvt (by rw[List.length_map,List.length_map]) hl
  (by rw[List.length_map,kE];exact hll) (by rw[List.length_map,kE];exact hr) hmost
 rw[List.length_map,kE] at hT
 exact hT
theorem pW (es:List (V3 × V3)) (p:V3 × V3):KM (es++[p])=KM es++[p.1,p.2]:=by
 unfold KM
 rw[List.flatMap_append]
 simp
theorem tA (l:List V3) (n:Int) (h:allAt l (0,0,0) n 1 2=true) (h0:0≤n) (h1:n≤1048576) (hl:l.length≤1048576):allF l (0,0,0) n 1≤2:=by
 unfold allF
 rw[if_pos ⟨⟨h0,by omega⟩,.inr (.inl rfl),hl⟩]
 unfold Ft.leastOf
 split
 ·decide
 ·first | decide | (rw[if_pos h];decide)
theorem tB (l:List V3) (k:V3) (n:Int) (h:allAt l k n 3 1=true) (h0:0≤n) (h1:n≤1048576) (hl:l.length≤1048576):allF l k n 3=1:=by
 unfold allF
 rw[if_pos ⟨⟨h0,by omega⟩,.inr (.inr rfl),hl⟩]
 unfold Ft.leastOf
 rw[if_pos h]
theorem fD:∀(l:List V3) (n:Int) (i:Nat),(∀v∈l,inlineB v.1=false∧0≤v.2.2∧v.2.2≤n)→n+2*((i:Int)+l.length)+2 < 65536→0≤n→fitsL l n i 2=true
 | [],n,i,_,_,_=>rfl
 | v::r,n,i,h,hn,h0=>by
  obtain⟨h1,h2,h3⟩:=h v (by simp)
  rw[List.length_cons] at hn
  have ih:=fD r n (i+1) (fun z hz=>h z (by simp[hz])) (by omega) h0
  rw[show ((i+1:Nat):Int)=(i:Int)+1 by omega] at ih
  show (fitsV v n i 2 && fitsL r n ((i:Int)+1) 2)=true
  have e:fitsV v n i 2=true:=by
   unfold fitsV fitsF
   rw[h1]
   have e8:(2:Int) ^ (8*(2:Int).toNat)=65536:=by decide
   simp only[Bool.false_eq_true,if_false,Bool.and_eq_true,decide_eq_true_eq,belowW,e8]
   refine⟨h3,?_⟩
   omega
  rw[e,ih]
  rfl
theorem cV:∀(l:List V3) (n:Int) (i:Int),(∀v∈l,v=(0,1,0))→fitsL l n i 1=true
 | [],n,i,_=>rfl
 | v::r,n,i,h=>by
  have hv:=h v (by simp)
  subst hv
  have ih:=cV r n (i+1) (fun z hz=>h z (by simp[hz]))
  show (fitsV (0,1,0) n i 1 && fitsL r n (i+1) 1)=true
  rw[ih,Bool.and_true]
  unfold fitsV fitsF
  rw[show inlineB ((0,1,0):V3).1=true by decide]
  rfl
theorem e256:(2:Int) ^ (8*(1:Int).toNat)=256:=by decide
theorem inl14:inlineB 14=false:=by decide
theorem inl9:inlineB 9=false:=by decide
theorem inl4:inlineB 4=false:=by decide
theorem pX {n:Int} {v:V3} (h:v=(0,1,0)):JG n v:=by
 subst h
 have h1:legalB 0=true:=by decide
 have h2:inlineB 0=true:=by decide
 refine⟨?_,And.intro (by decide) (by decide),fun _=>by show (1:Int)≤8;decide,fun e=>?_⟩
 ·unfold jW
  rw[if_pos h1,if_pos h2]
 ·rw[show (((0,1,0):V3)).1=0 from rfl,h2] at e;cases e
theorem n7 {X p:Int} {b:List UInt8} {vals:List V3} (hX:isW X=true) (hp0:0≤p) (hp:p≤b.length) (hnear:(b.length:Int) - p < 200) (hb:b.length≤60000) (hv:∀v∈vals,v=(0,1,0)) (hl:vals.length≤40) :
 ∃b2:List UInt8,(b2.length:Int)=b.length+3+2*vals.length∧y1 1048576 (14,X,p) vals (b,0)=(((9,1,(b.length:Int)+3),0),(b2,0)):=by
 have ha:allAt vals (14,X,p) b.length 3 1=true:=by
  unfold allAt headF
  rw[cV vals _ _ hv,Bool.and_true]
  have e:fitsV (14,X,p) b.length 0 1=true:=by
   unfold fitsV fitsF
   rw[inl14]
   simp only[Bool.false_eq_true,if_false,Bool.and_eq_true,decide_eq_true_eq,belowW,e256]
   refine⟨hp,?_⟩
   omega
  rw[e,Bool.or_true,Bool.and_true]
  unfold belowW
  rw[e256,decide_eq_true (show ((vals.length:Nat):Int) < 256 by omega)]
  rfl
 have h1:=tB vals (14,X,p) b.length ha (by omega) (by omega) (by omega)
 have hlm:bU 1 b vals=b.length+3+2*vals.length:=by
  unfold bU
  rw[Z0]
  omega
 have hput:=nP (most:=1048576) (k:=(14,X,p)) (b:=b) (l:=vals) (by omega) (by omega) (fun v hm=>pX (hv v hm)) ⟨rfl,hX,hp0,hp⟩ h1 (by rw[hlm];omega)
 have hpl:=JV (x:=1) (by decide) (14,X,p) b vals
 rw[hlm] at hpl
 rw[Z0] at hput
 refine⟨b++(qE 1 (14,X,p) b vals).flatten,by rw[List.length_append,← hpl];omega,?_⟩
 rw[hput]
 simp
theorem fE {sh:Bool} {x:BS} {b:List UInt8} {list:ByteArray} {keys vals:List V3} (he:x.e=0) (hs:x.s=(b,0)) (hst:x.stk.length+1≤65536) (hg:((zF x.lists list).2 && sh)=false) (hb:b.length≤2000) (h4:∀v∈keys,v.1=4∧JG b.length v) (hkl:keys.length≤20) (hv:∀v∈vals,v=(0,1,0)) (hl:vals.length≤20) :
 ∃(X p:Int) (b1 b2:List UInt8),isW X=true∧0≤p∧p≤b1.length∧(b1.length:Int) - p≤40∧b.length+1≤b1.length∧b1.length≤b.length+43∧(b2.length:Int)=b1.length+3+2*vals.length ∧
  x.table 1048576 sh list keys vals={x with s:=(b2,0),lists:=zC list x.vals.length x.lists,vals:=x.vals++[(14,X,p)],stk:=x.stk++[(9,1,(b1.length:Int)+3)]}:=by
 have hkn:∀v∈keys,JG b.length v:=fun v hm=>(h4 v hm).2
 obtain⟨X,hX⟩:∃X,allF keys (0,0,0) b.length 1=X:=⟨_,rfl⟩
 have qN:=YF (n:=b.length) (ahead:=1) (.inr rfl) (by omega) (by omega) (show keys.length≤1048576 by omega) hkn
 have hW:isW X=true:=by rw[← hX];exact qN.2.2.1
 have hX2:X≤2:=by
  rw[← hX]
  refine tA keys _ ?_ (by omega) (by omega) (by omega)
  unfold allAt headF
  have hf:=fD keys b.length 1 (fun v hm=>by
   have hn:=hkn v hm
   obtain⟨_,h1,_,h2⟩:=hn
   have e4:=(h4 v hm).1
   have hi:inlineB v.1=false:=by rw[e4];exact inl4
   exact⟨hi,h1.1,h2 hi⟩) (by omega) (by omega)
  rw[show ((1:Nat):Int)=1 from rfl] at hf
  rw[hf,Bool.and_true]
  unfold belowW
  rw[show (2:Int) ^ (8*(2:Int).toNat)=65536 by decide,decide_eq_true (show ((keys.length:Nat):Int) < 65536 by omega)]
  rfl
 have hwp:=kN hW
 have hpd:(j9 b X:Int)≤1:=by
  unfold j9
  have:X=1∨X=2:=by rcases kH hW with h | h | h | h<;>omega
  rcases this with rfl|rfl<;>omega
 have hmul:X*(keys.length:Int)≤2*keys.length:=Int.mul_le_mul_of_nonneg_right hX2 (by omega)
 have hmul0:0≤X*(keys.length:Int):=Int.mul_nonneg (by omega) (by omega)
 have hlo:ZU X true false b keys=b.length+j9 b X+X+X*keys.length:=by
  unfold ZU
  simp
 have hput:=aP (most:=1048576) (T:=j5 4) (len:=true) (jS:=false) (kind:=14) (fun v hm=>Y9 (h4 v hm).1 (hkn v hm).1) (show b.length≤1048576 by omega) (show keys.length≤1048576 by omega) hkn (by simpa using hX) (by rw[hlo];omega)
 have hpl:=qK hW true false b keys
 rw[hlo] at hpl
 simp only[if_true] at hput
 obtain⟨b1,hb1⟩:∃b1,b++(yD X true false b keys).flatten=b1:=⟨_,rfl⟩
 rw[hb1] at hput
 have hb1l:(b1.length:Int)=b.length+j9 b X+X+X*keys.length:=by rw[← hb1,List.length_append,← hpl];omega
 obtain⟨p,hp⟩:∃p,(b.length:Int)+j9 b X+X=p:=⟨_,rfl⟩
 rw[hp] at hput
 obtain⟨b2,hb2,hM⟩:=n7 (X:=X) (p:=p) (b:=b1) (vals:=vals) hW (by omega) (by omega) (by omega) (by omega) hv (by omega)
 have hvp:kW 1048576 4 0 keys x.s=(((14,X,p),0),(b1,0)):=by
  rw[vp_of (typ:=14) (by decide) (by decide +kernel),hs]
  exact hput
 refine⟨X,p,b1,b2,hW,by omega,by omega,by omega,by omega,by omega,hb2,?_⟩
 unfold BS.table
 dsimp only
 rw[hg]
 simp only[Bool.false_eq_true,if_false]
 rw[hvp]
 dsimp only
 have hf0:kG x.e 0=0:=by rw[he];rfl
 rw[hf0,if_pos rfl,Int.toNat_natCast,List.getD_eq_getElem?_getD,List.getElem?_append_right (Nat.le_refl _)]
 simp only[Nat.sub_self,List.getElem?_cons_zero,Option.getD_some]
 rw[hM]
 dsimp only
 rw[Y8 rfl]
 have hpush:=aR (x:={x with s:=(b2,0),e:=0,lists:=zC list x.vals.length x.lists,vals:=x.vals++[(14,X,p)]}) (v:=(9,1,(b1.length:Int)+3)) rfl rfl hst
 rw[hpush,← he]
theorem pY {x:BS} {b:List UInt8} {list:ByteArray} {keys vals:List V3} {X p:Int} (he:x.e=0) (hs:x.s=(b,0)) (hst:x.stk.length+1≤65536) (hg:zF x.lists list=(0,true)) (hx:x.vals=[(14,X,p)]) (hX:isW X=true) (hp0:0≤p) (hp:p≤b.length) (hnear:(b.length:Int) - p < 200) (hb:b.length≤2000) (hv:∀v∈vals,v=(0,1,0)) (hl:vals.length≤20) :
 ∃b2:List UInt8,(b2.length:Int)=b.length+3+2*vals.length∧x.table 1048576 true list keys vals={x with s:=(b2,0),stk:=x.stk++[(9,1,(b.length:Int)+3)]}:=by
 obtain⟨b2,hb2,hM⟩:=n7 (X:=X) (p:=p) (b:=b) (vals:=vals) hX hp0 hp hnear (by omega) hv (by omega)
 refine⟨b2,hb2,?_⟩
 unfold BS.table
 dsimp only
 rw[hg]
 simp only[Bool.and_self,if_true]
 have e:x.vals.getD (0:Int).toNat (0,0,0)=(14,X,p):=by rw[hx];rfl
 rw[if_pos he,e,hs,hM]
 dsimp only
 rw[Y8 (x:={x with s:=(b2,0)}) he]
 exact aR (x:={x with s:=(b2,0)}) he rfl hst
structure NB (K:List V3) (N:List ByteArray) (P:List ByteArray) (b:List UInt8) (L:k8) (V:List V3) (x:BS):Prop where
 inv:Inv x
 rises:ZA x.keys
 mem:∀z,z∈yB x.keys↔z∈P
 s:x.s.1=b
 lists:x.lists=L
 vals:x.vals=V
 ent:∃E:List (ByteArray × V3),x.stk=K++KM (E.map fun q=>(q.2,(0,1,0)))∧E.map Prod.fst=N∧∀q∈E,vB b q.2 (YM q.1)∧q.2.1=4∧zN x.names q.2.2.2=q.1∧q.2.2.2 < b.length
theorem NB.nil:NB [] [] [] [] [] [] BS.new:=⟨Inv.new,pU,fun z=>Iff.rfl,rfl,rfl,rfl,[],rfl,rfl,fun q h=>by simp at h⟩
open Classical in
theorem NB.step {K:List V3} {N P:List ByteArray} {b:List UInt8} {L:k8} {V:List V3} {x:BS} {s:ByteArray} (h:NB K N P b L V x) (hk:yL s=0) (hb:(b.length:Int)+(s.size+1)≤1048576) (hK:K.length≤2) (hN:N.length≤40) :
 NB K (N++[s]) (P++[s]) (b++(if s∈P then [] else s.data.toList++[0])) L V ((x.key 1048576 true s).inline (0,1,0)):=by
 obtain⟨h1,h2,hm,hs,hL,hV,E,h3,h4,h5⟩:=h
 have hEN:E.length=N.length:=by rw[← h4,List.length_map]
 have hst:x.stk.length=K.length+2*N.length:=by rw[h3,List.length_append,lF,List.length_map,hEN]
 obtain⟨p1,p2,p3⟩:=sW (most:=1048576) h1 h2 hk (by rw[hs];omega) (by omega)
 obtain⟨a,e,o1,o2,o3,o4,o5,o6,o7,o8⟩:=put_ok (most:=1048576) (sh:=true) h1 hk (by rw[hs];omega)
 have hx:x.key 1048576 true s={(x.put 1048576 true s).2 with stk:=x.stk++[(4,1,a)]}:=by
  unfold BS.key
  rw[if_pos h1.e0,Q3 o2 _ (by rw[o5];omega),o1,o5]
 have hx2:(x.key 1048576 true s).inline (0,1,0)={(x.put 1048576 true s).2 with stk:=x.stk++[(4,1,a)]++[(0,1,0)]}:=by
  rw[hx]
  unfold BS.inline
  rw[if_pos o2.e0]
  exact Q3 (o2.stk _) _ (by show (x.stk++[(4,1,a)]).length+1≤65536;rw[List.length_append,List.length_singleton];omega)
 have hlt:a < ((x.put 1048576 true s).2.s.1.length:Int):=by
  rcases o6 with hq|hq
  ·exact absurd (JX hq).1 (by show ¬inlineB 4=true;decide)
  ·have:=hq.lim
   rw[show ((4:Int),(1:Int),a).1=4 from rfl,show vZ 4=0 by decide] at this
   simpa using this
 have hlv:(x.put 1048576 true s).2.lists=L∧(x.put 1048576 true s).2.vals=V:=by
  unfold BS.put
  dsimp only
  rw[hk,Y8 h1.e0,if_neg (by rw[h1.e0];decide)]
  split
  ·exact⟨hL,hV⟩
  ·exact⟨hL,hV⟩
 have hbs:(x.put 1048576 true s).2.s.1=b++(if s∈P then [] else s.data.toList++[0]):=by
  rw[p1,hs]
  by_cases hin:s∈P
  ·rw[if_pos hin,if_pos ((hm s).2 hin)]
  ·rw[if_neg hin,if_neg (fun e=>hin ((hm s).1 e))]
 rw[hx2]
 generalize (if s∈P then [] else s.data.toList++[0])=tl at *
 refine⟨o2.stk _,p2,fun z=>?_,hbs,hlv.1,hlv.2,E++[(s,(4,1,a))],?_,by rw[List.map_append,h4];rfl,fun q hq=>?_⟩
 ·show z∈yB (x.put 1048576 true s).2.keys↔_
  rw[p3 z,hm z,List.mem_append,List.mem_singleton]
 ·show x.stk++[(4,1,a)]++[(0,1,0)]=_
  rw[h3,List.map_append,List.map_singleton,pW,List.append_assoc,List.append_assoc];rfl
 ·rcases List.mem_append.1 hq with hq|hq
  ·obtain⟨r1,r2,r3,r4⟩:=h5 q hq
   refine⟨r1.more _,r2,?_,by rw[List.length_append];omega⟩
   show zN (x.put 1048576 true s).2.names _=_
   rw[o8 _ (by rw[hs];exact r4)]
   exact r3
  ·obtain rfl:=List.mem_singleton.1 hq
   rw[← hbs]
   exact⟨o6,rfl,o7,hlt⟩
theorem NB.form {sh:Bool} {K:List V3} {N P:List ByteArray} {b:List UInt8} {L:k8} {V:List V3} {x:BS} (h:NB K N P b L V x) (hnd:N.Nodup) :
 ∃keys vals,x.endMap 1048576 sh K.length=({x with stk:=K}:BS).table 1048576 sh (j4 ((kM (N.map fun k=>(k,()))).map Prod.fst)) keys vals∧keys.length=N.length∧vals.length=N.length∧(∀v∈vals,v=(0,1,0))∧∀v∈keys,v.1=4∧∃k,vB b v (YM k):=by
 obtain⟨h1,h2,hm,hs,hL,hV,E,h3,h4,h5⟩:=h
 have hEN:E.length=N.length:=by rw[← h4,List.length_map]
 have hd:x.stk.drop ((K.length:Nat):Int).toNat=KM (E.map fun q=>(q.2,(0,1,0))):=by rw[h3,Int.toNat_natCast,List.drop_left]
 have hk2:x.stk.take ((K.length:Nat):Int).toNat=K:=by rw[h3,Int.toNat_natCast,List.take_left' rfl]
 have hpairs:(E.map fun q=>(q.2,((0,1,0):V3))).map (fun p=>(zN x.names p.1.2.2,p.1,p.2))=E.map (fun q=>(q.1,(fun v:V3=>(v,((0,1,0):V3))) q.2)):=by
  rw[List.map_map]
  refine List.map_congr_left fun q hq=>?_
  show (zN x.names q.2.2.2,q.2,((0,1,0):V3))=(q.1,q.2,((0,1,0):V3))
  rw[(h5 q hq).2.2.1]
 have e1:(E.map (fun q=>(q.1,(fun v:V3=>(v,((0,1,0):V3))) q.2))).map (·.1)=N:=by rw[List.map_map,← h4];rfl
 have hnE:(E.map Prod.fst).Nodup:=by rw[h4];exact hnd
 have hnames:(kM E).map Prod.fst=(kM (N.map fun k=>(k,()))).map Prod.fst:=by
  have e2:=J9 (fun _:V3=>()) E hnE
  have e3:N.map (fun k=>(k,()))=E.map fun q=>(q.1,(fun _:V3=>()) q.2):=by rw[← h4,List.map_map];rfl
  rw[e3,e2,List.map_map]
  rfl
 have kE:(kM E).length=E.length:=(zH E).length_eq
 have hmE:∀q∈kM E,q∈E:=fun q hq=>(zH E).mem_iff.1 hq
 refine⟨(kM E).map (·.2),(kM E).map fun _=>((0,1,0):V3),?_,by rw[List.length_map];omega,by rw[List.length_map];omega,fun v hv=>by obtain⟨_,_,rfl⟩:=List.mem_map.1 hv;rfl,fun v hv=>?_⟩
 ·unfold BS.endMap
  rw[if_pos h1.e0,if_pos ⟨by omega,by rw[h3,List.length_append];omega⟩]
  dsimp only
  rw[hd,hk2,if_pos (Z2 _ (fun p hp=>by obtain⟨q,hq,rfl⟩:=List.mem_map.1 hp;exact (h5 q hq).2.1)),QA,hpairs,e1,if_pos hnd,J9 (fun v:V3=>(v,((0,1,0):V3))) E hnE,List.map_map,List.map_map,List.map_map,← hnames]
  rfl
 ·obtain⟨q,hq,rfl⟩:=List.mem_map.1 hv
  obtain⟨r1,r2,_⟩:=h5 q (hmE q hq)
  exact⟨r2,q.1,r1⟩
theorem NB.first {N:List ByteArray} {b:List UInt8} {x:BS} (h:NB [] N N b [] [] x) (hnd:N.Nodup) (hz:∀k∈N,yL k=0) (hl:N.length≤20) (hb:b.length≤1000) :
 ∃(b2:List UInt8) (X p q:Int) (y:BS),(∀sh,x.endMap 1048576 sh 0=y)∧NB [(9,1,q)] [] N b2 [(j4 ((kM (N.map fun k=>(k,()))).map Prod.fst),0)] [(14,X,p)] y∧isW X=true∧0≤p∧p≤b2.length∧(b2.length:Int) - p≤83∧0≤q∧q≤b2.length∧(b2.length:Int) - q≤40∧b2.length≤1100:=by
 have h1:=h.inv
 have hs:x.s=(b,0):=by rw[h1.s,h.s]
 have hform:=fun sh=>NB.form (sh:=sh) h hnd
 obtain⟨keys,vals,f1,f2,f3,f4,f5⟩:=hform true
 have hnear:∀v∈keys,v.1=4∧JG b.length v:=fun v hv=>by
  obtain⟨e4,k,hk⟩:=f5 v hv
  exact⟨e4,hk.near (by omega)⟩
 have hg:∀sh,((zF x.lists (j4 ((kM (N.map fun k=>(k,()))).map Prod.fst))).2 && sh)=false:=fun sh=>by
  rw[h.lists]
  simp[zF,KU,yB]
 obtain⟨X,p,b1,b2,w1,w2,w3,w4,w5,w6,w7,w8⟩:=fE (sh:=true) (x:={x with stk:=[]}) (b:=b) (list:=j4 ((kM (N.map fun k=>(k,()))).map Prod.fst)) h1.e0 hs (by show ([]:List V3).length+1≤65536;decide) (hg true) (by omega) hnear (by omega) f4 (by omega)
 have hlists:zC (j4 ((kM (N.map fun k=>(k,()))).map Prod.fst)) ((x.vals.length:Nat):Int) x.lists=[(j4 ((kM (N.map fun k=>(k,()))).map Prod.fst),0)]:=by
  rw[h.lists,h.vals]
  exact (iW _ 0 (by decide) (by decide)).1
 have hxt:x.endMap 1048576 true 0={x with s:=(b2,0),lists:=[(j4 ((kM (N.map fun k=>(k,()))).map Prod.fst),0)],vals:=[(14,X,p)],stk:=[(9,1,(b1.length:Int)+3)]}:=by
  refine f1.trans (w8.trans ?_)
  dsimp only
  rw[hlists,h.vals]
  rfl
 -- the other flag
 have hsame:x.endMap 1048576 false 0=x.endMap 1048576 true 0:=by
  have ht:∀(sh:Bool) (list:ByteArray) (keys vals:List V3),((zF ({x with stk:=[]}:BS).lists list).2=false)→({x with stk:=[]}:BS).table 1048576 sh list keys vals=({x with stk:=[]}:BS).table 1048576 false list keys vals:=fun sh list keys vals hf=>by
   unfold BS.table
   dsimp only at hf⊢
   rw[hf]
   simp
  have hlf:∀list,(zF ({x with stk:=[]}:BS).lists list).2=false:=fun list=>by
   show (zF x.lists list).2=false
   rw[h.lists]
   simp[zF,KU,yB]
  unfold BS.endMap
  split
  ·split
   ·dsimp only
    split
    ·split
     ·exact (ht true _ _ _ (hlf _)).symm
     ·rfl
    ·rfl
   ·rfl
  ·rfl
 refine⟨b2,X,p,(b1.length:Int)+3,_,fun sh=>by cases sh;exact hsame;rfl,?_,w1,w2,by omega,by omega,by omega,by omega,by omega,by omega⟩
 -- the state's invariant
 obtain⟨_,_,hm,_,hL,hV,E,h3,h4,h5⟩:=id h
 have hEN:E.length=N.length:=by rw[← h4,List.length_map]
 have hP:=nD (most:=1048576) (sh:=true) (x:=x) (K:=[]) (E:=E.map fun q=>(q.1,((q.2,((0,1,0):V3)),Tr.mk 1 0 0 EMB [] []))) h1 (by rw[h3,List.map_map];rfl) (fun q hq=>by
  obtain⟨r,hr,rfl⟩:=List.mem_map.1 hq
  obtain⟨r1,r2,r3,r4⟩:=h5 r hr
  refine⟨by rw[h.s];exact r1,r2,r3,hz _ (by rw[← h4];exact List.mem_map_of_mem hr),.inl (.inl ⟨rfl,rfl⟩)⟩) (by rw[List.map_map];show (E.map Prod.fst).Nodup;rw[h4];exact hnd) (by decide) (by rw[List.length_map];omega) (by rw[h.s,List.length_map];omega) (by decide)
 have hI:Inv (x.endMap 1048576 true 0):=hP.inv
 rw[hxt] at hI⊢
 exact⟨hI,h.rises,h.mem,rfl,rfl,rfl,[],rfl,rfl,fun q hq=>by simp at hq⟩
theorem NB.second {N M P:List ByteArray} {b:List UInt8} {X p q:Int} {x:BS} (h:NB [(9,1,q)] M P b [(j4 ((kM (N.map fun k=>(k,()))).map Prod.fst),0)] [(14,X,p)] x) (hp:M.Perm N) (hnd:N.Nodup) (hl:N.length≤20) (hX:isW X=true) (p0:0≤p) (p1:p≤b.length) (p2:(b.length:Int) - p≤83) (q0:0≤q) (q1:q≤b.length) (q2:(b.length:Int) - q≤40) (hb:b.length≤1100) :
 ∃dx dy:List UInt8,(((x.endMap 1048576 true 1).endVec 1048576 0).finish 1048576).1=(dx,0)∧(((x.endMap 1048576 false 1).endVec 1048576 0).finish 1048576).1=(dy,0)∧dx.length < dy.length:=by
 have h1:=h.inv
 have hs:x.s=(b,0):=by rw[h1.s,h.s]
 have hndM:M.Nodup:=hp.nodup_iff.2 hnd
 have hML:M.length=N.length:=hp.length_eq
 have hsort:kM (M.map fun k=>(k,()))=kM (N.map fun k=>(k,())):=by
  have hN:((N.map fun k=>(k,())).map Prod.fst).Nodup:=by rw[List.map_map];show (N.map id).Nodup;rw[List.map_id];exact hnd
  have hM:((M.map fun k=>(k,())).map Prod.fst).Nodup:=by rw[List.map_map];show (M.map id).Nodup;rw[List.map_id];exact hndM
  exact JB _ _ (((zH _).trans (hp.map _)).trans (zH _).symm) (yT _ hM) (yT _ hN)
 -- what a map's end makes a document of
 have hend:∀(y:BS) (c:List UInt8) (r:Int),y.e=0→y.s=(c,0)→y.stk=[(9,1,q),(9,1,r)]→0≤r→r≤c.length→(c.length:Int) - r≤40→(c.length:Int) - q≤200→q≤c.length→c.length≤2000→∃d,((y.endVec 1048576 0).finish 1048576).1=(d,0)∧(d.length:Int)=c.length+8:=by
  intro y c r he hs hk r0 r1 r2 qn qc hc
  have hleg:∀t:Int,jW (9,1,t)=0:=fun t=>by
   have h1:legalB 9=true:=by decide
   unfold jW
   rw[if_pos h1,if_neg (by rw[show ((9:Int),(1:Int),t).1=9 from rfl,inl9];decide)]
   rw[if_pos (show isW ((9:Int),(1:Int),t).2.1=true from rfl)]
  have hn:∀v∈[((9:Int),(1:Int),q),(9,1,r)],JG c.length v:=by
   intro v hv
   simp only[List.mem_cons,List.not_mem_nil,or_false] at hv
   rcases hv with rfl|rfl
   ·exact cG (hleg _) inl9 q0 qc (by omega)
   ·exact cG (hleg _) inl9 r0 r1 (by omega)
  have hdrop:y.stk.drop (0:Int).toNat=[(9,1,q),(9,1,r)]:=by rw[hk];rfl
  have hone:allF [((9:Int),(1:Int),q),(9,1,r)] (0,0,0) c.length 1=1:=by
   refine sC _ _ ?_ (by omega) (by omega) (by simp)
   have e8':(2:Int) ^ 8=256:=by decide
   simp only[allAt,headF,fitsL,fitsV,fitsF,inl9,belowW,e256,Bool.false_eq_true,if_false,Bool.and_eq_true,Bool.or_eq_true,decide_eq_true_eq]
   refine⟨⟨.inr (by simp),.inl (by decide)⟩,⟨by omega,by omega⟩,⟨by omega,by omega⟩,trivial⟩
  have hlo:ZU 1 true true c [((9:Int),(1:Int),q),(9,1,r)]=c.length+5:=by
   unfold ZU
   rw[Z0]
   simp
   omega
  have hv:=oW (most:=1048576) (start:=0) (X:=1) he hs (by omega) (Int.le_refl _) (by omega) (by rw[hk];simp) (by rw[hdrop];exact hn) (by rw[hdrop];exact hone) (by rw[hdrop,hlo];omega)
  rw[hdrop] at hv
  have htake:y.stk.take (0:Int).toNat=[]:=by rw[hk];rfl
  rw[htake,List.nil_append,Z0] at hv
  have hpl:=qK (x:=1) (by decide) true true c [((9:Int),(1:Int),q),(9,1,r)]
  rw[hlo] at hpl
  have hbl:((c++(yD 1 true true c [((9:Int),(1:Int),q),(9,1,r)]).flatten).length:Int)=c.length+5:=by rw[List.length_append,← hpl];omega
  rw[hv]
  generalize c++(yD 1 true true c [((9:Int),(1:Int),q),(9,1,r)]).flatten=c2 at hbl⊢
  have hnv:JG c2.length (10,1,(c.length:Int)+((0:Nat):Int)+1):=cG (legal10 _ _ (by decide)) inl10 (by omega) (by omega) (by omega)
  have hw:=(Q1 (by omega) hnv).1
  have hwp:=kN hw
  have hpad2:=padN_le c2 hw
  have hdl:=b6 hw
  have hfin:=oS (most:=1048576) (x:={y with s:=(c2,0),stk:=[(10,1,(c.length:Int)+((0:Nat):Int)+1)]}) he rfl rfl (by omega) hnv (by rw[hdl];omega)
  refine⟨_,hfin,?_⟩
  have h1:oneF 10 1 ((c.length:Int)+((0:Nat):Int)+1) c2.length 0=1:=by
   unfold oneF
   rw[if_pos ⟨⟨by omega,by omega⟩,by omega,by omega⟩]
   unfold Ft.leastOf
   rw[if_pos]
   unfold fitsF
   rw[inl10]
   simp only[Bool.false_eq_true,if_false,Bool.and_eq_true,decide_eq_true_eq,belowW,e256]
   omega
  have hdl2:((docF c2 (10,1,(c.length:Int)+((0:Nat):Int)+1)).length:Int)=c2.length+j9 c2 1+1+2:=by
   have:=hdl
   dsimp only at this
   rw[h1] at this
   exact this
  rw[hdl2,Z0]
  omega
 -- shared
 obtain⟨keys,vals,f1,f2,f3,f4,f5⟩:=NB.form (sh:=true) h hndM
 obtain⟨keys',vals',g1,g2,g3,g4,g5⟩:=NB.form (sh:=false) h hndM
 rw[hsort] at f1 g1
 obtain⟨b2,t1,t2⟩:=pY (x:={x with stk:=[(9,1,q)]}) (b:=b) (list:=j4 ((kM (N.map fun k=>(k,()))).map Prod.fst)) (keys:=keys) (vals:=vals) h1.e0 hs (by show [((9:Int),(1:Int),q)].length+1≤65536;simp) (by show zF x.lists _=_;rw[h.lists];exact (iW _ 0 (by decide) (by decide)).2) h.vals hX p0 p1 (by omega) (by omega) f4 (by omega)
 have hnear:∀v∈keys',v.1=4∧JG b.length v:=fun v hv=>by
  obtain⟨e4,k,hk⟩:=g5 v hv
  exact⟨e4,hk.near (by omega)⟩
 obtain⟨X',p',b1,b3,w1,w2,w3,w4,w5,w6,w7,w8⟩:=fE (sh:=false) (x:={x with stk:=[(9,1,q)]}) (b:=b) (list:=j4 ((kM (N.map fun k=>(k,()))).map Prod.fst)) (keys:=keys') (vals:=vals') h1.e0 hs (by show [((9:Int),(1:Int),q)].length+1≤65536;simp) (by rw[Bool.and_false]) (by omega) hnear (by omega) g4 (by omega)
 have F1:x.endMap 1048576 true 1={x with s:=(b2,0),stk:=[(9,1,q),(9,1,(b.length:Int)+3)]}:=f1.trans t2
 have G1:x.endMap 1048576 false 1={x with s:=(b3,0),lists:=zC (j4 ((kM (N.map fun k=>(k,()))).map Prod.fst)) x.vals.length x.lists,vals:=x.vals++[(14,X',p')],stk:=[(9,1,q),(9,1,(b1.length:Int)+3)]}:=g1.trans w8
 obtain⟨dx,d1,d2⟩:=hend (x.endMap 1048576 true 1) b2 ((b.length:Int)+3) (by rw[F1];exact h1.e0) (by rw[F1]) (by rw[F1]) (by omega) (by omega) (by omega) (by omega) (by omega) (by omega)
 obtain⟨dy,d3,d4⟩:=hend (x.endMap 1048576 false 1) b3 ((b1.length:Int)+3) (by rw[G1];exact h1.e0) (by rw[G1]) (by rw[G1]) (by omega) (by omega) (by omega) (by omega) (by omega) (by omega)
 exact⟨dx,dy,d1,d3,by omega⟩
end Go.Proofs.YtjnpcddbgfmpcaaGreatDoor
