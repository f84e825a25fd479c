/-
  Texts of the proof.
-/
import Derived.Test.YtjnpcddbgfmpcaaGreatDoorBMapsPBQ
import Derived.Test.YtjnpcddbgfmpcaaGreatDoorBMapsPBS
import Derived.Test.YtjnpcddbgfmpcaaGreatDoorBMapsPBT
import Derived.Test.YtjnpcddbgfmpcaaGreatDoorBMapsPBU
set_option linter.unusedVariables false
set_option linter.unusedSimpArgs false
set_option maxHeartbeats 32000000
set_option maxRecDepth 100000
namespace Go.Proofs.YtjnpcddbgfmpcaaGreatDoor
open Go.Proofs.Tryz
open Go Go.ChangeShapes Go.WideShapes Go.ChangeAt Go.RowKit Go.Joins Go.Deep
open Go.Proofs.YtjnpcddbgfmpcaaGreatDoor.Ft (V3 vV okV ValsAt inlineB legalB packF codeF typedF allF)
theorem tC (w:World):(zeroValue 9).run prog w=.ok (.string ⟨#[]⟩) w:=by
 have h:(Tryz.prog.info? 9).map (fun i=>i.zero)=some (some (.string ⟨#[]⟩)):=by kernel_rfl
 cases hi:Tryz.prog.info? 9 with
 | none=>rw[hi] at h;cases h
 | some i=>rw[hi] at h;simp at h;simp[zeroValue,typeInfo,hi,h,Result.andThen]
theorem pV {w wr w':World} {v:Value} {l:List ByteArray} (h:yN wr w.heap.size v l) (hg:jA w wr) (hgr:wr.grownBy w' v.ownBlock):jA w w':=Moved.fresh hg (Moved.of_grown hgr) (fun g hk=>(World.ownsRow.lt h g hk.symm).1)
theorem pW {w:World} {m:Nat} {N:List (Int × ByteArray)} (hb:cT w m (qM N)) (n:Int):(Instr.lookup 56 (.map (some m)) (.int .u64 n) false).run prog w=.ok (.string (zM N n)) w:=
 (lookU w underlying56 underlying38 (tC w) m (qM N) hb n).trans (congrArg (fun v=>Result.ok v w) (cK N n 0))
theorem nD {B:Nat} {q:kN} {most flags:Int} {κ:Nat→Nat} {x:BS} {w:World} (la:Option Addr) (lc:Nat) (L:List V3) (hp:ValsAt w (.slice la L.length lc) L) (hl:L.length≤65536) (hz:∀z∈x.names,z.2.size≤1048576) (h:Bd B q most flags κ x w) :
 Calls prog 33 #[jF q.p,.slice la L.length lc] w fun r w'=>(yC L=true∧∃v',r=.returned v'∧yN w' w.heap.size v' ((kE x.names L).map (·.1))∧jA w w')∨(yC L=false∧r=.returned (.slice none 0 0)∧j1 B q most flags κ (x.fail 140) w w'):=by
 have HB:=zh h
 have HZ:=zh hz
 obtain⟨ad,c,e,j2⟩:=hp
 cases e
 have HC:=zh j2
 have HL:=zh hl
 have hll:L.length≤9223372036854775807:=by omega
 have HNM:Hid (∀n:Int,k9 (zM x.names n).size):=fun n=>by
  unfold zM
  split
  ·rename_i qq hq;have:=HZ.out _ (List.mem_of_find?_eq_some hq);unfold k9;omega
  ·show k9 (0:Nat);unfold k9;omega
 clear j2 h hz hl
 go_enter func33,ntmps33
 go_wp2_with fail
 go_loopw [4,9] (fun v i wr=>∃k:Nat,k≤L.length∧i=.int .i64 k∧Hid (yN wr w.heap.size v (z7 x.names L k)∧jA w wr∧(0 < k→L.length % 2=0)∧∀(j:Nat) u,2*j < k→L[2*j]? = some u→u.1=4)) (fun _ i _=>L.length - (intOf i).toNat)
 case atStart=>exact⟨0,Nat.zero_le _,rfl,by
  show _∧_
  rw[gA]
  exact⟨World.ownsRow_nil _ _ _ _,jA.refl _,fun h=>absurd h (by decide),fun j u h=>by omega⟩⟩
 case round=>
  obtain⟨k,hk,rfl,HW⟩:=hrel
  by_cases hlt:k < L.length
  ·obtain⟨u,hu⟩:∃u,L[k]? = some u:=⟨_,List.getElem?_eq_getElem hlt⟩
   have HU:=zh hu
   obtain⟨ty,wd,n⟩:=u
   obtain⟨b,off,rfl,c0,c1,c2⟩:=HC.out k _ hu
   clear hu
   have d0:=HW.out.2.1.cell c0
   have d1:=HW.out.2.1.cell c1
   have d2:=HW.out.2.1.cell c2
   clear c0 c1 c2
   have hki:(k:Int) < L.length:=by omega
   have HG2:Hid (jA w (wr.alloc (.cells #[.int .i64 ty,.int .i64 wd,.int .u64 n] 65))):=HW.out.2.1.alloc _
   have jJ:=heap_alloc_new wr (.cells #[.int .i64 ty,.int .i64 wd,.int .u64 n] 65)
   have e0:=jI jJ 0 _ rfl
   have e2:=jI jJ 2 _ rfl
   clear jJ
   have hlm:((L.length:Int)).tmod 2=((L.length % 2:Nat):Int):=by rw[Int.tmod_eq_emod_of_nonneg (by omega)];omega
   have hkm:((k:Int)).tmod 2=((k % 2:Nat):Int):=by rw[Int.tmod_eq_emod_of_nonneg (by omega)];omega
   by_cases hodd:L.length % 2=0
   ·rw[hodd] at hlm
    have HOD:=zh hodd
    clear hodd
    by_cases hke:k % 2=0
    ·rw[hke] at hkm
     have HKE:=zh hke
     clear hke
     by_cases hty:ty=4
     ·subst hty
      have HNT:Hid (z7 x.names L (k+1)=z7 x.names L k++[zM x.names n]):=by
       show _=_
       have h:=gB (N:=x.names) (j:=k / 2) (k:=(4,wd,n)) HOD.out (by rw[show 2*(k / 2)=k by have:=HKE.out;omega];exact HU.out)
       rw[show 2*(k / 2)=k by have:=HKE.out;omega] at h
       exact h
      have HLE:Hid ((z7 x.names L k).length≤65536):=Nat.le_trans (cJ _ _ _) HL.out
      have HOW:=zh (HW.out.1:yN wr w.heap.size u4 (z7 x.names L k))
      obtain⟨va,vc,rfl,hvc,hvc2,hvc3⟩:=j7 HOW.out
      have HOL:=zh (V7 x.names L (k / 2))
      generalize hNS:z7 x.names L k=NS at *
      obtain⟨nm,hnm⟩:∃nm,zM x.names n=nm:=⟨_,rfl⟩
      have HNM1:=zh hnm
      have HNL:Hid (k9 nm.size):=by rw[← hnm];exact HNM.out n
      clear hnm hvc hvc2 hvc3 hNS
      have c7:=(HB.out.grew HG2.out).at7
      have HMP:Hid (cT (wr.alloc (.cells #[.int .i64 4,.int .i64 wd,.int .u64 n] 65)) q.m (qM x.names)):=(HB.out.grew HG2.out).names.2
      go_wp2_with fail
      refine Q3 jA 10 [[],[],[1],[1,2],[1,2,3],[1,2,3,4],[],[6],[1,2,3,4,5,6,7],[1,2,3,4,5,6,7,8],[0,1,2,3,4,5,6,7,8,9],[0,1,2,3,4,5,6,7,8,9,10]] [[(36,1),(37,2),(38,3),(39,4),(40,5),(41,6),(42,7),(43,8),(44,9)],[(35,0),(41,6),(42,7)],[(35,0),(36,1),(41,6),(42,7)],[(35,0),(36,1),(37,2),(41,6),(42,7)],[(35,0),(36,1),(37,2),(38,3),(41,6),(42,7)],[(35,0),(36,1),(37,2),(38,3),(39,4),(41,6),(42,7)],[(35,0),(36,1),(37,2),(38,3),(39,4),(40,5)],[(35,0),(36,1),(37,2),(38,3),(39,4),(40,5),(41,6)],[(35,0),(36,1),(37,2),(38,3),(39,4),(40,5),(41,6),(42,7)],[(35,0),(36,1),(37,2),(38,3),(39,4),(40,5),(41,6),(42,7),(43,8)],[(35,0),(36,1),(37,2),(38,3),(39,4),(40,5),(41,6),(42,7),(43,8),(44,9)],[(35,0),(36,1),(37,2),(38,3),(39,4),(40,5),(41,6),(42,7),(43,8),(44,9),(45,10)]] [(35,0),(36,1),(37,2),(38,3),(39,4),(40,5),(41,6),(42,7),(43,8),(44,9)]
       [Is (.slice va NS.length vc),Is (jF q.p),Is (jF q.p),Is (.pointer (some ⟨q.p,3,none⟩)),Is (.pointer (some ⟨q.p,7,none⟩)),Is (.map (some q.m)),Is (.pointer (some ⟨wr.heap.size,2,none⟩)),Is (.int .u64 n),Is (.string nm),fun v w=>kO w v [nm]]
       zk jA.trans jA.refl (jA.refl _).drew zk ⟨jS,jS,jS,jS,jS,jS,jS,jS,jS,fun _ _ _ hg h=>kO.grew h hg,trivial⟩ rfl ?_ ?_
      rotate_left
      ·intro y w2 hG hF
       simp only[yV,Is,and_true,Nat.reduceAdd] at hF
       have h0:=hF.1
       have h1:=hF.2.1
       have h2:=hF.2.2.1
       have h3:=hF.2.2.2.1
       have h4:=hF.2.2.2.2.1
       have h5:=hF.2.2.2.2.2.1
       have h6:=hF.2.2.2.2.2.2.1
       have h7:=hF.2.2.2.2.2.2.2.1
       have h8:=hF.2.2.2.2.2.2.2.2.1
       have h9:=hF.2.2.2.2.2.2.2.2.2
       clear hF
       simp only[jB,Act.put,zq1,zq2,zq3,zq4,zq5,List.drop_succ_cons,List.drop_zero]
       simp only[h0,h1,h2,h3,h4,h5,h6,h7,h8]
       clear h0 h1 h2 h3 h4 h5 h6 h7 h8
       refine JO rfl _ _ rfl w.heap.size (.slice va NS.length vc) NS rfl (yN.grew HOW.out (((jA.refl _).alloc _).trans hG)) _ [nm] rfl h9 (by have:=HLE.out;simp;omega) (HG2.out.trans hG).size ?_
       intro v' w3 j3 hgr hnx
       obtain⟨va2,vc2,rfl,hz1,hz2,hz3⟩:=j7 j3
       have HO3:=zh j3
       have HG3:Hid (jA w w3):=pV (yN.grew HOW.out (((jA.refl _).alloc _).trans hG)) (HG2.out.trans hG) hgr
       clear j3 hgr hnx h9 hG hz1 hz2 hz3
       go_wp2_with fail
       go_roundw
       case rel=>
        refine⟨k+1,by omega,by go_num,?_⟩
        show _∧_
        refine⟨by have h:=HO3.out;rw[List.length_append] at h;rw[HNT.out,HNM1.out];exact h,HG3.out,fun _=>HOD.out,fun j u hj hu=>?_⟩
        by_cases hjk:2*j < k
        ·exact HW.out.2.2.2 j u hjk hu
        ·have e:2*j=k:=by have:=HKE.out;omega
         rw[e,HU.out] at hu
         cases hu
         rfl
       case measure=>simp[intOf];omega
      refine⟨zst,zst,zst,zst,zst,?_⟩
      refine⟨?_,?_⟩
      ·intro y w2 hG hD K hK
       have dc7:=hG.cell c7
       exact zsr
      refine⟨zst,?_⟩
      refine⟨?_,?_⟩
      ·intro y w2 hG hD K hK
       have de2:=hG.cell e2
       exact zsr
      refine⟨?_,?_⟩
      ·intro y w2 hG hD K hK
       simp only[zD,zq4,zq5,Is,and_true] at hD
       simp only[jB,Act.put,zq1,zq2,zq3,zq4,zq5,Is] at hK⊢
       simp only[hD] at hK⊢
       clear hD
       refine jL ?_
       have hlk:=pW (hG.heap HMP.out) n
       replace hlk:=hlk.trans (congrArg (fun v=>Result.ok (Value.string v) w2) HNM1.out)
       go_simp
       exact hK _ _ _ rfl (jA.refl _) rfl
      refine⟨?_,?_⟩
      ·intro y w2 hG hD K hK
       simp only[zD,zq4,zq5,Is,and_true] at hD
       simp only[jB,Act.put,zq1,zq2,zq3,zq4,zq5,Is] at hK⊢
       simp only[hD] at hK⊢
       clear hD
       refine jL ?_
       go_simp
       exact hK _ _ _ rfl ((jA.refl _).alloc _) (aY w2 nm HNL.out)
      trivial
     ·have HKF:Hid (yC L=false):=by
       show _=_
       cases hkt:yC L with
       | false=>rfl
       | true=>exact absurd (((vI L).1 hkt).2 (k / 2) _ (by rw[show 2*(k / 2)=k by have:=HKE.out;omega];exact HU.out)) hty
      go_wp2_with fail
      refine (kV 140 (HB.out.grew HG2.out)).mono ?_
      rintro r w3 ⟨rfl,ht⟩
      have HT:=zh (ht.after HG2.out)
      clear ht
      go_wp2
      go_ret
      exact .inr ⟨HKF.out,rfl,HT.out⟩
    ·rw[show k % 2=1 by omega] at hkm
     have HKO:=zh hke
     clear hke
     obtain⟨va,vc,rfl,hvc,hvc2,hvc3⟩:=j7 (show yN wr w.heap.size u4 (z7 x.names L k) from HW.out.1)
     generalize hNS:z7 x.names L k=NS at *
     have HNS:=zh hNS
     clear hvc hvc2 hvc3 hNS
     go_wp2_with fail
     go_roundw
     case rel=>
      refine⟨k+1,by omega,by go_num,?_⟩
      show _∧_
      have hodd:=V7 x.names L (k / 2)
      rw[show 2*(k / 2)+1=k by have:=HKO.out;omega] at hodd
      refine⟨by rw[hodd,HNS.out];exact yN.grew HW.out.1 ((jA.refl _).alloc _),HG2.out,fun _=>HOD.out,fun j u hj hu=>HW.out.2.2.2 j u (by have:=HKO.out;omega) hu⟩
     case measure=>simp[intOf];omega
   ·have HKF:Hid (yC L=false):=by
     show _=_
     cases hkt:yC L with
     | false=>rfl
     | true=>exact absurd ((vI L).1 hkt).1 hodd
    rw[show L.length % 2=1 by omega] at hlm
    clear hodd
    go_wp2_with fail
    refine (kV 140 (HB.out.grew HG2.out)).mono ?_
    rintro r w3 ⟨rfl,ht⟩
    have HT:=zh (ht.after HG2.out)
    clear ht
    go_wp2
    go_ret
    exact .inr ⟨HKF.out,rfl,HT.out⟩
  ·have ek:k=L.length:=by omega
   subst ek
   have HKT:Hid (yC L=true):=by
    show _=_
    refine (vI L).2 ⟨?_,fun j u hu=>HW.out.2.2.2 j u (List.getElem?_eq_some_iff.1 hu).1 hu⟩
    by_cases h0:0 < L.length
    ·exact HW.out.2.2.1 h0
    ·omega
   have hw:=HW.out.1
   rw[lK ((vI L).1 HKT.out).1] at hw
   have HO:=zh (And.intro hw HW.out.2.1)
   obtain⟨va,vc,rfl,hvc,hvc2,hvc3⟩:=j7 hw
   clear hw HW hvc hvc2 hvc3
   obtain⟨NS,hNS⟩:∃NS,(kE x.names L).map (·.1)=NS:=⟨_,rfl⟩
   have HO:Hid (yN wr w.heap.size (.slice va NS.length vc) NS∧jA w wr):=by have h:=HO.out;rw[hNS] at h;exact h
   rw[hNS]
   have HNS:=zh hNS
   clear hNS
   have hge:¬(L.length:Int) < L.length:=by omega
   go_wp2
   go_ret
   exact .inl ⟨HKT.out,.slice va NS.length vc,rfl,by rw[HNS.out];exact HO.out.1,HO.out.2⟩
def ZF (start:Int) (x:BS):BS:=if 0≤start∧start≤(x.stk.length:Int) then x else x.fail 2
def qS (start:Int) (x:BS):List V3:=if 0≤start∧start≤(x.stk.length:Int) then x.stk.drop start.toNat else []
def vJ (L:List V3) (y:BS):BS:=if yC L then y else y.fail 140
def zF (N:List (Int × ByteArray)) (L:List V3):List ByteArray:=if yC L then (kE N L).map (·.1) else []
def gE (start:Int) (x:BS):BS:=(vJ (qS start x) (ZF start x)).fail (qJ (zF x.names (qS start x))).2
theorem aT:qJ []=([],0):=by unfold qJ;rw[if_pos List.nodup_nil];rfl
theorem Z3 (start:Int) (x:BS):(ZF start x).names=x.names:=by unfold ZF;split<;>rfl
theorem JK {x:BS}:x.fail 0=x:=by
 unfold BS.fail kL
 obtain⟨s,e,stk,a,b,c,d,f⟩:=x
 dsimp only
 split
 ·rename_i h;rw[h]
 ·rfl
theorem nE {x:BS} {e:Int} (h:x.e=0):(x.fail e).e=e:=by unfold BS.fail kL;dsimp only;rw[if_pos h]
theorem nF {most start:Int} {sh:Bool} {x:BS} (hx:x.e=0) (h:(gE start x).e≠0):x.endMap most sh start=gE start x:=by
 unfold BS.endMap
 rw[if_pos hx]
 unfold gE ZF qS at *
 by_cases hr:0≤start∧start≤(x.stk.length:Int)
 ·simp only[if_pos hr] at h⊢
  by_cases hk:yC (x.stk.drop start.toNat)=true
  ·simp only[vJ,zF,if_pos hk] at h⊢
   by_cases hn:((kE x.names (x.stk.drop start.toNat)).map (·.1)).Nodup
   ·exfalso
    apply h
    have:(qJ ((kE x.names (x.stk.drop start.toNat)).map (·.1))).2=0:=by unfold qJ;rw[if_pos hn]
    rw[this,JK]
    exact hx
   ·rw[if_neg hn]
    have:(qJ ((kE x.names (x.stk.drop start.toNat)).map (·.1))).2=71:=by unfold qJ;rw[if_neg hn]
    rw[this]
  ·simp only[vJ,zF,if_neg hk]
   rw[aT,JK]
 ·simp only[if_neg hr]
  have hk:yC []=true:=rfl
  simp only[vJ,zF,if_pos hk]
  rw[show kE x.names []=[] from rfl,List.map_nil,aT,JK]
theorem lO {most start:Int} {sh:Bool} {x:BS} (hx:x.e=0) (h:(gE start x).e=0) :
 InR start x.stk.length∧yC (qS start x)=true∧((kE x.names (qS start x)).map (·.1)).Nodup∧gE start x=x∧qS start x=x.stk.drop start.toNat ∧
 x.endMap most sh start=({x with stk:=x.stk.take start.toNat}:BS).table most sh (kF ((kW (kE x.names (qS start x))).map (·.1))) ((kW (kE x.names (qS start x))).map (·.2.1)) ((kW (kE x.names (qS start x))).map (·.2.2)):=by
 unfold BS.endMap
 rw[if_pos hx]
 unfold gE ZF qS at *
 unfold InR
 by_cases hr:0≤start∧start≤(x.stk.length:Int)
 ·simp only[if_pos hr] at h⊢
  by_cases hk:yC (x.stk.drop start.toNat)=true
  ·simp only[vJ,zF,if_pos hk] at h⊢
   by_cases hn:((kE x.names (x.stk.drop start.toNat)).map (·.1)).Nodup
   ·have:(qJ ((kE x.names (x.stk.drop start.toNat)).map (·.1))).2=0:=by unfold qJ;rw[if_pos hn]
    rw[this,JK,if_pos hn]
    refine⟨hr,hk,hn,?_,?_,?_⟩<;>first | rfl | trivial
   ·exfalso
    have:(qJ ((kE x.names (x.stk.drop start.toNat)).map (·.1))).2=71:=by unfold qJ;rw[if_neg hn]
    rw[this,nE hx] at h
    exact absurd h (by decide)
  ·exfalso
   simp only[vJ,zF,if_neg hk] at h
   rw[aT,JK,nE hx] at h
   exact absurd h (by decide)
 ·exfalso
  simp only[if_neg hr] at h
  have hk:yC []=true:=rfl
  simp only[vJ,zF,if_pos hk] at h
  rw[show kE x.names []=[] from rfl,List.map_nil,aT,JK,nE hx] at h
  exact absurd h (by decide)
section
variable {B:Nat} {q:kN} {most flags:Int} {κ κ0 κ1:Nat→Nat} {x y:BS} {w w' w0 w1:World} {Kp:List (Nat × Obj)}
theorem pX (start:Int) (h:Bd B q most flags κ x w):Calls prog 32 #[jF q.p,.int .i64 start] w fun r w'=>∃v,r=.returned v∧YJ B q most flags w κ (ZF start x) v (qS start x) w':=by
 refine (eO start h).mono ?_
 rintro r w1 (⟨hin,v',rfl,ho,hg⟩|⟨hin,rfl,ht⟩)
 ·refine⟨v',rfl,?_⟩
  unfold ZF qS
  rw[if_pos (show 0≤start∧start≤(x.stk.length:Int) from hin),if_pos (show 0≤start∧start≤(x.stk.length:Int) from hin)]
  refine⟨κ,h.grew hg,Tn.of_grew hg,ho,fun g hgg=>Decidable.byContradiction fun hk=>?_⟩
  have h1:=(aS ho hgg).1
  have h2:=(h.lt g hk).2
  omega
 ·refine⟨_,rfl,?_⟩
  unfold ZF qS
  rw[if_neg (show ¬(0≤start∧start≤(x.stk.length:Int)) from hin),if_neg (show ¬(0≤start∧start≤(x.stk.length:Int)) from hin)]
  obtain⟨κ1,k1,k2⟩:=ht
  exact⟨κ1,k1,k2,World.ownsRow_nil _ _ _ _,fun g e=>by cases e⟩
theorem Env.callV {f:Nat} {args:Array Value} {L:List V3} (h:Env B q most flags w0 κ0 Kp x w) (hc:∀κ,Bd B q most flags κ x w→(∀z∈Kp,κ z.1=0)→Calls prog f args w fun r w'=>∃v,r=.returned v∧YJ B q most flags w κ y v L w') :
 Calls prog f args w fun r w'=>∃v Kp',r=.returned v∧jO w' w.heap.size v L∧(∀z∈Kp,z∈Kp')∧Env B q most flags w0 κ0 Kp' y w'∧∀w2 y2,Env B q most flags w0 κ0 Kp' y2 w2→jO w2 w.heap.size v L:=by
 obtain⟨κ,h1,h2,h3⟩:=h
 refine (hc κ h1 (fun z hz=>(h3 z hz).2)).mono ?_
 rintro r w' ⟨v,rfl,κ1,k1,k2,k3,k4⟩
 have hk:∀z∈Kp,w'.heap[z.1]? = some z.2∧κ1 z.1=0:=fun z hz=>⟨k2.1.heap (h3 z hz).1 (fun e=>e (h3 z hz).2),(k2.2 z.1 (Array.getElem?_eq_some_iff.1 (h3 z hz).1).1).trans (h3 z hz).2⟩
 rcases k3.2 with ⟨rfl,hn⟩|⟨g,cap,cur,rfl,hge,hh,hcap,hmax,hsz,htk⟩
 ·refine⟨_,Kp,rfl,k3,fun z hz=>hz,⟨κ1,k1,h2.trans k2,hk⟩,fun w2 y2 _=>⟨k3.1,.inl ⟨rfl,hn⟩⟩⟩
 ·refine⟨_,(g,.cells cur 65 (0,0))::Kp,rfl,k3,fun z hz=>List.mem_cons_of_mem _ hz,⟨κ1,k1,h2.trans k2,fun z hz=>?_⟩,fun w2 y2 he=>⟨k3.1,.inr ⟨g,cap,cur,rfl,hge,he.kp List.mem_cons_self,hcap,hmax,hsz,htk⟩⟩⟩
  rcases List.mem_cons.1 hz with rfl|hz
  ·exact⟨hh,k4 g rfl⟩
  ·exact hk z hz
theorem Env.keepB (h:Env B q most flags w0 κ0 Kp x w) (hg:jA w w') {g:Nat} (h0:w.heap.size≤g) (h1:g < w'.heap.size):∃o,w'.heap[g]? = some o∧Env B q most flags w0 κ0 ((g,o)::Kp) x w':=by
 obtain⟨κ,k1,k2,k3⟩:=h
 refine⟨_,Array.getElem?_eq_getElem h1,κ,k1.grew hg,k2.trans (Tn.of_grew hg),fun z hz=>?_⟩
 rcases List.mem_cons.1 hz with rfl|hz
 ·exact⟨Array.getElem?_eq_getElem h1,Decidable.byContradiction fun hk=>by have:=(k1.lt g hk).2;omega⟩
 ·exact⟨hg.heap (k3 z hz).1,(k3 z hz).2⟩
theorem pY {v:Value} {l:List Int} (h:v6 w v l) (hb:∀a n c,v=.slice (some a) n c→w'.heap[a.block]? = w.heap[a.block]?):v6 w' v l:=by
 obtain⟨a,c,rfl,z1,z2,z3,hc⟩:=h
 refine⟨a,c,rfl,z1,z2,z3,fun i x hx=>?_⟩
 obtain⟨_,b,off,rfl,h0⟩:=hc i x hx
 have e:=hb _ _ _ rfl
 exact⟨trivial,b,off,rfl,(World.cell?_of_block (a:=⟨b,off+i,none⟩) e).trans h0⟩
theorem pZ {v:Value} {l:List ByteArray} (h:kO w v l) (hb:∀a n c,v=.slice (some a) n c→w'.heap[a.block]? = w.heap[a.block]?):kO w' v l:=by
 obtain⟨a,c,rfl,z1,z2,z3,hc⟩:=h
 refine⟨a,c,rfl,z1,z2,z3,fun i x hx=>?_⟩
 obtain⟨hl,b,off,rfl,h0⟩:=hc i x hx
 have e:=hb _ _ _ rfl
 exact⟨hl,b,off,rfl,(World.cell?_of_block (a:=⟨b,off+i,none⟩) e).trans h0⟩
theorem Env.keepRow (h:Env B q most flags w0 κ0 Kp x w) (hg:jA w w') {v:Value} (hf:∀a n c,v=.slice (some a) n c→w.heap.size≤a.block∧a.block < w'.heap.size) :
 ∃Kp',(∀z∈Kp,z∈Kp')∧Env B q most flags w0 κ0 Kp' x w'∧∀w2 y2,Env B q most flags w0 κ0 Kp' y2 w2→∀a n c,v=.slice (some a) n c→w2.heap[a.block]? = w'.heap[a.block]? := by
 by_cases hv:∃a n c,v=.slice (some a) n c
 ·obtain⟨a,n,c,rfl⟩:=hv
  obtain⟨o,ho,he⟩:=h.keepB hg (hf _ _ _ rfl).1 (hf _ _ _ rfl).2
  refine⟨_,fun z hz=>List.mem_cons_of_mem _ hz,he,fun w2 y2 h2 a' n' c' e=>?_⟩
  cases e
  exact (h2.kp List.mem_cons_self).trans ho.symm
 ·exact⟨Kp,fun z hz=>hz,h.grew hg,fun w2 y2 _ a n c e=>absurd ⟨a,n,c,e⟩ hv⟩
theorem V8 (N:List (Int × ByteArray)):∀(l:List V3),∀p∈kE N l,∃n,p.1=zM N n
 | [],p,h=>by cases h
 | [a],p,h=>by simp[kE] at h
 | a::b::r,p,h=>by
  rcases List.mem_cons.1 h with rfl|h
  ·exact⟨a.2.2,rfl⟩
  ·exact V8 N r p h
theorem p3 {N:List (Int × ByteArray)} (hz:∀z∈N,z.2.size≤1048576) (n:Int):(zM N n).size≤1048576:=by
 unfold zM
 split
 ·rename_i q hq;exact hz _ (List.mem_of_find?_eq_some hq)
 ·show (0:Nat)≤_;omega
theorem cL {N:List (Int × ByteArray)} (hz:∀z∈N,z.2.size≤1048576) (L:List V3):∀s∈zF N L,s.size≤1048576:=by
 intro s hs
 unfold zF at hs
 split at hs
 ·obtain⟨p,hp,rfl⟩:=List.mem_map.1 hs
  obtain⟨n,e⟩:=V8 N L p hp
  rw[e]
  exact p3 hz n
 ·cases hs
theorem dB (N:List (Int × ByteArray)) (L:List V3):(zF N L).length≤L.length:=by
 unfold zF
 split
 ·rw[List.length_map,yO];omega
 ·exact Nat.zero_le _
theorem JY {w:World} {B:Nat} {e:TypeId} {size:Nat} {v:Value} {n:Nat} {xs:List Value} (h:w.ownsRow B e size v n xs):∀a m c,v=.slice (some a) m c→B≤a.block∧a.block < w.heap.size:=fun a m c e=>World.ownsRow.lt h a.block (by rw[e];rfl)
theorem Env.namedE {la:Option Addr} {lc:Nat} {L:List V3} (h:Env B q most flags w0 κ0 Kp y w) (hp:ValsAt w (.slice la L.length lc) L) (hl:L.length≤65536) (hz:∀z∈y.names,z.2.size≤1048576) :
 Calls prog 33 #[jF q.p,.slice la L.length lc] w fun r w'=>∃v Kp',r=.returned v∧kO w' v (zF y.names L)∧(∀z∈Kp,z∈Kp')∧Env B q most flags w0 κ0 Kp' (vJ L y) w'∧∀w2 y2,Env B q most flags w0 κ0 Kp' y2 w2→kO w2 v (zF y.names L):=by
 have h':=h
 obtain⟨κ,h1,h2,h3⟩:=h
 refine (nD la lc L hp hl hz h1).mono ?_
 rintro r w' (⟨hk,v,rfl,ho,hg⟩|⟨hk,rfl,ht⟩)
 ·have e1:zF y.names L=(kE y.names L).map (·.1):=by unfold zF;rw[if_pos hk]
  have e2:vJ L y=y:=by unfold vJ;rw[if_pos hk]
  rw[← e1] at ho
  have hs:=ho.strs (fun s hs=>by have:=cL hz L s hs;unfold k9;omega)
  obtain⟨Kp',hsub,he,hsame⟩:=h'.keepRow hg (JY ho)
  rw[e2]
  exact⟨v,Kp',rfl,hs,hsub,he,fun w2 y2 k=>pZ hs (hsame w2 y2 k)⟩
 ·have e1:zF y.names L=[]:=by unfold zF;rw[if_neg (by rw[hk];decide)]
  have e2:vJ L y=y.fail 140:=by unfold vJ;rw[if_neg (by rw[hk];decide)]
  obtain⟨κ1,k1,k2⟩:=ht
  rw[e1,e2]
  exact⟨_,Kp,rfl,kO.nil _,fun z hz=>hz,⟨κ1,k1,h2.trans k2,fun z hz=>⟨k2.1.heap (h3 z hz).1 (fun e=>e (h3 z hz).2),(k2.2 z.1 (Array.getElem?_eq_some_iff.1 (h3 z hz).1).1).trans (h3 z hz).2⟩⟩,fun w2 y2 _=>kO.nil _⟩
theorem nG {l:List ByteArray} {r:Ending} (hl:l.length≤65536) (h:dP w l r w'):jA w w'∧∃v,r=.returned (.tuple #[v,.int .i64 (qJ l).2])∧v6 w' v (qJ l).1∧∀a n c,v=.slice (some a) n c→w.heap.size≤a.block∧a.block < w'.heap.size:=by
 rcases h with ⟨hg,⟨hn,rfl⟩|⟨hn,v,rfl,hp,hf⟩⟩
 ·obtain⟨_,v,e,hr⟩:=dU hl ⟨hg,.inl ⟨hn,rfl⟩⟩
  injection e with e
  injection e with e
  have e0:Value.slice none 0 0=v:=Option.some.inj (by exact congrArg (fun a:Array Value=>a[0]?) e)
  have e1:Value.int .i64 71=.int .i64 (qJ l).2:=Option.some.inj (by exact congrArg (fun a:Array Value=>a[1]?) e)
  refine⟨hg,v,by rw[e1,e0],hr,fun a n c ev=>by rw[← e0] at ev;cases ev⟩
 ·obtain⟨_,v2,e,hr⟩:=dU hl ⟨hg,.inr ⟨hn,v,rfl,hp⟩⟩
  injection e with e
  injection e with e
  have e0:v=v2:=Option.some.inj (by exact congrArg (fun a:Array Value=>a[0]?) e)
  have e1:Value.int .i64 0=.int .i64 (qJ l).2:=Option.some.inj (by exact congrArg (fun a:Array Value=>a[1]?) e)
  subst e0
  exact⟨hg,v,by rw[e1],hr,hf⟩
theorem Env.orderE {v:Value} {l:List ByteArray} (h:Env B q most flags w0 κ0 Kp y w) (hs:kO w v l) (hl:l.length≤65536) :
 Calls prog 34 #[v] w fun r w'=>∃v' Kp',r=.returned (.tuple #[v',.int .i64 (qJ l).2])∧v6 w' v' (qJ l).1∧(∀z∈Kp,z∈Kp')∧Env B q most flags w0 κ0 Kp' y w'∧∀w2 y2,Env B q most flags w0 κ0 Kp' y2 w2→v6 w2 v' (qJ l).1:=by
 refine (oT l hl v w hs).mono ?_
 intro r w' hr
 obtain⟨hg,v',rfl,jJ,hf⟩:=nG hl hr
 obtain⟨Kp',hsub,he,hsame⟩:=h.keepRow hg hf
 exact⟨v',Kp',rfl,jJ,hsub,he,fun w2 y2 k=>pY jJ (hsame w2 y2 k)⟩
theorem eY (m:Nat):∀(l:List ByteArray) (a:ByteArray),(∀s∈l,s.size≤m)→(l.foldl (fun a k=>a++(k++⟨#[0]⟩)) a).size≤a.size+l.length*(m+1)
 | [],a,_=>by simp
 | k::r,a,h=>by
  have h1:=eY m r (a++(k++⟨#[0]⟩)) (fun s hs=>h s (List.mem_cons_of_mem _ hs))
  have h2:=h k List.mem_cons_self
  have e1:(⟨#[0]⟩:ByteArray).size=1:=rfl
  rw[ByteArray.size_append,ByteArray.size_append,e1] at h1
  show (r.foldl (fun a k=>a++(k++⟨#[0]⟩)) (a++(k++⟨#[0]⟩))).size≤_
  rw[List.length_cons,Nat.add_mul,Nat.one_mul]
  omega
theorem gF (l:List ByteArray) (m:Nat) (h:∀s∈l,s.size≤m):(kF l).size≤l.length*(m+1):=by
 have:=eY m l ByteArray.empty h
 have e:ByteArray.empty.size=0:=rfl
 rw[e,Nat.zero_add] at this
 exact this
theorem txts_at {w:World} {a:Option Addr} {n c:Nat} {l:List ByteArray} (h:kO w (.slice a n c) l) {i:Nat} {s:ByteArray} (hs:l[i]? = some s):∃b off,a=some ⟨b,off,none⟩∧w.cell? ⟨b,off+i,none⟩=some (.string s):=by
 obtain⟨a',c',e,_,_,_,hc⟩:=h
 injection e with e _ _
 obtain⟨_,b,off,e2,h0⟩:=hc i s hs
 exact⟨b,off,e.trans e2,h0⟩
theorem rowI_at {w:World} {a:Option Addr} {n c:Nat} {l:List Int} (h:v6 w (.slice a n c) l) {i:Nat} {s:Int} (hs:l[i]? = some s):∃b off,a=some ⟨b,off,none⟩∧w.cell? ⟨b,off+i,none⟩=some (.int .i64 s):=by
 obtain⟨a',c',e,_,_,_,hc⟩:=h
 injection e with e _ _
 obtain⟨_,b,off,e2,h0⟩:=hc i s hs
 exact⟨b,off,e.trans e2,h0⟩
def MpW (wb:World) (nb:Nat) (bs:List Value) (P2:World→Prop):Nat→World→Prop
 | 0,w=>Below nb wb w∧SBF nb nb bs w∧nb < w.heap.size
 | 1,w=>Below nb wb w∧nb < w.heap.size
 | _+2,w=>P2 w
theorem MpW.below {wb:World} {nb:Nat} {bs:List Value} {P2:World→Prop} {p:Nat} (h:MpW wb nb bs P2 p w) (hp:p≤1):Below nb wb w∧nb < w.heap.size:=by
 match p,h,hp with
 | 0,h,_=>exact⟨h.1,h.2.2⟩
 | 1,h,_=>exact h
end
theorem SBF.grew {B b:Nat} {bs:List Value} {w w':World} (h:SBF B b bs w) (hg:jA w w'):SBF B b bs w':=by
 have hk:∀p,Lib.BuilderAtF 77 5 B b p bs w→Lib.BuilderAtF 77 5 B b p bs w':=by
  rintro p ⟨h0,v,h1,h2,h3⟩
  refine⟨h0,v,hg.heap h1,⟨h2.1,?_⟩,h3⟩
  rcases h2.2 with h|⟨g,cap,cur,fz,e,hb,hh,hr⟩
  ·exact .inl h
  ·exact .inr ⟨g,cap,cur,fz,e,hb,hg.heap hh,hr⟩
 exact h.elim (fun h=>.inl (hk _ h)) (fun h=>.inr (hk _ h))
theorem MpW.grew {wb:World} {nb:Nat} {bs:List Value} {P2:World→Prop} (h2:∀w w',jA w w'→P2 w→P2 w'):∀(p:Nat) (w w':World),jA w w'→MpW wb nb bs P2 p w→MpW wb nb bs P2 p w'
 | 0,_,_,hg,h=>⟨Below.trans h.1 (Below.mono hg (Nat.le_of_lt h.2.2)),h.2.1.grew hg,Nat.lt_of_lt_of_le h.2.2 hg.size⟩
 | 1,_,_,hg,h=>⟨Below.trans h.1 (Below.mono hg (Nat.le_of_lt h.2)),Nat.lt_of_lt_of_le h.2 hg.size⟩
 | _+2,_,_,hg,h=>h2 _ _ hg h
theorem p4 (a b:ByteArray):Lib.byteCells a.data.toList++Lib.strCells b=Lib.byteCells (a++b).data.toList:=by
 rw[Lib.strCells_eq]
 simp[Lib.byteCells]
theorem oI {L:List V3} (h:∀v∈L,okV v) (i:Nat):okV (L.getD i (0,0,0)):=by
 rw[List.getD_eq_getElem?_getD]
 cases hi:L[i]? with
 | none=>exact ok0
 | some u=>exact h u (List.mem_of_getElem? hi)
def PkF (b0:Nat) (K:List V3) (p:Nat) (v:Value) (w:World):Prop:=p≤1→jO w b0 v K
def MpT (nb:Nat):Nat→World→World→Prop
 | 0,w,w'=>Lib.OthersKept 5 (some nb) w w'
 | _+1,_,_=>True
theorem PkF.st {b0:Nat} {K:List V3} {nb:Nat} (hn:nb < b0):(∀p v w w',(fun (_:Nat) w w'=>jA w w') p w w'→PkF b0 K p v w→PkF b0 K p v w')∧∀p v w w',MpT nb p w w'→PkF b0 K p v w→PkF b0 K (p+1) v w':=by
 refine⟨fun p v w w' hg h hp=>yQ (h hp) hg,fun p v w w' ht h hp=>?_⟩
 obtain rfl:p=0:=by omega
 have h0:=h (by omega)
 refine⟨h0.1,?_⟩
 rcases h0.2 with h|⟨g,cap,cur,e,hb,hh,hr⟩
 ·exact .inl h
 ·exact .inr ⟨g,cap,cur,e,hb,ht g _ hh (fun e=>by injection e with e;omega) (fun c fz e=>by injection e with _ e;exact absurd e (by decide)),hr⟩
end Go.Proofs.YtjnpcddbgfmpcaaGreatDoor
namespace Go.Proofs.YtjnpcddbgfmpcaaGreatDoor
open Go.Proofs.Tryz
open Go Go.ChangeShapes Go.WideShapes Go.ChangeAt Go.RowKit Go.Joins Go.Deep
open Go.Proofs.YtjnpcddbgfmpcaaGreatDoor.Ft (V3 vV okV ValsAt inlineB legalB packF codeF typedF allF oneF)
theorem p5 (t wd n a i:Int):Ft.oneF t wd n a i=0∨Ft.oneF t wd n a i=1∨Ft.oneF t wd n a i=2∨Ft.oneF t wd n a i=4∨Ft.oneF t wd n a i=8:=by
 unfold Ft.oneF
 split
 ·unfold Ft.leastOf
  repeat' split
  all_goals simp
 ·simp
theorem p6 (n:Int) (w:World):Calls prog 49 #[.int .u64 n,.int .i64 0] w fun r w'=>r=.returned (.int .u64 (kY n 0))∧w'=w:=by
 have hz:IntKind.u64.wrap (n*2 ^ (64:Int).toNat)=0:=by simp[IntKind.wrap,IntKind.bits,IntKind.signed]
 have hz2:IntKind.u64.wrap (n*18446744073709551616)=0:=by simp[IntKind.wrap,IntKind.bits,IntKind.signed]
 go_enter func49,ntmps49
 go_wp2
 go_ret
 refine⟨qA ?_,rfl⟩
 have e:kY n 0=0:=by unfold kY;show n % 2 ^ 0=0;omega
 rw[e]
theorem p7 (n W:Int) (w:World) (hW:W=0∨W=1∨W=2∨W=4∨W=8) (n0:0≤n) (n1:n≤18446744073709551615):Calls prog 49 #[.int .u64 n,.int .i64 W] w fun r w'=>r=.returned (.int .u64 (kY n W))∧w'=w:=by
 rcases hW with rfl|h
 ·exact p6 n w
 ·exact iV n W w (by rcases h with rfl | rfl | rfl | rfl<;>rfl) n0 n1
theorem lowF_le {n W:Int} (n0:0≤n) (n1:n≤18446744073709551615):0≤kY n W∧kY n W≤18446744073709551615:=by
 unfold kY
 have hp:(0:Int) < 2 ^ (8*W.toNat):=Int.pow_pos (by decide)
 have h1:=Int.emod_nonneg n (Int.ne_of_gt hp)
 refine⟨h1,Int.le_trans ?_ n1⟩
 rcases Int.lt_or_le n (2 ^ (8*W.toNat)) with h|h
 ·rw[Int.emod_eq_of_lt n0 h];exact Int.le_refl _
 ·have:=Int.emod_lt_of_pos n hp;omega
theorem eZ (w:World) (y z:Int) (a b:UInt8) (ha:y=a.toNat) (hb:z=b.toNat):kB (w.alloc (.cells #[.int .u8 y,.int .u8 z] 5)) (.slice (some ⟨w.heap.size,0,none⟩) 2 2) [a,b]:=by
 subst ha hb
 refine⟨_,2,rfl,Nat.le_refl _,(fun h=>by cases h),fun i c hc=>⟨_,_,rfl,?_⟩⟩
 match i,hc with
 | 0,hc=>simp at hc;subst hc;rw[cell_of_row _ _ _ _ _ _ (heap_alloc_new _ _)];rfl
 | 1,hc=>simp at hc;subst hc;rw[cell_of_row _ _ _ _ _ _ (heap_alloc_new _ _)];rfl
section
variable {B:Nat} {q:kN} {most flags:Int} {κ κ0 κ1:Nat→Nat} {x y:BS} {w w' w0 w1:World} {Kp:List (Nat × Obj)}
theorem Env.text1 {g:Nat} {s:ByteArray} (h:Env B q most flags w0 κ0 ((g,.cells #[.string s] 9 (0,0))::Kp) x w) (hss:zH [s]≤1073741824):Calls prog 52 #[jF q.b,.slice (some ⟨g,0,none⟩) 1 1] w fun r w'=>r=.returned (.tuple #[])∧Env B q most flags w0 κ0 Kp {x with s:=kA most (jP [s]) x.s} w':=by
 have hh:=h.kp List.mem_cons_self
 refine (h.call fun κ1 hb hz=>hb.buf_calls (Z9 hb.ok.len) (fun o ho hκ=>iC x.s _ [s] ho (Nat.zero_le _) hb.ok.len hb.ok.m1 ⟨_,_,rfl,fun i t ht=>?_⟩ (by simp) hss (fun ad n c e hk=>?_))).mono fun r w' hr=>⟨hr.1,hr.2.mono (fun z hz=>List.mem_cons_of_mem _ hz)⟩
 ·match i,ht with
  | 0,ht=>cases ht;exact⟨g,0,rfl,jI hh 0 _ rfl⟩
 ·cases e
  have h1:=hκ _ hk
  have h2:=hz _ List.mem_cons_self
  dsimp only at h1 h2
  omega
def cM (B:Nat) (q:kN) (most flags:Int) (w0:World) (κ0:Nat→Nat) (x:BS) (v:Value) (d:List UInt8) (w:World):Prop:=
 ∃κ,Bd B q most flags κ x w∧Tn κ0 κ w0 w∧w.ownsRow w0.heap.size 5 1 v d.length (Lib.byteCells d)∧∀g,v.ownBlock=some g→κ g=0
theorem Env.finX (h:Env B q most flags w0 κ0 Kp x w):cM B q most flags w0 κ0 x (.slice none 0 0) [] w:=by
 obtain⟨κ,h1,h2,_⟩:=h
 exact⟨κ,h1,h2,World.ownsRow_nil _ _ _ _,fun g e=>by cases e⟩
theorem Env.bytesE (h:Env B q most flags w0 κ0 Kp x w):Calls prog 53 #[jF q.b] w fun r w'=>∃v Kp',r=.returned (.tuple #[v,.int .i64 x.s.2])∧(∃a c,v=.slice a (QQ x.s).length c)∧(∀z∈Kp,z∈Kp')∧Env B q most flags w0 κ0 Kp' x w'∧∀w2 y2,Env B q most flags w0 κ0 Kp' y2 w2→cM B q most flags w0 κ0 y2 v (QQ x.s) w2:=by
 have h':=h
 obtain⟨κ,h1,h2,h3⟩:=h
 obtain⟨_,o,hb,_⟩:=h1.buf
 refine (oM hb (by have:=h'.len;omega)).mono ?_
 rintro r w' ⟨v,rfl,ho,hg⟩
 have ho2:w'.ownsRow w.heap.size 5 1 v (QQ x.s).length (Lib.byteCells (QQ x.s)):=ho
 have hf:∃a c,v=.slice a (QQ x.s).length c:=by
  rcases ho2.2 with ⟨rfl,e⟩|⟨g,cap,cur,rfl,_⟩
  ·exact⟨none,0,by rw[e]⟩
  ·exact⟨_,_,rfl⟩
 rcases ho2.2 with ⟨rfl,hn⟩|⟨g,cap,cur,rfl,hge,hh,hcap,hmax,hsz,htk⟩
 ·refine⟨_,Kp,rfl,hf,fun z hz=>hz,h'.grew hg,fun w2 y2 k=>?_⟩
  obtain⟨κ2,k1,k2,_⟩:=k
  exact⟨κ2,k1,k2,⟨ho2.1,.inl ⟨rfl,hn⟩⟩,fun g e=>by cases e⟩
 ·have hs:=h'.size
  refine⟨_,(g,.cells cur 5 (0,0))::Kp,rfl,hf,fun z hz=>List.mem_cons_of_mem _ hz,⟨κ,h1.grew hg,h2.trans (Tn.of_grew hg),fun z hz=>?_⟩,fun w2 y2 k=>?_⟩
  ·rcases List.mem_cons.1 hz with rfl|hz
   ·exact⟨hh,Decidable.byContradiction fun hk=>by have:=(h1.lt g hk).2;have h5:w.heap.size≤g:=hge;omega⟩
   ·exact⟨hg.heap (h3 z hz).1,(h3 z hz).2⟩
  ·have hk:=k.kp (n:=g) List.mem_cons_self
   obtain⟨κ2,k1,k2,k3⟩:=k
   exact⟨κ2,k1,k2,⟨ho2.1,.inr ⟨g,cap,cur,rfl,Nat.le_trans hs hge,hk,hcap,hmax,hsz,htk⟩⟩,fun g' e=>by cases e;exact (k3 _ List.mem_cons_self).2⟩
end
theorem tD {w:World} {a:Option Addr} {m c:Nat} {z:V3} (h:ValsAt w (.slice a m c) [z]):∃b off,a=some ⟨b,off,none⟩∧w.cell? ⟨b,off,none⟩=some (.int .i64 z.1)∧w.cell? ⟨b,off+1,none⟩=some (.int .i64 z.2.1)∧w.cell? ⟨b,off+2,none⟩=some (.int .u64 z.2.2):=by
 obtain⟨a',c',e,hc⟩:=h
 injection e with e _ _
 obtain⟨b,off,e2,h0,h1,h2⟩:=hc 0 z rfl
 rw[Nat.zero_mul,Nat.add_zero] at h0 h1 h2
 exact⟨b,off,e.trans e2,h0,h1,h2⟩
theorem nH {most:Int} {x:BS} (h:x.stk.length≠1):x.finish most=(([],(x.fail 140).e),x.fail 140):=by
 have he:(x.fail 140).e≠0:=bX (by decide)
 unfold BS.finish
 simp only[if_pos h,if_pos he]
theorem nI {most:Int} {x:BS} (h:x.stk.length=1) (he:x.e≠0):x.finish most=(([],x.e),x):=by
 have hn:¬x.stk.length≠1:=fun k=>k h
 unfold BS.finish
 simp only[if_neg hn,if_pos he]
theorem gG {most:Int} {x:BS} {v:V3} (h:x.stk=[v]) (he:x.e=0):x.finish most =
 ((QQ (kA most [UInt8.ofNat (packF v.1 (if inlineB v.1 then Ft.oneF v.1 v.2.1 v.2.2 x.s.1.length 0 else v.2.1)).1.toNat,UInt8.ofNat (Ft.oneF v.1 v.2.1 v.2.2 x.s.1.length 0).toNat] (jW most (Ft.oneF v.1 v.2.1 v.2.2 x.s.1.length 0) (if inlineB v.1 then kY v.2.2 (Ft.oneF v.1 v.2.1 v.2.2 x.s.1.length 0) else IntKind.u64.wrap (((jG most (Ft.oneF v.1 v.2.1 v.2.2 x.s.1.length 0) x.s).1.length:Int) - v.2.2)) (jG most (Ft.oneF v.1 v.2.1 v.2.2 x.s.1.length 0) x.s))),(kA most [UInt8.ofNat (packF v.1 (if inlineB v.1 then Ft.oneF v.1 v.2.1 v.2.2 x.s.1.length 0 else v.2.1)).1.toNat,UInt8.ofNat (Ft.oneF v.1 v.2.1 v.2.2 x.s.1.length 0).toNat] (jW most (Ft.oneF v.1 v.2.1 v.2.2 x.s.1.length 0) (if inlineB v.1 then kY v.2.2 (Ft.oneF v.1 v.2.1 v.2.2 x.s.1.length 0) else IntKind.u64.wrap (((jG most (Ft.oneF v.1 v.2.1 v.2.2 x.s.1.length 0) x.s).1.length:Int) - v.2.2)) (jG most (Ft.oneF v.1 v.2.1 v.2.2 x.s.1.length 0) x.s))).2),
  (({x with s:=kA most [UInt8.ofNat (packF v.1 (if inlineB v.1 then Ft.oneF v.1 v.2.1 v.2.2 x.s.1.length 0 else v.2.1)).1.toNat,UInt8.ofNat (Ft.oneF v.1 v.2.1 v.2.2 x.s.1.length 0).toNat] (jW most (Ft.oneF v.1 v.2.1 v.2.2 x.s.1.length 0) (if inlineB v.1 then kY v.2.2 (Ft.oneF v.1 v.2.1 v.2.2 x.s.1.length 0) else IntKind.u64.wrap (((jG most (Ft.oneF v.1 v.2.1 v.2.2 x.s.1.length 0) x.s).1.length:Int) - v.2.2)) (jG most (Ft.oneF v.1 v.2.1 v.2.2 x.s.1.length 0) x.s))}:BS).fail (kA most [UInt8.ofNat (packF v.1 (if inlineB v.1 then Ft.oneF v.1 v.2.1 v.2.2 x.s.1.length 0 else v.2.1)).1.toNat,UInt8.ofNat (Ft.oneF v.1 v.2.1 v.2.2 x.s.1.length 0).toNat] (jW most (Ft.oneF v.1 v.2.1 v.2.2 x.s.1.length 0) (if inlineB v.1 then kY v.2.2 (Ft.oneF v.1 v.2.1 v.2.2 x.s.1.length 0) else IntKind.u64.wrap (((jG most (Ft.oneF v.1 v.2.1 v.2.2 x.s.1.length 0) x.s).1.length:Int) - v.2.2)) (jG most (Ft.oneF v.1 v.2.1 v.2.2 x.s.1.length 0) x.s))).2).fail 140):=by
 have hn:¬x.stk.length≠1:=fun k=>k (by rw[h];rfl)
 have h0:¬x.e≠0:=fun k=>k he
 unfold BS.finish
 simp only[if_neg hn,if_neg h0]
 rw[h]
 rfl
theorem Z4 {B:Nat} {q:kN} {most flags:Int} {κ:Nat→Nat} {x:BS} {w:World} (h:Bd B q most flags κ x w):Calls prog 14 #[jF q.p] w fun r w'=>∃v,r=.returned (.tuple #[v,.int .i64 (x.finish most).1.2])∧cM B q most flags w κ (x.finish most).2 v (x.finish most).1.1 w':=by
 have HE0:=zh (Env.start h)
 have HB:=zh h
 have HOK:=zh h.ok.okS
 have HN0:=zh (VQ h)
 have c1:=h.at1
 clear h
 go_enter func14,ntmps14
 go_wp2_with fail
 refine HN0.out.mono ?_
 rintro r wz ⟨rfl,hwz⟩
 obtain rfl:w=wz:=hwz.symm
 go_wp2_with fail
 refine (VM 0 HB.out.stk HB.out.ok.stk).mono ?_
 rintro r w1 (⟨hin,v',rfl,ho,hg⟩|⟨hin,_,_⟩)
 rotate_left
 ·exact absurd (show InR 0 _ from ⟨Int.le_refl _,Int.natCast_nonneg _⟩) hin
 have hd:x.stk.drop (0:Int).toNat=x.stk:=rfl
 rw[hd] at ho
 clear hd
 have HO1:=zh ho
 obtain⟨la,lc,rfl,kQ⟩:=kD ho
 have HE1:=zh (HE0.out.grew hg)
 clear ho hg kQ hin c1
 have c2:=HE1.out.at2
 have HFA:=zh (fun h=>nH (most:=most) (x:=x) h)
 have HFB:=zh (fun h he=>nI (most:=most) (x:=x) h he)
 by_cases hl1:x.stk.length=1
 rotate_left
 ·have HF:=zh (HFA.out hl1)
  have hne:¬(x.stk.length:Int)=1:=by omega
  go_wp2_with fail
  refine (HE1.out.call fun κ1 hb hz=>kV 140 hb).mono ?_
  rintro r w2 ⟨rfl,he⟩
  have HE2:=zh he
  clear he c2
  have c2:=HE2.out.at2
  have hee:¬(x.fail 140).e=0:=bX (by decide)
  obtain⟨ex,hex⟩:∃ex,(x.fail 140).e=ex:=⟨_,rfl⟩
  rw[hex] at c2 hee HF
  have HEX:=zh hex
  clear hex
  clear hne hl1
  go_wp2_with fail
  go_quiet (fail)
  go_wp2_with fail
  go_ret2
  exact⟨.slice none 0 0,by rw[HF.out];rfl,by rw[HF.out];exact (HE2.out.grew ((jA.refl _).drewN _)).finX⟩
 ·have HL1:=zh hl1
  have hl1i:(x.stk.length:Int)=1:=by omega
  by_cases he:x.e=0
  rotate_left
  ·have HF:=zh (HFB.out hl1 he)
   obtain⟨ex,hex⟩:∃ex,x.e=ex:=⟨_,rfl⟩
   rw[hex] at c2 he HF
   have hne:¬ex=0:=he
   clear hex he
   go_wp2_with fail
   go_quiet (fail)
   go_wp2_with fail
   go_ret2
   exact⟨.slice none 0 0,by rw[HF.out];rfl,by rw[HF.out];exact (HE1.out.grew ((jA.refl _).drewN _)).finX⟩
  ·obtain⟨v,hv⟩:∃v,x.stk=[v]:=by
    match hs:x.stk,hl1 with
    | [v],_=>exact⟨v,rfl⟩
   have HF:=zh (gG (most:=most) hv he)
   have HOKV:=zh (HOK.out v (by rw[hv];exact List.mem_singleton.2 rfl))
   rw[he] at c2
   rw[hv] at HO1
   have HV:=zh hv
   obtain⟨ty,wd,n⟩:=v
   have HVL:=zh HO1.out.vals
   have hcl:=tD HVL.out
   obtain⟨lb,lo,rfl,t0,t1,t2⟩:=hcl
   have HLN:Hid (x.s.1.length≤1048576):=HE1.out.len
   have HW5:=zh (p5 ty wd n x.s.1.length 0)
   have HON:Hid (∀w,Calls prog 45 #[.agg #[.int .i64 ty,.int .i64 wd,.int .u64 n],.int .i64 x.s.1.length,.int .i64 0] w fun e w'=>e=.returned (.int .i64 (Ft.oneF ty wd n x.s.1.length 0))∧jA w w'):=fun w=>Ft.one_any ty wd n _ 0 w HOKV.out.1 HOKV.out.2
   have HF2:Hid (x.finish most=_):=HF.out
   dsimp only at HF2
   generalize Ft.oneF ty wd n x.s.1.length 0=W at *
   clear HF hv he HFA HFB HO1
   have HB1:=zh (HE1.out.add (.cells #[.int .i64 ty,.int .i64 wd,.int .u64 n] 65))
   go_wp2_with fail
   generalize (w1.alloc (.cells #[.int .i64 ty,.int .i64 wd,.int .u64 n] 65))=w2 at *
   have HM:=zh (List.mem_cons_self:(w1.heap.size,Obj.cells #[.int .i64 ty,.int .i64 wd,.int .u64 n] 65 (0,0))∈[(w1.heap.size,Obj.cells #[.int .i64 ty,.int .i64 wd,.int .u64 n] 65 (0,0))])
   have d0:=Env.cell HB1.out HM.out 0 _ rfl
   have d1:=Env.cell HB1.out HM.out 1 _ rfl
   have d2:=Env.cell HB1.out HM.out 2 _ rfl
   have cb0:=HB1.out.at0
   clear t0 t1 t2 c2
   refine k8 jA [[],[],[1],[1,2],[1,2,3],[1,2,3,4],[1,2,3,4,5],[0,1,2,3,4,5,6],[0,1,2,3,4,5,6,7]] [[(47,1),(48,2),(49,3),(50,4),(51,5),(52,6)],[(46,0)],[(46,0),(47,1)],[(46,0),(47,1),(48,2)],[(46,0),(47,1),(48,2),(49,3)],[(46,0),(47,1),(48,2),(49,3),(50,4)],[(46,0),(47,1),(48,2),(49,3),(50,4),(51,5)],[(46,0),(47,1),(48,2),(49,3),(50,4),(51,5),(52,6)],[(46,0),(47,1),(48,2),(49,3),(50,4),(51,5),(52,6),(53,7)]] [(46,0),(47,1),(48,2),(49,3),(50,4),(51,5),(52,6),(53,7),(7,8)]
    [Is (.agg #[.int .i64 ty,.int .i64 wd,.int .u64 n]),Is (jF q.p),Is (jF q.p),Is (jF q.p),Is (jF q.p),Is (jF q.b),Is (.int .i64 x.s.1.length),Is (.int .i64 W),Is (.int .i64 W)]
    zk jA.trans jA.refl (jA.refl _).drew zk ⟨jS,jS,jS,jS,jS,jS,jS,jS,jS,trivial⟩ ?_ rfl ?_
   rotate_left
   ·intro y w4 hG hF
    simp only[yV,Is,and_true,Nat.reduceAdd] at hF
    have hlast:=hF.2.2.2.2.2.2.2.2
    clear hF
    simp only[jB,Act.put,zq1,zq2,zq3,zq4,zq5,hlast]
    have HB2:=zh (HB1.out.grew hG)
    clear hG hlast
    clear d0 d1 d2 cb0
    have d0:=Env.cell HB2.out HM.out 0 _ rfl
    have d1:=Env.cell HB2.out HM.out 1 _ rfl
    have cb0:=HB2.out.at0
    go_wp2_with fail
    refine (HB2.out.call fun κ1 hb hz=>hb.buf_calls (kT hb.ok.len) (fun o ho _=>vD x.s W ho (Nat.zero_le _) hb.ok.len hb.ok.m1)).mono ?_
    rintro r w5 ⟨rfl,he⟩
    have HB3:=zh he
    clear he d0 d1 cb0
    have d0:=Env.cell HB3.out HM.out 0 _ rfl
    have d2:=Env.cell HB3.out HM.out 2 _ rfl
    have cb0:=HB3.out.at0
    have HL3:Hid ((jG most W x.s).1.length≤1048576):=HB3.out.len
    go_wp2_with fail
    refine (Ft.inline_any ty w5).mono ?_
    rintro r w6 ⟨rfl,hg6⟩
    have HB4:=zh (HB3.out.grew hg6)
    clear hg6 d0 d2 cb0
    have d0:=Env.cell HB4.out HM.out 0 _ rfl
    have d2:=Env.cell HB4.out HM.out 2 _ rfl
    have cb0:=HB4.out.at0
    cases hin:inlineB ty with
    | true=>
     have HFS:Hid (x.finish most=((QQ (kA most [UInt8.ofNat (packF ty (W)).1.toNat,UInt8.ofNat W.toNat] (jW most W (kY n W) (jG most W x.s))),(kA most [UInt8.ofNat (packF ty (W)).1.toNat,UInt8.ofNat W.toNat] (jW most W (kY n W) (jG most W x.s))).2),(({x with s:=(kA most [UInt8.ofNat (packF ty (W)).1.toNat,UInt8.ofNat W.toNat] (jW most W (kY n W) (jG most W x.s)))}:BS).fail (kA most [UInt8.ofNat (packF ty (W)).1.toNat,UInt8.ofNat W.toNat] (jW most W (kY n W) (jG most W x.s))).2).fail 140)):=by have h:=HF2.out;rw[hin] at h;exact h
     have HNN:Hid (0≤(kY n W)∧(kY n W)≤18446744073709551615):=lowF_le HOKV.out.1 HOKV.out.2
     have hwu:IntKind.u8.wrap W=W:=by rcases HW5.out with h | h | h | h | h<;>rw[h]<;>rfl
     have HWB:Hid (W=((UInt8.ofNat W.toNat).toNat:Int)):=by rcases HW5.out with h | h | h | h | h<;>(show W=_;rw[h];rfl)
     have HIN:=zh hin
     clear hin
     go_wp2_with fail
     refine (p7 n W w6 HW5.out HOKV.out.1 HOKV.out.2).mono ?_
     rintro r w9 ⟨rfl,hw9⟩
     obtain rfl:w6=w9:=hw9.symm
     have HBL:=HB4
     go_wp2_with fail
     refine (Ft.pack_any ty (W) _).mono ?_
     rintro r w7 ⟨rfl,hg7⟩
     have HB5:=zh (HBL.out.grew hg7)
     have HPB:Hid ((packF ty (W)).1=((UInt8.ofNat (packF ty (W)).1.toNat).toNat:Int)):=YC ty (W)
     generalize packF ty (W)=pk at *
     clear hg7 d0 d2 cb0
     have cb0:=HB5.out.at0
     go_wp2_with fail
     refine (HB5.out.call fun κ1 hb hz=>hb.buf_calls (x:={x with s:=(jG most W x.s)}) (yA hb.ok.len) (fun o ho _=>yT (jG most W x.s) W (kY n W) ho (Nat.zero_le _) hb.ok.len hb.ok.m1 HNN.out.1 HNN.out.2)).mono ?_
     rintro r w8 ⟨rfl,he⟩
     have HB6:=zh he
     clear he cb0
     go_wp2_with fail
     refine jM [11] (yD B q most flags w κ [(w1.heap.size,Obj.cells #[.int .i64 ty,.int .i64 wd,.int .u64 n] 65 (0,0))] [{x with s:=(jW most W (kY n W) (jG most W x.s))}] ({x with s:=kA most [UInt8.ofNat pk.1.toNat,UInt8.ofNat W.toNat] (jW most W (kY n W) (jG most W x.s))})) (fun _ w w'=>jA w w') ((fun p (_:Nat→Value)=>(fun _ _ _=>True) p)) [[],[0],[0,1],[0,1,2],[0,1,2,3],[],[],[6],[5,6,7],[5,6,7,8],[5,6,7,8,9],[0,1,2,3,4,5,6,7,8,9,10]] [[(101,5),(102,6),(103,7),(104,8),(105,9),(106,10)],[(96,0),(101,5),(102,6),(103,7),(104,8),(105,9),(106,10)],[(96,0),(97,1),(101,5),(102,6),(103,7),(104,8),(105,9),(106,10)],[(96,0),(97,1),(98,2),(101,5),(102,6),(103,7),(104,8),(105,9),(106,10)],[(96,0),(97,1),(98,2),(99,3),(101,5),(102,6),(103,7),(104,8),(105,9),(106,10)],[(96,0),(97,1),(98,2),(99,3),(100,4),(102,6),(103,7)],[(96,0),(97,1),(98,2),(99,3),(100,4),(101,5)],[(96,0),(97,1),(98,2),(99,3),(100,4),(101,5),(102,6)],[(96,0),(97,1),(98,2),(99,3),(100,4),(101,5),(102,6),(103,7)],[(96,0),(97,1),(98,2),(99,3),(100,4),(101,5),(102,6),(103,7),(104,8)],[(96,0),(97,1),(98,2),(99,3),(100,4),(101,5),(102,6),(103,7),(104,8),(105,9)],[(96,0),(97,1),(98,2),(99,3),(100,4),(101,5),(102,6),(103,7),(104,8),(105,9),(106,10)]] [(96,0),(97,1),(98,2),(99,3),(100,4),(101,5),(102,6),(103,7),(104,8),(105,9),(106,10),(107,11)]
      [IsP (jF q.p),IsP (jF q.p),IsP (jF q.p),IsP (jF q.p),IsP (jF q.b),IsP (.int .u8 pk.1),IsP (.int .i64 W),IsP (.int .u8 W),q7 0 (fun v w=>(∃g,v=.slice (some ⟨g,0,none⟩) 2 2)∧kB w v [UInt8.ofNat pk.1.toNat,UInt8.ofNat W.toNat]),IsP (.string ⟨#[UInt8.ofNat pk.1.toNat,UInt8.ofNat W.toNat]⟩),q7 0 (fun v w'=>∃g,v=.slice (some ⟨g,0,none⟩) 1 1∧Env B q most flags w κ ((g,.cells #[.string ⟨#[UInt8.ofNat pk.1.toNat,UInt8.ofNat W.toNat]⟩] 9 (0,0))::[(w1.heap.size,Obj.cells #[.int .i64 ty,.int .i64 wd,.int .u64 n] 65 (0,0))]) ({x with s:=(jW most W (kY n W) (jG most W x.s))}) w'),IsP (.tuple #[])]
      zk (yD.grew) (HB6.out.grew (jA.refl _).drew) zk zk ⟨jC,jC,jC,jC,jC,jC,jC,jC,q9 (q7.st (fun v w w' hg h=>⟨h.1,h.2.grew hg⟩)),jC,q9 (q7.st (fun v w w' hg ⟨g,e,h⟩=>⟨g,e,h.grew hg⟩)),jC,trivial⟩ rfl ?_ ?_
     ·intro y w2 hW hF
      simp only[zB,IsP,Nat.reduceAdd,List.length_cons,List.length_nil] at hF hW
      have h0:=hF.1
      have h1:=hF.2.1
      have h2:=hF.2.2.1
      have h3:=hF.2.2.2.1
      have h4:=hF.2.2.2.2.1
      have h5:=hF.2.2.2.2.2.1
      have h6:=hF.2.2.2.2.2.2.1
      have h7:=hF.2.2.2.2.2.2.2.1
      have h8:=hF.2.2.2.2.2.2.2.2.1
      have h9:=hF.2.2.2.2.2.2.2.2.2.1
      have h10:=hF.2.2.2.2.2.2.2.2.2.2.1
      have h11:=hF.2.2.2.2.2.2.2.2.2.2.2.1
      clear hF
      simp only[jB,Act.put,zq1,zq2,zq3,zq4,zq5]
      simp only[h0,h1,h2,h3,h4,h5,h6,h7,h9,h11]
      clear h0 h1 h2 h3 h4 h5 h6 h7 h9 h11
      have HB7:Hid (Env B q most flags w κ [(w1.heap.size,Obj.cells #[.int .i64 ty,.int .i64 wd,.int .u64 n] 65 (0,0))] ({x with s:=kA most [UInt8.ofNat pk.1.toNat,UInt8.ofNat W.toNat] (jW most W (kY n W) (jG most W x.s))}) w2):=hW
      clear hW h8 h10
      have cb7:=HB7.out.at0
      go_wp2_with fail
      refine HB7.out.bytesE.mono ?_
      rintro r w9 ⟨vd,Kp9,rfl,⟨da,dc,rfl⟩,hsub,he,hfx⟩
      have HB8:=zh he
      have HFX:=zh hfx
      clear he hfx hsub cb7
      obtain⟨D,hD⟩:∃D,QQ ({x with s:=kA most [UInt8.ofNat pk.1.toNat,UInt8.ofNat W.toNat] (jW most W (kY n W) (jG most W x.s))}:BS).s=D:=⟨_,rfl⟩
      rw[hD] at HFX⊢
      have HDD:=zh hD
      clear hD
      go_wp2_with fail
      refine (HB8.out.call fun κ1 hb hz=>kV _ hb).mono ?_
      rintro r w10 ⟨rfl,he⟩
      have HB9:=zh he
      clear he
      go_wp2_with fail
      refine (HB9.out.call fun κ1 hb hz=>kV 140 hb).mono ?_
      rintro r w11 ⟨rfl,he⟩
      have HB10:=zh he
      clear he
      go_wp2
      go_ret2
      exact⟨.slice da D.length dc,by rw[HFS.out];rfl,by rw[HFS.out];show cM _ _ _ _ _ _ _ _ (QQ ({x with s:=kA most [UInt8.ofNat pk.1.toNat,UInt8.ofNat W.toNat] (jW most W (kY n W) (jG most W x.s))}:BS).s) _;rw[HDD.out];exact HFX.out _ _ HB10.out⟩
     refine⟨zqd,zqd,zqd,zqd,?_⟩
     refine⟨?_,?_⟩
     ·refine jH 0 0 ?_
      intro y w2 p hlo hhi hW hD K hK
      have dd:=Env.at0 hW
      exact zqr
     refine⟨zqd,zqd,zqd,?_⟩
     refine⟨?_,?_⟩
     ·refine jH 0 0 ?_
      intro y w2 p hlo hhi hW hD K hK
      obtain rfl:p=0:=by omega
      simp only[jV,zq4,zq5,IsP] at hD
      generalize hAA:jB y _ _=AA at hK⊢
      simp only[jB,Act.put,zq1,zq2,zq3,zq4,zq5,IsP] at hAA
      subst hAA
      simp only[zq4,zq5,IsP] at hK
      simp only[hD] at hK⊢
      clear hD
      refine jL ?_
      go_simp
      exact hK _ _ _ rfl ((jA.refl _).alloc _) (fun _=>⟨⟨_,rfl⟩,eZ w2 pk.1 W _ _ HPB.out HWB.out⟩)
     refine⟨?_,?_⟩
     ·refine jH 0 0 ?_
      intro y w2 p hlo hhi hW hD K hK
      simp only[jV,zq4,zq5,IsP] at hD
      have h8:=hD.2.2.2.1
      generalize hAA:jB y _ _=AA at hK⊢
      simp only[jB,Act.put,zq1,zq2,zq3,zq4,zq5,IsP] at hAA
      subst hAA
      simp only[zq4,zq5,IsP] at hK
      simp only[hD] at hK⊢
      clear hD
      obtain rfl:p=0:=by omega
      obtain⟨⟨g8,e8⟩,hb8⟩:=h8 (Nat.le_refl _)
      rw[e8] at hK hb8⊢
      have hst:(convert 31 9 (.slice (some ⟨g8,0,none⟩) 2 2)).run prog w2=.ok (.string ⟨#[UInt8.ofNat pk.1.toNat,UInt8.ofNat W.toNat]⟩) w2:=yK hb8
      refine jL ?_
      go_simp
      exact hK _ _ _ rfl (jA.refl _) rfl
     refine⟨?_,?_⟩
     ·refine jH 0 0 ?_
      intro y w2 p hlo hhi hW hD K hK
      obtain rfl:p=0:=by omega
      simp only[jV,zq4,zq5,IsP] at hD
      generalize hAA:jB y _ _=AA at hK⊢
      simp only[jB,Act.put,zq1,zq2,zq3,zq4,zq5,IsP] at hAA
      subst hAA
      simp only[zq4,zq5,IsP] at hK
      simp only[hD] at hK⊢
      clear hD
      refine jL ?_
      go_simp
      exact hK _ _ _ rfl ((jA.refl _).alloc _) (fun _=>⟨_,rfl,Env.add hW _⟩)
     refine⟨?_,?_⟩
     ·refine jN 0 rfl ?_
      intro y w2 hW hD K hK
      simp only[jV,zq4,zq5,IsP] at hD
      have h0:=hD.1
      have h1:=hD.2.1
      have h2:=hD.2.2.1
      have h3:=hD.2.2.2.1
      have h4:=hD.2.2.2.2.1
      have h5:=hD.2.2.2.2.2.1
      have h6:=hD.2.2.2.2.2.2.1
      have h7:=hD.2.2.2.2.2.2.2.1
      have h8:=hD.2.2.2.2.2.2.2.2.1
      have h9:=hD.2.2.2.2.2.2.2.2.2.1
      have h10:=hD.2.2.2.2.2.2.2.2.2.2.1
      clear hD
      generalize hAA:jB y _ _=AA at hK⊢
      simp only[jB,Act.put,zq1,zq2,zq3,zq4,zq5,IsP] at hAA
      subst hAA
      simp only[zq4,zq5,IsP] at hK
      simp only[h0,h1,h2,h3,h4,h5,h6,h7,h9] at hK⊢
      clear h0 h1 h2 h3 h4 h5 h6 h7 h9
      obtain⟨g10,e10,hE10⟩:=h10 (Nat.le_refl _)
      rw[e10] at hK⊢
      refine jL ?_
      go_simp
      refine (Env.text1 hE10 (show (2:Nat)+0≤1073741824 by decide)).mono ?_
      rintro r w3 ⟨rfl,he⟩
      have e2:jP [(⟨#[UInt8.ofNat pk.1.toNat,UInt8.ofNat W.toNat]⟩:ByteArray)]=[UInt8.ofNat pk.1.toNat,UInt8.ofNat W.toNat]:=by simp[jP]
      rw[e2] at he
      exact hK _ _ _ rfl trivial he rfl
     trivial
    | false=>
     have HFS:Hid (x.finish most=((QQ (kA most [UInt8.ofNat (packF ty (wd)).1.toNat,UInt8.ofNat W.toNat] (jW most W (IntKind.u64.wrap (((jG most W x.s).1.length:Int) - n)) (jG most W x.s))),(kA most [UInt8.ofNat (packF ty (wd)).1.toNat,UInt8.ofNat W.toNat] (jW most W (IntKind.u64.wrap (((jG most W x.s).1.length:Int) - n)) (jG most W x.s))).2),(({x with s:=(kA most [UInt8.ofNat (packF ty (wd)).1.toNat,UInt8.ofNat W.toNat] (jW most W (IntKind.u64.wrap (((jG most W x.s).1.length:Int) - n)) (jG most W x.s)))}:BS).fail (kA most [UInt8.ofNat (packF ty (wd)).1.toNat,UInt8.ofNat W.toNat] (jW most W (IntKind.u64.wrap (((jG most W x.s).1.length:Int) - n)) (jG most W x.s))).2).fail 140)):=by have h:=HF2.out;rw[hin] at h;exact h
     have HNN:Hid (0≤(IntKind.u64.wrap (((jG most W x.s).1.length:Int) - n))∧(IntKind.u64.wrap (((jG most W x.s).1.length:Int) - n))≤18446744073709551615):=iH _
     have hwu:IntKind.u8.wrap W=W:=by rcases HW5.out with h | h | h | h | h<;>rw[h]<;>rfl
     have HWB:Hid (W=((UInt8.ofNat W.toNat).toNat:Int)):=by rcases HW5.out with h | h | h | h | h<;>(show W=_;rw[h];rfl)
     have HIN:=zh hin
     clear hin
     have hwl:=K7 _ HL3.out
     go_wp2_with fail
     refine k8 jA [[],[0],[0,1],[0,1,2],[0,1,2,3],[0,1,2,3,4],[0,1,2,3,4,5],[],[7],[0,1,2,3,4,5,6,7,8],[0,1,2,3,4,5,6,7,8,9]] [[(78,7),(79,8)],[(71,0),(78,7),(79,8)],[(71,0),(72,1),(78,7),(79,8)],[(71,0),(72,1),(73,2),(78,7),(79,8)],[(71,0),(72,1),(73,2),(74,3),(78,7),(79,8)],[(71,0),(72,1),(73,2),(74,3),(75,4),(78,7),(79,8)],[(71,0),(72,1),(73,2),(74,3),(75,4),(76,5),(78,7),(79,8)],[(71,0),(72,1),(73,2),(74,3),(75,4),(76,5),(77,6)],[(71,0),(72,1),(73,2),(74,3),(75,4),(76,5),(77,6),(78,7)],[(71,0),(72,1),(73,2),(74,3),(75,4),(76,5),(77,6),(78,7),(79,8)],[(71,0),(72,1),(73,2),(74,3),(75,4),(76,5),(77,6),(78,7),(79,8),(80,9)]] [(71,0),(72,1),(73,2),(74,3),(75,4),(76,5),(77,6),(78,7),(79,8),(80,9),(9,10)]
      [Is (jF q.p),Is (jF q.p),Is (jF q.p),Is (jF q.p),Is (jF q.b),Is (.int .i64 (jG most W x.s).1.length),Is (.int .u64 (jG most W x.s).1.length),Is (.pointer (some ⟨w1.heap.size,2,none⟩)),Is (.int .u64 n),Is (.int .u64 (IntKind.u64.wrap (((jG most W x.s).1.length:Int) - n))),Is (.int .u64 (IntKind.u64.wrap (((jG most W x.s).1.length:Int) - n)))]
      zk jA.trans jA.refl (jA.refl _).drew zk ⟨jS,jS,jS,jS,jS,jS,jS,jS,jS,jS,jS,trivial⟩ ?_ rfl ?_
     rotate_left
     ·intro y w4 hG hF
      simp only[yV,Is,and_true,Nat.reduceAdd] at hF
      have hlast:=hF.2.2.2.2.2.2.2.2.2.2
      clear hF
      simp only[jB,Act.put,zq1,zq2,zq3,zq4,zq5,hlast]
      have HBL:=zh (HB4.out.grew hG)
      clear hG hlast d0 d2 cb0
      have d0:=Env.cell HBL.out HM.out 0 _ rfl
      have d2:=Env.cell HBL.out HM.out 2 _ rfl
      have cb0:=HBL.out.at0
      go_wp2_with fail
      refine (Ft.pack_any ty (wd) _).mono ?_
      rintro r w7 ⟨rfl,hg7⟩
      have HB5:=zh (HBL.out.grew hg7)
      have HPB:Hid ((packF ty (wd)).1=((UInt8.ofNat (packF ty (wd)).1.toNat).toNat:Int)):=YC ty (wd)
      generalize packF ty (wd)=pk at *
      clear hg7 d0 d2 cb0
      have cb0:=HB5.out.at0
      go_wp2_with fail
      refine (HB5.out.call fun κ1 hb hz=>hb.buf_calls (x:={x with s:=(jG most W x.s)}) (yA hb.ok.len) (fun o ho _=>yT (jG most W x.s) W (IntKind.u64.wrap (((jG most W x.s).1.length:Int) - n)) ho (Nat.zero_le _) hb.ok.len hb.ok.m1 HNN.out.1 HNN.out.2)).mono ?_
      rintro r w8 ⟨rfl,he⟩
      have HB6:=zh he
      clear he cb0
      go_wp2_with fail
      refine jM [11] (yD B q most flags w κ [(w1.heap.size,Obj.cells #[.int .i64 ty,.int .i64 wd,.int .u64 n] 65 (0,0))] [{x with s:=(jW most W (IntKind.u64.wrap (((jG most W x.s).1.length:Int) - n)) (jG most W x.s))}] ({x with s:=kA most [UInt8.ofNat pk.1.toNat,UInt8.ofNat W.toNat] (jW most W (IntKind.u64.wrap (((jG most W x.s).1.length:Int) - n)) (jG most W x.s))})) (fun _ w w'=>jA w w') ((fun p (_:Nat→Value)=>(fun _ _ _=>True) p)) [[],[0],[0,1],[0,1,2],[0,1,2,3],[],[],[6],[5,6,7],[5,6,7,8],[5,6,7,8,9],[0,1,2,3,4,5,6,7,8,9,10]] [[(101,5),(102,6),(103,7),(104,8),(105,9),(106,10)],[(96,0),(101,5),(102,6),(103,7),(104,8),(105,9),(106,10)],[(96,0),(97,1),(101,5),(102,6),(103,7),(104,8),(105,9),(106,10)],[(96,0),(97,1),(98,2),(101,5),(102,6),(103,7),(104,8),(105,9),(106,10)],[(96,0),(97,1),(98,2),(99,3),(101,5),(102,6),(103,7),(104,8),(105,9),(106,10)],[(96,0),(97,1),(98,2),(99,3),(100,4),(102,6),(103,7)],[(96,0),(97,1),(98,2),(99,3),(100,4),(101,5)],[(96,0),(97,1),(98,2),(99,3),(100,4),(101,5),(102,6)],[(96,0),(97,1),(98,2),(99,3),(100,4),(101,5),(102,6),(103,7)],[(96,0),(97,1),(98,2),(99,3),(100,4),(101,5),(102,6),(103,7),(104,8)],[(96,0),(97,1),(98,2),(99,3),(100,4),(101,5),(102,6),(103,7),(104,8),(105,9)],[(96,0),(97,1),(98,2),(99,3),(100,4),(101,5),(102,6),(103,7),(104,8),(105,9),(106,10)]] [(96,0),(97,1),(98,2),(99,3),(100,4),(101,5),(102,6),(103,7),(104,8),(105,9),(106,10),(107,11)]
       [IsP (jF q.p),IsP (jF q.p),IsP (jF q.p),IsP (jF q.p),IsP (jF q.b),IsP (.int .u8 pk.1),IsP (.int .i64 W),IsP (.int .u8 W),q7 0 (fun v w=>(∃g,v=.slice (some ⟨g,0,none⟩) 2 2)∧kB w v [UInt8.ofNat pk.1.toNat,UInt8.ofNat W.toNat]),IsP (.string ⟨#[UInt8.ofNat pk.1.toNat,UInt8.ofNat W.toNat]⟩),q7 0 (fun v w'=>∃g,v=.slice (some ⟨g,0,none⟩) 1 1∧Env B q most flags w κ ((g,.cells #[.string ⟨#[UInt8.ofNat pk.1.toNat,UInt8.ofNat W.toNat]⟩] 9 (0,0))::[(w1.heap.size,Obj.cells #[.int .i64 ty,.int .i64 wd,.int .u64 n] 65 (0,0))]) ({x with s:=(jW most W (IntKind.u64.wrap (((jG most W x.s).1.length:Int) - n)) (jG most W x.s))}) w'),IsP (.tuple #[])]
       zk (yD.grew) (HB6.out.grew (jA.refl _).drew) zk zk ⟨jC,jC,jC,jC,jC,jC,jC,jC,q9 (q7.st (fun v w w' hg h=>⟨h.1,h.2.grew hg⟩)),jC,q9 (q7.st (fun v w w' hg ⟨g,e,h⟩=>⟨g,e,h.grew hg⟩)),jC,trivial⟩ rfl ?_ ?_
      ·intro y w2 hW hF
       simp only[zB,IsP,Nat.reduceAdd,List.length_cons,List.length_nil] at hF hW
       have h0:=hF.1
       have h1:=hF.2.1
       have h2:=hF.2.2.1
       have h3:=hF.2.2.2.1
       have h4:=hF.2.2.2.2.1
       have h5:=hF.2.2.2.2.2.1
       have h6:=hF.2.2.2.2.2.2.1
       have h7:=hF.2.2.2.2.2.2.2.1
       have h8:=hF.2.2.2.2.2.2.2.2.1
       have h9:=hF.2.2.2.2.2.2.2.2.2.1
       have h10:=hF.2.2.2.2.2.2.2.2.2.2.1
       have h11:=hF.2.2.2.2.2.2.2.2.2.2.2.1
       clear hF
       simp only[jB,Act.put,zq1,zq2,zq3,zq4,zq5]
       simp only[h0,h1,h2,h3,h4,h5,h6,h7,h9,h11]
       clear h0 h1 h2 h3 h4 h5 h6 h7 h9 h11
       have HB7:Hid (Env B q most flags w κ [(w1.heap.size,Obj.cells #[.int .i64 ty,.int .i64 wd,.int .u64 n] 65 (0,0))] ({x with s:=kA most [UInt8.ofNat pk.1.toNat,UInt8.ofNat W.toNat] (jW most W (IntKind.u64.wrap (((jG most W x.s).1.length:Int) - n)) (jG most W x.s))}) w2):=hW
       clear hW h8 h10
       have cb7:=HB7.out.at0
       go_wp2_with fail
       refine HB7.out.bytesE.mono ?_
       rintro r w9 ⟨vd,Kp9,rfl,⟨da,dc,rfl⟩,hsub,he,hfx⟩
       have HB8:=zh he
       have HFX:=zh hfx
       clear he hfx hsub cb7
       obtain⟨D,hD⟩:∃D,QQ ({x with s:=kA most [UInt8.ofNat pk.1.toNat,UInt8.ofNat W.toNat] (jW most W (IntKind.u64.wrap (((jG most W x.s).1.length:Int) - n)) (jG most W x.s))}:BS).s=D:=⟨_,rfl⟩
       rw[hD] at HFX⊢
       have HDD:=zh hD
       clear hD
       go_wp2_with fail
       refine (HB8.out.call fun κ1 hb hz=>kV _ hb).mono ?_
       rintro r w10 ⟨rfl,he⟩
       have HB9:=zh he
       clear he
       go_wp2_with fail
       refine (HB9.out.call fun κ1 hb hz=>kV 140 hb).mono ?_
       rintro r w11 ⟨rfl,he⟩
       have HB10:=zh he
       clear he
       go_wp2
       go_ret2
       exact⟨.slice da D.length dc,by rw[HFS.out];rfl,by rw[HFS.out];show cM _ _ _ _ _ _ _ _ (QQ ({x with s:=kA most [UInt8.ofNat pk.1.toNat,UInt8.ofNat W.toNat] (jW most W (IntKind.u64.wrap (((jG most W x.s).1.length:Int) - n)) (jG most W x.s))}:BS).s) _;rw[HDD.out];exact HFX.out _ _ HB10.out⟩
      refine⟨zqd,zqd,zqd,zqd,?_⟩
      refine⟨?_,?_⟩
      ·refine jH 0 0 ?_
       intro y w2 p hlo hhi hW hD K hK
       have dd:=Env.at0 hW
       exact zqr
      refine⟨zqd,zqd,zqd,?_⟩
      refine⟨?_,?_⟩
      ·refine jH 0 0 ?_
       intro y w2 p hlo hhi hW hD K hK
       obtain rfl:p=0:=by omega
       simp only[jV,zq4,zq5,IsP] at hD
       generalize hAA:jB y _ _=AA at hK⊢
       simp only[jB,Act.put,zq1,zq2,zq3,zq4,zq5,IsP] at hAA
       subst hAA
       simp only[zq4,zq5,IsP] at hK
       simp only[hD] at hK⊢
       clear hD
       refine jL ?_
       go_simp
       exact hK _ _ _ rfl ((jA.refl _).alloc _) (fun _=>⟨⟨_,rfl⟩,eZ w2 pk.1 W _ _ HPB.out HWB.out⟩)
      refine⟨?_,?_⟩
      ·refine jH 0 0 ?_
       intro y w2 p hlo hhi hW hD K hK
       simp only[jV,zq4,zq5,IsP] at hD
       have h8:=hD.2.2.2.1
       generalize hAA:jB y _ _=AA at hK⊢
       simp only[jB,Act.put,zq1,zq2,zq3,zq4,zq5,IsP] at hAA
       subst hAA
       simp only[zq4,zq5,IsP] at hK
       simp only[hD] at hK⊢
       clear hD
       obtain rfl:p=0:=by omega
       obtain⟨⟨g8,e8⟩,hb8⟩:=h8 (Nat.le_refl _)
       rw[e8] at hK hb8⊢
       have hst:(convert 31 9 (.slice (some ⟨g8,0,none⟩) 2 2)).run prog w2=.ok (.string ⟨#[UInt8.ofNat pk.1.toNat,UInt8.ofNat W.toNat]⟩) w2:=yK hb8
       refine jL ?_
       go_simp
       exact hK _ _ _ rfl (jA.refl _) rfl
      refine⟨?_,?_⟩
      ·refine jH 0 0 ?_
       intro y w2 p hlo hhi hW hD K hK
       obtain rfl:p=0:=by omega
       simp only[jV,zq4,zq5,IsP] at hD
       generalize hAA:jB y _ _=AA at hK⊢
       simp only[jB,Act.put,zq1,zq2,zq3,zq4,zq5,IsP] at hAA
       subst hAA
       simp only[zq4,zq5,IsP] at hK
       simp only[hD] at hK⊢
       clear hD
       refine jL ?_
       go_simp
       exact hK _ _ _ rfl ((jA.refl _).alloc _) (fun _=>⟨_,rfl,Env.add hW _⟩)
      refine⟨?_,?_⟩
      ·refine jN 0 rfl ?_
       intro y w2 hW hD K hK
       simp only[jV,zq4,zq5,IsP] at hD
       have h0:=hD.1
       have h1:=hD.2.1
       have h2:=hD.2.2.1
       have h3:=hD.2.2.2.1
       have h4:=hD.2.2.2.2.1
       have h5:=hD.2.2.2.2.2.1
       have h6:=hD.2.2.2.2.2.2.1
       have h7:=hD.2.2.2.2.2.2.2.1
       have h8:=hD.2.2.2.2.2.2.2.2.1
       have h9:=hD.2.2.2.2.2.2.2.2.2.1
       have h10:=hD.2.2.2.2.2.2.2.2.2.2.1
       clear hD
       generalize hAA:jB y _ _=AA at hK⊢
       simp only[jB,Act.put,zq1,zq2,zq3,zq4,zq5,IsP] at hAA
       subst hAA
       simp only[zq4,zq5,IsP] at hK
       simp only[h0,h1,h2,h3,h4,h5,h6,h7,h9] at hK⊢
       clear h0 h1 h2 h3 h4 h5 h6 h7 h9
       obtain⟨g10,e10,hE10⟩:=h10 (Nat.le_refl _)
       rw[e10] at hK⊢
       refine jL ?_
       go_simp
       refine (Env.text1 hE10 (show (2:Nat)+0≤1073741824 by decide)).mono ?_
       rintro r w3 ⟨rfl,he⟩
       have e2:jP [(⟨#[UInt8.ofNat pk.1.toNat,UInt8.ofNat W.toNat]⟩:ByteArray)]=[UInt8.ofNat pk.1.toNat,UInt8.ofNat W.toNat]:=by simp[jP]
       rw[e2] at he
       exact hK _ _ _ rfl trivial he rfl
      trivial
     refine⟨?_,?_⟩
     ·intro y w4 hG hD K hK
      simp only[jB,Act.put,zq1,zq2,zq3,zq4,zq5,Is] at hK⊢
      refine jL ?_
      go_simp
      exact hK _ _ _ rfl (jA.refl _) rfl
     refine⟨?_,?_⟩
     ·intro y w4 hG hD K hK
      simp only[zD,zq4,zq5,Is,and_true] at hD
      have h0:=hD
      clear hD
      simp only[jB,Act.put,zq1,zq2,zq3,zq4,zq5,Is] at hK⊢
      simp only[h0] at hK⊢
      clear h0
      refine jL ?_
      go_simp
      exact hK _ _ _ rfl (jA.refl _) rfl
     refine⟨?_,?_⟩
     ·intro y w4 hG hD K hK
      simp only[zD,zq4,zq5,Is,and_true] at hD
      have h0:=hD.1
      have h1:=hD.2
      clear hD
      simp only[jB,Act.put,zq1,zq2,zq3,zq4,zq5,Is] at hK⊢
      simp only[h0,h1] at hK⊢
      clear h0 h1
      refine jL ?_
      go_simp
      exact hK _ _ _ rfl (jA.refl _) rfl
     refine⟨?_,?_⟩
     ·intro y w4 hG hD K hK
      simp only[zD,zq4,zq5,Is,and_true] at hD
      have h0:=hD.1
      have h1:=hD.2.1
      have h2:=hD.2.2
      clear hD
      simp only[jB,Act.put,zq1,zq2,zq3,zq4,zq5,Is] at hK⊢
      simp only[h0,h1,h2] at hK⊢
      clear h0 h1 h2
      refine jL ?_
      go_simp
      exact hK _ _ _ rfl (jA.refl _) rfl
     refine⟨?_,?_⟩
     ·intro y w4 hG hD K hK
      simp only[zD,zq4,zq5,Is,and_true] at hD
      have h0:=hD.1
      have h1:=hD.2.1
      have h2:=hD.2.2.1
      have h3:=hD.2.2.2
      clear hD
      have dcb0:=hG.cell cb0
      simp only[jB,Act.put,zq1,zq2,zq3,zq4,zq5,Is] at hK⊢
      simp only[h0,h1,h2,h3] at hK⊢
      clear h0 h1 h2 h3
      refine jL ?_
      go_simp
      exact hK _ _ _ rfl (jA.refl _) rfl
     refine⟨?_,?_⟩
     ·intro y w4 hG hD K hK
      simp only[zD,zq4,zq5,Is,and_true] at hD
      have h0:=hD.1
      have h1:=hD.2.1
      have h2:=hD.2.2.1
      have h3:=hD.2.2.2.1
      have h4:=hD.2.2.2.2
      clear hD
      simp only[jB,Act.put,zq1,zq2,zq3,zq4,zq5,Is] at hK⊢
      simp only[h0,h1,h2,h3,h4] at hK⊢
      clear h0 h1 h2 h3 h4
      refine jL ?_
      go_simp
      refine (HB4.out.grew hG).buflen.mono ?_
      rintro r w9 ⟨rfl,hw9⟩
      exact hK _ _ _ rfl (by rw[hw9];exact jA.refl _) rfl
     refine⟨?_,?_⟩
     ·intro y w4 hG hD K hK
      simp only[zD,zq4,zq5,Is,and_true] at hD
      have h0:=hD.1
      have h1:=hD.2.1
      have h2:=hD.2.2.1
      have h3:=hD.2.2.2.1
      have h4:=hD.2.2.2.2.1
      have h5:=hD.2.2.2.2.2
      clear hD
      simp only[jB,Act.put,zq1,zq2,zq3,zq4,zq5,Is] at hK⊢
      simp only[h0,h1,h2,h3,h4,h5] at hK⊢
      clear h0 h1 h2 h3 h4 h5
      refine jL ?_
      go_simp
      exact hK _ _ _ rfl (jA.refl _) rfl
     refine⟨?_,?_⟩
     ·intro y w4 hG hD K hK
      simp only[jB,Act.put,zq1,zq2,zq3,zq4,zq5,Is] at hK⊢
      refine jL ?_
      go_simp
      exact hK _ _ _ rfl (jA.refl _) rfl
     refine⟨?_,?_⟩
     ·intro y w4 hG hD K hK
      simp only[zD,zq4,zq5,Is,and_true] at hD
      have h7:=hD
      clear hD
      have dd2:=hG.cell d2
      simp only[jB,Act.put,zq1,zq2,zq3,zq4,zq5,Is] at hK⊢
      simp only[h7] at hK⊢
      clear h7
      refine jL ?_
      go_simp
      exact hK _ _ _ rfl (jA.refl _) rfl
     refine⟨?_,?_⟩
     ·intro y w4 hG hD K hK
      simp only[zD,zq4,zq5,Is,and_true] at hD
      have h0:=hD.1
      have h1:=hD.2.1
      have h2:=hD.2.2.1
      have h3:=hD.2.2.2.1
      have h4:=hD.2.2.2.2.1
      have h5:=hD.2.2.2.2.2.1
      have h6:=hD.2.2.2.2.2.2.1
      have h7:=hD.2.2.2.2.2.2.2.1
      have h8:=hD.2.2.2.2.2.2.2.2
      clear hD
      simp only[jB,Act.put,zq1,zq2,zq3,zq4,zq5,Is] at hK⊢
      simp only[h0,h1,h2,h3,h4,h5,h6,h7,h8] at hK⊢
      clear h0 h1 h2 h3 h4 h5 h6 h7 h8
      refine jL ?_
      go_simp
      exact hK _ _ _ rfl (jA.refl _) rfl
     refine⟨?_,?_⟩
     ·intro y w4 hG hD K hK
      simp only[zD,zq4,zq5,Is,and_true] at hD
      have h0:=hD.1
      have h1:=hD.2.1
      have h2:=hD.2.2.1
      have h3:=hD.2.2.2.1
      have h4:=hD.2.2.2.2.1
      have h5:=hD.2.2.2.2.2.1
      have h6:=hD.2.2.2.2.2.2.1
      have h7:=hD.2.2.2.2.2.2.2.1
      have h8:=hD.2.2.2.2.2.2.2.2.1
      have h9:=hD.2.2.2.2.2.2.2.2.2
      clear hD
      simp only[jB,Act.put,zq1,zq2,zq3,zq4,zq5,Is] at hK⊢
      simp only[h0,h1,h2,h3,h4,h5,h6,h7,h8,h9] at hK⊢
      clear h0 h1 h2 h3 h4 h5 h6 h7 h8 h9
      refine jL ?_
      go_simp
      exact hK _ _ _ rfl (jA.refl _) rfl
     trivial
   refine⟨?_,?_⟩
   ·intro y w4 hG hD K hK
    have dd0:=hG.cell d0
    have dd1:=hG.cell d1
    have dd2:=hG.cell d2
    simp only[jB,Act.put,zq1,zq2,zq3,zq4,zq5,Is] at hK⊢
    refine jL ?_
    go_simp
    exact hK _ _ _ rfl (jA.refl _) rfl
   refine⟨?_,?_⟩
   ·intro y w4 hG hD K hK
    simp only[jB,Act.put,zq1,zq2,zq3,zq4,zq5,Is] at hK⊢
    refine jL ?_
    go_simp
    exact hK _ _ _ rfl (jA.refl _) rfl
   refine⟨?_,?_⟩
   ·intro y w4 hG hD K hK
    simp only[zD,zq4,zq5,Is,and_true] at hD
    have h1:=hD
    clear hD
    simp only[jB,Act.put,zq1,zq2,zq3,zq4,zq5,Is] at hK⊢
    simp only[h1] at hK⊢
    clear h1
    refine jL ?_
    go_simp
    exact hK _ _ _ rfl (jA.refl _) rfl
   refine⟨?_,?_⟩
   ·intro y w4 hG hD K hK
    simp only[zD,zq4,zq5,Is,and_true] at hD
    have h1:=hD.1
    have h2:=hD.2
    clear hD
    simp only[jB,Act.put,zq1,zq2,zq3,zq4,zq5,Is] at hK⊢
    simp only[h1,h2] at hK⊢
    clear h1 h2
    refine jL ?_
    go_simp
    exact hK _ _ _ rfl (jA.refl _) rfl
   refine⟨?_,?_⟩
   ·intro y w4 hG hD K hK
    simp only[zD,zq4,zq5,Is,and_true] at hD
    have h1:=hD.1
    have h2:=hD.2.1
    have h3:=hD.2.2
    clear hD
    simp only[jB,Act.put,zq1,zq2,zq3,zq4,zq5,Is] at hK⊢
    simp only[h1,h2,h3] at hK⊢
    clear h1 h2 h3
    refine jL ?_
    go_simp
    exact hK _ _ _ rfl (jA.refl _) rfl
   refine⟨?_,?_⟩
   ·intro y w4 hG hD K hK
    simp only[zD,zq4,zq5,Is,and_true] at hD
    have h1:=hD.1
    have h2:=hD.2.1
    have h3:=hD.2.2.1
    have h4:=hD.2.2.2
    clear hD
    have dcb0:=hG.cell cb0
    simp only[jB,Act.put,zq1,zq2,zq3,zq4,zq5,Is] at hK⊢
    simp only[h1,h2,h3,h4] at hK⊢
    clear h1 h2 h3 h4
    refine jL ?_
    go_simp
    exact hK _ _ _ rfl (jA.refl _) rfl
   refine⟨?_,?_⟩
   ·intro y w4 hG hD K hK
    simp only[zD,zq4,zq5,Is,and_true] at hD
    have h1:=hD.1
    have h2:=hD.2.1
    have h3:=hD.2.2.1
    have h4:=hD.2.2.2.1
    have h5:=hD.2.2.2.2
    clear hD
    simp only[jB,Act.put,zq1,zq2,zq3,zq4,zq5,Is] at hK⊢
    simp only[h1,h2,h3,h4,h5] at hK⊢
    clear h1 h2 h3 h4 h5
    refine jL ?_
    go_simp
    refine (HB1.out.grew hG).buflen.mono ?_
    rintro r w9 ⟨rfl,hw9⟩
    exact hK _ _ _ rfl (by rw[hw9];exact jA.refl _) rfl
   refine⟨?_,?_⟩
   ·intro y w4 hG hD K hK
    simp only[zD,zq4,zq5,Is,and_true] at hD
    have h0:=hD.1
    have h1:=hD.2.1
    have h2:=hD.2.2.1
    have h3:=hD.2.2.2.1
    have h4:=hD.2.2.2.2.1
    have h5:=hD.2.2.2.2.2.1
    have h6:=hD.2.2.2.2.2.2
    clear hD
    simp only[jB,Act.put,zq1,zq2,zq3,zq4,zq5,Is] at hK⊢
    simp only[h0,h1,h2,h3,h4,h5,h6] at hK⊢
    clear h0 h1 h2 h3 h4 h5 h6
    refine jL ?_
    go_simp
    refine (HON.out w4).mono ?_
    rintro r w9 ⟨rfl,hg9⟩
    exact hK _ _ _ rfl hg9 rfl
   refine⟨?_,?_⟩
   ·intro y w4 hG hD K hK
    simp only[zD,zq4,zq5,Is,and_true] at hD
    have h0:=hD.1
    have h1:=hD.2.1
    have h2:=hD.2.2.1
    have h3:=hD.2.2.2.1
    have h4:=hD.2.2.2.2.1
    have h5:=hD.2.2.2.2.2.1
    have h6:=hD.2.2.2.2.2.2.1
    have h7:=hD.2.2.2.2.2.2.2
    clear hD
    simp only[jB,Act.put,zq1,zq2,zq3,zq4,zq5,Is] at hK⊢
    simp only[h0,h1,h2,h3,h4,h5,h6,h7] at hK⊢
    clear h0 h1 h2 h3 h4 h5 h6 h7
    refine jL ?_
    go_simp
    exact hK _ _ _ rfl (jA.refl _) rfl
   trivial
end Go.Proofs.YtjnpcddbgfmpcaaGreatDoor
namespace Go.Proofs.YtjnpcddbgfmpcaaGreatDoor
open Go.Proofs.Tryz
open Go Go.ChangeShapes Go.WideShapes Go.ChangeAt Go.RowKit Go.Joins Go.Deep
open Go.Proofs.YtjnpcddbgfmpcaaGreatDoor.Ft (V3 vV okV ValsAt inlineB legalB packF codeF typedF allF)
theorem BS.new_ok (most:Int):BS.new.Ok (y8 most):=by
 have h0:0≤y8 most∧y8 most≤1048576:=by unfold y8;omega
 exact⟨h0.1,h0.2,h0.1,by decide,fun v h=>absurd h List.not_mem_nil,by decide,by decide,by decide,by decide,fun v h=>absurd h List.not_mem_nil,fun v h=>absurd h List.not_mem_nil,fun v h=>absurd h List.not_mem_nil⟩
def gH (q:kN) (k:Nat):Nat:=if k=q.b then 2 else if k=q.s then 3 else if k=q.k then 4 else if k=q.t then 5 else if k=q.l then 6 else if k=q.m then 7 else if k=q.p then 1 else 0
theorem lP (flags most:Int) (w:World):Calls prog 9 #[.int .i64 flags,.int .i64 most] w fun r w'=>∃q κ,r=.returned (jF q.p)∧Bd w.heap.size q (y8 most) flags κ BS.new w'∧jA w w':=by
 have hmm:=fun w=>run_makeMap_plain (P:=prog) w 56
 go_enter func9,ntmps9
 go_wp2_with fail
 refine (new_any most w).mono ?_
 rintro r w1 ⟨rfl,hb,hg1,hs1⟩
 have H1:=zh (And.intro hb (And.intro hg1 hs1))
 clear hb hg1 hs1
 go_wp2_with fail
 refine (sB w1).mono ?_
 rintro r w2 ⟨rfl,hb,hg1,hs1⟩
 have H2:=zh (And.intro hb (And.intro hg1 hs1))
 clear hb hg1 hs1
 go_wp2_with fail
 refine (bZ w2).mono ?_
 rintro r w3 ⟨rfl,hb,hg1,hs1⟩
 have H3:=zh (And.intro hb (And.intro hg1 hs1))
 clear hb hg1 hs1
 go_wp2_with fail
 refine (bZ w3).mono ?_
 rintro r w4 ⟨rfl,hb,hg1,hs1⟩
 have H4:=zh (And.intro hb (And.intro hg1 hs1))
 clear hb hg1 hs1
 go_wp2_with fail
 refine (bZ w4).mono ?_
 rintro r w5 ⟨rfl,hb,hg1,hs1⟩
 have H5:=zh (And.intro hb (And.intro hg1 hs1))
 clear hb hg1 hs1
 go_wp2
 go_ret
 obtain⟨b1,g1,s1⟩:=H1.out
 obtain⟨b2,g2,s2⟩:=H2.out
 obtain⟨b3,g3,s3⟩:=H3.out
 obtain⟨b4,g4,s4⟩:=H4.out
 obtain⟨b5,g5,s5⟩:=H5.out
 have gm:=(jA.refl w5).alloc (.map #[] 0)
 have hm:=heap_alloc_new w5 (.map #[] 0)
 refine⟨⟨w5.heap.size+1,w.heap.size,w1.heap.size,w2.heap.size,w3.heap.size,w4.heap.size,w5.heap.size⟩,gH ⟨w5.heap.size+1,w.heap.size,w1.heap.size,w2.heap.size,w3.heap.size,w4.heap.size,w5.heap.size⟩,by simp,?_,(g1.trans (g2.trans (g3.trans (g4.trans (g5.trans gm))))).alloc _⟩
 have hz:=heap_alloc_new (w5.alloc (.map #[] 0)) (Y9 ⟨w5.heap.size+1,w.heap.size,w1.heap.size,w2.heap.size,w3.heap.size,w4.heap.size,w5.heap.size⟩ flags (.slice none 0 0) 0)
 have ga:=(jA.refl (w5.alloc (.map #[] 0))).alloc (Y9 ⟨w5.heap.size+1,w.heap.size,w1.heap.size,w2.heap.size,w3.heap.size,w4.heap.size,w5.heap.size⟩ flags (.slice none 0 0) 0)
 have hsz:(w5.alloc (.map #[] 0)).heap.size=w5.heap.size+1:=by simp
 rw[hsz] at hz
 have G5:=gm.trans ga
 have G4:=g5.trans G5
 have G3:=g4.trans G4
 have G2:=g3.trans G3
 have G1:=g2.trans G2
 have hm2:=ga.heap hm
 have htot:((w5.alloc (.map #[] 0)).alloc (Y9 ⟨w5.heap.size+1,w.heap.size,w1.heap.size,w2.heap.size,w3.heap.size,w4.heap.size,w5.heap.size⟩ flags (.slice none 0 0) 0)).heap.size=w5.heap.size+2:=by simp
 refine⟨fun k hk=>?_,BS.new_ok most,⟨?_,_,hz,World.ownsRow_nil _ _ _ _,fun g e=>by cases e⟩,⟨?_,none,?_,fun k e=>by cases e⟩,(b2.grew G2).mono (fun k _ hk=>?_),zV.mono (b3.grew G3) (fun k _ hk=>?_),zV.mono (b4.grew G4) (fun k _ hk=>?_),zV.mono (b5.grew G5) (fun k _ hk=>?_),⟨?_,hm2⟩⟩
 ·rw[htot]
  unfold gH at hk
  dsimp only at hk
  repeat' split at hk
  all_goals first | omega | exact absurd rfl hk
 ·unfold gH;dsimp only;repeat' split<;>try omega
  all_goals first | omega | rfl
 ·unfold gH;dsimp only;rw[if_pos rfl]
 ·obtain⟨h0,v,h1,h2,h3,h4⟩:=b1
  exact⟨Nat.zero_le _,v,G1.heap h1,Moved.owns (Moved.of_grew (S:=fun _=>False) G1) (rL h2 (Nat.zero_le _)) (fun _ _ h=>h),h3,h4⟩
 ·subst hk;unfold gH;dsimp only;rw[if_neg (by omega),if_pos rfl]
 ·subst hk;unfold gH;dsimp only;rw[if_neg (by omega),if_neg (by omega),if_pos rfl]
 ·subst hk;unfold gH;dsimp only;rw[if_neg (by omega),if_neg (by omega),if_neg (by omega),if_pos rfl]
 ·subst hk;unfold gH;dsimp only;rw[if_neg (by omega),if_neg (by omega),if_neg (by omega),if_neg (by omega),if_pos rfl]
 ·unfold gH;dsimp only;rw[if_neg (by omega),if_neg (by omega),if_neg (by omega),if_neg (by omega),if_neg (by omega),if_pos rfl]
theorem p9 (b:Nat) (hb:b≤1) (pa:Option Addr) (n pc:Nat) (p:List Nat) (hn:p.length=n) (la:Option Addr) (lc:Nat) (L:List V3) (np nl:Nat) (w:World) (hp:v6 w (.slice pa n pc) (p.map fun (x:Nat)=>(x:Int))) (hL:ValsAt w (.slice la L.length lc) L) (h1:w.cell? ⟨np,0,none⟩=some (.slice pa n pc)) (h2:w.cell? ⟨nl,0,none⟩=some (.slice la L.length lc)) (hlt:∀j∈p,2*j+1 < L.length) (hl:L.length≤65536) (hpl:p.length≤65536) :
 Calls prog 37 #[.int .i64 b,.pointer (some ⟨np,0,none⟩),.pointer (some ⟨nl,0,none⟩)] w fun r w'=>∃v',r=.returned v'∧jO w' w.heap.size v' (p.map fun j=>L.getD (2*j+b) (0,0,0))∧jA w w':=by
 subst hn
 obtain⟨_,_,e,z1,z2,z3,hcp⟩:=hp
 have hcp:∀(i:Nat) (x:Nat),p[i]? = some x→∃bl off,pa=some ⟨bl,off,none⟩∧w.cell? ⟨bl,off+i,none⟩=some (.int .i64 (x:Int)):=fun i x hx=>by
  obtain⟨_,bl,off,e2,h⟩:=hcp i (x:Int) (by rw[List.getElem?_map,hx];rfl)
  injection e with e0 _ _
  exact⟨bl,off,e0.trans e2,h⟩
 clear e z1 z2 z3
 obtain⟨_,_,e,hcl⟩:=hL
 have hcl:∀(i:Nat) (x:V3),L[i]? = some x→∃bl off,la=some ⟨bl,off,none⟩∧w.cell? ⟨bl,off+i*3,none⟩=some (.int .i64 x.1)∧w.cell? ⟨bl,off+i*3+1,none⟩=some (.int .i64 x.2.1)∧w.cell? ⟨bl,off+i*3+2,none⟩=some (.int .u64 x.2.2):=fun i x hx=>by
  obtain⟨bl,off,e2,h⟩:=hcl i x hx
  injection e with e0 _ _
  exact⟨bl,off,e0.trans e2,h⟩
 clear e
 have HCP:=zh hcp
 have HCL:=zh hcl
 have HLT:=zh hlt
 have HH:=zh (And.intro h1 h2)
 have HL:=zh hl
 have HPL:=zh hpl
 have hll:p.length≤9223372036854775807:=by omega
 have hlL:L.length≤9223372036854775807:=by omega
 clear hcp hcl hlt h2
 go_enter func37,ntmps37
 go_wp2_with fail
 clear h1
 go_loopw [4,9] (fun v i wr=>∃k:Nat,k≤p.length∧i=.int .i64 k∧Hid (jO wr w.heap.size v ((p.take k).map fun j=>L.getD (2*j+b) (0,0,0))∧jA w wr)) (fun _ i _=>p.length - (intOf i).toNat)
 case atStart=>exact⟨0,Nat.zero_le _,rfl,by
  show _∧_
  exact⟨World.ownsRow_nil _ _ _ _,jA.refl _⟩⟩
 case round=>
  obtain⟨k,hk,rfl,HW⟩:=hrel
  by_cases hlt:k < p.length
  ·obtain⟨x,hx⟩:∃x,p[k]? = some x:=⟨_,List.getElem?_eq_getElem hlt⟩
   have HXL:=zh (HLT.out x (List.mem_of_getElem? hx))
   obtain⟨u,hu⟩:∃u,L[2*x+b]? = some u:=⟨_,List.getElem?_eq_getElem (by have:=HXL.out;omega)⟩
   have HSN:Hid (((p.take (k+1)).map fun j=>L.getD (2*j+b) (0,0,0))=((p.take k).map fun j=>L.getD (2*j+b) (0,0,0))++[u]):=by show _=_;rw[List.take_add_one,hx];simp[List.getD_eq_getElem?_getD,hu]
   obtain⟨bp,op,rfl,c0⟩:=HCP.out k x hx
   have d0:=HW.out.2.cell c0
   obtain⟨bl,ol,rfl,l0,l1,l2⟩:=HCL.out _ u hu
   obtain⟨u0,u1,u2⟩:=u
   have e0:=HW.out.2.cell l0
   have e1:=HW.out.2.cell l1
   have e2:=HW.out.2.cell l2
   have f2:=HW.out.2.cell HH.out.2
   have HO:=zh (show jO wr w.heap.size u4 ((p.take k).map fun j=>L.getD (2*j+b) (0,0,0)) from HW.out.1)
   have HG:=zh HW.out.2
   obtain⟨va,vc,rfl,hvc⟩:=kD HO.out
   have HLN:Hid (((p.take k).map fun j=>L.getD (2*j+b) (0,0,0)).length < p.length):=by show _ < _;rw[List.length_map,List.length_take];omega
   generalize ((p.take k).map fun j=>L.getD (2*j+b) (0,0,0))=M at *
   have hxw:IntKind.i64.wrap (2*(x:Int))=2*(x:Int):=by have:=HXL.out;rw[IntKind.wrap_i64];omega
   have hxb:IntKind.i64.wrap (2*(x:Int)+(b:Int))=((2*x+b:Nat):Int):=by have:=HXL.out;rw[IntKind.wrap_i64];omega
   have hxl:((2*x+b:Nat):Int) < L.length:=by have:=HXL.out;omega
   generalize hY:2*x+b=y at *
   clear hvc HW hx hu c0 l0 l1 l2
   have HO2:Hid (∀o,jO (wr.alloc o) w.heap.size (.slice va M.length vc) M):=fun o=>yQ HO.out ((jA.refl _).alloc o)
   go_wp2_with (at_builtin;refine zT rfl _ _ rfl w.heap.size (.slice va M.length vc) M rfl (HO2.out _) _ [(u0,u1,u2)] rfl (vQ _ _) (fun c h=>by cases h) (by have:=HLN.out;have:=HPL.out;simp;omega) (Nat.le_trans HG.out.size (by simp)) ?_;intro v' w3 j3 hgr hqq;obtain⟨va2,vc2,rfl,_⟩:=kD j3;have HG3:=zh (And.intro j3 (ZU (HO2.out _) (HG.out.alloc _) hgr));clear j3 hgr hqq)
   go_roundw
   case rel=>
    refine⟨k+1,by omega,by go_num,?_⟩
    show _∧_
    have hh:=HG3.out
    rw[List.length_append] at hh
    rw[HSN.out]
    exact hh
   case measure=>simp[intOf];omega
  ·have ek:k=p.length:=by omega
   subst ek
   have hw:=HW.out
   rw[List.take_length] at hw
   obtain⟨va,vc,rfl,hvc⟩:=kD hw.1
   have HO:=zh hw
   clear hw HW hvc
   obtain⟨M,hM⟩:∃M,(p.map fun j=>L.getD (2*j+b) (0,0,0))=M:=⟨_,rfl⟩
   have hML:M.length=p.length:=by rw[← hM,List.length_map]
   have HO:Hid (jO wr w.heap.size (.slice va M.length vc) M∧jA w wr):=by have h:=HO.out;rw[hM] at h;exact h
   rw[hM]
   have HM:=zh hM
   clear hM
   rw[hML]
   go_wp2
   go_ret
   exact⟨.slice va p.length vc,rfl,by rw[HM.out,← hML];exact HO.out.1,HO.out.2⟩
theorem lQ {B:Nat} {q:kN} {most flags:Int} {κ:Nat→Nat} {x:BS} {w:World} (n1 n2:Nat) (start:Int) (hg:x.Good) (hx:x.e=0) (he:Env B q most flags w κ [(n2,Obj.cells #[.int .i64 start] 3 (0,0)),(n1,Obj.cells #[jF q.p] 26 (0,0))] x w):Calls prog 31 #[.pointer (some ⟨n1,0,none⟩),.pointer (some ⟨n2,0,none⟩)] w fun r w'=>r=.returned (.tuple #[])∧j1 B q most flags κ (x.endMap most (onF flags 4) start) w w':=by
 have HE0:=zh he
 have HM2:Hid ((n2,Obj.cells #[.int .i64 start] 3 (0,0))∈([(n2,Obj.cells #[.int .i64 start] 3 (0,0)),(n1,Obj.cells #[jF q.p] 26 (0,0))]:List (Nat × Obj))):=List.mem_cons_self
 have HM1:Hid ((n1,Obj.cells #[jF q.p] 26 (0,0))∈([(n2,Obj.cells #[.int .i64 start] 3 (0,0)),(n1,Obj.cells #[jF q.p] 26 (0,0))]:List (Nat × Obj))):=List.mem_cons_of_mem _ (List.mem_cons_self)
 have cb:=Env.cell he HM1.out 0 _ rfl
 have cs:=Env.cell he HM2.out 0 _ rfl
 have HG:=zh hg
 have HX:=zh hx
 have HBAD:=zh (fun h=>nF (most:=most) (start:=start) (sh:=onF flags 4) hx h)
 have HGOOD:=zh (fun h=>lO (most:=most) (start:=start) (sh:=onF flags 4) hx h)
 have HLL:Hid ((qS start x).length≤65536):=by
  show _≤_
  unfold qS
  split
  ·rw[List.length_drop];have:=he.ok.stk;omega
  ·exact Nat.zero_le _
 have HOK:Hid (∀v∈qS start x,okV v):=by
  intro v hv
  unfold qS at hv
  split at hv
  ·exact he.ok.okS v (List.mem_of_mem_drop hv)
  ·cases hv
 have HZ:Hid (∀z∈(ZF start x).names,z.2.size≤1048576):=fun z hz=>by rw[Z3] at hz;exact Nat.le_trans (hg.nz hx z hz) he.len
 have HMY:Hid (gE start x=(vJ (qS start x) (ZF start x)).fail (qJ (zF (ZF start x).names (qS start x))).2):=by show _=_;rw[Z3];rfl
 obtain⟨y,hy⟩:∃y,ZF start x=y:=⟨_,rfl⟩
 obtain⟨L,hL⟩:∃L,qS start x=L:=⟨_,rfl⟩
 have HFR:Hid (∀κ1,Bd B q most flags κ1 x w→Calls prog 32 #[jF q.p,.int .i64 start] w fun r w'=>∃v,r=.returned v∧YJ B q most flags w κ1 y v L w'):=fun κ1 hb=>by have h:=pX start hb;rw[hy,hL] at h;exact h
 rw[hy,hL] at HMY
 rw[hy] at HZ
 rw[hL] at HLL HOK HGOOD
 have HYY:=zh hy
 have HLE:=zh hL
 clear he hg hx hy hL
 go_enter func31,ntmps31
 go_wp2_with fail
 refine (HE0.out.callV fun κ1 hb hz=>HFR.out κ1 hb).mono ?_
 rintro r w1 ⟨v,Kp1,rfl,ho,hsub,he1,j3⟩
 obtain⟨la,lc,rfl,kQ⟩:=kD ho
 have HE1:=zh he1
 have HOW:=zh j3
 have HSUB:=zh hsub
 have HNIL:=zh kQ
 clear ho he1 j3 hsub cb cs HFR kQ
 have HB1:=zh (HE1.out.add (.cells #[.slice la L.length lc] 57))
 have cb1:=Env.cell HB1.out (List.mem_cons_of_mem _ (HSUB.out _ HM1.out)) 0 _ rfl
 have cl1:=Env.cell HB1.out List.mem_cons_self 0 _ rfl
 go_wp2_with fail
 generalize (w1.alloc (.cells #[.slice la L.length lc] 57))=w2 at *
 have HOV:=zh (HOW.out w2 y (HB1.out.mono (fun z hz=>List.mem_cons_of_mem _ hz)))
 refine (HB1.out.namedE HOV.out.vals HLL.out HZ.out).mono ?_
 rintro r w3 ⟨vn,Kp2,rfl,hn,hsub,he,hns⟩
 obtain⟨na,nc,rfl⟩:=hn.form
 have HE2:=zh he
 have HNS:=zh hns
 have HSUB2:=zh hsub
 have HN2:=zh hn
 clear he hns hsub hn cb1 cl1
 have HNL:Hid ((zF y.names L).length≤65536):=Nat.le_trans (dB _ _) HLL.out
 have HNZ:Hid (∀s∈zF y.names L,s.size≤1048576):=cL HZ.out L
 have HOD:Hid (∀w2 Kp z,kO w2 (.slice na (zF y.names L).length nc) (zF y.names L)→Env B q most flags w κ Kp z w2→Calls prog 34 #[.slice na (zF y.names L).length nc] w2 fun r w'=>∃v' Kp',r=.returned (.tuple #[v',.int .i64 (qJ (zF y.names L)).2])∧v6 w' v' (qJ (zF y.names L)).1∧(∀z∈Kp,z∈Kp')∧Env B q most flags w κ Kp' z w'∧∀w2 y2,Env B q most flags w κ Kp' y2 w2→v6 w2 v' (qJ (zF y.names L)).1):=fun w2 Kp z h1 h2=>h2.orderE h1 HNL.out
 have HND:Hid (yC L=true→zF y.names L=(kE x.names L).map (·.1)):=fun hk=>by unfold zF;rw[if_pos hk,← HYY.out,Z3]
 have HON:Hid (yC L=true→((kE x.names L).map (·.1)).Nodup→(qJ (zF y.names L)).1=(yH x.names L).map (fun (n:Nat)=>(n:Int))):=fun hk hd=>by rw[HND.out hk,nB hd]
 generalize zF y.names L=N at *
 generalize qJ N=od at *
 obtain⟨P,oe⟩:=od
 obtain⟨np,hnp⟩:∃n,P.length=n:=⟨_,rfl⟩
 have HNP:=zh hnp
 clear hnp
 go_wp2_with fail
 refine (HOD.out _ _ _ HN2.out HE2.out).mono ?_
 rintro r w4 ⟨vp,Kp3,rfl,hr,hsub,he,hrs⟩
 obtain⟨pa,pc,rfl⟩:∃a c,vp=.slice a np c:=by obtain⟨a,c,e,_⟩:=hr;exact⟨a,c,by rw[e,HNP.out]⟩
 have HE3:=zh he
 have HRS:=zh hrs
 have HSUB3:=zh hsub
 clear he hrs hsub hr HOD HN2
 have HB3:=zh (HE3.out.add (.cells #[.slice pa np pc] 69))
 have HP1:Hid ((n1,Obj.cells #[jF q.p] 26 (0,0))∈(((w4.heap.size,Obj.cells #[.slice pa np pc] 69 (0,0))::Kp3):List (Nat × Obj))):=List.mem_cons_of_mem _ (HSUB3.out _ (HSUB2.out _ (List.mem_cons_of_mem _ (HSUB.out _ HM1.out))))
 have HPL:Hid ((w1.heap.size,Obj.cells #[.slice la L.length lc] 57 (0,0))∈(((w4.heap.size,Obj.cells #[.slice pa np pc] 69 (0,0))::Kp3):List (Nat × Obj))):=List.mem_cons_of_mem _ (HSUB3.out _ (HSUB2.out _ List.mem_cons_self))
 have HPP:Hid ((w4.heap.size,Obj.cells #[.slice pa np pc] 69 (0,0))∈(((w4.heap.size,Obj.cells #[.slice pa np pc] 69 (0,0))::Kp3):List (Nat × Obj))):=List.mem_cons_self
 have HS3:Hid (∀z∈Kp3,z∈((w4.heap.size,Obj.cells #[.slice pa np pc] 69 (0,0))::Kp3)):=fun z hz=>List.mem_cons_of_mem _ hz
 have HS2:Hid (∀z∈Kp2,z∈((w4.heap.size,Obj.cells #[.slice pa np pc] 69 (0,0))::Kp3)):=fun z hz=>List.mem_cons_of_mem _ (HSUB3.out _ hz)
 have HS1:Hid (∀z∈Kp1,z∈((w4.heap.size,Obj.cells #[.slice pa np pc] 69 (0,0))::Kp3)):=fun z hz=>List.mem_cons_of_mem _ (HSUB3.out _ (HSUB2.out _ (List.mem_cons_of_mem _ hz)))
 have cb3:=Env.cell HB3.out HP1.out 0 _ rfl
 go_wp2_with fail
 generalize (w4.alloc (.cells #[.slice pa np pc] 69))=w5 at *
 refine (HB3.out.call fun κ1 hb hz=>kV oe hb).mono ?_
 rintro r w6 ⟨rfl,he⟩
 rw[← HMY.out] at he
 have HE4:=zh he
 clear he cb3
 have cb4:=Env.cell HE4.out HP1.out 0 _ rfl
 have ce4:=HE4.out.at2
 by_cases hme:(gE start x).e=0
 rotate_left
 ·have HBD:=zh (HBAD.out hme)
  obtain⟨ex,hex⟩:∃ex,(gE start x).e=ex:=⟨_,rfl⟩
  rw[hex] at ce4 hme
  have hne:¬ex=0:=hme
  clear hex hme
  go_wp2
  refine bodyPost_ret (results_none rfl _ _ _) rfl ?_
  exact⟨rfl,by rw[HBD.out];exact HE4.out.turn⟩
 ·have hgd:=HGOOD.out hme
  rw[hme] at ce4
  have HIN:=zh hgd.1
  have HKT:=zh hgd.2.1
  have HDU:=zh hgd.2.2.1
  have HMX:=zh hgd.2.2.2.1
  have HLD:=zh hgd.2.2.2.2.1
  have HEM:=zh hgd.2.2.2.2.2
  clear hgd hme
  have HE5:Hid (Env B q most flags w κ ((w4.heap.size,Obj.cells #[.slice pa np pc] 69 (0,0))::Kp3) x w6):=by have h:=HE4.out;rw[HMX.out] at h;exact h
  have HPQ:=zh (HON.out HKT.out HDU.out)
  have HNN:=zh (HND.out HKT.out)
  have HEV:=zh ((vI L).1 HKT.out).1
  have HLT:Hid (∀j∈yH x.names L,2*j+1 < L.length):=fun j hj=>by have h1:=eW hj;have h2:=HEV.out;omega
  have HQL:Hid ((yH x.names L).length=np):=by have h:=congrArg List.length HPQ.out;rw[List.length_map] at h;show _=_;rw[← h];exact HNP.out
  have HNL2:Hid (N.length=L.length / 2):=by show _=_;rw[HNN.out,List.length_map,yO]
  have HQS:Hid (np≤65536):=by have h1:=dA x.names L;have h2:=HQL.out;have h3:=HLL.out;show _≤_;omega
  have HK0E:=zh (oH (N:=x.names) HEV.out 0 (.inl rfl))
  have HK1E:=zh (oH (N:=x.names) HEV.out 1 (.inr rfl))
  have HSE:=zh (nC x.names L ByteArray.empty)
  have HEM2:Hid (x.endMap most (onF flags 4) start=({x with stk:=x.stk.take start.toNat}:BS).table most (onF flags 4) (kF ((yH x.names L).map (fun j=>N.getD j ByteArray.empty))) ((yH x.names L).map fun j=>L.getD (2*j+0) (0,0,0)) ((yH x.names L).map fun j=>L.getD (2*j+1) (0,0,0))):=by show _=_;rw[HEM.out,HNN.out,HSE.out,HK0E.out,HK1E.out];rfl
  clear HK0E HK1E HSE HEM
  have HTK:Hid (x.stk.take (x.stk.length - L.length)=x.stk.take start.toNat):=by
   show _=_
   have h1:=HIN.out.1
   have h2:=HIN.out.2
   rw[HLD.out,List.length_drop]
   congr 1
   omega
  have HLE2:Hid (L.length≤x.stk.length):=by show _≤_;rw[HLD.out,List.length_drop];omega
  generalize yH x.names L=Q at *
  clear HON HND HBAD HGOOD HMX HLD HE4 HMY HIN HDU HKT HNN
  go_wp2_with fail
  refine jM [7] (yD B q most flags w κ ((w4.heap.size,Obj.cells #[.slice pa np pc] 69 (0,0))::Kp3) [x] ({x with stk:=x.stk.take start.toNat})) (fun _ w w'=>jA w w') ((fun p (_:Nat→Value)=>(fun _ _ _=>True) p)) [[],[0],[0,1],[0,1,2],[0,1,2,3],[],[5],[0,1,2,3,4,5,6]] [[(37,5),(38,6)],[(32,0),(37,5),(38,6)],[(32,0),(33,1),(37,5),(38,6)],[(32,0),(33,1),(34,2),(37,5),(38,6)],[(32,0),(33,1),(34,2),(35,3),(37,5),(38,6)],[(32,0),(33,1),(34,2),(35,3),(36,4)],[(32,0),(33,1),(34,2),(35,3),(36,4),(37,5)],[(32,0),(33,1),(34,2),(35,3),(36,4),(37,5),(38,6)]] [(32,0),(33,1),(34,2),(35,3),(36,4),(37,5),(38,6),(39,7)]
   [IsP (jF q.p),IsP (jF q.p),IsP (jF q.p),IsP (.pointer (some ⟨q.p,1,none⟩)),IsP (jF q.s),IsP (.slice la L.length lc),IsP (.int .i64 L.length),fun _ _ _=>True]
   zk (yD.grew) (HE5.out.grew (jA.refl _).drew) zk zk ⟨jC,jC,jC,jC,jC,jC,jC,⟨fun _ _ _ _ _ h=>h,fun _ _ _ _ _ h=>h⟩,trivial⟩ rfl ?_ ?_
  ·intro yy wB hW hF
   simp only[zB,IsP,Nat.reduceAdd,List.length_cons,List.length_nil] at hF hW
   have h0:=hF.1
   have h1:=hF.2.1
   have h2:=hF.2.2.1
   have h3:=hF.2.2.2.1
   have h4:=hF.2.2.2.2.1
   have h5:=hF.2.2.2.2.2.1
   have h6:=hF.2.2.2.2.2.2.1
   clear hF
   simp only[jB,Act.put,zq1,zq2,zq3,zq4,zq5]
   simp only[h0,h1,h2,h3,h4,h5,h6]
   clear h0 h1 h2 h3 h4 h5 h6
   have HE6:Hid (Env B q most flags w κ ((w4.heap.size,Obj.cells #[.slice pa np pc] 69 (0,0))::Kp3) ({x with stk:=x.stk.take start.toNat}) wB):=hW
   clear hW HE5 cb4 ce4
   have HG2:Hid (BS.Good {x with stk:=x.stk.take start.toNat}):=HG.out.stk _
   have HX2:Hid (({x with stk:=x.stk.take start.toNat}:BS).e=0):=HX.out
   have hgB:=(jA.refl wB).alloc (.cells #[.pointer none,.slice none 0 0] 77)
   have cp:=Env.cell (HE6.out.grew hgB) HPP.out 0 _ rfl
   clear hgB
   have hnpl:np≤9223372036854775807:=by have:=HQS.out;omega
   obtain⟨S,hS⟩:∃S,Q.map (fun j=>N.getD j ByteArray.empty)=S:=⟨_,rfl⟩
   have HSL:Hid (S.length=np):=by show _=_;rw[← hS,List.length_map];exact HQL.out
   have HSG:Hid (∀(k j:Nat),Q[k]? = some j→S[k]? = some (N.getD j ByteArray.empty)):=fun k j h=>by rw[← hS,List.getElem?_map,h];rfl
   have HSZ2:Hid (∀s∈S,s.size≤1048576):=fun s hs=>by
    rw[← hS] at hs
    obtain⟨j,hj,rfl⟩:=List.mem_map.1 hs
    rw[List.getD_eq_getElem?_getD]
    cases hn:N[j]? with
    | none=>show (0:Nat)≤_;omega
    | some u=>exact HNZ.out u (List.mem_of_getElem? hn)
   rw[hS] at HEM2
   have HS:=zh hS
   clear hS
   go_wp2_with fail
   go_loopw [43] (fun i wr=>∃k:Nat,k≤np∧i=.int .i64 k∧Hid (Below wB.heap.size wB wr∧SBF wB.heap.size wB.heap.size (Lib.byteCells (kF (S.take k)).data.toList) wr∧wB.heap.size < wr.heap.size)) (fun i _=>np - (intOf i).toNat)
   case atStart=>exact⟨0,Nat.zero_le _,rfl,by
    show _∧_∧_
    exact⟨(jA.refl wB).alloc _,Lib.IsBuilderF.of (Lib.fresh_isBuilder _ _ wB),by simp⟩⟩
   case round=>
    obtain⟨k,hk,rfl,HW⟩:=hrel
    by_cases hlt:k < np
    ·obtain⟨j,hj⟩:∃j,Q[k]? = some j:=⟨_,List.getElem?_eq_getElem (by have:=HQL.out;omega)⟩
     have HJ:=zh (HLT.out j (List.mem_of_getElem? hj))
     obtain⟨s,hs⟩:∃s,N[j]? = some s:=⟨_,List.getElem?_eq_getElem (by have:=HJ.out;have:=HNL2.out;omega)⟩
     have HZS:=zh (HNZ.out s (List.mem_of_getElem? hs))
     have HSK:Hid (S[k]? = some s):=by have h:=HSG.out k j hj;rw[List.getD_eq_getElem?_getD,hs] at h;exact h
     have HPK:Hid (P[k]? = some (j:Int)):=by show _=_;rw[HPQ.out,List.getElem?_map,hj];rfl
     have HEW:=zh (HE6.out.grew HW.out.1)
     obtain⟨bp,op,rfl,c0⟩:=rowI_at (HRS.out wr _ (HEW.out.mono HS3.out)) HPK.out
     obtain⟨bn,on,rfl,d0⟩:=txts_at (HNS.out wr _ (HEW.out.mono HS2.out)) hs
     have hjn:(j:Int) < N.length:=by have:=HJ.out;have:=HNL2.out;omega
     have hkn:(k:Int) < np:=by omega
     have HTK2:Hid (kF (S.take (k+1))=kF (S.take k)++(s++⟨#[0]⟩)):=by show _=_;rw[List.take_add_one,HSK.out];exact gC _ _
     have HLEN:Hid ((Lib.byteCells (kF (S.take k)).data.toList).length+(s++⟨#[0]⟩:ByteArray).size≤140737488355328):=by
      show _≤_
      have h1:=gF (S.take k) 1048576 (fun s hs=>HSZ2.out s (List.mem_of_mem_take hs))
      have h2:(S.take k).length≤65536:=by rw[List.length_take];have:=HSL.out;have:=HQS.out;omega
      have h3:=HZS.out
      have e1:(⟨#[0]⟩:ByteArray).size=1:=rfl
      have e2:(kF (S.take k)).data.toList.length=(kF (S.take k)).size:=by rw[Array.length_toList];rfl
      rw[Lib.byteCells_length,e2,ByteArray.size_append,e1]
      have h4:(S.take k).length*(1048576+1)≤65536*(1048576+1):=Nat.mul_le_mul_right _ h2
      omega
     clear hj hs
     have hcat:=fun W=>run_string_add (P:=prog) W s ⟨#[0]⟩ (by have:=HZS.out;omega) (by decide)
     go_wp2_with fail
     refine (lN _ _ _ _ wr HW.out.2.1 HLEN.out (Nat.le_of_lt HW.out.2.2)).mono ?_
     rintro r w8 ⟨rfl,h1,h2⟩
     rw[p4,← HTK2.out] at h1
     have H8:=zh (And.intro h1 h2)
     clear h1 h2 c0 d0
     go_wp2_with fail
     go_roundw
     case rel=>
      refine⟨k+1,by omega,by go_num,?_⟩
      show _∧_∧_
      exact⟨Below.trans HW.out.1 H8.out.2,H8.out.1,Nat.lt_of_lt_of_le HW.out.2.2 H8.out.2.size⟩
     case measure=>simp[intOf];omega
    ·have ek:k=np:=by omega
     subst ek
     have hsa:S.take k=S:=by rw[List.take_of_length_le (Nat.le_of_eq HSL.out)]
     have HW2:Hid (Below wB.heap.size wB wr∧SBF wB.heap.size wB.heap.size (Lib.byteCells (kF S).data.toList) wr∧wB.heap.size < wr.heap.size):=by have h:=HW.out;rw[hsa] at h;exact h
     clear hsa HW
     have HSTR:Hid (∀w2,SBF wB.heap.size wB.heap.size (Lib.byteCells (kF S).data.toList) w2→wB.heap.size≤w2.heap.size→Calls prog 40 #[.pointer (some ⟨wB.heap.size,0,none⟩)] w2 fun e w'=>e=.returned (.string (kF S))∧SBF wB.heap.size wB.heap.size (Lib.byteCells (kF S).data.toList) w'∧Below wB.heap.size w2 w'∧Lib.OthersKept 5 (some wB.heap.size) w2 w'):=fun w2 h1 h2=>by
      have h:=gD _ _ _ w2 h1 h2
      have e:(⟨(kF S).data.toList.toArray⟩:ByteArray)=kF S:=by simp
      rw[e] at h
      exact h
     obtain⟨K0,hK0⟩:∃K0,(Q.map fun j=>L.getD (2*j+0) (0,0,0))=K0:=⟨_,rfl⟩
     obtain⟨K1,hK1⟩:∃K1,(Q.map fun j=>L.getD (2*j+1) (0,0,0))=K1:=⟨_,rfl⟩
     have HKL:Hid (K0.length≤65536∧K1.length≤65536):=by show _∧_;rw[← hK0,← hK1,List.length_map,List.length_map,HQL.out];exact⟨HQS.out,HQS.out⟩
     have HKO:Hid ((∀v∈K0,okV v)∧∀v∈K1,okV v):=by
      show _∧_
      rw[← hK0,← hK1]
      refine⟨fun v hv=>?_,fun v hv=>?_⟩
      ·obtain⟨j,_,rfl⟩:=List.mem_map.1 hv
       exact oI HOK.out _
      ·obtain⟨j,_,rfl⟩:=List.mem_map.1 hv
       exact oI HOK.out _
     rw[hK0,hK1] at HEM2
     have HPK:Hid (∀(b:Nat) (K:List V3),b≤1→(Q.map fun j=>L.getD (2*j+b) (0,0,0))=K→∀w2,jA wB w2→Calls prog 37 #[.int .i64 b,.pointer (some ⟨w4.heap.size,0,none⟩),.pointer (some ⟨w1.heap.size,0,none⟩)] w2 fun r w'=>∃v',r=.returned v'∧jO w' w2.heap.size v' K∧jA w2 w'):=fun b K hb hKe w2 hg=>by
      have HEg:=HE6.out.grew hg
      have hr:=HRS.out w2 _ (HEg.mono HS3.out)
      rw[HPQ.out] at hr
      rw[← hKe]
      exact p9 b hb pa k pc Q HQL.out la lc L w4.heap.size w1.heap.size w2 hr (HOW.out w2 _ (HEg.mono HS1.out)).vals (Env.cell HEg HPP.out 0 _ rfl) (Env.cell HEg HPL.out 0 _ rfl) HLT.out HLL.out (by have:=HQL.out;have:=HQS.out;omega)
     have HKE:=zh (And.intro hK0 hK1)
     clear hK0 hK1
     have hge:¬(k:Int) < k:=by omega
     go_wp2_with fail
     refine jM [1,6] (MpW wB wB.heap.size (Lib.byteCells (kF S).data.toList) (fun w'=>Env B q most flags w κ ((w4.heap.size,Obj.cells #[.slice pa k pc] 69 (0,0))::Kp3) (({x with stk:=x.stk.take start.toNat}:BS).table most (onF flags 4) (kF S) K0 K1) w')) (fun _ w w'=>jA w w') ((fun p (_:Nat→Value)=>(MpT wB.heap.size) p)) [[],[],[],[1,2],[],[1,2,3,4],[0,1,2,3,4,5]] [[(55,1),(56,2),(57,3),(58,4),(59,5)],[(54,0),(56,2),(58,4)],[(54,0),(55,1),(58,4)],[(54,0),(55,1),(56,2),(58,4)],[(54,0),(55,1),(56,2),(57,3)],[(54,0),(55,1),(56,2),(57,3),(58,4)],[(54,0),(55,1),(56,2),(57,3),(58,4),(59,5)]] [(54,0),(55,1),(56,2),(57,3),(58,4),(59,5),(60,6)]
      [IsP (jF q.p),IsP (.string (kF S)),IsP (.func (.func 37) #[] #[.pointer (some ⟨w4.heap.size,0,none⟩),.pointer (some ⟨w1.heap.size,0,none⟩)]),PkF (wB.heap.size+1) K0,IsP (.func (.func 37) #[] #[.pointer (some ⟨w4.heap.size,0,none⟩),.pointer (some ⟨w1.heap.size,0,none⟩)]),PkF (wB.heap.size+1) K1,IsP (.tuple #[])]
      zk (MpW.grew (fun w1 w2 hg h=>Env.grew h hg)) (MpW.grew (fun w1 w2 hg h=>Env.grew h hg) 0 _ _ (jA.refl _).drew ⟨HW2.out.1,HW2.out.2.1,HW2.out.2.2⟩) zk zk ⟨jC,jC,jC,q9 (PkF.st (Nat.lt_succ_self _)),jC,q9 (PkF.st (Nat.lt_succ_self _)),jC,trivial⟩ rfl ?_ ?_
     ·intro y w8 hW hF
      simp only[zB,IsP,Nat.reduceAdd,List.length_cons,List.length_nil] at hF hW
      have h0:=hF.1
      have h1:=hF.2.1
      have h2:=hF.2.2.1
      have h3:=hF.2.2.2.1
      have h4:=hF.2.2.2.2.1
      have h5:=hF.2.2.2.2.2.1
      have h6:=hF.2.2.2.2.2.2.1
      clear hF
      simp only[jB,Act.put,zq1,zq2,zq3,zq4,zq5]
      simp only[h0,h1,h2,h4,h6]
      clear h0 h1 h2 h4 h6
      go_wp2
      go_end0
      exact⟨rfl,by rw[HEM2.out];exact Env.turn hW⟩
     refine⟨?_,?_⟩
     ·refine jH 0 1 ?_
      intro y w8 p hlo hhi hW hD K hK
      have hgb:=MpW.below hW (by omega)
      have dq:=Env.cell (HE6.out.grew hgb.1) HP1.out 0 _ rfl
      clear hD
      generalize hAA:jB y _ _=AA at hK⊢
      simp only[jB,Act.put,zq1,zq2,zq3,zq4,zq5,IsP] at hAA
      subst hAA
      simp only[zq4,zq5,IsP] at hK
      refine jL ?_
      go_simp
      exact hK _ _ _ rfl (jA.refl _) rfl
     refine⟨?_,?_⟩
     ·refine jN 0 rfl ?_
      intro y w8 hW hD K hK
      clear hD
      generalize hAA:jB y _ _=AA at hK⊢
      simp only[jB,Act.put,zq1,zq2,zq3,zq4,zq5,IsP] at hAA
      subst hAA
      simp only[zq4,zq5,IsP] at hK
      refine jL ?_
      go_simp
      have hW3:Below _ wB w8∧SBF _ _ _ w8∧_ < w8.heap.size:=hW
      refine (HSTR.out w8 hW3.2.1 (Nat.le_of_lt hW3.2.2)).mono ?_
      rintro r w9 ⟨rfl,h1,h2,h3⟩
      exact hK _ _ _ rfl h3 ⟨Below.trans hW3.1 h2,Nat.lt_of_lt_of_le hW3.2.2 h2.size⟩ rfl
     refine⟨?_,?_⟩
     ·refine jH 0 1 ?_
      intro y w8 p hlo hhi hW hD K hK
      clear hD
      generalize hAA:jB y _ _=AA at hK⊢
      simp only[jB,Act.put,zq1,zq2,zq3,zq4,zq5,IsP] at hAA
      subst hAA
      simp only[zq4,zq5,IsP] at hK
      refine jL ?_
      go_simp
      exact hK _ _ _ rfl (jA.refl _) rfl
     refine⟨?_,?_⟩
     ·refine jH 1 1 ?_
      intro y w8 p hlo hhi hW hD K hK
      simp only[jV,zq4,zq5,IsP] at hD
      have h1:=hD.1
      have h2:=hD.2.1
      clear hD
      generalize hAA:jB y _ _=AA at hK⊢
      simp only[jB,Act.put,zq1,zq2,zq3,zq4,zq5,IsP] at hAA
      subst hAA
      simp only[zq4,zq5,IsP] at hK
      simp only[h1,h2] at hK⊢
      clear h1 h2
      refine jL ?_
      go_simp
      have hgb:=MpW.below hW (by omega)
      refine (HPK.out 0 K0 (by decide) HKE.out.1 w8 hgb.1).mono ?_
      rintro r w9 ⟨v',rfl,ho,hg⟩
      exact hK _ _ _ rfl hg (fun _=>d8 ho hgb.2)
     refine⟨?_,?_⟩
     ·refine jH 0 1 ?_
      intro y w8 p hlo hhi hW hD K hK
      clear hD
      generalize hAA:jB y _ _=AA at hK⊢
      simp only[jB,Act.put,zq1,zq2,zq3,zq4,zq5,IsP] at hAA
      subst hAA
      simp only[zq4,zq5,IsP] at hK
      refine jL ?_
      go_simp
      exact hK _ _ _ rfl (jA.refl _) rfl
     refine⟨?_,?_⟩
     ·refine jH 1 1 ?_
      intro y w8 p hlo hhi hW hD K hK
      simp only[jV,zq4,zq5,IsP] at hD
      have h1:=hD.1
      have h2:=hD.2.1
      have h3:=hD.2.2.1
      have h4:=hD.2.2.2.1
      clear hD
      generalize hAA:jB y _ _=AA at hK⊢
      simp only[jB,Act.put,zq1,zq2,zq3,zq4,zq5,IsP] at hAA
      subst hAA
      simp only[zq4,zq5,IsP] at hK
      simp only[h1,h2,h4] at hK⊢
      clear h1 h2 h4
      refine jL ?_
      go_simp
      have hgb:=MpW.below hW (by omega)
      refine (HPK.out 1 K1 (by decide) HKE.out.2 w8 hgb.1).mono ?_
      rintro r w9 ⟨v',rfl,ho,hg⟩
      exact hK _ _ _ rfl hg (fun _=>d8 ho hgb.2)
     refine⟨?_,?_⟩
     ·refine jN 1 rfl ?_
      intro y w8 hW hD K hK
      simp only[jV,zq4,zq5,IsP] at hD
      have h0:=hD.1
      have h1:=hD.2.1
      have h2:=hD.2.2.1
      have h3:=hD.2.2.2.1
      have h4:=hD.2.2.2.2.1
      have h5:=hD.2.2.2.2.2.1
      clear hD
      generalize hAA:jB y _ _=AA at hK⊢
      simp only[jB,Act.put,zq1,zq2,zq3,zq4,zq5,IsP] at hAA
      subst hAA
      simp only[zq4,zq5,IsP] at hK
      simp only[h0,h1,h2,h4] at hK⊢
      clear h0 h1 h2 h4
      have o3:=h3 (by decide)
      have o5:=h5 (by decide)
      obtain⟨a3,c3,e3,n3⟩:=kD o3
      obtain⟨a5,c5,e5,n5⟩:=kD o5
      rw[e3] at o3
      rw[e5] at o5
      simp only[e3,e5] at hK⊢
      clear h3 h5
      refine jL ?_
      go_simp
      obtain⟨κ6,hb6,ht6,hk6⟩:=HE6.out
      have hgb:Below wB.heap.size wB w8∧wB.heap.size < w8.heap.size:=hW
      have hap:∀{v:Value} {l:List V3},jO w8 (wB.heap.size+1) v l→zW κ6 w8 v:=fun ho ad n c e=>⟨(JY ho ad n c e).2,Decidable.byContradiction fun hk=>by have h1:=(hb6.lt _ hk).2;have h2:=(JY ho ad n c e).1;omega⟩
      refine (pQ (kF S) a3 c3 K0 a5 c5 K1 o3.vals (hap o3) o5.vals (hap o5) (fun c e=>by injection e with e1 e2 e3;rw[← e3];exact n5 e1) (by have:=HKL.out.1;omega) (by have:=HKL.out.2;omega) HKO.out.1 HKO.out.2 HG2.out HX2.out (hb6.grew hgb.1)).mono ?_
      rintro r w9 ⟨rfl,κ7,k1,k2⟩
      exact hK _ _ _ rfl trivial ⟨κ7,k1,(ht6.trans (Tn.of_grew hgb.1)).trans k2,fun z hz=>⟨k2.1.heap (jA.heap hgb.1 (hk6 z hz).1) (fun e=>e (hk6 z hz).2),(k2.2 z.1 (Array.getElem?_eq_some_iff.1 (jA.heap hgb.1 (hk6 z hz).1)).1).trans (hk6 z hz).2⟩⟩ rfl
     trivial
  refine⟨?_,?_⟩
  ·refine jH 0 0 ?_
   intro yy wB p hlo hhi hW hD K hK
   have dq:=Env.cell hW HP1.out 0 _ rfl
   clear hD
   generalize hAA:jB yy _ _=AA at hK⊢
   simp only[jB,Act.put,zq1,zq2,zq3,zq4,zq5,IsP] at hAA
   subst hAA
   simp only[zq4,zq5,IsP] at hK
   refine jL ?_
   go_simp
   exact hK _ _ _ rfl (jA.refl _) rfl
  refine⟨?_,?_⟩
  ·refine jH 0 0 ?_
   intro yy wB p hlo hhi hW hD K hK
   simp only[jV,zq4,zq5,IsP] at hD
   have h0:=hD.1
   clear hD
   generalize hAA:jB yy _ _=AA at hK⊢
   simp only[jB,Act.put,zq1,zq2,zq3,zq4,zq5,IsP] at hAA
   subst hAA
   simp only[zq4,zq5,IsP] at hK
   simp only[h0] at hK⊢
   clear h0
   refine jL ?_
   go_simp
   exact hK _ _ _ rfl (jA.refl _) rfl
  refine⟨?_,?_⟩
  ·refine jH 0 0 ?_
   intro yy wB p hlo hhi hW hD K hK
   simp only[jV,zq4,zq5,IsP] at hD
   have h0:=hD.1
   have h1:=hD.2.1
   clear hD
   generalize hAA:jB yy _ _=AA at hK⊢
   simp only[jB,Act.put,zq1,zq2,zq3,zq4,zq5,IsP] at hAA
   subst hAA
   simp only[zq4,zq5,IsP] at hK
   simp only[h0,h1] at hK⊢
   clear h0 h1
   refine jL ?_
   go_simp
   exact hK _ _ _ rfl (jA.refl _) rfl
  refine⟨?_,?_⟩
  ·refine jH 0 0 ?_
   intro yy wB p hlo hhi hW hD K hK
   simp only[jV,zq4,zq5,IsP] at hD
   have h0:=hD.1
   have h1:=hD.2.1
   have h2:=hD.2.2.1
   clear hD
   generalize hAA:jB yy _ _=AA at hK⊢
   simp only[jB,Act.put,zq1,zq2,zq3,zq4,zq5,IsP] at hAA
   subst hAA
   simp only[zq4,zq5,IsP] at hK
   simp only[h0,h1,h2] at hK⊢
   clear h0 h1 h2
   refine jL ?_
   go_simp
   exact hK _ _ _ rfl (jA.refl _) rfl
  refine⟨?_,?_⟩
  ·refine jH 0 0 ?_
   intro yy wB p hlo hhi hW hD K hK
   have dd:=Env.at1 hW
   simp only[jV,zq4,zq5,IsP] at hD
   have h0:=hD.1
   have h1:=hD.2.1
   have h2:=hD.2.2.1
   have h3:=hD.2.2.2.1
   clear hD
   generalize hAA:jB yy _ _=AA at hK⊢
   simp only[jB,Act.put,zq1,zq2,zq3,zq4,zq5,IsP] at hAA
   subst hAA
   simp only[zq4,zq5,IsP] at hK
   simp only[h0,h1,h2,h3] at hK⊢
   clear h0 h1 h2 h3
   refine jL ?_
   go_simp
   exact hK _ _ _ rfl (jA.refl _) rfl
  refine⟨?_,?_⟩
  ·refine jH 0 0 ?_
   intro yy wB p hlo hhi hW hD K hK
   have dd:=Env.cell hW HPL.out 0 _ rfl
   clear hD
   generalize hAA:jB yy _ _=AA at hK⊢
   simp only[jB,Act.put,zq1,zq2,zq3,zq4,zq5,IsP] at hAA
   subst hAA
   simp only[zq4,zq5,IsP] at hK
   refine jL ?_
   go_simp
   exact hK _ _ _ rfl (jA.refl _) rfl
  refine⟨?_,?_⟩
  ·refine jH 0 0 ?_
   intro yy wB p hlo hhi hW hD K hK
   simp only[jV,zq4,zq5,IsP] at hD
   have h5:=hD.1
   clear hD
   generalize hAA:jB yy _ _=AA at hK⊢
   simp only[jB,Act.put,zq1,zq2,zq3,zq4,zq5,IsP] at hAA
   subst hAA
   simp only[zq4,zq5,IsP] at hK
   simp only[h5] at hK⊢
   clear h5
   refine jL ?_
   go_simp
   exact hK _ _ _ rfl (jA.refl _) rfl
  refine⟨?_,?_⟩
  ·refine jN 0 rfl ?_
   intro yy wB hW hD K hK
   simp only[jV,zq4,zq5,IsP] at hD
   have h0:=hD.1
   have h1:=hD.2.1
   have h2:=hD.2.2.1
   have h3:=hD.2.2.2.1
   have h4:=hD.2.2.2.2.1
   have h5:=hD.2.2.2.2.2.1
   have h6:=hD.2.2.2.2.2.2.1
   clear hD
   generalize hAA:jB yy _ _=AA at hK⊢
   simp only[jB,Act.put,zq1,zq2,zq3,zq4,zq5,IsP] at hAA
   subst hAA
   simp only[zq4,zq5,IsP] at hK
   simp only[h0,h1,h2,h3,h4,h5,h6] at hK⊢
   clear h0 h1 h2 h3 h4 h5 h6
   refine jL ?_
   go_simp
   refine (Env.call (show Env B q most flags w κ ((w4.heap.size,Obj.cells #[.slice pa np pc] 69 (0,0))::Kp3) x wB from hW) fun κ1 hb hz=>i8 L.length hb HLE2.out).mono ?_
   rintro r w9 ⟨⟨v',rfl⟩,he⟩
   rw[HTK.out] at he
   exact hK _ _ _ rfl trivial he trivial
  trivial
theorem V9 {B:Nat} {q:kN} {most flags:Int} {κ:Nat→Nat} {x:BS} {w:World} (start:Int) (hg:x.Good) (h:Bd B q most flags κ x w):Calls prog 12 #[jF q.p,.int .i64 start] w fun r w'=>r=.returned (.tuple #[])∧j1 B q most flags κ (x.endMap most (onF flags 4) start) w w':=by
 have HH:=zh hg
 have HE:Hid (Env B q most flags w κ [(w.heap.size+1,Obj.cells #[.int .i64 start] 3 (0,0)),(w.heap.size,Obj.cells #[jF q.p] 26 (0,0))] x ((w.alloc (.cells #[jF q.p] 26)).alloc (.cells #[.int .i64 start] 3))):=by
  have hh:=((Env.start h).add (.cells #[jF q.p] 26)).add (.cells #[.int .i64 start] 3)
  simp only[World.size_alloc,Nat.add_assoc,Nat.reduceAdd] at hh
  exact hh
 clear h hg
 go_enter func12,ntmps12
 go_wp2_with fail
 refine (HE.out.call' fun κ1 hb he=>zG hb _ _ (x.endMap most (onF flags 4) start) (fun hx=>by unfold BS.endMap;rw[if_neg hx]) (fun _=>enters_of func31 zk rfl _ _) (fun hx=>lQ _ _ _ HH.out hx he)).mono ?_
 rintro r w5 ⟨rfl,he⟩
 have HT:=zh he
 clear he
 go_wp2
 go_end0
 exact⟨rfl,HT.out.turn⟩
theorem J5 {α:Type} (f:α→Value) (h1:∀x,(f x).oneCell'=true) (ts te:TypeId) (z:Value) (bytes:Nat) (hu:Tryz.prog.underlying ts=some (.slice te)) (hi:∃i0,Tryz.prog.info? te=some i0∧i0.zero=some z∧i0.size=1∧i0.bytes=bytes) (hz:z.cells.size=1) (hb:bytes≤8)
 {ops:Array Oper} {rest:List Oper} {o:Oper} {a:Act} {w:World} {Q:Exit→Act→World→Prop} (hgd:o.guard=none) (s x:Operand)
 (ho:o.op=.call {callee:=.builtin .append,args:=#[s,x],argTypes:=#[ts,ts]}) (B:Nat) (v:Value) (l:List α) (hs:a.eval s=v) (j3:w.ownsRow B te 1 v l.length (l.map f))
 (sv:Value) (l2:List α) (hx:a.eval x=sv) (hsv:yM f w sv l2) (kQ:∀n c,sv=.slice none n c→c=0) (j8:l.length+l2.length≤1048576) (hB:B≤w.heap.size)
 (h:∀v' w',w'.ownsRow B te 1 v' (l++l2).length ((l++l2).map f)→w.grownBy w' v.ownBlock→zO w v.ownBlock v'.ownBlock→wpList prog ops Q rest (a.put o.dst v') w'):wpList prog ops Q (o::rest) a w:=by
 obtain⟨i0,hi,hz0,hz1,hz2⟩:=hi
 obtain⟨sa,cap,rfl,hc⟩:=hsv
 cases sa with
 | none=>
  have h0:l2=[]:=by
   cases l2 with
   | nil=>rfl
   | cons y r=>obtain⟨b,off,e,_⟩:=hc 0 y rfl;cases e
  subst h0
  have:=kQ _ cap rfl
  subst this
  refine wpList_append_own_none hgd s x ts ho B te i0 1 hu hi v l.length _ hs j3 hx ?_
  exact h v w (by rw[List.append_nil];exact j3) ⟨rfl,rfl,rfl,Nat.le_refl _,fun _ _ _=>rfl⟩ (zO.refl _ _)
 | some ad=>
  have hnews:∀j u,(l2.map f)[j]? = some u→w.cell? (ad.add j)=some u:=by
   intro j u hj
   rw[List.getElem?_map] at hj
   cases hq:l2[j]? with
   | none=>rw[hq] at hj;cases hj
   | some s=>
    rw[hq] at hj
    obtain⟨b,off,e,j2⟩:=hc j s hq
    cases e
    simp at hj
    subst hj
    rw[QI _ b off j rfl]
    exact j2
  obtain⟨v',w',hr,h2,h3,h4⟩:=y6 (P:=prog) w B ts o.type te i0 z 1 bytes hu hi hz0 hz1 hz2 hz (by decide) v l.length _ j3 ad l2.length cap (l2.map f) (by simp) hnews (by intro u hu;obtain⟨s,_,rfl⟩:=List.mem_map.1 hu;exact h1 s) (by unfold maxLen;omega) (Nat.le_trans (Nat.mul_le_mul_left _ hb) (by omega)) hB
  refine wpList_plain hgd fun _ hK=>Lib.wp_append_run w s x ts ts ho v _ hs hx v' w' hr (hK _ _ (h v' w' ?_ h3 h4))
  rw[List.length_append,List.map_append]
  exact h2
theorem cN:∃i0,Tryz.prog.info? 2=some i0∧i0.zero=some (.int .i64 0)∧i0.size=1∧i0.bytes=8:=by
 have h:(Tryz.prog.info? 2).map (fun i=>(i.zero,i.size,i.bytes))=some (some (.int .i64 0),1,8):=by kernel_rfl
 cases hi:Tryz.prog.info? 2 with
 | none=>rw[hi] at h;cases h
 | some i=>rw[hi] at h;simp at h;exact⟨i,rfl,h.1,h.2.1,h.2.2⟩
theorem lR:∃i0,Tryz.prog.info? 38=some i0∧i0.zero=some (.int .u64 0)∧i0.size=1∧i0.bytes=8:=by
 have h:(Tryz.prog.info? 38).map (fun i=>(i.zero,i.size,i.bytes))=some (some (.int .u64 0),1,8):=by kernel_rfl
 cases hi:Tryz.prog.info? 38 with
 | none=>rw[hi] at h;cases h
 | some i=>rw[hi] at h;simp at h;exact⟨i,rfl,h.1,h.2.1,h.2.2⟩
theorem rA:∃i0,Tryz.prog.info? 4=some i0∧i0.zero=some (.bool false)∧i0.size=1∧i0.bytes=1:=by
 have h:(Tryz.prog.info? 4).map (fun i=>(i.zero,i.size,i.bytes))=some (some (.bool false),1,1):=by kernel_rfl
 cases hi:Tryz.prog.info? 4 with
 | none=>rw[hi] at h;cases h
 | some i=>rw[hi] at h;simp at h;exact⟨i,rfl,h.1,h.2.1,h.2.2⟩
theorem qD {α:Type} {f:α→Value} {w:World} {B:Nat} {te:TypeId} {v:Value} {l:List α} (h:w.ownsRow B te 1 v l.length (l.map f)):yM f w v l:=by
 obtain⟨a,c,rfl,_⟩:=j7 h
 refine⟨a,c,rfl,fun i x hx=>?_⟩
 rcases h.2 with ⟨e,hn⟩|⟨g,cap,cur,e,_⟩
 ·have h0:l=[]:=List.length_eq_zero_iff.1 hn
  subst h0
  cases hx
 ·cases e
  have hc:=World.ownsRow.cells h (g:=g) rfl i (f x) (by rw[List.getElem?_map,hx];rfl)
  rw[add0] at hc
  exact⟨g,0,rfl,hc⟩
theorem fA {α:Type} (f:α→Value) (w:World) (t:TypeId) (x:α):yM f (w.alloc (.cells #[f x] t)) (.slice (some ⟨w.heap.size,0,none⟩) 1 1) [x]:=by
 refine⟨_,1,rfl,fun i y hy=>?_⟩
 match i,hy with
 | 0,hy=>cases hy;exact⟨_,0,rfl,jI (heap_alloc_new w _) 0 _ rfl⟩
theorem K8 {w w':World} {B:Nat} {e:TypeId} {size:Nat} {v:Value} {n:Nat} {xs:List Value} (h:w.ownsRow B e size v n xs) (hg:jA w w'):w'.ownsRow B e size v n xs:=Moved.owns (Moved.of_grew (S:=fun _=>False) hg) h (fun _ _ h=>h)
theorem QC {w:World} {a:Option Addr} {n c:Nat} {l:List Int} (h:v6 w (.slice a n c) l):n=l.length∧n≤c∧k9 c∧(a=none→c=0)∧∀(i:Nat) (x:Int),l[i]? = some x→∃b off,a=some ⟨b,off,none⟩∧w.cell? ⟨b,off+i,none⟩=some (.int .i64 x):=by
 obtain⟨a',c',e,h1,h2,h3,h4⟩:=h
 injection e with e1 e2 e3
 subst e1 e2 e3
 exact⟨rfl,h1,h2,h3,fun i x hx=>(h4 i x hx).2⟩
theorem cO (kd st nn uu:Int) (ss:ByteArray) (la:Option Addr) (lc:Nat) (ll:List Int) (ta:Option Addr) (tc:Nat) (tt:List ByteArray) (w:World) (hL:v6 w (.slice la ll.length lc) ll):Calls prog 138 #[.agg #[.int .i64 kd,.int .i64 st,.int .i64 nn,.int .u64 uu,.string ss,.slice la ll.length lc,.slice ta tt.length tc]] w fun r w'=>∃v',r=.returned v'∧w'.ownsRow w.heap.size 2 1 v' (ll.take 40).length ((ll.take 40).map fun x=>.int .i64 x)∧jA w w':=by
 obtain⟨_,hlc,hlk,kQ,j2⟩:=QC hL
 obtain⟨k,hk⟩:∃k,min ll.length 40=k:=⟨_,rfl⟩
 have hmin:min (ll.length:Int) 40=(k:Int):=by rw[← hk];omega
 have hkl:(ll.take 40).length=k:=by rw[List.length_take,← hk];omega
 have htk:∀(i:Nat) (x:Int),(ll.take 40)[i]? = some x→ll[i]? = some x:=fun i x hx=>by
  rw[List.getElem?_take] at hx
  split at hx
  ·exact hx
  ·cases hx
 obtain⟨M,hM⟩:∃M,ll.take 40=M:=⟨_,rfl⟩
 rw[hM] at hkl htk⊢
 clear hM
 have hkc:(k:Int)≤lc:=by omega
 have HC:Hid (∀w',jA w w'→yM (fun x=>.int .i64 x) w' (.slice la k lc) M):=fun w' hg=>by
  refine⟨la,lc,by rw[hkl],fun i x hx=>?_⟩
  obtain⟨b,off,e,hc⟩:=j2 i x (htk i x hx)
  exact⟨b,off,e,hg.cell hc⟩
 have HKL:=zh hkl
 have HNIL:=zh kQ
 have hkb:k≤40:=by omega
 have HKB:=zh hkb
 unfold k9 at hlk
 have hll:ll.length≤9223372036854775807:=by omega
 have hsl:la=none→k=0:=fun e=>by have:=kQ e;omega
 have HSL:=zh hsl
 clear hL j2 hk hkl kQ hkb hsl htk
 have jJ:=heap_alloc_new w (.cells #[.int .i64 kd,.int .i64 st,.int .i64 nn,.int .u64 uu,.string ss,.slice la ll.length lc,.slice ta tt.length tc] 95)
 have c5:=jI jJ 5 _ rfl
 clear jJ
 cases la with
 | none=>
  have hk0:k=0:=HSL.out rfl
  subst hk0
  obtain rfl:lc=0:=HNIL.out rfl
  go_enter func138,ntmps138
  go_wp2_with (at_builtin;refine J5 (fun x=>.int .i64 x) (fun _=>rfl) 93 2 (.int .i64 0) 8 underlying93 cN rfl (by decide) rfl _ _ rfl w.heap.size (.slice none 0 0) [] rfl (World.ownsRow_nil _ _ _ _) _ M rfl (HC.out _ ((jA.refl w).alloc _)) (fun n c e=>by cases e;rfl) (by have:=HKL.out;have:=HKB.out;simp only[List.length_nil];omega) ((jA.refl w).alloc _).size ?_;intro v' w3 j3 hgr hnx;rw[List.nil_append] at j3;have HO:=zh (And.intro j3 hgr);obtain⟨va,vc,rfl,hz1,hz2,hz3⟩:=j7 j3;clear j3 hgr hnx hz1 hz2 hz3)
  go_ret
  refine⟨.slice va M.length vc,rfl,HO.out.1,?_⟩
  have hgr2:Moved (fun k=>some k=(Value.slice none 0 0).ownBlock) _ w3:=Moved.of_grown HO.out.2
  exact Moved.fresh ((jA.refl w).alloc _) hgr2 (fun g h=>by cases h)
 | some ad=>
  go_enter func138,ntmps138
  go_wp2_with (at_builtin;refine J5 (fun x=>.int .i64 x) (fun _=>rfl) 93 2 (.int .i64 0) 8 underlying93 cN rfl (by decide) rfl _ _ rfl w.heap.size (.slice none 0 0) [] rfl (World.ownsRow_nil _ _ _ _) _ M rfl (HC.out _ ((jA.refl w).alloc _)) (fun n c e=>by cases e) (by have:=HKL.out;have:=HKB.out;simp only[List.length_nil];omega) ((jA.refl w).alloc _).size ?_;intro v' w3 j3 hgr hnx;rw[List.nil_append] at j3;have HO:=zh (And.intro j3 hgr);obtain⟨va,vc,rfl,hz1,hz2,hz3⟩:=j7 j3;clear j3 hgr hnx hz1 hz2 hz3)
  go_ret
  refine⟨.slice va M.length vc,rfl,HO.out.1,?_⟩
  have hgr2:Moved (fun k=>some k=(Value.slice none 0 0).ownBlock) _ w3:=Moved.of_grown HO.out.2
  exact Moved.fresh ((jA.refl w).alloc _) hgr2 (fun g h=>by cases h)
theorem oJ (x:Int):(x.tmod 2 != 0)=decide (x % 2≠0):=by
 have h:x.tmod 2=0↔x % 2=0:=by rw[← Int.dvd_iff_tmod_eq_zero,← Int.dvd_iff_emod_eq_zero]
 by_cases hh:x % 2=0
 ·rw[h.2 hh,hh];rfl
 ·have h2:¬x.tmod 2=0:=fun k=>hh (h.1 k)
  simp[hh,h2]
theorem fB {w1 wr w':World} {e:TypeId} {size:Nat} {v:Value} {n:Nat} {xs:List Value} (h:wr.ownsRow w1.heap.size e size v n xs) (hg:jA w1 wr) (hgr:wr.grownBy w' v.ownBlock):jA w1 w':=Moved.fresh hg (Moved.of_grown hgr) (fun g hk=>(World.ownsRow.lt h g hk.symm).1)
theorem aA (kd st nn uu:Int) (ss:ByteArray) (la:Option Addr) (lc:Nat) (ll:List Int) (ta:Option Addr) (tc:Nat) (tt:List ByteArray) (w:World) (hL:v6 w (.slice la ll.length lc) ll) (hr:∀x∈ll,-9223372036854775808≤x∧x≤9223372036854775807):Calls prog 140 #[.agg #[.int .i64 kd,.int .i64 st,.int .i64 nn,.int .u64 uu,.string ss,.slice la ll.length lc,.slice ta tt.length tc]] w fun r w'=>∃v',r=.returned v'∧w'.ownsRow w.heap.size 38 1 v' ((ll.take 40).map (fun (v:Int)=>v % 18446744073709551616)).length (((ll.take 40).map (fun (v:Int)=>v % 18446744073709551616)).map fun x=>.int .u64 x)∧jA w w':=by
 obtain⟨_,hlc,hlk,kQ,j2⟩:=QC hL
 have HC:=zh j2
 have HR:=zh hr
 unfold k9 at hlk
 have hll:ll.length≤9223372036854775807:=by omega
 have jJ:=heap_alloc_new w (.cells #[.int .i64 kd,.int .i64 st,.int .i64 nn,.int .u64 uu,.string ss,.slice la ll.length lc,.slice ta tt.length tc] 95)
 have HRW:=zh jJ
 have c5:=jI jJ 5 _ rfl
 have HG0:=zh ((jA.refl w).alloc (.cells #[.int .i64 kd,.int .i64 st,.int .i64 nn,.int .u64 uu,.string ss,.slice la ll.length lc,.slice ta tt.length tc] 95))
 clear hL j2 kQ hr jJ
 obtain⟨MR,hMR⟩:∃MR,(ll.take 40).map (fun (v:Int)=>v % 18446744073709551616)=MR:=⟨_,rfl⟩
 rw[hMR]
 have HMR:=zh hMR
 clear hMR
 go_enter func140,ntmps140
 go_wp2_with fail
 generalize (w.alloc (.cells #[.int .i64 kd,.int .i64 st,.int .i64 nn,.int .u64 uu,.string ss,.slice la ll.length lc,.slice ta tt.length tc] 95))=w1 at *
 clear c5
 go_loopw [3,4] (fun v i wr=>∃k:Nat,k≤ll.length∧k≤40∧i=.int .i64 k∧Hid (wr.ownsRow w1.heap.size 38 1 v ((ll.take k).map (fun (v:Int)=>v % 18446744073709551616)).length (((ll.take k).map (fun (v:Int)=>v % 18446744073709551616)).map fun x=>.int .u64 x)∧jA w1 wr)) (fun _ i _=>ll.length - (intOf i).toNat)
 case atStart=>exact⟨0,Nat.zero_le _,by omega,rfl,by
  show _∧_
  exact⟨World.ownsRow_nil _ _ _ _,jA.refl _⟩⟩
 case round=>
  obtain⟨k,hk,hk2,rfl,HW⟩:=hrel
  have c5:=jI (HW.out.2.heap HRW.out) 5 _ rfl
  by_cases hlt:k < ll.length
  ·by_cases h40:k < 40
   ·obtain⟨x,hx⟩:∃x,ll[k]? = some x:=⟨_,List.getElem?_eq_getElem hlt⟩
    have HSN:Hid ((ll.take (k+1)).map (fun (v:Int)=>v % 18446744073709551616)=(ll.take k).map (fun (v:Int)=>v % 18446744073709551616)++[((fun (v:Int)=>v % 18446744073709551616)) x]):=by show _=_;rw[List.take_add_one,hx];simp
    have HRX:=zh (HR.out x (List.mem_of_getElem? hx))
    have hwu:IntKind.u64.wrap x=x % 18446744073709551616:=by simp[IntKind.wrap,IntKind.bits,IntKind.signed]
    obtain⟨b,off,rfl,c0⟩:=HC.out k x hx
    have d0:=HW.out.2.cell (HG0.out.cell c0)
    have hki:(k:Int) < ll.length:=by omega
    have h4i:(k:Int) < 40:=by omega
    have HO:=zh HW.out.1
    have HG:=zh HW.out.2
    have hlm:((ll.take k).map (fun (v:Int)=>v % 18446744073709551616)).length=k:=by rw[List.length_map,List.length_take];omega
    generalize (ll.take k).map (fun (v:Int)=>v % 18446744073709551616)=M at *
    have HLM:=zh hlm
    obtain⟨va,vc,hvf,hz1,hz2,hz3⟩:=j7 HO.out
    rw[hlm] at hvf
    subst hvf
    obtain⟨X,hX⟩:∃X,((fun (v:Int)=>v % 18446744073709551616)) x=X:=⟨_,rfl⟩
    have HX:=zh hX
    clear c0 hx HW hz1 hz2 hz3 hlm
    replace hwu:IntKind.u64.wrap x=X:=by rw[hwu];exact hX
    clear hX
    go_wp2_with (at_builtin;refine J5 (fun x=>.int .u64 x) (fun _=>rfl) 179 38 (.int .u64 0) 8 underlying179 lR rfl (by decide) rfl _ _ rfl w1.heap.size (.slice va k vc) M rfl (K8 HO.out ((jA.refl _).alloc _)) _ [X] rfl (fA (fun x=>.int .u64 x) _ _ X) (fun n c e=>by cases e) (by have:=HLM.out;simp only[List.length_cons,List.length_nil];omega) (Nat.le_trans HG.out.size (by simp)) ?_;intro v' w3 j3 hgr hnx;have HG3:Hid (jA w1 w3):=fB (K8 HO.out ((jA.refl _).alloc _)) (HG.out.alloc _) hgr;have HO3:=zh j3;obtain⟨va2,vc2,hvf2,hz1,hz2,hz3⟩:=j7 j3;rw[List.length_append,HLM.out] at hvf2;subst hvf2;clear j3 hgr hnx hz1 hz2 hz3)
    go_roundw
    case rel=>
     refine⟨k+1,by omega,by omega,by go_num,?_⟩
     show _∧_
     rw[HSN.out,HX.out]
     exact⟨HO3.out,HG3.out⟩
    case measure=>simp[intOf];omega
   ·obtain⟨va,vc,hvf,hz1,hz2,hz3⟩:=j7 HW.out.1
    have hlm:((ll.take k).map (fun (v:Int)=>v % 18446744073709551616)).length=k:=by rw[List.length_map,List.length_take];omega
    rw[hlm] at hvf
    subst hvf
    clear hz1 hz2 hz3 hlm
    have HT:Hid ((ll.take k).map (fun (v:Int)=>v % 18446744073709551616)=MR):=by show _=_;rw[← HMR.out];congr 1;rw[List.take_eq_take_iff];omega
    have hf:=HW.out
    rw[HT.out] at hf
    have HF:=zh hf
    clear HW hf
    have h4i:¬(k:Int) < 40:=by omega
    have hki:(k:Int) < ll.length:=by omega
    go_wp2
    go_ret
    exact⟨.slice va k vc,rfl,JF HF.out.1 HG0.out.size,HG0.out.trans HF.out.2⟩
  ·obtain⟨va,vc,hvf,hz1,hz2,hz3⟩:=j7 HW.out.1
   have hlm:((ll.take k).map (fun (v:Int)=>v % 18446744073709551616)).length=k:=by rw[List.length_map,List.length_take];omega
   rw[hlm] at hvf
   subst hvf
   clear hz1 hz2 hz3 hlm
   have HT:Hid ((ll.take k).map (fun (v:Int)=>v % 18446744073709551616)=MR):=by show _=_;rw[← HMR.out];congr 1;rw[List.take_eq_take_iff];omega
   have hf:=HW.out
   rw[HT.out] at hf
   have HF:=zh hf
   clear HW hf
   have hki:¬(k:Int) < ll.length:=by omega
   go_wp2
   go_ret
   exact⟨.slice va k vc,rfl,JF HF.out.1 HG0.out.size,HG0.out.trans HF.out.2⟩
theorem lS (kd st nn uu:Int) (ss:ByteArray) (la:Option Addr) (lc:Nat) (ll:List Int) (ta:Option Addr) (tc:Nat) (tt:List ByteArray) (w:World) (hL:v6 w (.slice la ll.length lc) ll) (hr:∀x∈ll,-9223372036854775808≤x∧x≤9223372036854775807):Calls prog 142 #[.agg #[.int .i64 kd,.int .i64 st,.int .i64 nn,.int .u64 uu,.string ss,.slice la ll.length lc,.slice ta tt.length tc]] w fun r w'=>∃v',r=.returned v'∧w'.ownsRow w.heap.size 4 1 v' ((ll.take 40).map (fun (v:Int)=>decide (v % 2≠0))).length (((ll.take 40).map (fun (v:Int)=>decide (v % 2≠0))).map fun x=>.bool x)∧jA w w':=by
 obtain⟨_,hlc,hlk,kQ,j2⟩:=QC hL
 have HC:=zh j2
 have HR:=zh hr
 unfold k9 at hlk
 have hll:ll.length≤9223372036854775807:=by omega
 have jJ:=heap_alloc_new w (.cells #[.int .i64 kd,.int .i64 st,.int .i64 nn,.int .u64 uu,.string ss,.slice la ll.length lc,.slice ta tt.length tc] 95)
 have HRW:=zh jJ
 have c5:=jI jJ 5 _ rfl
 have HG0:=zh ((jA.refl w).alloc (.cells #[.int .i64 kd,.int .i64 st,.int .i64 nn,.int .u64 uu,.string ss,.slice la ll.length lc,.slice ta tt.length tc] 95))
 clear hL j2 kQ hr jJ
 obtain⟨MR,hMR⟩:∃MR,(ll.take 40).map (fun (v:Int)=>decide (v % 2≠0))=MR:=⟨_,rfl⟩
 rw[hMR]
 have HMR:=zh hMR
 clear hMR
 go_enter func142,ntmps142
 go_wp2_with fail
 generalize (w.alloc (.cells #[.int .i64 kd,.int .i64 st,.int .i64 nn,.int .u64 uu,.string ss,.slice la ll.length lc,.slice ta tt.length tc] 95))=w1 at *
 clear c5
 go_loopw [3,4] (fun v i wr=>∃k:Nat,k≤ll.length∧k≤40∧i=.int .i64 k∧Hid (wr.ownsRow w1.heap.size 4 1 v ((ll.take k).map (fun (v:Int)=>decide (v % 2≠0))).length (((ll.take k).map (fun (v:Int)=>decide (v % 2≠0))).map fun x=>.bool x)∧jA w1 wr)) (fun _ i _=>ll.length - (intOf i).toNat)
 case atStart=>exact⟨0,Nat.zero_le _,by omega,rfl,by
  show _∧_
  exact⟨World.ownsRow_nil _ _ _ _,jA.refl _⟩⟩
 case round=>
  obtain⟨k,hk,hk2,rfl,HW⟩:=hrel
  have c5:=jI (HW.out.2.heap HRW.out) 5 _ rfl
  by_cases hlt:k < ll.length
  ·by_cases h40:k < 40
   ·obtain⟨x,hx⟩:∃x,ll[k]? = some x:=⟨_,List.getElem?_eq_getElem hlt⟩
    have HSN:Hid ((ll.take (k+1)).map (fun (v:Int)=>decide (v % 2≠0))=(ll.take k).map (fun (v:Int)=>decide (v % 2≠0))++[((fun (v:Int)=>decide (v % 2≠0))) x]):=by show _=_;rw[List.take_add_one,hx];simp
    have HRX:=zh (HR.out x (List.mem_of_getElem? hx))
    have hxm:=oJ x
    obtain⟨b,off,rfl,c0⟩:=HC.out k x hx
    have d0:=HW.out.2.cell (HG0.out.cell c0)
    have hki:(k:Int) < ll.length:=by omega
    have h4i:(k:Int) < 40:=by omega
    have HO:=zh HW.out.1
    have HG:=zh HW.out.2
    have hlm:((ll.take k).map (fun (v:Int)=>decide (v % 2≠0))).length=k:=by rw[List.length_map,List.length_take];omega
    generalize (ll.take k).map (fun (v:Int)=>decide (v % 2≠0))=M at *
    have HLM:=zh hlm
    obtain⟨va,vc,hvf,hz1,hz2,hz3⟩:=j7 HO.out
    rw[hlm] at hvf
    subst hvf
    obtain⟨X,hX⟩:∃X,((fun (v:Int)=>decide (v % 2≠0))) x=X:=⟨_,rfl⟩
    have HX:=zh hX
    clear c0 hx HW hz1 hz2 hz3 hlm
    replace hxm:(x.tmod 2 != 0)=X:=by rw[hxm];exact hX
    clear hX
    go_wp2_with (at_builtin;refine J5 (fun x=>.bool x) (fun _=>rfl) 182 4 (.bool false) 1 underlying182 rA rfl (by decide) rfl _ _ rfl w1.heap.size (.slice va k vc) M rfl (K8 HO.out ((jA.refl _).alloc _)) _ [X] rfl (fA (fun x=>.bool x) _ _ X) (fun n c e=>by cases e) (by have:=HLM.out;simp only[List.length_cons,List.length_nil];omega) (Nat.le_trans HG.out.size (by simp)) ?_;intro v' w3 j3 hgr hnx;have HG3:Hid (jA w1 w3):=fB (K8 HO.out ((jA.refl _).alloc _)) (HG.out.alloc _) hgr;have HO3:=zh j3;obtain⟨va2,vc2,hvf2,hz1,hz2,hz3⟩:=j7 j3;rw[List.length_append,HLM.out] at hvf2;subst hvf2;clear j3 hgr hnx hz1 hz2 hz3)
    go_roundw
    case rel=>
     refine⟨k+1,by omega,by omega,by go_num,?_⟩
     show _∧_
     rw[HSN.out,HX.out]
     exact⟨HO3.out,HG3.out⟩
    case measure=>simp[intOf];omega
   ·obtain⟨va,vc,hvf,hz1,hz2,hz3⟩:=j7 HW.out.1
    have hlm:((ll.take k).map (fun (v:Int)=>decide (v % 2≠0))).length=k:=by rw[List.length_map,List.length_take];omega
    rw[hlm] at hvf
    subst hvf
    clear hz1 hz2 hz3 hlm
    have HT:Hid ((ll.take k).map (fun (v:Int)=>decide (v % 2≠0))=MR):=by show _=_;rw[← HMR.out];congr 1;rw[List.take_eq_take_iff];omega
    have hf:=HW.out
    rw[HT.out] at hf
    have HF:=zh hf
    clear HW hf
    have h4i:¬(k:Int) < 40:=by omega
    have hki:(k:Int) < ll.length:=by omega
    go_wp2
    go_ret
    exact⟨.slice va k vc,rfl,JF HF.out.1 HG0.out.size,HG0.out.trans HF.out.2⟩
  ·obtain⟨va,vc,hvf,hz1,hz2,hz3⟩:=j7 HW.out.1
   have hlm:((ll.take k).map (fun (v:Int)=>decide (v % 2≠0))).length=k:=by rw[List.length_map,List.length_take];omega
   rw[hlm] at hvf
   subst hvf
   clear hz1 hz2 hz3 hlm
   have HT:Hid ((ll.take k).map (fun (v:Int)=>decide (v % 2≠0))=MR):=by show _=_;rw[← HMR.out];congr 1;rw[List.take_eq_take_iff];omega
   have hf:=HW.out
   rw[HT.out] at hf
   have HF:=zh hf
   clear HW hf
   have hki:¬(k:Int) < ll.length:=by omega
   go_wp2
   go_ret
   exact⟨.slice va k vc,rfl,JF HF.out.1 HG0.out.size,HG0.out.trans HF.out.2⟩
theorem aB (kd st nn uu:Int) (ss:ByteArray) (la:Option Addr) (lc:Nat) (ll:List Int) (ta:Option Addr) (tc:Nat) (tt:List ByteArray) (many:Nat) (w:World) (hm:many≤1048575) (hu:0≤uu):Calls prog 146 #[.agg #[.int .i64 kd,.int .i64 st,.int .i64 nn,.int .u64 uu,.string ss,.slice la ll.length lc,.slice ta tt.length tc],.int .i64 many] w fun r w'=>r=.returned (.int .i64 (if uu % 8=7 then st else st % (many+1)))∧jA w w':=by
 have jJ:=heap_alloc_new w (.cells #[.int .i64 kd,.int .i64 st,.int .i64 nn,.int .u64 uu,.string ss,.slice la ll.length lc,.slice ta tt.length tc] 95)
 have c1:=jI jJ 1 _ rfl
 have c3:=jI jJ 3 _ rfl
 have HG0:=zh ((jA.refl w).alloc (.cells #[.int .i64 kd,.int .i64 st,.int .i64 nn,.int .u64 uu,.string ss,.slice la ll.length lc,.slice ta tt.length tc] 95))
 clear jJ
 have hum:uu.tmod 8=uu % 8:=Int.tmod_eq_emod_of_nonneg hu
 have hwm:IntKind.i64.wrap ((many:Int)+1)=(many:Int)+1:=by rw[IntKind.wrap_i64];omega
 by_cases h7:uu % 8=7
 ·obtain⟨V,hV⟩:∃V,(if uu % 8=7 then st else st % ((many:Int)+1))=V:=⟨_,rfl⟩
  rw[hV]
  rw[if_pos h7] at hV
  have HV:=zh hV
  clear hV
  rw[h7] at hum
  go_enter func146,ntmps146
  go_wp2
  go_ret
  exact⟨qA HV.out,HG0.out⟩
 ·obtain⟨V,hV⟩:∃V,(if uu % 8=7 then st else st % ((many:Int)+1))=V:=⟨_,rfl⟩
  rw[hV]
  rw[if_neg h7] at hV
  have HV:=zh hV
  clear hV
  have hne:(uu.tmod 8 == 7)=false:=by rw[hum];simpa using h7
  obtain⟨um,hun⟩:∃um,uu.tmod 8=um:=⟨_,rfl⟩
  rw[hun] at hne
  have hne2:¬um=7:=by simpa using hne
  clear hum h7
  go_enter func146,ntmps146
  go_wp2_with fail
  refine (bM st ((many:Int)+1) _ (by omega) (by omega)).mono ?_
  rintro r w2 ⟨rfl,hw2⟩
  have HW2:=zh hw2
  clear hw2
  go_wp2
  go_ret
  exact⟨qA HV.out,by rw[HW2.out];exact HG0.out⟩
section
variable {B:Nat} {q:kN} {most flags:Int} {κ κ0 κ1:Nat→Nat} {x y:BS} {w w' w0 w1 w2:World} {d:List UInt8} {v:Value}
theorem j1.finX (h:j1 B q most flags κ y w w'):cM B q most flags w κ y (.slice none 0 0) [] w':=by
 obtain⟨κ1,k1,k2⟩:=h
 exact⟨κ1,k1,k2,World.ownsRow_nil _ _ _ _,fun g e=>by cases e⟩
theorem cM.after (hg:jA w w1) (h:cM B q most flags w1 κ y v d w2):cM B q most flags w κ y v d w2:=by
 obtain⟨κ1,k1,k2,k3,k4⟩:=h
 exact⟨κ1,k1,(Tn.of_grew hg).trans k2,JF k3 hg.size,k4⟩
theorem lT {te:TypeId} {n:Nat} {xs:List Value} (h:Bd B q most flags κ x w) (ho:w'.ownsRow w.heap.size te 1 v n xs):zW κ w' v:=fun ad m c e=>⟨(JY ho ad m c e).2,Decidable.byContradiction fun hk=>by have h1:=(h.lt _ hk).2;have h2:=(JY ho ad m c e).1;omega⟩
end
theorem tE {B:Nat} {q:kN} {most flags:Int} {κ:Nat→Nat} {x:BS} {w:World} (kd st nn uu:Int) (ss:ByteArray) (la:Option Addr) (lc:Nat) (ll:List Int) (ta:Option Addr) (tc:Nat) (tt:List ByteArray) (hL:v6 w (.slice la ll.length lc) ll) (hT:kO w (.slice ta tt.length tc) tt) (hn : -9223372036854775808≤nn∧nn≤9223372036854775807) (hu:0≤uu∧uu≤18446744073709551615) (hs:k9 ss.size) (hr:∀x∈ll,-9223372036854775808≤x∧x≤9223372036854775807) (hg:x.Good) (h:Bd B q most flags κ x w) :
 Calls prog 102 #[jF q.p,.agg #[.int .i64 kd,.int .i64 st,.int .i64 nn,.int .u64 uu,.string ss,.slice la ll.length lc,.slice ta tt.length tc]] w fun r w'=>∃v',r=.returned (.tuple #[v',.int .i64 (doB most flags ⟨kd,st,nn,uu,ss,ll,tt⟩ x).1.2])∧cM B q most flags w κ (doB most flags ⟨kd,st,nn,uu,ss,ll,tt⟩ x).2 v' (doB most flags ⟨kd,st,nn,uu,ss,ll,tt⟩ x).1.1 w':=by
 have HB:=zh h
 have HG:=zh hg
 have HN:=zh hn
 have HU:=zh hu
 have HR:=zh hr
 have HS:=zh hs
 have HSZ:Hid ((yP ss 60).size≤1048576):=by show _≤_;rw[vP];omega
 have jJ:=heap_alloc_new w (.cells #[.int .i64 kd,.int .i64 st,.int .i64 nn,.int .u64 uu,.string ss,.slice la ll.length lc,.slice ta tt.length tc] 95)
 have HGA:=zh ((jA.refl w).alloc (.cells #[.int .i64 kd,.int .i64 st,.int .i64 nn,.int .u64 uu,.string ss,.slice la ll.length lc,.slice ta tt.length tc] 95))
 have HL1:=zh (hL.grew HGA.out)
 have HT1:=zh (kO.grew hT HGA.out)
 have HE1:Hid (Env B q most flags w κ [(w.heap.size,Obj.cells #[.int .i64 kd,.int .i64 st,.int .i64 nn,.int .u64 uu,.string ss,.slice la ll.length lc,.slice ta tt.length tc] 95 (0,0))] x (w.alloc (.cells #[.int .i64 kd,.int .i64 st,.int .i64 nn,.int .u64 uu,.string ss,.slice la ll.length lc,.slice ta tt.length tc] 95))):=(Env.start h).add _
 have c0:=jI jJ 0 _ rfl
 have c1:=jI jJ 1 _ rfl
 have c2:=jI jJ 2 _ rfl
 have c3:=jI jJ 3 _ rfl
 have c4:=jI jJ 4 _ rfl
 have c5:=jI jJ 5 _ rfl
 have c6:=jI jJ 6 _ rfl
 obtain⟨ob,hob⟩:∃b,decide (nn % 2≠0)=b:=⟨_,rfl⟩
 have hodd:=oJ nn
 rw[hob] at hodd
 have HOB:=zh hob
 obtain⟨m,hm⟩:∃m,kd % 18=m:=⟨_,rfl⟩
 have hm0:0≤m∧m < 18:=by omega
 have HKD:=zh hm
 have HBR:Hid (∀w,Calls prog 8 #[.int .i64 kd,.int .i64 18] w fun r w'=>r=.returned (.int .i64 m)∧w'=w):=fun w=>by have h:=bM kd 18 w (by decide) (by decide);rw[hm] at h;exact h
 have HM:=zh (List.mem_cons_self:(w.heap.size,Obj.cells #[.int .i64 kd,.int .i64 st,.int .i64 nn,.int .u64 uu,.string ss,.slice la ll.length lc,.slice ta tt.length tc] 95 (0,0))∈[(w.heap.size,Obj.cells #[.int .i64 kd,.int .i64 st,.int .i64 nn,.int .u64 uu,.string ss,.slice la ll.length lc,.slice ta tt.length tc] 95 (0,0))])
 clear h hg hn hu hr hs hL hT jJ hob hm
 go_enter func102,ntmps102
 go_wp2_with fail
 generalize (w.alloc (.cells #[.int .i64 kd,.int .i64 st,.int .i64 nn,.int .u64 uu,.string ss,.slice la ll.length lc,.slice ta tt.length tc] 95))=w1 at *
 refine (YX w1 ss 60 HS.out (by decide)).mono ?_
 rintro r w9 ⟨rfl,hw9⟩
 obtain rfl:w1=w9:=hw9
 go_wp2_with fail
 refine (HBR.out w1).mono ?_
 rintro r w9 ⟨rfl,hw9⟩
 obtain rfl:w1=w9:=hw9.symm
 obtain⟨sh,hsh⟩:∃sh,yP ss 60=sh:=⟨_,rfl⟩
 rw[hsh] at HSZ⊢
 have HSH:=zh hsh
 clear hsh HS
 clear HBR
 obtain rfl|rfl|rfl|rfl|rfl|rfl|rfl|rfl|rfl|rfl|rfl|rfl|rfl|rfl|rfl|rfl|rfl|rfl:m=0∨m=1∨m=2∨m=3∨m=4∨m=5∨m=6∨m=7∨m=8∨m=9∨m=10∨m=11∨m=12∨m=13∨m=14∨m=15∨m=16∨m=17:=by omega
 ·have HD:Hid (doB most flags ⟨kd,st,nn,uu,ss,ll,tt⟩ x=(z6,x.inline (0,1,0))):=by show _=_;unfold doB;dsimp only;rw[HKD.out];rfl
  go_wp2_with fail
  refine (pJ (HB.out.grew HGA.out)).mono ?_
  rintro r w2 ⟨rfl,ht⟩
  have HT2:=zh (ht.after HGA.out)
  clear ht
  go_wp2
  go_ret2
  exact⟨.slice none 0 0,by rw[HD.out];rfl,by rw[HD.out];exact HT2.out.finX⟩
 ·have HD:Hid (doB most flags ⟨kd,st,nn,uu,ss,ll,tt⟩ x=(z6,x.inline (zU ob))):=by show _=_;unfold doB;dsimp only;rw[HKD.out,HOB.out];rfl
  go_wp2_with fail
  refine (pK ob (HB.out.grew HGA.out)).mono ?_
  rintro r w2 ⟨rfl,ht⟩
  have HT2:=zh (ht.after HGA.out)
  clear ht
  go_wp2
  go_ret2
  exact⟨.slice none 0 0,by rw[HD.out];rfl,by rw[HD.out];exact HT2.out.finX⟩
 ·have HD:Hid (doB most flags ⟨kd,st,nn,uu,ss,ll,tt⟩ x=(z6,x.inline (y4 nn))):=by show _=_;unfold doB;dsimp only;rw[HKD.out];rfl
  go_wp2_with fail
  refine (sK nn HN.out.1 HN.out.2 (HB.out.grew HGA.out)).mono ?_
  rintro r w2 ⟨rfl,ht⟩
  have HT2:=zh (ht.after HGA.out)
  clear ht
  go_wp2
  go_ret2
  exact⟨.slice none 0 0,by rw[HD.out];rfl,by rw[HD.out];exact HT2.out.finX⟩
 ·have HD:Hid (doB most flags ⟨kd,st,nn,uu,ss,ll,tt⟩ x=(z6,x.inline (yR uu))):=by show _=_;unfold doB;dsimp only;rw[HKD.out];rfl
  go_wp2_with fail
  refine (eK uu HU.out.1 HU.out.2 (HB.out.grew HGA.out)).mono ?_
  rintro r w2 ⟨rfl,ht⟩
  have HT2:=zh (ht.after HGA.out)
  clear ht
  go_wp2
  go_ret2
  exact⟨.slice none 0 0,by rw[HD.out];rfl,by rw[HD.out];exact HT2.out.finX⟩
 ·have HD:Hid (doB most flags ⟨kd,st,nn,uu,ss,ll,tt⟩ x=(z6,x.apart most 6 (y4 nn))):=by show _=_;unfold doB;dsimp only;rw[HKD.out];rfl
  go_wp2_with fail
  refine (iW nn HN.out.1 HN.out.2 (HB.out.grew HGA.out)).mono ?_
  rintro r w2 ⟨rfl,ht⟩
  have HT2:=zh (ht.after HGA.out)
  clear ht
  go_wp2
  go_ret2
  exact⟨.slice none 0 0,by rw[HD.out];rfl,by rw[HD.out];exact HT2.out.finX⟩
 ·have HD:Hid (doB most flags ⟨kd,st,nn,uu,ss,ll,tt⟩ x=(z6,x.apart most 7 (yR uu))):=by show _=_;unfold doB;dsimp only;rw[HKD.out];rfl
  go_wp2_with fail
  refine (f8 uu HU.out.1 HU.out.2 (HB.out.grew HGA.out)).mono ?_
  rintro r w2 ⟨rfl,ht⟩
  have HT2:=zh (ht.after HGA.out)
  clear ht
  go_wp2
  go_ret2
  exact⟨.slice none 0 0,by rw[HD.out];rfl,by rw[HD.out];exact HT2.out.finX⟩
 ·have HD:Hid (doB most flags ⟨kd,st,nn,uu,ss,ll,tt⟩ x=(z6,x.key most (onF flags 1) sh)):=by show _=_;unfold doB;dsimp only;rw[HKD.out,HSH.out];rfl
  go_wp2_with fail
  refine (iZ sh HSZ.out HG.out (HB.out.grew HGA.out)).mono ?_
  rintro r w2 ⟨rfl,ht⟩
  have HT2:=zh (ht.after HGA.out)
  clear ht
  go_wp2
  go_ret2
  exact⟨.slice none 0 0,by rw[HD.out];rfl,by rw[HD.out];exact HT2.out.finX⟩
 ·have HD:Hid (doB most flags ⟨kd,st,nn,uu,ss,ll,tt⟩ x=(z6,x.str most (onF flags 2) sh)):=by show _=_;unfold doB;dsimp only;rw[HKD.out,HSH.out];rfl
  go_wp2_with fail
  refine (sN sh HSZ.out HG.out (HB.out.grew HGA.out)).mono ?_
  rintro r w2 ⟨rfl,ht⟩
  have HT2:=zh (ht.after HGA.out)
  clear ht
  go_wp2
  go_ret2
  exact⟨.slice none 0 0,by rw[HD.out];rfl,by rw[HD.out];exact HT2.out.finX⟩
 ·have HD:Hid (doB most flags ⟨kd,st,nn,uu,ss,ll,tt⟩ x=(z6,x.blob most sh)):=by show _=_;unfold doB;dsimp only;rw[HKD.out,HSH.out];rfl
  go_wp2_with fail
  refine (pM sh HSZ.out HG.out (HB.out.grew HGA.out)).mono ?_
  rintro r w2 ⟨rfl,ht⟩
  have HT2:=zh (ht.after HGA.out)
  clear ht
  go_wp2
  go_ret2
  exact⟨.slice none 0 0,by rw[HD.out];rfl,by rw[HD.out];exact HT2.out.finX⟩
 ·have HD:Hid (doB most flags ⟨kd,st,nn,uu,ss,ll,tt⟩ x=(z6,x.vector most 1 0 ((ll.take 40).map y4))):=by show _=_;unfold doB;dsimp only;rw[HKD.out];rfl
  go_wp2_with fail
  refine (cO kd st nn uu ss la lc ll ta tc tt w1 HL1.out).mono ?_
  rintro r w2 ⟨vl,rfl,ho,hg2⟩
  obtain⟨va,vc,rfl,hz1,hz2,hz3⟩:=j7 ho
  have HO:=zh ho
  have HG2:=zh (HGA.out.trans hg2)
  have HLN:Hid (((ll.take 40)).length≤1048576):=by show _≤_;simp only[List.length_map,List.length_take];omega
  have HRG:Hid (∀x∈(ll.take 40),-9223372036854775808≤x∧x≤9223372036854775807):=fun x hx=>HR.out x (List.mem_of_mem_take hx)
  clear ho hg2 hz1 hz2 hz3 c0 c1 c2 c3 c4 c5 c6
  obtain⟨nl,hnl⟩:∃n,((ll.take 40)).length=n:=⟨_,rfl⟩
  rw[hnl]
  have HNL:=zh hnl
  clear hnl
  go_wp2_with fail
  refine (pN (ll.take 40) (.slice va nl vc) (by rw[← HNL.out];exact qD HO.out) HRG.out HLN.out HG.out (HB.out.grew HG2.out)).mono ?_
  rintro r w3 ⟨rfl,ht⟩
  have HT2:=zh (ht.after HG2.out)
  clear ht
  go_wp2
  go_ret2
  exact⟨.slice none 0 0,by rw[HD.out];rfl,by rw[HD.out];exact HT2.out.finX⟩
 ·have HD:Hid (doB most flags ⟨kd,st,nn,uu,ss,ll,tt⟩ x=(z6,x.vector most 2 0 (((ll.take 40).map fun (v:Int)=>v % 18446744073709551616).map yR))):=by show _=_;unfold doB;dsimp only;rw[HKD.out];rfl
  go_wp2_with fail
  refine (aA kd st nn uu ss la lc ll ta tc tt w1 HL1.out HR.out).mono ?_
  rintro r w2 ⟨vl,rfl,ho,hg2⟩
  obtain⟨va,vc,rfl,hz1,hz2,hz3⟩:=j7 ho
  have HO:=zh ho
  have HG2:=zh (HGA.out.trans hg2)
  have HLN:Hid ((((ll.take 40).map fun (v:Int)=>v % 18446744073709551616)).length≤1048576):=by show _≤_;simp only[List.length_map,List.length_take];omega
  have HRG:Hid (∀x∈((ll.take 40).map fun (v:Int)=>v % 18446744073709551616),0≤x∧x≤18446744073709551615):=fun x hx=>by
   obtain⟨z,_,rfl⟩:=List.mem_map.1 hx
   omega
  clear ho hg2 hz1 hz2 hz3 c0 c1 c2 c3 c4 c5 c6
  obtain⟨nl,hnl⟩:∃n,(((ll.take 40).map fun (v:Int)=>v % 18446744073709551616)).length=n:=⟨_,rfl⟩
  rw[hnl]
  have HNL:=zh hnl
  clear hnl
  go_wp2_with fail
  refine (mW ((ll.take 40).map fun (v:Int)=>v % 18446744073709551616) (.slice va nl vc) (by rw[← HNL.out];exact qD HO.out) HRG.out HLN.out HG.out (HB.out.grew HG2.out)).mono ?_
  rintro r w3 ⟨rfl,ht⟩
  have HT2:=zh (ht.after HG2.out)
  clear ht
  go_wp2
  go_ret2
  exact⟨.slice none 0 0,by rw[HD.out];rfl,by rw[HD.out];exact HT2.out.finX⟩
 ·have HD:Hid (doB most flags ⟨kd,st,nn,uu,ss,ll,tt⟩ x=(z6,x.vector most 26 0 (((ll.take 40).map fun (v:Int)=>decide (v % 2≠0)).map zU))):=by show _=_;unfold doB;dsimp only;rw[HKD.out];rfl
  go_wp2_with fail
  refine (lS kd st nn uu ss la lc ll ta tc tt w1 HL1.out HR.out).mono ?_
  rintro r w2 ⟨vl,rfl,ho,hg2⟩
  obtain⟨va,vc,rfl,hz1,hz2,hz3⟩:=j7 ho
  have HO:=zh ho
  have HG2:=zh (HGA.out.trans hg2)
  have HLN:Hid ((((ll.take 40).map fun (v:Int)=>decide (v % 2≠0))).length≤1048576):=by show _≤_;simp only[List.length_map,List.length_take];omega
  have HRG:Hid (∀x∈((ll.take 40).map fun (v:Int)=>decide (v % 2≠0)),True):=fun x hx=>trivial
  clear ho hg2 hz1 hz2 hz3 c0 c1 c2 c3 c4 c5 c6
  obtain⟨nl,hnl⟩:∃n,(((ll.take 40).map fun (v:Int)=>decide (v % 2≠0))).length=n:=⟨_,rfl⟩
  rw[hnl]
  have HNL:=zh hnl
  clear hnl
  go_wp2_with fail
  refine (mX ((ll.take 40).map fun (v:Int)=>decide (v % 2≠0)) (.slice va nl vc) (by rw[← HNL.out];exact qD HO.out) HRG.out HLN.out HG.out (HB.out.grew HG2.out)).mono ?_
  rintro r w3 ⟨rfl,ht⟩
  have HT2:=zh (ht.after HG2.out)
  clear ht
  go_wp2
  go_ret2
  exact⟨.slice none 0 0,by rw[HD.out];rfl,by rw[HD.out];exact HT2.out.finX⟩
 ·have HD:Hid (doB most flags ⟨kd,st,nn,uu,ss,ll,tt⟩ x=(z6,x.keyVec most (onF flags 1) (zQ tt 20 60))):=by show _=_;unfold doB;dsimp only;rw[HKD.out];rfl
  go_wp2_with fail
  refine (oR 20 60 _ tt w1 HT1.out (by decide) (by decide)).mono ?_
  rintro r w2 ⟨vl,rfl,ho,hg2⟩
  obtain⟨va,vc,rfl,hz1,hz2,hz3⟩:=j7 ho
  have HO:Hid (w2.ownsRow w1.heap.size 9 1 (.slice va (zQ tt 20 60).length vc) (zQ tt 20 60).length ((zQ tt 20 60).map fun x=>.string x)):=ho
  have HG2:=zh (HGA.out.trans hg2)
  have HG12:=zh hg2
  have HLN:Hid ((zQ tt 20 60).length≤1048576):=by show _≤_;rw[YM];omega
  have HKS:Hid (∀k∈(zQ tt 20 60),k.size≤1048576):=fun k hk=>by
   unfold zQ at hk
   obtain⟨z,_,rfl⟩:=List.mem_map.1 hk
   rw[vP]
   omega
  clear ho hg2 hz1 hz2 hz3 c0 c1 c2 c3 c4 c5 c6
  obtain⟨nl,hnl⟩:∃n,(zQ tt 20 60).length=n:=⟨_,rfl⟩
  rw[hnl]
  have HNL:=zh hnl
  clear hnl
  go_wp2_with fail
  refine (by have h:=pP va vc (zQ tt 20 60) (qD HO.out) (lT (HB.out.grew HGA.out) HO.out) HKS.out HLN.out HG.out (HB.out.grew HG2.out);rw[HNL.out] at h;exact h:Calls prog 20 #[jF q.p,.slice va nl vc] w2 fun r w'=>r=.returned (.tuple #[])∧j1 B q most flags κ (x.keyVec most (onF flags 1) (zQ tt 20 60)) w2 w').mono ?_
  rintro r w3 ⟨rfl,ht⟩
  have HT2:=zh (ht.after HG2.out)
  clear ht
  go_wp2
  go_ret2
  exact⟨.slice none 0 0,by rw[HD.out];rfl,by rw[HD.out];exact HT2.out.finX⟩
 ·have HD:Hid (doB most flags ⟨kd,st,nn,uu,ss,ll,tt⟩ x=(z6,x.fixed most 1 ((ll.take 40).map y4))):=by show _=_;unfold doB;dsimp only;rw[HKD.out];rfl
  go_wp2_with fail
  refine (cO kd st nn uu ss la lc ll ta tc tt w1 HL1.out).mono ?_
  rintro r w2 ⟨vl,rfl,ho,hg2⟩
  obtain⟨va,vc,rfl,hz1,hz2,hz3⟩:=j7 ho
  have HO:=zh ho
  have HG2:=zh (HGA.out.trans hg2)
  have HLN:Hid (((ll.take 40)).length≤1048576):=by show _≤_;simp only[List.length_map,List.length_take];omega
  have HRG:Hid (∀x∈(ll.take 40),-9223372036854775808≤x∧x≤9223372036854775807):=fun x hx=>HR.out x (List.mem_of_mem_take hx)
  clear ho hg2 hz1 hz2 hz3 c0 c1 c2 c3 c4 c5 c6
  obtain⟨nl,hnl⟩:∃n,((ll.take 40)).length=n:=⟨_,rfl⟩
  rw[hnl]
  have HNL:=zh hnl
  clear hnl
  go_wp2_with fail
  refine (f9 (ll.take 40) (.slice va nl vc) (by rw[← HNL.out];exact qD HO.out) HRG.out HLN.out HG.out (HB.out.grew HG2.out)).mono ?_
  rintro r w3 ⟨rfl,ht⟩
  have HT2:=zh (ht.after HG2.out)
  clear ht
  go_wp2
  go_ret2
  exact⟨.slice none 0 0,by rw[HD.out];rfl,by rw[HD.out];exact HT2.out.finX⟩
 ·have HD:Hid (doB most flags ⟨kd,st,nn,uu,ss,ll,tt⟩ x=(z6,x.fixed most 2 (((ll.take 40).map fun (v:Int)=>v % 18446744073709551616).map yR))):=by show _=_;unfold doB;dsimp only;rw[HKD.out];rfl
  go_wp2_with fail
  refine (aA kd st nn uu ss la lc ll ta tc tt w1 HL1.out HR.out).mono ?_
  rintro r w2 ⟨vl,rfl,ho,hg2⟩
  obtain⟨va,vc,rfl,hz1,hz2,hz3⟩:=j7 ho
  have HO:=zh ho
  have HG2:=zh (HGA.out.trans hg2)
  have HLN:Hid ((((ll.take 40).map fun (v:Int)=>v % 18446744073709551616)).length≤1048576):=by show _≤_;simp only[List.length_map,List.length_take];omega
  have HRG:Hid (∀x∈((ll.take 40).map fun (v:Int)=>v % 18446744073709551616),0≤x∧x≤18446744073709551615):=fun x hx=>by
   obtain⟨z,_,rfl⟩:=List.mem_map.1 hx
   omega
  clear ho hg2 hz1 hz2 hz3 c0 c1 c2 c3 c4 c5 c6
  obtain⟨nl,hnl⟩:∃n,(((ll.take 40).map fun (v:Int)=>v % 18446744073709551616)).length=n:=⟨_,rfl⟩
  rw[hnl]
  have HNL:=zh hnl
  clear hnl
  go_wp2_with fail
  refine (cZ ((ll.take 40).map fun (v:Int)=>v % 18446744073709551616) (.slice va nl vc) (by rw[← HNL.out];exact qD HO.out) HRG.out HLN.out HG.out (HB.out.grew HG2.out)).mono ?_
  rintro r w3 ⟨rfl,ht⟩
  have HT2:=zh (ht.after HG2.out)
  clear ht
  go_wp2
  go_ret2
  exact⟨.slice none 0 0,by rw[HD.out];rfl,by rw[HD.out];exact HT2.out.finX⟩
 ·have HD:Hid (doB most flags ⟨kd,st,nn,uu,ss,ll,tt⟩ x=(z6,x.endVec most (DoB.from_ ⟨kd,st,nn,uu,ss,ll,tt⟩ x.stk.length))):=by show _=_;unfold doB;dsimp only;rw[HKD.out];rfl
  have HSL:Hid (x.stk.length≤65536):=HB.out.ok.stk
  have HST:Hid (∀w,Calls prog 146 #[.agg #[.int .i64 kd,.int .i64 st,.int .i64 nn,.int .u64 uu,.string ss,.slice la ll.length lc,.slice ta tt.length tc],.int .i64 x.stk.length] w fun r w'=>r=.returned (.int .i64 (DoB.from_ ⟨kd,st,nn,uu,ss,ll,tt⟩ x.stk.length))∧jA w w'):=fun w=>aB kd st nn uu ss la lc ll ta tc tt x.stk.length w (by have:=HSL.out;omega) HU.out.1
  generalize DoB.from_ ⟨kd,st,nn,uu,ss,ll,tt⟩ x.stk.length=fr at *
  go_wp2_with fail
  refine jM [5] (yD B q most flags w κ [(w.heap.size,Obj.cells #[.int .i64 kd,.int .i64 st,.int .i64 nn,.int .u64 uu,.string ss,.slice la ll.length lc,.slice ta tt.length tc] 95 (0,0))] [x] (x.endVec most fr)) (fun _ w w'=>jA w w') ((fun p (_:Nat→Value)=>(fun _ _ _=>True) p)) [[],[],[],[2],[1,2,3],[0,1,2,3,4]] [[(108,1),(109,2),(110,3),(111,4)],[(107,0),(109,2),(110,3)],[(107,0),(108,1)],[(107,0),(108,1),(109,2)],[(107,0),(108,1),(109,2),(110,3)],[(107,0),(108,1),(109,2),(110,3),(111,4)]] [(107,0),(108,1),(109,2),(110,3),(111,4),(112,5)]
   [IsP (jF q.p),IsP (.agg #[.int .i64 kd,.int .i64 st,.int .i64 nn,.int .u64 uu,.string ss,.slice la ll.length lc,.slice ta tt.length tc]),IsP (jF q.p),IsP (.int .i64 x.stk.length),IsP (.int .i64 fr),IsP (.tuple #[])]
   zk (yD.grew) (HE1.out.grew (jA.refl _).drew) zk zk ⟨jC,jC,jC,jC,jC,jC,trivial⟩ rfl ?_ ?_
  ·intro y w2 hW hF
   simp only[zB,IsP,Nat.reduceAdd,List.length_cons,List.length_nil] at hF hW
   have h0:=hF.1
   have h1:=hF.2.1
   have h2:=hF.2.2.1
   have h3:=hF.2.2.2.1
   have h4:=hF.2.2.2.2.1
   have h5:=hF.2.2.2.2.2.1
   clear hF
   simp only[jB,Act.put,zq1,zq2,zq3,zq4,zq5]
   simp only[h0,h1,h2,h3,h4,h5]
   clear h0 h1 h2 h3 h4 h5
   have HT2:=zh (Env.turn hW)
   clear hW
   go_wp2
   go_ret2
   exact⟨.slice none 0 0,by rw[HD.out];rfl,by rw[HD.out];exact HT2.out.finX⟩
  refine⟨zqd,?_⟩
  refine⟨?_,?_⟩
  ·refine jH 0 0 ?_
   intro y w2 p hlo hhi hW hD K hK
   have dd0:=Env.cell hW HM.out 0 _ rfl
   have dd1:=Env.cell hW HM.out 1 _ rfl
   have dd2:=Env.cell hW HM.out 2 _ rfl
   have dd3:=Env.cell hW HM.out 3 _ rfl
   have dd4:=Env.cell hW HM.out 4 _ rfl
   have dd5:=Env.cell hW HM.out 5 _ rfl
   have dd6:=Env.cell hW HM.out 6 _ rfl
   exact zqr
  refine⟨zqd,?_⟩
  refine⟨?_,?_⟩
  ·refine jH 0 0 ?_
   intro y w2 p hlo hhi hW hD K hK
   obtain rfl:p=0:=by omega
   simp only[jV,zq4,zq5,IsP] at hD
   generalize hAA:jB y _ _=AA at hK⊢
   simp only[jB,Act.put,zq1,zq2,zq3,zq4,zq5,IsP] at hAA
   subst hAA
   simp only[zq4,zq5,IsP] at hK
   simp only[hD] at hK⊢
   clear hD
   refine jL ?_
   go_simp
   refine (by obtain⟨κ1,hb,_⟩:=(show Env B q most flags w κ [(w.heap.size,Obj.cells #[.int .i64 kd,.int .i64 st,.int .i64 nn,.int .u64 uu,.string ss,.slice la ll.length lc,.slice ta tt.length tc] 95 (0,0))] x w2 from hW);exact iT hb:Calls prog 147 #[jF q.p] w2 fun r w'=>r=.returned (.int .i64 x.stk.length)∧w'=w2).mono ?_
   rintro r w3 ⟨rfl,hw3⟩
   exact hK _ _ _ rfl (by rw[hw3];exact jA.refl _) rfl
  refine⟨?_,?_⟩
  ·refine jH 0 0 ?_
   intro y w2 p hlo hhi hW hD K hK
   obtain rfl:p=0:=by omega
   simp only[jV,zq4,zq5,IsP] at hD
   generalize hAA:jB y _ _=AA at hK⊢
   simp only[jB,Act.put,zq1,zq2,zq3,zq4,zq5,IsP] at hAA
   subst hAA
   simp only[zq4,zq5,IsP] at hK
   simp only[hD] at hK⊢
   clear hD
   refine jL ?_
   go_simp
   refine (HST.out w2).mono ?_
   rintro r w3 ⟨rfl,hg3⟩
   exact hK _ _ _ rfl hg3 rfl
  refine⟨?_,?_⟩
  ·refine jN 0 rfl ?_
   intro y w2 hW hD K hK
   simp only[jV,zq4,zq5,IsP] at hD
   have h0:=hD.1
   have h1:=hD.2.1
   have h2:=hD.2.2.1
   have h3:=hD.2.2.2.1
   have h4:=hD.2.2.2.2.1
   clear hD
   generalize hAA:jB y _ _=AA at hK⊢
   simp only[jB,Act.put,zq1,zq2,zq3,zq4,zq5,IsP] at hAA
   subst hAA
   simp only[zq4,zq5,IsP] at hK
   simp only[h0,h1,h2,h3,h4] at hK⊢
   clear h0 h1 h2 h3 h4
   refine jL ?_
   go_simp
   refine (Env.call hW fun κ1 hb hz=>lA fr HG.out hb).mono ?_
   rintro r w3 ⟨rfl,he⟩
   exact hK _ _ _ rfl trivial he rfl
  trivial
 ·have HD:Hid (doB most flags ⟨kd,st,nn,uu,ss,ll,tt⟩ x=(z6,x.endMap most (onF flags 4) (DoB.from_ ⟨kd,st,nn,uu,ss,ll,tt⟩ x.stk.length))):=by show _=_;unfold doB;dsimp only;rw[HKD.out];rfl
  have HSL:Hid (x.stk.length≤65536):=HB.out.ok.stk
  have HST:Hid (∀w,Calls prog 146 #[.agg #[.int .i64 kd,.int .i64 st,.int .i64 nn,.int .u64 uu,.string ss,.slice la ll.length lc,.slice ta tt.length tc],.int .i64 x.stk.length] w fun r w'=>r=.returned (.int .i64 (DoB.from_ ⟨kd,st,nn,uu,ss,ll,tt⟩ x.stk.length))∧jA w w'):=fun w=>aB kd st nn uu ss la lc ll ta tc tt x.stk.length w (by have:=HSL.out;omega) HU.out.1
  generalize DoB.from_ ⟨kd,st,nn,uu,ss,ll,tt⟩ x.stk.length=fr at *
  go_wp2_with fail
  refine jM [5] (yD B q most flags w κ [(w.heap.size,Obj.cells #[.int .i64 kd,.int .i64 st,.int .i64 nn,.int .u64 uu,.string ss,.slice la ll.length lc,.slice ta tt.length tc] 95 (0,0))] [x] (x.endMap most (onF flags 4) fr)) (fun _ w w'=>jA w w') ((fun p (_:Nat→Value)=>(fun _ _ _=>True) p)) [[],[],[],[2],[1,2,3],[0,1,2,3,4]] [[(116,1),(117,2),(118,3),(119,4)],[(115,0),(117,2),(118,3)],[(115,0),(116,1)],[(115,0),(116,1),(117,2)],[(115,0),(116,1),(117,2),(118,3)],[(115,0),(116,1),(117,2),(118,3),(119,4)]] [(115,0),(116,1),(117,2),(118,3),(119,4),(120,5)]
   [IsP (jF q.p),IsP (.agg #[.int .i64 kd,.int .i64 st,.int .i64 nn,.int .u64 uu,.string ss,.slice la ll.length lc,.slice ta tt.length tc]),IsP (jF q.p),IsP (.int .i64 x.stk.length),IsP (.int .i64 fr),IsP (.tuple #[])]
   zk (yD.grew) (HE1.out.grew (jA.refl _).drew) zk zk ⟨jC,jC,jC,jC,jC,jC,trivial⟩ rfl ?_ ?_
  ·intro y w2 hW hF
   simp only[zB,IsP,Nat.reduceAdd,List.length_cons,List.length_nil] at hF hW
   have h0:=hF.1
   have h1:=hF.2.1
   have h2:=hF.2.2.1
   have h3:=hF.2.2.2.1
   have h4:=hF.2.2.2.2.1
   have h5:=hF.2.2.2.2.2.1
   clear hF
   simp only[jB,Act.put,zq1,zq2,zq3,zq4,zq5]
   simp only[h0,h1,h2,h3,h4,h5]
   clear h0 h1 h2 h3 h4 h5
   have HT2:=zh (Env.turn hW)
   clear hW
   go_wp2
   go_ret2
   exact⟨.slice none 0 0,by rw[HD.out];rfl,by rw[HD.out];exact HT2.out.finX⟩
  refine⟨zqd,?_⟩
  refine⟨?_,?_⟩
  ·refine jH 0 0 ?_
   intro y w2 p hlo hhi hW hD K hK
   have dd0:=Env.cell hW HM.out 0 _ rfl
   have dd1:=Env.cell hW HM.out 1 _ rfl
   have dd2:=Env.cell hW HM.out 2 _ rfl
   have dd3:=Env.cell hW HM.out 3 _ rfl
   have dd4:=Env.cell hW HM.out 4 _ rfl
   have dd5:=Env.cell hW HM.out 5 _ rfl
   have dd6:=Env.cell hW HM.out 6 _ rfl
   exact zqr
  refine⟨zqd,?_⟩
  refine⟨?_,?_⟩
  ·refine jH 0 0 ?_
   intro y w2 p hlo hhi hW hD K hK
   obtain rfl:p=0:=by omega
   simp only[jV,zq4,zq5,IsP] at hD
   generalize hAA:jB y _ _=AA at hK⊢
   simp only[jB,Act.put,zq1,zq2,zq3,zq4,zq5,IsP] at hAA
   subst hAA
   simp only[zq4,zq5,IsP] at hK
   simp only[hD] at hK⊢
   clear hD
   refine jL ?_
   go_simp
   refine (by obtain⟨κ1,hb,_⟩:=(show Env B q most flags w κ [(w.heap.size,Obj.cells #[.int .i64 kd,.int .i64 st,.int .i64 nn,.int .u64 uu,.string ss,.slice la ll.length lc,.slice ta tt.length tc] 95 (0,0))] x w2 from hW);exact iT hb:Calls prog 147 #[jF q.p] w2 fun r w'=>r=.returned (.int .i64 x.stk.length)∧w'=w2).mono ?_
   rintro r w3 ⟨rfl,hw3⟩
   exact hK _ _ _ rfl (by rw[hw3];exact jA.refl _) rfl
  refine⟨?_,?_⟩
  ·refine jH 0 0 ?_
   intro y w2 p hlo hhi hW hD K hK
   obtain rfl:p=0:=by omega
   simp only[jV,zq4,zq5,IsP] at hD
   generalize hAA:jB y _ _=AA at hK⊢
   simp only[jB,Act.put,zq1,zq2,zq3,zq4,zq5,IsP] at hAA
   subst hAA
   simp only[zq4,zq5,IsP] at hK
   simp only[hD] at hK⊢
   clear hD
   refine jL ?_
   go_simp
   refine (HST.out w2).mono ?_
   rintro r w3 ⟨rfl,hg3⟩
   exact hK _ _ _ rfl hg3 rfl
  refine⟨?_,?_⟩
  ·refine jN 0 rfl ?_
   intro y w2 hW hD K hK
   simp only[jV,zq4,zq5,IsP] at hD
   have h0:=hD.1
   have h1:=hD.2.1
   have h2:=hD.2.2.1
   have h3:=hD.2.2.2.1
   have h4:=hD.2.2.2.2.1
   clear hD
   generalize hAA:jB y _ _=AA at hK⊢
   simp only[jB,Act.put,zq1,zq2,zq3,zq4,zq5,IsP] at hAA
   subst hAA
   simp only[zq4,zq5,IsP] at hK
   simp only[h0,h1,h2,h3,h4] at hK⊢
   clear h0 h1 h2 h3 h4
   refine jL ?_
   go_simp
   refine (Env.call hW fun κ1 hb hz=>V9 fr HG.out hb).mono ?_
   rintro r w3 ⟨rfl,he⟩
   exact hK _ _ _ rfl trivial he rfl
  trivial
 ·have HD:Hid (doB most flags ⟨kd,st,nn,uu,ss,ll,tt⟩ x=x.finish most):=by show _=_;unfold doB;dsimp only;rw[HKD.out];rfl
  go_wp2_with fail
  refine (Z4 (HB.out.grew HGA.out)).mono ?_
  rintro r w2 ⟨v,rfl,hf⟩
  have hff:=hf
  obtain⟨_,_,_,ho,_⟩:=hff
  obtain⟨va,vc,rfl,hz1,hz2,hz3⟩:=j7 ho
  have HF:=zh (hf.after HGA.out)
  clear hf ho hz1 hz2 hz3
  generalize x.finish most=X at *
  obtain⟨⟨dd,de⟩,xx⟩:=X
  go_wp2
  go_ret2
  exact⟨.slice va dd.length vc,by rw[HD.out];rfl,by rw[HD.out];exact HF.out⟩
def aC (w0:World) (q:kN) (most flags:Int) (x:BS) (w:World):Prop:=∃κ,Bd w0.heap.size q most flags κ x w∧jA w0 w
section
variable {q:kN} {most flags:Int} {κ κ':Nat→Nat} {x y:BS} {w w' w0 w1:World} {v:Value} {d:List UInt8}
theorem Bd.live (h1:Bd w0.heap.size q most flags κ x w) (h2:jA w0 w) (k1:Bd w0.heap.size q most flags κ' y w') (k2:Tn κ κ' w w'):aC w0 q most flags y w':=
 ⟨κ',k1,Below.trans h2 (k2.1.below (jA.size h2) (fun k hk=>(h1.lt k hk).1))⟩
theorem aC.fin {f:Nat} {args:Array Value} {e:Int} (h:aC w0 q most flags x w) (hc:∀κ,Bd w0.heap.size q most flags κ x w→Calls prog f args w fun r w'=>∃v,r=.returned (.tuple #[v,.int .i64 e])∧cM w0.heap.size q most flags w κ y v d w') :
 Calls prog f args w fun r w'=>∃a c,r=.returned (.tuple #[.slice a d.length c,.int .i64 e])∧aC w0 q most flags y w'∧w'.ownsRow w0.heap.size 5 1 (.slice a d.length c) d.length (Lib.byteCells d):=by
 obtain⟨κ,h1,h2⟩:=h
 refine (hc κ h1).mono ?_
 rintro r w' ⟨v,rfl,κ1,k1,k2,k3,_⟩
 obtain⟨a,c,rfl,_⟩:=j7 k3
 exact⟨a,c,rfl,h1.live h2 k1 k2,JF k3 (jA.size h2)⟩
theorem aC.below (h:aC w0 q most flags x w):jA w0 w:=by obtain⟨κ,_,h2⟩:=h;exact h2
theorem tF (flags most:Int) (hg:jA w0 w):Calls prog 9 #[.int .i64 flags,.int .i64 most] w fun r w'=>∃q,r=.returned (jF q.p)∧aC w0 q (y8 most) flags BS.new w':=by
 refine (lP flags most w).mono ?_
 rintro r w' ⟨q,κ,rfl,hb,hg2⟩
 exact⟨q,rfl,κ,⟨fun k hk=>⟨Nat.le_trans (jA.size hg) (hb.lt k hk).1,(hb.lt k hk).2⟩,hb.ok,hb.self,hb.buf,hb.stk,hb.keys,hb.texts,hb.lists,hb.names⟩,hg.trans hg2⟩
end
def aU (w:World) (b o:Nat) (d:DoB):Prop:=
 ∃la lc ta tc,(w.cell? ⟨b,o,none⟩=some (.int .i64 d.kind)∧w.cell? ⟨b,o+1,none⟩=some (.int .i64 d.start)∧w.cell? ⟨b,o+2,none⟩=some (.int .i64 d.n)∧w.cell? ⟨b,o+3,none⟩=some (.int .u64 d.u)∧w.cell? ⟨b,o+4,none⟩=some (.string d.s)∧w.cell? ⟨b,o+5,none⟩=some (.slice la d.l.length lc)∧w.cell? ⟨b,o+6,none⟩=some (.slice ta d.t.length tc)) ∧
  v6 w (.slice la d.l.length lc) d.l∧kO w (.slice ta d.t.length tc) d.t∧(-9223372036854775808≤d.n∧d.n≤9223372036854775807)∧(0≤d.u∧d.u≤18446744073709551615)∧k9 d.s.size∧∀x∈d.l,-9223372036854775808≤x∧x≤9223372036854775807
def DosAt (w:World) (v:Value) (l:List DoB):Prop:=∃a c,v=.slice a l.length c∧l.length≤9223372036854775807∧∀(i:Nat) (d:DoB),l[i]? = some d→∃b off,a=some ⟨b,off,none⟩∧aU w b (off+i*7) d
theorem aU.grew {w w':World} {b o:Nat} {d:DoB} (h:aU w b o d) (hg:jA w w'):aU w' b o d:=by
 obtain⟨la,lc,ta,tc,⟨h0,h1,h2,h3,h4,h5,h6⟩,h7,h8,h9⟩:=h
 exact⟨la,lc,ta,tc,⟨hg.cell h0,hg.cell h1,hg.cell h2,hg.cell h3,hg.cell h4,hg.cell h5,hg.cell h6⟩,h7.grew hg,kO.grew h8 hg,h9⟩
theorem nJ (most flags:Int) (l:List DoB) (d:DoB) (x:BS):doAll most flags (l++[d]) x=(doB most flags d (doAll most flags l x)).2:=by simp[doAll]
theorem BS.Good.doAll {most flags:Int}:∀(l:List DoB) {x:BS},x.Good→(Go.Proofs.YtjnpcddbgfmpcaaGreatDoor.doAll most flags l x).Good
 | [],_,h=>h
 | d::r,_,h=>BS.Good.doAll r h.doB
theorem cP (flags e:Int) (want:ByteArray) (v:Value) (l:List DoB) (w:World) (hd:DosAt w v l):Calls prog 54 #[.int .i64 flags,.string want,.int .i64 e,v] w fun r w'=>r=.returned (.bool (vS flags want e l))∧jA w w':=by
 have HD:=zh hd
 obtain⟨a,c,rfl,hll,j2⟩:=hd
 have HC:=zh j2
 have HMF:=zh (rfl:vS flags want e l=vS flags want e l)
 obtain⟨mf,hmf⟩:∃mf,vS flags want e l=mf:=⟨_,rfl⟩
 rw[hmf]
 have HMF2:=zh hmf
 clear hmf j2 HMF
 go_enter func54,ntmps54
 go_wp2_with fail
 refine (tF (w0:=w) flags 1000 (jA.refl w)).mono ?_
 rintro r w1 ⟨q,rfl,hl⟩
 rw[show y8 1000=1000 from rfl] at hl
 have HL1:=zh hl
 clear hl
 go_wp2_with fail
 go_loopw [10] (fun i wr=>∃k:Nat,k≤l.length∧i=.int .i64 k∧Hid (aC w q 1000 flags (doAll 1000 flags (l.take k) BS.new) wr)) (fun i _=>l.length - (intOf i).toNat)
 case atStart=>exact⟨0,Nat.zero_le _,rfl,HL1⟩
 case round=>
  obtain⟨k,hk,rfl,HW⟩:=hrel
  by_cases hlt:k < l.length
  ·obtain⟨d,hd⟩:∃d,l[k]? = some d:=⟨_,List.getElem?_eq_getElem hlt⟩
   have HSN:Hid (doAll 1000 flags (l.take (k+1)) BS.new=(doB 1000 flags d (doAll 1000 flags (l.take k) BS.new)).2):=by show _=_;rw[List.take_add_one,hd];exact nJ _ _ _ _ _
   have HGD:Hid (BS.Good (doAll 1000 flags (l.take k) BS.new)):=BS.Good.doAll _ BS.Good.new
   have HLO:=zh HW.out
   generalize doAll 1000 flags (l.take k) BS.new=X at *
   have hce:=HC.out k d hd
   obtain⟨b,off,rfl,hdc⟩:=hce
   have hdw:=hdc.grew HW.out.below
   clear hdc hd
   obtain⟨kd,st,nn,uu,ss,ll,tt⟩:=d
   obtain⟨la,lc,ta,tc,hcs,jJ,htx,hn,hu,hs,hr⟩:=hdw
   have d0:=hcs.1
   have d1:=hcs.2.1
   have d2:=hcs.2.2.1
   have d3:=hcs.2.2.2.1
   have d4:=hcs.2.2.2.2.1
   have d5:=hcs.2.2.2.2.2.1
   have d6:=hcs.2.2.2.2.2.2
   clear hcs
   dsimp only at d0 d1 d2 d3 d4 d5 d6 jJ htx hn hu hs hr
   have HAR:=zh (And.intro jJ (And.intro htx (And.intro hn (And.intro hu (And.intro hs hr)))))
   clear jJ htx hn hu hs hr
   have hki:(k:Int) < l.length:=by omega
   go_wp2_with fail
   refine (HLO.out.fin fun κ hb=>tE kd st nn uu ss la lc ll ta tc tt HAR.out.1 HAR.out.2.1 HAR.out.2.2.1 HAR.out.2.2.2.1 HAR.out.2.2.2.2.1 HAR.out.2.2.2.2.2 HGD.out hb).mono ?_
   rintro r w3 ⟨ra,rc,rfl,hl3,_⟩
   rw[← HSN.out] at hl3
   have HL3:=zh hl3
   clear hl3 d0 d1 d2 d3 d4 d5 d6
   go_wp2_with fail
   go_roundw
   case rel=>exact⟨k+1,by omega,by go_num,HL3⟩
   case measure=>simp[intOf];omega
  ·have ek:k=l.length:=by omega
   subst ek
   have hw:=HW.out
   rw[List.take_length] at hw
   have HE:=zh hw
   clear hw HW
   go_wp2_with fail
   refine (HE.out.fin fun κ hb=>Z4 hb).mono ?_
   rintro r w3 ⟨ra,rc,rfl,hl3,ho⟩
   have hby:=kB.of_own ho
   have HL3:=zh hl3
   have hmf:=HMF2.out
   unfold vS at hmf
   generalize (doAll 1000 flags l BS.new).finish 1000=X at *
   obtain⟨⟨dd,de⟩,xx⟩:=X
   dsimp only at hby hmf⊢
   have hst:=yK hby
   have hse:=YY (⟨dd.toArray⟩:ByteArray) want
   clear hl3 ho hby
   generalize (⟨dd.toArray⟩:ByteArray)=sd at *
   by_cases h1:sd=want
   ·rw[decide_eq_true h1] at hmf hse
    by_cases h2:de=e
    ·rw[decide_eq_true h2] at hmf
     have h2b:(de == e)=true:=by simpa using h2
     have HMM:=zh hmf
     clear hmf h1
     subst h2
     go_wp2
     go_ret
     exact⟨ZI HMM.out,HL3.out.below⟩
    ·rw[decide_eq_false h2] at hmf
     have h2b:(de == e)=false:=by simpa using h2
     have HMM:=zh hmf
     clear hmf h1
     go_wp2
     go_ret
     exact⟨ZI HMM.out,HL3.out.below⟩
   ·rw[decide_eq_false h1] at hmf hse
    have HMM:=zh hmf
    clear hmf
    go_wp2
    go_ret
    exact⟨ZI HMM.out,HL3.out.below⟩
section
variable {w0 w w':World} {R:List dE} {Kp:List (Nat × Obj)}
theorem Lv.new (h:Lv w0 R Kp w) (flags most:Int):Calls prog 9 #[.int .i64 flags,.int .i64 most] w fun r w'=>∃q,r=.returned (jF q.p)∧Lv w0 (R++[⟨q,y8 most,flags,BS.new⟩]) Kp w':=by
 obtain⟨κ,h1,h2,h3,h4⟩:=h
 refine (lP flags most w).mono ?_
 rintro r w' ⟨q,κ',rfl,hb,hg⟩
 have hs:w0.heap.size≤w.heap.size:=h4.size
 have hlt:∀j,j < R.length→∀k,κ j k≠0→k < w.heap.size:=fun j hj k hk=>((h1 j _ (List.getElem?_eq_getElem hj)).lt k hk).2
 refine⟨q,rfl,fun j=>if j=R.length then κ' else κ j,fun j s hs'=>?_,fun a b k ha hb' hab hk=>?_,fun z hz=>⟨hg.heap (h3 z hz).1,fun j hj=>?_⟩,Below.trans h4 (Below.mono hg hs)⟩
 ·by_cases e:j=R.length
  ·subst e
   rw[List.getElem?_append_right (Nat.le_refl _)] at hs'
   simp at hs'
   subst hs'
   dsimp only
   rw[if_pos rfl]
   exact⟨fun k hk=>⟨Nat.le_trans hs (hb.lt k hk).1,(hb.lt k hk).2⟩,hb.ok,hb.self,hb.buf,hb.stk,hb.keys,hb.texts,hb.lists,hb.names⟩
  ·have hj:j < R.length:=by
    have:=(List.getElem?_eq_some_iff.1 hs').1
    rw[List.length_append,List.length_singleton] at this
    omega
   rw[List.getElem?_append_left hj] at hs'
   dsimp only
   rw[if_neg e]
   exact (h1 j s hs').grew hg
 ·rw[List.length_append,List.length_singleton] at ha hb'
  dsimp only at hk⊢
  by_cases ea:a=R.length
  ·rw[if_pos ea] at hk
   rw[if_neg (fun e=>hab (ea.trans e.symm))]
   refine Decidable.byContradiction fun hz=>?_
   have p1:=hlt b (by omega) k hz
   have p2:=(hb.lt k hk).1
   omega
  ·rw[if_neg ea] at hk
   have p1:=hlt a (by omega) k hk
   by_cases eb:b=R.length
   ·rw[if_pos eb]
    refine Decidable.byContradiction fun hz=>?_
    have p2:=(hb.lt k hz).1
    omega
   ·rw[if_neg eb]
    exact h2 a b k (by omega) (by omega) hab hk
 ·rw[List.length_append,List.length_singleton] at hj
  have hzl:=(Array.getElem?_eq_some_iff.1 (h3 z hz).1).1
  dsimp only
  by_cases e:j=R.length
  ·rw[if_pos e]
   refine Decidable.byContradiction fun hk=>?_
   have p2:=(hb.lt z.1 hk).1
   omega
  ·rw[if_neg e]
   exact (h3 z hz).2 j (by omega)
def fC (Kp:List (Nat × Obj)) (w:World):Prop:=∀z∈Kp,w.heap[z.1]? = some z.2
theorem Lv.held (h:Lv w0 R Kp w):fC Kp w:=fun z hz=>h.kp hz
theorem fC.mono {Kp':List (Nat × Obj)} (h:fC Kp' w) (hs:∀z∈Kp,z∈Kp'):fC Kp w:=fun z hz=>h z (hs z hz)
theorem Lv.fin (h:Lv w0 R Kp w) (i:Nat) {r:dE} (hr:R[i]? = some r):Calls prog 14 #[jF r.q.p] w fun e w'=>∃a c Kp',e=.returned (.tuple #[.slice a (r.x.finish r.most).1.1.length c,.int .i64 (r.x.finish r.most).1.2])∧Lv w0 (R.set i {r with x:=(r.x.finish r.most).2}) Kp' w'∧(∀z∈Kp,z∈Kp')∧∀w2,fC Kp' w2→kB w2 (.slice a (r.x.finish r.most).1.1.length c) (r.x.finish r.most).1.1:=by
 have h':=h
 obtain⟨κ,h1,h2,h3,h4⟩:=h
 refine (Z4 (h1 i r hr)).mono ?_
 rintro e w' ⟨v,rfl,κ1,k1,k2,k3,k4⟩
 generalize (r.x.finish r.most).1.1=d at *
 rcases k3.2 with ⟨rfl,hn⟩|⟨g,cap,cur,rfl,hge,hh,hcap,hmax,hsz,htk⟩
 ·have hd:d=[]:=List.eq_nil_of_length_eq_zero hn
  subst hd
  refine⟨none,0,Kp,rfl,?_,fun z hz=>hz,fun w2 _=>kB.of_own (l:=[]) (B:=0) (t:=5) (World.ownsRow_nil _ _ _ _)⟩
  exact Lv.turn1 h1 h2 h3 h4 (Z:=[]) hr ⟨κ1,k1,k2,fun z hz=>by cases hz⟩
 ·refine⟨_,_,[(g,.cells cur 5 (0,0))]++Kp,rfl,Lv.turn1 h1 h2 h3 h4 hr ⟨κ1,k1,k2,fun z hz=>?_⟩,fun z hz=>List.mem_append_right _ hz,fun w2 hw=>?_⟩
  ·rw[List.mem_singleton] at hz
   subst hz
   exact⟨hge,hh,k4 g rfl⟩
  ·exact kB.of_own (B:=w.heap.size) (t:=5) ⟨k3.1,.inr ⟨g,cap,cur,rfl,hge,hw (g,.cells cur 5 (0,0)) (List.mem_append_left _ (List.mem_singleton.2 rfl)),hcap,hmax,hsz,htk⟩⟩
end
end Go.Proofs.YtjnpcddbgfmpcaaGreatDoor
namespace Go.Proofs.YtjnpcddbgfmpcaaGreatDoor
open Go.Proofs.Tryz
open Go Go.ChangeShapes Go.WideShapes Go.ChangeAt Go.RowKit Go.Joins Go.Deep
open Go.Proofs.YtjnpcddbgfmpcaaGreatDoor.Ft (V3 vV okV ValsAt inlineB legalB packF codeF typedF allF unpackF unpack_any)
theorem QD {w:World} {a:Option Addr} {n c:Nat} {d:List UInt8} (h:kB w (.slice a n c) d) (hn:d≠[]):∃b off,a=some ⟨b,off,none⟩∧b < w.heap.size∧∀(i:Nat) (x:UInt8),d[i]? = some x→w.cell? ⟨b,off+i,none⟩=some (.int .u8 x.toNat):=by
 obtain⟨a',c',e,_,_,h4⟩:=h
 injection e with e1 e2 e3
 subst e1 e2 e3
 cases d with
 | nil=>exact absurd rfl hn
 | cons y r=>
  obtain⟨b,off,rfl,h5⟩:=h4 0 y rfl
  refine⟨b,off,rfl,World.block_lt_of_cell? w ⟨b,off+0,none⟩ h5,fun i x hx=>?_⟩
  obtain⟨b',off',e,h6⟩:=h4 i x hx
  injection e with e
  injection e with e1 e2
  subst e1 e2
  exact h6
structure gJ (d:List UInt8) (m w T:Nat) (off t wd:Int):Prop where
 len:d.length=m+2
 small:m≤1073741800
 w1:1≤w
 w8:w≤8
 wm:w≤m
 t8:T < 256
 wid:∃x,d[m+1]? = some x∧x.toNat=w
 tag:∃x,d[m]? = some x∧x.toNat=T
 num:kC d ((m:Int) - w) w=(off,0)
 off0:0≤off
 off1:off≤(m:Int) - w
 unp:unpackF T=(t,wd,0)
theorem gI {fn:Func} {t u v x:Tmp} (h:fn.results=#[.tmp t,.tmp u,.tmp v,.tmp x]) (tmps:Array Value) (P:Program) (w:World) :
 (results fn tmps).run P w=.ok (.tuple #[tmps.getD t undef,tmps.getD u undef,tmps.getD v undef,tmps.getD x undef]) w:=by
 simp[results,h]
theorem root_ok {d:List UInt8} {m w T:Nat} {off t wd:Int} {a:Option Addr} {c:Nat} {W:World} (hb:kB W (.slice a d.length c) d) (h:gJ d m w T off t wd) :
 Calls prog 17 #[.slice a d.length c] W fun r W'=>r=.returned (.tuple #[.int .i64 ((m:Int) - w - off),.int .i64 t,.int .i64 wd,.bool true])∧jA W W':=by
 have j8:=h.len
 obtain⟨b,o,rfl,hbl,hc⟩:=QD hb (by intro e;rw[e] at j8;simp at j8)
 obtain⟨x,hx,rfl⟩:=h.wid
 obtain⟨y,hy,rfl⟩:=h.tag
 have c1:=hc _ _ hx
 have c0:=hc _ _ hy
 have w1:=h.w1
 have w8:=h.w8
 have wm:=h.wm
 have t8:=h.t8
 have o0:=h.off0
 have o1:=h.off1
 have sm:=h.small
 have HL:Hid (Calls prog 18 #[.slice (some ⟨b,o,none⟩) (m+2) c,.int .i64 ((m:Int) - x.toNat),.int .i64 x.toNat] W fun r w3=>r=.returned (.tuple #[.int .u64 off,.int .i64 0])∧jA W w3):=by
  have h':=VB (w:=W) _ d hb (by omega) ((m:Int) - x.toNat) (x.toNat:Int) (by first | omega | (unfold JN;omega)) (fun ad n c e=>by cases e;exact hbl)
  rw[h.num,j8] at h'
  exact h'
 have HU:=zh h.unp
 rw[j8]
 clear h hb hc hx hy hbl j8
 generalize x.toNat=w at *
 generalize y.toNat=T at *
 go_enter func17,ntmps17
 go_wp2_with fail
 refine HL.out.mono ?_
 rintro r w1' ⟨rfl,hg⟩
 have d0:=hg.cell c0
 have HG:=zh hg
 clear HL c0 c1 hg
 go_wp2_with fail
 refine (unpack_any T _ t8).mono ?_
 rw[HU.out]
 rintro r w2' ⟨rfl,hg⟩
 have HG2:=zh (HG.out.trans hg)
 clear hg HU d0
 go_wp2
 try simp only[Exit.inBlock,Exit.then]
 refine bodyPost_ret (gI rfl _ _ _) rfl ?_
 exact⟨rfl,HG2.out⟩
end Go.Proofs.YtjnpcddbgfmpcaaGreatDoor
namespace Go.Proofs.YtjnpcddbgfmpcaaGreatDoor
open Go.Proofs.Tryz
open Go Go.ChangeShapes Go.WideShapes Go.ChangeAt Go.RowKit Go.Joins Go.Deep
open Go.Proofs.YtjnpcddbgfmpcaaGreatDoor.Ft (V3 vV okV ValsAt inlineB legalB packF codeF typedF allF oneF unpackF)
theorem nL {b:List UInt8} {v:V3} (hb:b.length≤1048576) (hn:ZG b.length v) (hi:inlineB v.1=false):∃(m w T:Nat) (off:Int),gJ (VN b v) m w T off v.1 v.2.1∧(m:Int) - w - off=v.2.2:=by
 have he:=doc_end hb hn
 have hu:=iX he.isw hn.1
 have hp:=kI he.isw
 rw[hi] at hu
 simp only[Bool.false_eq_true,if_false] at hu
 have hpad:j5 b (oneF v.1 v.2.1 v.2.2 b.length 0) < 8:=by unfold j5;rcases kJ he.isw with h | h | h | h<;>rw[h]<;>omega
 have h3:=hn.2.1.1
 have h4:=hn.2.2.2 hi
 generalize VN b v=d at *
 generalize oneF v.1 v.2.1 v.2.2 b.length 0=w at *
 have j8:=he.len
 have hp0:=he.p0
 have hN:vT ((b.length:Int)+j5 b w) w v=((b.length:Int)+j5 b w) - v.2.2:=by unfold vT;rw[hi];simp
 have hpad0:0≤(j5 b w:Int):=by omega
 generalize hP:(b.length:Int)+j5 b w=p at *
 refine⟨(p+w).toNat,w.toNat,(ZD w v).toNat,p - v.2.2,⟨by omega,by omega,by omega,by omega,by omega,UInt8.toNat_lt _,⟨UInt8.ofNat w.toNat,?_,?_⟩,⟨ZD w v,?_,rfl⟩,?_,by omega,by omega,hu⟩,by omega⟩
 ·rw[show (p+w).toNat+1=d.length - 1 by omega];exact he.wid
 ·rw[UInt8.toNat_ofNat'];omega
 ·rw[show (p+w).toNat=d.length - 2 by omega];exact he.tag
 ·rw[show (((p+w).toNat:Nat):Int) - ((w.toNat:Nat):Int)=p by omega,show ((w.toNat:Nat):Int)=w by omega,he.num,hN]
end Go.Proofs.YtjnpcddbgfmpcaaGreatDoor
namespace Go.Proofs.YtjnpcddbgfmpcaaGreatDoor
open Go.Proofs.Tryz
open Go Go.ChangeShapes Go.WideShapes Go.ChangeAt Go.RowKit Go.Joins Go.Deep
open Go.Proofs.YtjnpcddbgfmpcaaGreatDoor.Ft (V3 vV okV ValsAt inlineB legalB packF codeF typedF allF)
def LvS (w0:World) (q:kN) (most flags:Int) (x:BS) (v:Value) (N:List ByteArray) (w:World):Prop:=
 ∃κ,Bd w0.heap.size q most flags κ x w∧yN w w0.heap.size v N∧(∀g,v.ownBlock=some g→κ g=0)∧Below w0.heap.size w0 w
section
variable {w0 w w' w3:World} {q:kN} {most flags:Int} {x:BS} {v v':Value} {N L':List ByteArray}
theorem LvS.start (h:Lv w0 [⟨q,most,flags,x⟩] [] w):LvS w0 q most flags x (.slice none 0 0) [] w:=by
 obtain⟨κ,h1,h2,h3,h4⟩:=h
 exact⟨κ 0,h1 0 _ rfl,yN.nil _ _,(fun g e=>by cases e),h4⟩
theorem LvS.below (h:LvS w0 q most flags x v N w):Below w0.heap.size w0 w:=by obtain⟨_,_,_,_,h⟩:=h;exact h
theorem LvS.own (h:LvS w0 q most flags x v N w):yN w w0.heap.size v N:=by obtain⟨_,_,h,_⟩:=h;exact h
theorem lU {B:Nat} (h:yN w B v N) {g:Nat} (hg:v.ownBlock=some g):B≤g∧g < w.heap.size:=by
 rcases h.2 with ⟨rfl,_⟩|⟨g',cap,cur,rfl,hge,hh,_⟩
 ·cases hg
 ·cases hg
  exact⟨hge,(Array.getElem?_eq_some_iff.1 hh).1⟩
theorem LvS.grew (h:LvS w0 q most flags x v N w) (hg:jA w w'):LvS w0 q most flags x v N w':=by
 obtain⟨κ,h1,h2,h3,h4⟩:=h
 exact⟨κ,h1.grew hg,h2.grew hg,h3,Below.trans h4 (Below.mono hg h4.size)⟩
theorem LvS.call {x':BS} {f:Nat} {args:Array Value} {P:Ending→Prop} (h:LvS w0 q most flags x v N w) (hc:∀κ,Bd w0.heap.size q most flags κ x w→Calls prog f args w fun e w'=>P e∧j1 w0.heap.size q most flags κ x' w w') :
 Calls prog f args w fun e w'=>P e∧LvS w0 q most flags x' v N w':=by
 obtain⟨κ,h1,h2,h3,h4⟩:=h
 refine (hc κ h1).mono fun e w' he=>⟨he.1,?_⟩
 obtain⟨κ',k1,k2⟩:=he.2
 exact⟨κ',k1,k2.1.owns h2 (fun g hgg hk=>hk (h3 g hgg)),fun g hgg=>(k2.2 g (lU h2 hgg).2).trans (h3 g hgg),Below.trans h4 (k2.1.below h4.size (fun k hk=>(h1.lt k hk).1))⟩
theorem LvS.app (h:LvS w0 q most flags x v N w) {o:Obj} (j3:yN w3 w0.heap.size v' L') (hgr:(w.alloc o).grownBy w3 v.ownBlock) (hnx:zO (w.alloc o) v.ownBlock v'.ownBlock):LvS w0 q most flags x v' L' w3:=by
 obtain⟨κ,h1,h2,h3,h4⟩:=h
 have hg:=(jA.refl w).alloc o
 have h1':=h1.grew hg
 have hm:Moved (fun k=>some k=v.ownBlock) (w.alloc o) w3:=Moved.of_grown hgr
 refine⟨κ,h1'.moved hm (fun k hk e=>hk (h3 k e.symm)),j3,fun g hgg=>?_,?_⟩
 ·rcases hnx g hgg with e|e
  ·exact h3 g e
  ·exact Decidable.byContradiction fun hk=>by have:=(h1'.lt g hk).2;omega
 ·exact Below.trans (Below.trans h4 (Below.mono hg h4.size)) (hm.below (Nat.le_trans h4.size hg.size) (fun k hk=>(lU h2 hk.symm).1))
theorem LvS.lv (h:LvS w0 q most flags x v N w):∃Kp,Lv w0 [⟨q,most,flags,x⟩] Kp w∧∀w2,fC Kp w2→yN w2 w0.heap.size v N:=by
 obtain⟨κ,h1,h2,h3,h4⟩:=h
 have hb:∀(i:Nat) (r:dE),[(⟨q,most,flags,x⟩:dE)][i]? = some r→Bd w0.heap.size r.q r.most r.flags κ r.x w:=fun i r hr=>by
  have hi:i=0:=by have:=(List.getElem?_eq_some_iff.1 hr).1;simp at this;omega
  subst hi
  simp at hr
  subst hr
  exact h1
 have hd:∀(i j k:Nat),i < [(⟨q,most,flags,x⟩:dE)].length→j < [(⟨q,most,flags,x⟩:dE)].length→i≠j→κ k≠0→κ k=0:=fun i j k hi hj hne _=>by
  simp at hi hj
  omega
 rcases h2.2 with ⟨rfl,hn⟩|⟨g,cap,cur,rfl,hge,hh,hcap,hmax,hsz,htk⟩
 ·have he:N=[]:=List.length_eq_zero_iff.1 hn
  subst he
  exact⟨[],⟨fun _=>κ,hb,hd,fun z hz=>by simp at hz,h4⟩,fun w2 _=>yN.nil _ _⟩
 ·refine⟨[(g,.cells cur 9 (0,0))],⟨fun _=>κ,hb,hd,fun z hz=>?_,h4⟩,fun w2 hw=>?_⟩
  ·rw[List.mem_singleton] at hz
   subst hz
   exact⟨hh,fun i hi=>h3 g rfl⟩
  ·exact⟨h2.1,.inr ⟨g,cap,cur,rfl,hge,hw (g,.cells cur 9 (0,0)) (List.mem_singleton.2 rfl),hcap,hmax,hsz,htk⟩⟩
end
abbrev dz:DoB:=⟨0,0,0,0,⟨#[]⟩,[],[]⟩
def Z5 (d:DoB):List Value:=[.int .i64 d.kind,.int .i64 d.start,.int .i64 d.n,.int .u64 d.u,.string d.s,.slice none 0 0,.slice none 0 0]
theorem flat7:∀(l:List DoB) (i k:Nat) (d:DoB),l[i]? = some d→k < 7→(l.flatMap Z5)[i*7+k]? = (Z5 d)[k]?
 | [],i,k,d,h,_=>by simp at h
 | x::r,0,k,d,h,hk=>by
  simp at h
  subst h
  rw[List.flatMap_cons,Nat.zero_mul,Nat.zero_add,List.getElem?_append_left (by show k < 7;exact hk)]
 | x::r,i+1,k,d,h,hk=>by
  rw[List.flatMap_cons,List.getElem?_append_right (by show 7≤(i+1)*7+k;omega),show (i+1)*7+k - (Z5 x).length=i*7+k by show (i+1)*7+k - 7=_;omega]
  exact flat7 r i k d (by simpa using h) hk
def qL (d:DoB):Prop:=d.l=[]∧d.t=[]∧(-1000≤d.n∧d.n≤1000)∧(0≤d.u∧d.u≤1000)∧d.s.size≤1000
instance (d:DoB):Decidable (qL d):=by unfold qL;exact inferInstance
theorem tG (w:World) (l:List DoB) (cells:Array Value) (hc:cells=(l.flatMap Z5).toArray) (hok:∀d∈l,qL d) (hl:l.length≤1000):DosAt (w.alloc (.cells cells 95)) (.slice (some ⟨w.heap.size,0,none⟩) l.length l.length) l:=by
 subst hc
 refine⟨_,_,rfl,by omega,fun i d hd=>⟨w.heap.size,0,rfl,none,0,none,0,?_⟩⟩
 obtain⟨h1,h2,h3,h4,h5⟩:=hok d (List.mem_of_getElem? hd)
 have jJ:=heap_alloc_new w (.cells (l.flatMap Z5).toArray 95)
 have hf:=fun k hk=>flat7 l i k d hd hk
 have hq:∀(k:Nat) (v:Value),k < 7→(Z5 d)[k]? = some v→(w.alloc (.cells (l.flatMap Z5).toArray 95)).cell? ⟨w.heap.size,0+i*7+k,none⟩=some v:=fun k v hk hv=>jI jJ _ _ (by rw[List.getElem?_toArray,Nat.zero_add];exact (hf k hk).trans hv)
 have q0:=hq 0 _ (by decide) rfl
 have q1:=hq 1 _ (by decide) rfl
 have q2:=hq 2 _ (by decide) rfl
 have q3:=hq 3 _ (by decide) rfl
 have q4:=hq 4 _ (by decide) rfl
 have q5:=hq 5 _ (by decide) rfl
 have q6:=hq 6 _ (by decide) rfl
 rw[h1,h2]
 exact⟨⟨q0,q1,q2,q3,q4,q5,q6⟩,v6.nil _,kO.nil _,⟨by omega,by omega⟩,⟨by omega,by omega⟩,by unfold k9;omega,fun x hx=>absurd hx List.not_mem_nil⟩
theorem vU (flags e:Int) (want:ByteArray) (l:List DoB) (cells:Array Value) (n:Nat) (w:World) (hm:vS flags want e l=true) (hn:n=l.length) (hc:cells=(l.flatMap Z5).toArray) (hok:∀d∈l,qL d) (hl:l.length≤1000) :
 Calls prog 54 #[.int .i64 flags,.string want,.int .i64 e,.slice (some ⟨w.heap.size,0,none⟩) n n] (w.alloc (.cells cells 95)) fun r w'=>r=.returned (.bool true)∧jA w w':=by
 subst hn
 have h:=cP flags e want _ l _ (tG w l cells hc hok hl)
 rw[hm] at h
 exact h.mono fun r w' hr=>⟨hr.1,((jA.refl w).alloc _).trans hr.2⟩
theorem rB (flags e:Int) (want:ByteArray) (ks:List ByteArray) (cs:Array Value) (w:World) (hm:vS flags want e [{dz with kind:=12,t:=ks}]=true) (hcs:cs=(ks.map Value.string).toArray) (hz:∀s∈ks,s.size≤1000) (hl:ks.length≤1000) :
 Calls prog 54 #[.int .i64 flags,.string want,.int .i64 e,.slice (some ⟨w.heap.size+1,0,none⟩) 1 1] ((w.alloc (.cells cs 9)).alloc (.cells #[.int .i64 12,.int .i64 0,.int .i64 0,.int .u64 0,.string ⟨#[]⟩,.slice none 0 0,.slice (some ⟨w.heap.size,0,none⟩) ks.length ks.length] 95)) fun r w'=>r=.returned (.bool true)∧jA w w':=by
 subst hcs
 have hs:=mE w ks (fun s hs=>by have:=hz s hs;unfold k9;omega) (by omega)
 have hg:=(jA.refl (w.alloc (.cells (ks.map Value.string).toArray 9))).alloc (.cells #[.int .i64 12,.int .i64 0,.int .i64 0,.int .u64 0,.string ⟨#[]⟩,.slice none 0 0,.slice (some ⟨w.heap.size,0,none⟩) ks.length ks.length] 95)
 have jJ:=heap_alloc_new (w.alloc (.cells (ks.map Value.string).toArray 9)) (.cells #[.int .i64 12,.int .i64 0,.int .i64 0,.int .u64 0,.string ⟨#[]⟩,.slice none 0 0,.slice (some ⟨w.heap.size,0,none⟩) ks.length ks.length] 95)
 rw[show (w.alloc (.cells (ks.map Value.string).toArray 9)).heap.size=w.heap.size+1 by simp] at jJ
 have hd:DosAt ((w.alloc (.cells (ks.map Value.string).toArray 9)).alloc (.cells #[.int .i64 12,.int .i64 0,.int .i64 0,.int .u64 0,.string ⟨#[]⟩,.slice none 0 0,.slice (some ⟨w.heap.size,0,none⟩) ks.length ks.length] 95)) (.slice (some ⟨w.heap.size+1,0,none⟩) 1 1) [{dz with kind:=12,t:=ks}]:=by
  refine⟨_,_,rfl,(show (1:Nat)≤9223372036854775807 by decide),fun i d hd=>?_⟩
  match i,hd with
  | 0,hd=>
   cases hd
   exact⟨w.heap.size+1,0,rfl,none,0,some ⟨w.heap.size,0,none⟩,ks.length,⟨jI jJ 0 _ rfl,jI jJ 1 _ rfl,jI jJ 2 _ rfl,jI jJ 3 _ rfl,jI jJ 4 _ rfl,jI jJ 5 _ rfl,jI jJ 6 _ rfl⟩,v6.nil _,kO.grew hs hg,(show (-9223372036854775808:Int)≤0∧(0:Int)≤9223372036854775807 by decide),(show (0:Int)≤0∧(0:Int)≤18446744073709551615 by decide),(show (0:Nat)≤9223372036854775807 by decide),fun x hx=>absurd hx List.not_mem_nil⟩
 have h:=cP flags e want _ _ _ hd
 rw[hm] at h
 exact h.mono fun r w' hr=>⟨hr.1,((jA.refl w).alloc _).trans (hg.trans hr.2)⟩
theorem ex19_0:vS 7 ⟨#[5,4,1]⟩ 0 [{dz with kind:=2,n:=5}]=true:=by decide +kernel
theorem px19_0:∀d∈([{dz with kind:=2,n:=5}]:List DoB),qL d:=by decide +kernel
theorem ex19_1:vS 7 ⟨#[2,104,105,0,3,20,1]⟩ 0 [{dz with kind:=7,s:=⟨#[104,105]⟩}]=true:=by decide +kernel
theorem px19_1:∀d∈([{dz with kind:=7,s:=⟨#[104,105]⟩}]:List DoB),qL d:=by decide +kernel
theorem ex19_2:vS 7 ⟨#[2,0,1,0,44,1,5,5,6,41,1]⟩ 0 [{dz with kind:=2,n:=1},{dz with kind:=2,n:=300},{dz with kind:=15}]=true:=by decide +kernel
theorem px19_2:∀d∈([{dz with kind:=2,n:=1},{dz with kind:=2,n:=300},{dz with kind:=15}]:List DoB),qL d:=by decide +kernel
theorem ex19_3:vS 7 ⟨#[98,0,97,0,2,3,6,2,1,2,0,1,0,4,4,36,1]⟩ 0 [{dz with kind:=6,s:=⟨#[98]⟩},{dz with kind:=2,n:=1},{dz with kind:=6,s:=⟨#[97]⟩},dz,{dz with kind:=16}]=true:=by decide +kernel
theorem px19_3:∀d∈([{dz with kind:=6,s:=⟨#[98]⟩},{dz with kind:=2,n:=1},{dz with kind:=6,s:=⟨#[97]⟩},dz,{dz with kind:=16}]:List DoB),qL d:=by decide +kernel
theorem ex19_4:vS 7 ⟨#[97,0,2,3,4,2,56,1]⟩ 0 [{dz with kind:=12,t:=[⟨#[97]⟩,⟨#[97]⟩]}]=true:=by decide +kernel
theorem ex19_5:vS 7 ⟨#[]⟩ 140 []=true:=by decide +kernel
theorem ex19_6:vS 7 ⟨#[]⟩ 140 [{dz with kind:=2,n:=1},{dz with kind:=2,n:=2}]=true:=by decide +kernel
theorem px19_6:∀d∈([{dz with kind:=2,n:=1},{dz with kind:=2,n:=2}]:List DoB),qL d:=by decide +kernel
theorem ex19_7:vS 7 ⟨#[]⟩ 140 [{dz with kind:=6,s:=⟨#[97]⟩},{dz with kind:=16}]=true:=by decide +kernel
theorem px19_7:∀d∈([{dz with kind:=6,s:=⟨#[97]⟩},{dz with kind:=16}]:List DoB),qL d:=by decide +kernel
theorem ex19_8:vS 7 ⟨#[]⟩ 70 [{dz with kind:=6,s:=⟨#[97,0]⟩}]=true:=by decide +kernel
theorem px19_8:∀d∈([{dz with kind:=6,s:=⟨#[97,0]⟩}]:List DoB),qL d:=by decide +kernel
theorem ex19_9:vS 7 ⟨#[]⟩ 2 [{dz with kind:=15,u:=7,start:=1}]=true:=by decide +kernel
theorem px19_9:∀d∈([{dz with kind:=15,u:=7,start:=1}]:List DoB),qL d:=by decide +kernel
theorem nil19 (w:World):Calls prog 54 #[.int .i64 7,.string ⟨#[]⟩,.int .i64 140,.slice none 0 0] w fun r w'=>r=.returned (.bool true)∧jA w w':=by
 have h:=cP 7 140 ⟨#[]⟩ (.slice none 0 0) [] w ⟨none,0,rfl,by decide,fun i d hd=>by simp at hd⟩
 rw[ex19_5] at h
 exact h
theorem lV (w:World):Calls prog 15 #[] w fun r w'=>r=.returned (.bool true)∧jA w w':=by
 have HG0:=zh (jA.refl w)
 go_enter func15,ntmps15
 go_wp2_with fail
 refine (vU 7 0 ⟨#[5,4,1]⟩ [{dz with kind:=2,n:=5}] _ _ w ex19_0 rfl rfl px19_0 (by decide)).mono ?_
 rintro r x0 ⟨rfl,hg⟩
 have HG1:=zh (HG0.out.trans hg)
 clear hg
 go_wp2_with fail
 refine (vU 7 0 ⟨#[2,104,105,0,3,20,1]⟩ [{dz with kind:=7,s:=⟨#[104,105]⟩}] _ _ x0 ex19_1 rfl rfl px19_1 (by decide)).mono ?_
 rintro r x1 ⟨rfl,hg⟩
 have HG2:=zh (HG1.out.trans hg)
 clear hg
 go_wp2_with fail
 refine (vU 7 0 ⟨#[2,0,1,0,44,1,5,5,6,41,1]⟩ [{dz with kind:=2,n:=1},{dz with kind:=2,n:=300},{dz with kind:=15}] _ _ x1 ex19_2 rfl rfl px19_2 (by decide)).mono ?_
 rintro r x2 ⟨rfl,hg⟩
 have HG3:=zh (HG2.out.trans hg)
 clear hg
 go_wp2_with fail
 refine (vU 7 0 ⟨#[98,0,97,0,2,3,6,2,1,2,0,1,0,4,4,36,1]⟩ [{dz with kind:=6,s:=⟨#[98]⟩},{dz with kind:=2,n:=1},{dz with kind:=6,s:=⟨#[97]⟩},dz,{dz with kind:=16}] _ _ x2 ex19_3 rfl rfl px19_3 (by decide)).mono ?_
 rintro r x3 ⟨rfl,hg⟩
 have HG4:=zh (HG3.out.trans hg)
 clear hg
 go_wp2_with fail
 refine (rB 7 0 ⟨#[97,0,2,3,4,2,56,1]⟩ [⟨#[97]⟩,⟨#[97]⟩] _ x3 ex19_4 rfl (by decide) (by decide)).mono ?_
 rintro r x4 ⟨rfl,hg⟩
 have HG5:=zh (HG4.out.trans hg)
 clear hg
 go_wp2_with fail
 refine (nil19 x4).mono ?_
 rintro r x5 ⟨rfl,hg⟩
 have HG6:=zh (HG5.out.trans hg)
 clear hg
 go_wp2_with fail
 refine (vU 7 140 ⟨#[]⟩ [{dz with kind:=2,n:=1},{dz with kind:=2,n:=2}] _ _ x5 ex19_6 rfl rfl px19_6 (by decide)).mono ?_
 rintro r x6 ⟨rfl,hg⟩
 have HG7:=zh (HG6.out.trans hg)
 clear hg
 go_wp2_with fail
 refine (vU 7 140 ⟨#[]⟩ [{dz with kind:=6,s:=⟨#[97]⟩},{dz with kind:=16}] _ _ x6 ex19_7 rfl rfl px19_7 (by decide)).mono ?_
 rintro r x7 ⟨rfl,hg⟩
 have HG8:=zh (HG7.out.trans hg)
 clear hg
 go_wp2_with fail
 refine (vU 7 70 ⟨#[]⟩ [{dz with kind:=6,s:=⟨#[97,0]⟩}] _ _ x7 ex19_8 rfl rfl px19_8 (by decide)).mono ?_
 rintro r x8 ⟨rfl,hg⟩
 have HG9:=zh (HG8.out.trans hg)
 clear hg
 go_wp2_with fail
 refine (vU 7 2 ⟨#[]⟩ [{dz with kind:=15,u:=7,start:=1}] _ _ x8 ex19_9 rfl rfl px19_9 (by decide)).mono ?_
 rintro r x9 ⟨rfl,hg⟩
 have HG10:=zh (HG9.out.trans hg)
 clear hg
 go_wp2
 go_ret
 exact⟨rfl,HG10.out⟩
end Go.Proofs.YtjnpcddbgfmpcaaGreatDoor
