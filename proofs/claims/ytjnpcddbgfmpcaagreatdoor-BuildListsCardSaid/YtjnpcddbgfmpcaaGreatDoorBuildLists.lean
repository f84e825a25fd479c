/-
  BuildLists: with the flag two maps share their keys; the document is shorter.
-/
import Derived.Test.YtjnpcddbgfmpcaaGreatDoorBListsPAA
import Derived.Test.YtjnpcddbgfmpcaaGreatDoorCards
import Derived.Test.YtjnpcddbgfmpcaaGreatDoorTie
import Derived.SevenTiedAt
import Derived.Test.YtjnpcddbgfmpcaaGreatDoorBListsPBZ
import Derived.Shelf.Vars
set_option linter.unusedVariables false
set_option linter.unusedSimpArgs false
set_option maxHeartbeats 16000000
set_option maxRecDepth 100000
namespace Go.Proofs.YtjnpcddbgfmpcaaGreatDoor
open Go.Proofs.Tryz
open Go.ChangeMaps (open_string shut_string)
open Go Go.ChangeShapes Go.WideShapes Go.ChangeAt Go.RowKit Go.Joins
open Go.Deep
open Go.Proofs.YtjnpcddbgfmpcaaGreatDoor.Ft (V3 vV okV ValsAt inlineB legalB packF codeF typedF allF)
theorem buildLists_any (turn mx:Int) (lv:Value) (l:List ByteArray) (w:World) (h:kB w lv l) (hm:w.cell? ⟨0,0,none⟩=some (.int .i64 mx)) :
 Calls prog 3 #[lv,.int .i64 turn] w fun r w'=>r=.returned (.bool true)∧Below w.heap.size w w':=by
 obtain⟨ad,c,rfl,hlc,hcm,_,j8⟩:=h
 have HC:=zh j8
 have HM:=zh hm
 have hl:l.length≤9223372036854775807:=by unfold kV at hcm;omega
 clear j8 hcm hm hlc
 go_enter func3,ntmps3
 go_wp2_with fail
 go_loopw [5,6] (fun v i wr=>∃k:Nat,k≤l.length∧k≤20∧i=.int .i64 k∧∃(L:List ByteArray),L.length≤k∧Hid (L.Nodup∧∀q∈L,yL q=0∧q.size≤20∧(0:UInt8)∉q.data.toList)∧Hid (zR wr w.heap.size v L∧jA w wr)) (fun _ i _=>l.length - (intOf i).toNat)
 case atStart=>exact⟨0,Nat.zero_le _,by omega,rfl,[],Nat.le_refl _,⟨List.nodup_nil,fun q hq=>by cases hq⟩,⟨zR.nil _ _,jA.refl _⟩⟩
 case round=>
  generalize wr=wo at *
  obtain⟨k,hk,hk40,rfl,L,hLk,HLK,HW⟩:=hrel
  have HO:=zh HW.out.1
  have HG:=zh HW.out.2
  obtain⟨va,vc,rfl,_,_,_⟩:=j3 HO.out
  have hLL:L.length≤20:=by omega
  clear HW
  by_cases hlt:k < l.length∧k < 20
  ·obtain⟨hlt,hk4⟩:=hlt
   obtain⟨x,hx⟩:∃x,l[k]? = some x:=⟨_,List.getElem?_eq_getElem hlt⟩
   obtain⟨hz,b,off,rfl,c0⟩:=HC.out k x hx
   have HZ:=zh hz
   have d0:=HG.out.cell c0
   have HR:Hid (∀W,jA w W→Calls prog 6 #[.string (yP x 20),.string ⟨#[0]⟩,.string ⟨#[45]⟩] W fun r w'=>r=.returned (.string (Q5 (yP x 20)))∧jA W w'):=fun W hg=>tD _ mx W (by rw[vS];omega) (hg.cell HM.out)
   have hXs:(Q5 (yP x 20)).size≤20:=by rw[nC,vS];omega
   have HXK:=zh (And.intro (pZ (yP x 20)) (cU (yP x 20)))
   clear hx hz c0
   have hki:(k:Int) < l.length:=by omega
   have hki4:(k:Int) < 20:=by omega
   go_wp2_with fail
   refine (YY _ x 20 HZ.out (by decide)).mono ?_
   rintro r w2 ⟨rfl,rfl⟩
   go_wp2_with fail
   refine (HR.out _ HG.out).mono ?_
   rintro r w3 ⟨rfl,hg⟩
   replace HO:=zh (HO.out.grew hg)
   replace HG:=zh (HG.out.trans hg)
   clear hg d0 HR HZ
   generalize Q5 (yP x 20)=X at *
   have HT:=zh (HO.out.strs (fun q hq=>by have:=(HLK.out.2 q hq).2.1;unfold kV;omega))
   go_wp2_with fail
   go_loopw [8,9] (fun hv jv wr=>∃j:Nat,j≤L.length∧jv=.int .i64 j∧hv=.bool (dH (L.take j) X)∧Hid (jA w3 wr)) (fun _ jv _=>L.length - (intOf jv).toNat)
   case atStart=>exact⟨0,Nat.zero_le _,rfl,by simp[dH],jA.refl _⟩
   case round=>
    generalize wr=w4 at *
    obtain⟨j,hj,rfl,rfl,HI⟩:=hrel
    by_cases hjl:j < L.length
    ·obtain⟨y,hy⟩:∃y,L[j]? = some y:=⟨_,List.getElem?_eq_getElem hjl⟩
     have HST:=zh (tC X hy)
     obtain⟨_,_,ee,_,_,_,hcl⟩:=HT.out
     cases ee
     obtain⟨_,b2,off2,rfl,c2⟩:=hcl j y hy
     have d2:=HI.out.cell c2
     have hji:(j:Int) < L.length:=by omega
     clear c2 hcl hy
     obtain⟨hb,hhb⟩:∃hb,dH (L.take j) X=hb:=⟨_,rfl⟩
     rw[hhb] at HST⊢
     cases hb
     ·rw[Bool.false_or] at HST
      go_wp2_with fail
      go_roundw
      case rel=>exact⟨j+1,by omega,by go_num,by rw[← HST.out],HI.out⟩
      case measure=>simp[intOf];omega
     ·rw[Bool.true_or] at HST
      go_wp2_with fail
      go_roundw
      case rel=>exact⟨j+1,by omega,by go_num,by rw[← HST.out],HI.out⟩
      case measure=>simp[intOf];omega
    ·have ej:j=L.length:=by omega
     subst ej
     rw[List.take_length]
     clear hjl
     replace HO:=zh (HO.out.grew HI.out)
     replace HG:=zh (HG.out.trans HI.out)
     have HLN:Hid (L.length≤40):=by show _≤_;omega
     have HO2:Hid (∀o,zR (w4.alloc o) w.heap.size (.slice va L.length vc) L):=fun o=>HO.out.grew ((jA.refl _).alloc o)
     have hXz:Hid (kV X.size):=by show kV _;unfold kV;omega
     obtain⟨hd,hhd⟩:∃hd,dH L X=hd:=⟨_,rfl⟩
     rw[hhd]
     cases hd
     ·have HN:=zh (had_no.1 hhd)
      clear hhd
      go_wp2_with (at_builtin;refine JO rfl _ _ rfl w.heap.size (.slice va L.length vc) L rfl (HO2.out _) _ [X] rfl (bA _ _ hXz.out) (by have:=HLN.out;simp;omega) (Nat.le_trans HG.out.size (by simp)) ?_;intro v' w5 jZ hgr hqq;obtain⟨va2,vc2,rfl,_,_,_⟩:=j3 jZ;have HG3:=zh (And.intro jZ (QI (HO2.out _) (HG.out.alloc _) hgr));clear jZ hgr hqq)
      go_roundw
      case rel=>
       refine⟨k+1,by omega,by omega,by go_num,L++[X],by rw[List.length_append,List.length_singleton];omega,⟨List.nodup_append.2 ⟨HLK.out.1,by simp,fun a ha b hb e=>HN.out (by rw[List.mem_singleton] at hb;rw[← hb,← e];exact ha)⟩,fun q hq=>?_⟩,by have hh:=HG3.out;rw[List.length_append] at hh;exact hh⟩
       rcases List.mem_append.1 hq with hq|hq
       ·exact HLK.out.2 q hq
       ·obtain rfl:=List.mem_singleton.1 hq
        exact⟨HXK.out.1,hXs,HXK.out.2⟩
      case measure=>simp[intOf];omega
     ·clear hhd
      go_wp2_with fail
      go_roundw
      case rel=>exact⟨k+1,by omega,by omega,by go_num,L,by omega,HLK.out,HO.out,HG.out⟩
      case measure=>simp[intOf];omega
  ·have m0:=Int.emod_nonneg turn (show ((L.length:Int)+1)≠0 by omega)
   have m1:=Int.emod_lt_of_pos turn (show (0:Int) < (L.length:Int)+1 by omega)
   have HBR:Hid (∀w,Calls prog 8 #[.int .i64 turn,.int .i64 ((L.length:Int)+1)] w fun r w'=>r=.returned (.int .i64 (turn % ((L.length:Int)+1)))∧w'=w):=fun w=>Y1 turn _ w (by omega) (by omega)
   obtain⟨kk,hkk⟩:∃kk:Nat,turn % ((L.length:Int)+1)=(kk:Int):=⟨(turn % ((L.length:Int)+1)).toNat,by omega⟩
   rw[hkk] at HBR m1
   have hkL:kk≤L.length:=by omega
   clear m0 m1 hkk
   rcases (show (¬(k:Int) < l.length)∨((k:Int) < l.length∧¬(k:Int) < 20) by omega) with eki|⟨eki,e40⟩
   all_goals
    clear hlt
    go_wp2_with fail
    refine (HBR.out _).mono ?_
    rintro r w1 ⟨rfl,rfl⟩
    clear HBR
    go_wp2_with fail
    refine ((Lv.nil w1).new 5 1048576).mono ?_
    rintro r w2 ⟨q1,rfl,hl⟩
    have HL:=zh hl
    clear hl
    go_wp2_with fail
    refine (HL.out.new 1 1048576).mono ?_
    rintro r wA ⟨q2,rfl,hl⟩
    rw[show y8 1048576=1048576 from rfl] at hl
    have HLV:Hid (Lv w1 [⟨q1,1048576,5,BS.new⟩,⟨q2,1048576,1,BS.new⟩] [] wA):=hl
    clear hl HL
    have HTA:=zh (kB.grew (HO.out.strs (fun q hq=>by have:=(HLK.out.2 q hq).2.1;unfold kV;omega)) HLV.out.below)
    have hkLi:(kk:Int)≤L.length:=by omega
    have hkci:(kk:Int)≤vc:=by obtain⟨_,_,e,h2,_⟩:=HTA.out;injection e with e1 e2 e3;omega
    have hkc:kk≤vc:=by omega
    go_wp2_with fail
    refine jM [1,5,9,10] (fun (_:Nat) w=>jA wA w) (fun _ w w'=>jA w w') ((fun p (_:Nat→Value)=>(fun _ _ _=>True) p)) [[],[],[],[],[2,3],[1,2,3,4],[],[],[6,7],[1,2,3,4,5,6,7,8],[0,1,2,3,4,5,6,7,8,9],[0,1,2,3,4,5,6,7,8,9,10]] [[(65,1),(66,2),(67,3),(68,4),(69,5),(70,6),(71,7),(72,8),(73,9)],[(64,0),(66,2),(67,3),(68,4),(70,6),(71,7),(72,8)],[(64,0),(65,1),(67,3),(70,6),(71,7),(72,8)],[(64,0),(65,1),(66,2),(70,6),(71,7),(72,8)],[(64,0),(65,1),(66,2),(67,3),(70,6),(71,7),(72,8)],[(64,0),(65,1),(66,2),(67,3),(68,4),(70,6),(71,7),(72,8)],[(64,0),(65,1),(66,2),(67,3),(68,4),(69,5),(71,7)],[(64,0),(65,1),(66,2),(67,3),(68,4),(69,5),(70,6)],[(64,0),(65,1),(66,2),(67,3),(68,4),(69,5),(70,6),(71,7)],[(64,0),(65,1),(66,2),(67,3),(68,4),(69,5),(70,6),(71,7),(72,8)],[(64,0),(65,1),(66,2),(67,3),(68,4),(69,5),(70,6),(71,7),(72,8),(73,9)],[(64,0),(65,1),(66,2),(67,3),(68,4),(69,5),(70,6),(71,7),(72,8),(73,9),(74,10)]] [(64,0),(65,1),(66,2),(67,3),(68,4),(69,5),(70,6),(71,7),(72,8),(73,9),(74,10),(13,11)]
     [IsP (.slice va L.length vc),AtP (fun v w=>zR w wA.heap.size v []) 1,IsP (.slice va L.length vc),IsP (.int .i64 (kk:Int)),fun _ v _=>kB wA v (L.drop kk),AtP (fun v w=>zR w wA.heap.size v (L.drop kk)) 2,IsP (.slice va L.length vc),IsP (.int .i64 (kk:Int)),fun _ v _=>kB wA v (L.take kk),AtP (fun v w=>zR w wA.heap.size v (L.drop kk++L.take kk)) 3,AtP (cW wA.heap.size (.slice va L.length vc) (L.drop kk++L.take kk)) 4,AtP (cW wA.heap.size (.slice va L.length vc) (L.drop kk++L.take kk)) 4]
     zk (fun _ _ _ hg h=>jA.trans h hg) ((jA.refl _).drew) zk zk ⟨jC,yW (AtP.st (fun v w w' hg h=>zR.grew h hg)),jC,jC,yW (⟨fun _ _ _ _ _ h=>h,fun _ _ _ _ _ h=>h⟩),yW (AtP.st (fun v w w' hg h=>zR.grew h hg)),jC,jC,yW (⟨fun _ _ _ _ _ h=>h,fun _ _ _ _ _ h=>h⟩),yW (AtP.st (fun v w w' hg h=>zR.grew h hg)),yW (AtP.st (fun v w w' hg h=>cW.grew h hg)),yW (AtP.st (fun v w w' hg h=>cW.grew h hg)),trivial⟩ rfl ?_ ?_
    ·intro y w9 hW hF
     simp only[zA,IsP,Nat.reduceAdd,List.length_cons,List.length_nil] at hF hW
     have h0:=hF.1
     have h1:=hF.2.1
     have h2:=hF.2.2.1
     have h3:=hF.2.2.2.1
     have h4:=hF.2.2.2.2.1
     have h5:=hF.2.2.2.2.2.1
     have h6:=hF.2.2.2.2.2.2.1
     have h7:=hF.2.2.2.2.2.2.2.1
     have h8:=hF.2.2.2.2.2.2.2.2.1
     have h9:=hF.2.2.2.2.2.2.2.2.2.1
     have h10:=hF.2.2.2.2.2.2.2.2.2.2.1
     have h11:=hF.2.2.2.2.2.2.2.2.2.2.2.1
     clear hF
     simp only[jB,Act.put,zq1,zq2,zq3,zq4,zq5]
     simp only[h0,h2,h3,h6,h7]
     clear h0 h2 h3 h6 h7
     have hTW:=h11.2 rfl
     obtain⟨g,v9,e13,hge,jJ,jZ⟩:=hTW
     clear h1 h4 h5 h8 h9 h10 h11
     rw[e13]
     obtain⟨a9,c9,e9,_,_,_⟩:=j3 jZ
     rw[e9] at jZ jJ
     clear e9 e13
     have hperm:(L.drop kk++L.take kk).Perm L:=by
      have h:=List.perm_append_comm (l₁:=L.drop kk) (l₂:=L.take kk)
      rwa [List.take_append_drop] at h
     have hRs:∀q∈L.drop kk++L.take kk,q.size≤20:=fun q hq=>(HLK.out.2 q (hperm.mem_iff.1 hq)).2.1
     generalize L.drop kk++L.take kk=R at *
     have hRl:=hperm.length_eq
     obtain⟨Z,hz,hzk⟩:=jZ.kept
     obtain⟨y0,hy0,dx,dy,hdx,hdy,hdl⟩:=p5 HLK.out.1 hperm hLL (fun k hm=>⟨(HLK.out.2 k hm).1,(HLK.out.2 k hm).2.1⟩)
     obtain⟨Kp,hKp⟩:∃Kp,(g,Obj.cells #[.slice va L.length vc,.slice a9 R.length c9] 22 (0,0))::Z++[]=Kp:=⟨_,rfl⟩
     have HV0:Hid (Lv w1 [⟨q1,1048576,5,BS.new⟩,⟨q2,1048576,1,BS.new⟩] Kp w9):=by
      rw[← hKp]
      refine Lv.keeps HLV.out hW fun z hm=>?_
      rcases List.mem_cons.1 hm with rfl|hm
      ·exact⟨hge,jJ⟩
      ·exact hz z hm
     have HKP:Hid (∀w',aD Kp w'→jA w1 w'→w'.heap[g]? = some (.cells #[.slice va L.length vc,.slice a9 R.length c9] 22 (0,0))∧kB w' (.slice va L.length vc) L∧kB w' (.slice a9 R.length c9) R):=fun w' hh hg=>by
      rw[← hKp] at hh
      refine⟨hh (g,Obj.cells #[.slice va L.length vc,.slice a9 R.length c9] 22 (0,0)) (by simp),kB.grew (HO.out.strs (fun q hq=>by have:=(HLK.out.2 q hq).2.1;unfold kV;omega)) hg,(hzk w' (hh.mono fun z hm=>by simp[hm])).strs (fun q hq=>by have:=hRs q hq;unfold kV;omega)⟩
     obtain⟨zb,hzb⟩:∃zb,(seqB y0 R).endMap 1048576 true 1=zb:=⟨_,rfl⟩
     obtain⟨zc,hzc⟩:∃zc,(seqB y0 R).endMap 1048576 false 1=zc:=⟨_,rfl⟩
     rw[hzb] at hdx
     rw[hzc] at hdy
     have HDX:=zh hdx
     have HDY:=zh hdy
     have HGZ:=zh (show zb.Good∧zc.Good by
      have hgy:y0.Good:=by rw[← hy0 true];exact BS.Good.endMap (vN L BS.Good.new)
      exact⟨by rw[← hzb];exact BS.Good.endMap (vN R hgy),by rw[← hzc];exact BS.Good.endMap (vN R hgy)⟩)
     have HSTG:Hid (∀(i:Nat) x1 x2,i < 2→StB y0 zb zc i x1 x2→∃(T:List ByteArray) (a:Option Addr) (c:Nat),T.length=L.length∧(∀q∈T,q.size≤20)∧(∀w',aD Kp w'→jA w1 w'→w'.cell? ⟨g,0+i,none⟩=some (.slice a L.length c)∧kB w' (.slice a T.length c) T)∧x2=x1∧x1.Good∧StB y0 zb zc (i+1) ((seqB x1 T).endMap 1048576 true i) ((seqB x1 T).endMap 1048576 false i)):=by
      intro i x1 x2 hi2 hst
      match i,hi2 with
      | 0,_=>
       obtain⟨rfl,rfl⟩:=hst
       refine⟨L,va,vc,rfl,fun q hq=>(HLK.out.2 q hq).2.1,fun w' hh hg=>?_,rfl,BS.Good.new,hy0 true,hy0 false⟩
       obtain⟨k1,k2,k3⟩:=HKP.out w' hh hg
       exact⟨jI k1 0 _ rfl,k2⟩
      | 1,_=>
       obtain⟨rfl,rfl⟩:=hst
       refine⟨R,a9,c9,hRl,hRs,fun w' hh hg=>?_,rfl,by rw[← hy0 true];exact BS.Good.endMap (vN L BS.Good.new),hzb,hzc⟩
       obtain⟨k1,k2,k3⟩:=HKP.out w' hh hg
       exact⟨jI k1 1 _ (by rw[← hRl];rfl),k3⟩
     clear hzb hzc hdx hdy hy0 hz hzk jZ jJ hperm hRs hge HLV HTA hW HKP hKp
     go_wp2_with fail
     go_loopw [14] (fun iv wr=>∃i:Nat,i≤2∧iv=.int .i64 i∧∃x1 x2,Hid (StB y0 zb zc i x1 x2)∧Hid (Lv w1 [⟨q1,1048576,5,x1⟩,⟨q2,1048576,1,x2⟩] Kp wr)) (fun iv _=>2 - (intOf iv).toNat)
     case atStart=>exact⟨0,by omega,rfl,BS.new,BS.new,⟨rfl,rfl⟩,HV0.out⟩
     case round=>
      generalize wr=w5 at *
      obtain⟨i,hi,rfl,x1,x2,HST,HV⟩:=hrel
      clear HV0
      by_cases hi2:i < 2
      ·obtain⟨T,a,c2,hTl,hTs,j8,rfl,hgood,hnext⟩:=HSTG.out i x1 x2 hi2 HST.out
       have HCELL:=zh j8
       have HTS:=zh hTs
       have HGD:Hid x2.Good:=hgood
       have HNX:=zh hnext
       clear j8 hTs hgood hnext
       have hii:(i:Int) < 2:=by omega
       go_wp2_with fail
       go_loopw [15] (fun nv wr=>∃n:Nat,n≤L.length∧nv=.int .i64 n∧Hid (Lv w1 [⟨q1,1048576,5,seqB x2 (T.take n)⟩,⟨q2,1048576,1,seqB x2 (T.take n)⟩] Kp wr)) (fun nv _=>L.length - (intOf nv).toNat)
       case atStart=>exact⟨0,Nat.zero_le _,rfl,HV.out⟩
       case round=>
        generalize wr=w6 at *
        obtain⟨n,hn,rfl,HW⟩:=hrel
        clear HV
        by_cases hnl:n < L.length
        ·obtain⟨s,hs⟩:∃s,T[n]? = some s:=⟨_,List.getElem?_eq_getElem (by omega)⟩
         have HSN:Hid (T.take (n+1)=T.take n++[s]):=by show _=_;rw[List.take_add_one,hs];rfl
         have hsz:=HTS.out s (List.mem_of_getElem? hs)
         have hni:(n:Int) < L.length:=by omega
         have HGX:Hid (seqB x2 (T.take n)).Good:=vN _ HGD.out
         generalize hXX:seqB x2 (T.take n)=X at *
         obtain⟨k1,_,_,ee,_,_,_,hcl⟩:=HCELL.out w6 HW.out.held HW.out.below
         cases ee
         obtain⟨_,b2,off2,rfl,k2⟩:=hcl n s hs
         have k1':=k1
         rw[Nat.zero_add] at k1'
         clear hcl
         go_wp2_with fail
         refine (HW.out.call (P:=fun r=>r=.returned (.tuple #[])) (x':=X.key 1048576 true s) 0 rfl fun κ hb _=>by have h:=cI s (by omega) HGX.out hb;rw[on51] at h;exact h).mono ?_
         rintro r w7 ⟨rfl,hv⟩
         have HW7:Hid (Lv w1 [⟨q1,1048576,5,X.key 1048576 true s⟩,⟨q2,1048576,1,X⟩] Kp w7):=hv
         clear hv HW k1 k1' k2
         go_wp2_with fail
         refine (HW7.out.call (P:=fun r=>r=.returned (.tuple #[])) (x':=(X.key 1048576 true s).inline (0,1,0)) 0 rfl fun κ hb _=>VO hb).mono ?_
         rintro r w8 ⟨rfl,hv⟩
         have HW8:Hid (Lv w1 [⟨q1,1048576,5,(X.key 1048576 true s).inline (0,1,0)⟩,⟨q2,1048576,1,X⟩] Kp w8):=hv
         clear hv HW7
         obtain⟨k1,_,_,ee,_,_,_,hcl⟩:=HCELL.out w8 HW8.out.held HW8.out.below
         cases ee
         obtain⟨_,b3,off3,e3,k2⟩:=hcl n s hs
         cases e3
         have k1':=k1
         rw[Nat.zero_add] at k1'
         clear hcl
         go_wp2_with fail
         refine (HW8.out.call (P:=fun r=>r=.returned (.tuple #[])) (x':=X.key 1048576 true s) 1 rfl fun κ hb _=>by have h:=cI s (by omega) HGX.out hb;rw[on11] at h;exact h).mono ?_
         rintro r w9' ⟨rfl,hv⟩
         have HW9:Hid (Lv w1 [⟨q1,1048576,5,(X.key 1048576 true s).inline (0,1,0)⟩,⟨q2,1048576,1,X.key 1048576 true s⟩] Kp w9'):=hv
         clear hv HW8 k1 k1' k2
         go_wp2_with fail
         refine (HW9.out.call (P:=fun r=>r=.returned (.tuple #[])) (x':=(X.key 1048576 true s).inline (0,1,0)) 1 rfl fun κ hb _=>VO hb).mono ?_
         rintro r w10 ⟨rfl,hv⟩
         have HW10:Hid (Lv w1 [⟨q1,1048576,5,(X.key 1048576 true s).inline (0,1,0)⟩,⟨q2,1048576,1,(X.key 1048576 true s).inline (0,1,0)⟩] Kp w10):=hv
         clear hv HW9
         go_wp2_with fail
         go_roundw
         case rel=>exact⟨n+1,by omega,by go_num,by rw[HSN.out,p4,hXX];exact HW10.out⟩
         case measure=>simp[intOf];omega
        ·have en:n=L.length:=by omega
         subst en
         rw[List.take_of_length_le (by omega)] at HW
         have HGX:Hid (seqB x2 T).Good:=vN _ HGD.out
         generalize seqB x2 T=X at *
         go_wp2_with fail
         refine (HW.out.call (P:=fun r=>r=.returned (.tuple #[])) (x':=X.endMap 1048576 true i) 0 rfl fun κ hb _=>by have h:=Z6 (i:Int) HGX.out hb;rw[on54] at h;exact h).mono ?_
         rintro r w7 ⟨rfl,hv⟩
         have HW7:Hid (Lv w1 [⟨q1,1048576,5,X.endMap 1048576 true i⟩,⟨q2,1048576,1,X⟩] Kp w7):=hv
         clear hv HW
         go_wp2_with fail
         refine (HW7.out.call (P:=fun r=>r=.returned (.tuple #[])) (x':=X.endMap 1048576 false i) 1 rfl fun κ hb _=>by have h:=Z6 (i:Int) HGX.out hb;rw[on14] at h;exact h).mono ?_
         rintro r w8 ⟨rfl,hv⟩
         have HW8:Hid (Lv w1 [⟨q1,1048576,5,X.endMap 1048576 true i⟩,⟨q2,1048576,1,X.endMap 1048576 false i⟩] Kp w8):=hv
         clear hv HW7
         go_wp2_with fail
         go_roundw
         case rel=>exact⟨i+1,by omega,by go_num,_,_,HNX.out,HW8.out⟩
         case measure=>simp[intOf];omega
      ·have e2:i=2:=by omega
       subst e2
       obtain⟨rfl,rfl⟩:=HST.out
       clear HSTG HST hi2
       go_wp2_with fail
       refine (HV.out.call (P:=fun r=>r=.returned (.tuple #[])) (x':=x1.endVec 1048576 0) 0 rfl fun κ hb _=>Z1 0 HGZ.out.1 hb).mono ?_
       rintro r w6 ⟨rfl,hv⟩
       have HW6:Hid (Lv w1 [⟨q1,1048576,5,x1.endVec 1048576 0⟩,⟨q2,1048576,1,x2⟩] Kp w6):=hv
       clear hv HV
       go_wp2_with fail
       refine (HW6.out.call (P:=fun r=>r=.returned (.tuple #[])) (x':=x2.endVec 1048576 0) 1 rfl fun κ hb _=>Z1 0 HGZ.out.2 hb).mono ?_
       rintro r w7 ⟨rfl,hv⟩
       have HW7:Hid (Lv w1 [⟨q1,1048576,5,x1.endVec 1048576 0⟩,⟨q2,1048576,1,x2.endVec 1048576 0⟩] Kp w7):=hv
       clear hv HW6 HGZ
       generalize x1.endVec 1048576 0=X at *
       generalize x2.endVec 1048576 0=Y at *
       go_wp2_with fail
       refine (HW7.out.fin 0 rfl).mono ?_
       dsimp only
       rw[HDX.out]
       rintro r w8 ⟨ax,cx,K1,rfl,hv,_,_⟩
       have HW8:Hid (Lv w1 [⟨q1,1048576,5,(X.finish 1048576).2⟩,⟨q2,1048576,1,Y⟩] K1 w8):=hv
       clear hv HW7
       go_wp2_with fail
       refine (HW8.out.fin 1 rfl).mono ?_
       dsimp only
       rw[HDY.out]
       rintro r w10 ⟨ay,cy,K2,rfl,hv,_,_⟩
       have HB1:=zh hv.below
       clear hv HW8 HDX HDY
       generalize dx.length=m at *
       generalize dy.length=m' at *
       have hmm:(m:Int) < m':=by omega
       go_wp2_with fail
       refine (lR _).mono ?_
       rintro r w11 ⟨rfl,hb⟩
       have HB2:=zh (jA.trans HB1.out hb)
       clear hb
       go_wp2
       go_ret
       exact⟨rfl,HG.out.trans HB2.out⟩
    refine⟨?_,?_⟩
    ·refine jH 0 3 ?_
     intro y w9 p hlo hhi hW hD K hK
     clear hD
     generalize hAA:jB y _ _=AA at hK⊢
     simp only[jB,Act.put,zq1,zq2,zq3,zq4,zq5,IsP] at hAA
     subst hAA
     simp only[zq4,zq5,IsP] at hK
     refine jL ?_
     go_simp
     exact hK _ _ _ rfl (jA.refl _) rfl
    refine⟨?_,?_⟩
    ·refine jN 0 rfl ?_
     intro y w9 hW hD K hK
     clear hD
     generalize hAA:jB y _ _=AA at hK⊢
     simp only[jB,Act.put,zq1,zq2,zq3,zq4,zq5,IsP] at hAA
     subst hAA
     simp only[zq4,zq5,IsP] at hK
     refine jL ?_
     go_simp
     exact hK _ _ _ rfl trivial (jA.trans hW ((jA.refl _).alloc _)) (show AtP _ 1 _ _ _ from ⟨by omega,fun _=>p7 _ _ (jA.size hW)⟩)
    refine⟨?_,?_⟩
    ·refine jH 0 1 ?_
     intro y w9 p hlo hhi hW hD K hK
     clear hD
     generalize hAA:jB y _ _=AA at hK⊢
     simp only[jB,Act.put,zq1,zq2,zq3,zq4,zq5,IsP] at hAA
     subst hAA
     simp only[zq4,zq5,IsP] at hK
     refine jL ?_
     go_simp
     exact hK _ _ _ rfl (jA.refl _) rfl
    refine⟨?_,?_⟩
    ·refine jH 0 1 ?_
     intro y w9 p hlo hhi hW hD K hK
     clear hD
     generalize hAA:jB y _ _=AA at hK⊢
     simp only[jB,Act.put,zq1,zq2,zq3,zq4,zq5,IsP] at hAA
     subst hAA
     simp only[zq4,zq5,IsP] at hK
     refine jL ?_
     go_simp
     exact hK _ _ _ rfl (jA.refl _) rfl
    refine⟨?_,?_⟩
    ·refine jH 0 1 ?_
     intro y w9 p hlo hhi hW hD K hK
     simp only[jU,zq4,zq5,IsP] at hD
     have h2:=hD.1
     have h3:=hD.2.1
     clear hD
     generalize hAA:jB y _ _=AA at hK⊢
     simp only[jB,Act.put,zq1,zq2,zq3,zq4,zq5,IsP] at hAA
     subst hAA
     simp only[zq4,zq5,IsP] at hK
     simp only[h2,h3] at hK⊢
     clear h2 h3
     refine jL ?_
     go_simp
     exact hK _ _ _ rfl (jA.refl _) (by first | exact fF HTA.out hkL | (have h9:=fF HTA.out hkL;simpa using h9))
    refine⟨?_,?_⟩
    ·refine jN 1 rfl ?_
     intro y w9 hW hD K hK
     simp only[jU,zq4,zq5,IsP] at hD
     have h1:=hD.1
     have h2:=hD.2.1
     have h3:=hD.2.2.1
     have h4:=hD.2.2.2.1
     clear hD
     generalize hAA:jB y _ _=AA at hK⊢
     simp only[jB,Act.put,zq1,zq2,zq3,zq4,zq5,IsP] at hAA
     subst hAA
     simp only[zq4,zq5,IsP] at hK
     simp only[h2,h3] at hK⊢
     clear h2 h3
     refine jL ?_
     have q1:=h1.2 rfl
     obtain⟨v',w',hr,ho,hgr⟩:=aE w9 22 wA.heap.size (y 1) [] q1 (y 4) (L.drop kk) (kB.grew h4 hW) (by simp only[List.length_drop,List.length_take,List.length_nil];omega) (jA.size hW)
     refine Lib.wp_append_run w9 _ _ 22 22 rfl (y 1) (y 4) rfl rfl v' w' hr ?_
     exact hK _ _ _ rfl trivial (QI q1 hW hgr) (show AtP _ 2 _ _ _ from ⟨by omega,fun _=>by simpa using ho⟩)
    refine⟨?_,?_⟩
    ·refine jH 0 2 ?_
     intro y w9 p hlo hhi hW hD K hK
     clear hD
     generalize hAA:jB y _ _=AA at hK⊢
     simp only[jB,Act.put,zq1,zq2,zq3,zq4,zq5,IsP] at hAA
     subst hAA
     simp only[zq4,zq5,IsP] at hK
     refine jL ?_
     go_simp
     exact hK _ _ _ rfl (jA.refl _) rfl
    refine⟨?_,?_⟩
    ·refine jH 0 2 ?_
     intro y w9 p hlo hhi hW hD K hK
     clear hD
     generalize hAA:jB y _ _=AA at hK⊢
     simp only[jB,Act.put,zq1,zq2,zq3,zq4,zq5,IsP] at hAA
     subst hAA
     simp only[zq4,zq5,IsP] at hK
     refine jL ?_
     go_simp
     exact hK _ _ _ rfl (jA.refl _) rfl
    refine⟨?_,?_⟩
    ·refine jH 0 2 ?_
     intro y w9 p hlo hhi hW hD K hK
     simp only[jU,zq4,zq5,IsP] at hD
     have h6:=hD.1
     have h7:=hD.2.1
     clear hD
     generalize hAA:jB y _ _=AA at hK⊢
     simp only[jB,Act.put,zq1,zq2,zq3,zq4,zq5,IsP] at hAA
     subst hAA
     simp only[zq4,zq5,IsP] at hK
     simp only[h6,h7] at hK⊢
     clear h6 h7
     refine jL ?_
     go_simp
     first | exact hK _ _ _ rfl (jA.refl _) (p6 HTA.out hkL) | (trace_state;sorry)
    refine⟨?_,?_⟩
    ·refine jN 2 rfl ?_
     intro y w9 hW hD K hK
     simp only[jU,zq4,zq5,IsP] at hD
     have h1:=hD.1
     have h2:=hD.2.1
     have h3:=hD.2.2.1
     have h4:=hD.2.2.2.1
     have h5:=hD.2.2.2.2.1
     have h6:=hD.2.2.2.2.2.1
     have h7:=hD.2.2.2.2.2.2.1
     have h8:=hD.2.2.2.2.2.2.2.1
     clear hD
     generalize hAA:jB y _ _=AA at hK⊢
     simp only[jB,Act.put,zq1,zq2,zq3,zq4,zq5,IsP] at hAA
     subst hAA
     simp only[zq4,zq5,IsP] at hK
     simp only[h2,h3,h6,h7] at hK⊢
     clear h2 h3 h6 h7
     refine jL ?_
     have q1:=h5.2 rfl
     obtain⟨v',w',hr,ho,hgr⟩:=aE w9 22 wA.heap.size (y 5) (L.drop kk) q1 (y 8) (L.take kk) (kB.grew h8 hW) (by simp only[List.length_drop,List.length_take,List.length_nil];omega) (jA.size hW)
     refine Lib.wp_append_run w9 _ _ 22 22 rfl (y 5) (y 8) rfl rfl v' w' hr ?_
     exact hK _ _ _ rfl trivial (QI q1 hW hgr) (show AtP _ 3 _ _ _ from ⟨by omega,fun _=>by simpa using ho⟩)
    refine⟨?_,?_⟩
    ·refine jN 3 rfl ?_
     intro y w9 hW hD K hK
     simp only[jU,zq4,zq5,IsP] at hD
     have h0:=hD.1
     have h1:=hD.2.1
     have h2:=hD.2.2.1
     have h3:=hD.2.2.2.1
     have h4:=hD.2.2.2.2.1
     have h5:=hD.2.2.2.2.2.1
     have h6:=hD.2.2.2.2.2.2.1
     have h7:=hD.2.2.2.2.2.2.2.1
     have h8:=hD.2.2.2.2.2.2.2.2.1
     have h9:=hD.2.2.2.2.2.2.2.2.2.1
     clear hD
     generalize hAA:jB y _ _=AA at hK⊢
     simp only[jB,Act.put,zq1,zq2,zq3,zq4,zq5,IsP] at hAA
     subst hAA
     simp only[zq4,zq5,IsP] at hK
     simp only[h0,h2,h3,h6,h7] at hK⊢
     clear h0 h2 h3 h6 h7
     refine jL ?_
     have q9:=h9.2 rfl
     obtain⟨a9,c9,e9,_,_,_⟩:=j3 q9
     rw[show (L.drop kk++L.take kk).length=L.length by rw[List.length_append,List.length_drop,List.length_take];omega] at e9
     rw[e9] at hK q9⊢
     go_simp
     exact hK _ _ _ rfl trivial (jA.trans hW ((jA.refl _).alloc _)) (show AtP _ 4 _ _ _ from ⟨by omega,fun _=>⟨_,_,rfl,jA.size hW,heap_alloc_new _ _,q9.grew ((jA.refl _).alloc _)⟩⟩)
    refine⟨?_,?_⟩
    ·refine jH 4 4 ?_
     intro y w9 p hlo hhi hW hD K hK
     simp only[jU,zq4,zq5,IsP] at hD
     have h0:=hD.1
     have h1:=hD.2.1
     have h2:=hD.2.2.1
     have h3:=hD.2.2.2.1
     have h4:=hD.2.2.2.2.1
     have h5:=hD.2.2.2.2.2.1
     have h6:=hD.2.2.2.2.2.2.1
     have h7:=hD.2.2.2.2.2.2.2.1
     have h8:=hD.2.2.2.2.2.2.2.2.1
     have h9:=hD.2.2.2.2.2.2.2.2.2.1
     have h10:=hD.2.2.2.2.2.2.2.2.2.2.1
     clear hD
     generalize hAA:jB y _ _=AA at hK⊢
     simp only[jB,Act.put,zq1,zq2,zq3,zq4,zq5,IsP] at hAA
     subst hAA
     simp only[zq4,zq5,IsP] at hK
     simp only[h0,h2,h3,h6,h7] at hK⊢
     clear h0 h2 h3 h6 h7
     refine jL ?_
     go_simp
     exact hK _ _ _ rfl (jA.refl _) h10
    trivial
theorem buildLists_laid (os:Os) (args:Array Value):laidMet prog Rows.buildListsRow.laid ((laidWorld os).forCall (fun _ _=>0) ⟨#[],args,[]⟩).memory:=by
 rw[show Rows.buildListsRow.laid=[("unicode/utf8.acceptRanges",Lib.acceptData),("unicode/utf8.first",Lib.firstData)] by kernel_rfl]
 exact (LaidIn.of_run (l:=[("unicode/utf8.acceptRanges",Lib.acceptData),("unicode/utf8.first",Lib.firstData)]) [2,1] 8 zk zk zk zk).met
theorem buildLists_door (os:Os) (args:Array Value):laidMetH prog Rows.buildListsRow.laid ((laidWorld os).forCall (fun _ _=>0) ⟨#[],args,[]⟩).memory:=by
 rw[MakeChecks.laidMetH_plain _ _ _ zk]
 exact buildLists_laid os args
theorem buildLists_row {H:Type} (enc:TypeId × Value→H) (W:World) (base:Nat) (hL:laidMetH prog Rows.buildListsRow.laid W) (hS:W.ShapedOpen prog) (v0:Value) (d0:DataW H) (p0:List MemPlace) (o0:Value.okWide prog W .any base 22 v0) (k0:DataW.Trod enc prog W 0 (fun _=>true) true 22 v0 d0 p0) (v1:Value) (d1:DataW H) (p1:List MemPlace) (o1:Value.okWide prog W .any base 3 v1) (k1:DataW.Trod enc prog W 0 (fun _=>true) true 3 v1 d1 p1) :
 Calls prog 3 #[v0,v1] W fun e w'=>e=.returned (.bool true)∧Below W.heap.size W w':=by
 obtain⟨l,hl⟩:=l7 o0 k0
 obtain⟨tn,rfl,_,_,_⟩:=open_int underlying3 o1 k1
 obtain⟨mx,hmx⟩:∃m,W.cell? ⟨0,0,none⟩=some (.int .i64 m):=cell_of_shapedOpen_int (g:=0) (t:=3) (zero:=#[.int .i64 0]) hS (of_decide_eq_true zk) zk rfl zk zk zk
 exact buildLists_any tn mx v0 l W hl hmx
theorem buildLists_own:ownKnob Tryz.prog.godebug=none:=by kernel_rfl
theorem buildLists_laidOut:laidOutB prog=true:=by kernel_rfl
theorem buildLists_lifted (os:Os) (started:os.Started) (H:Type) (enc:TypeId × Value→H) :
 ReturnsInHanded {} checked os 3 .any (fun w args=>(Rows.buildListsSpec.pre enc prog Tryz.f3 Rows.buildListsRow.domain false w args∧laidMetH prog Rows.buildListsRow.laid w)∧sizedMet enc prog Tryz.f3 (OpenSpec.ofChange Rows.buildListsSpec) false w args) (Rows.buildListsSpec.post enc prog Tryz.f3 false true false false):=by
 refine YV (C:=checked) (X:=fun w _=>laidMetH prog Rows.buildListsRow.laid w) (fun _ _ _ hh h=>h.of_heap hh) buildLists_own started zk func3
  (ChangeSpec.witness_shaped (enc:=enc) (C:=checked) (os:=os) (X:=fun w _=>laidMetH prog Rows.buildListsRow.laid w) false (laidWorld os) #[.slice none 0 0,.int .i64 0] 8 rfl (World.shaped_of_RefB zk zk) zk zk zk (buildLists_door os _)) ?_
 intro W base args ds gs before hval0 hW hL hS
 have hval:∀(j:Nat) t v,Tryz.f3.params[j]? = some t→args[j]? = some v→Value.okWide prog W .any base t v:=hval0
 have hW':=hW
 obtain⟨p,q,hA0,hV,rfl,hfz,hnd⟩:=hW
 have hA:DataW.TrodAll enc prog W 0 (fun _=>true) true Tryz.f3.params.toList args.toList ds p:=hA0
 rw[params3] at hA hval
 obtain⟨v0,vs0,d0,ds0,p0,q0,hargs,rfl,rfl,h0,r0⟩:=trodAll_cons hA
 obtain⟨v1,vs1,d1,ds1,p1,q1,rfl,rfl,rfl,h1,r1⟩:=trodAll_cons r0
 obtain⟨rfl,rfl,rfl⟩:=trodAll_nil r1
 obtain rfl:args=#[v0,v1]:=by cases args;simp_all
 obtain⟨rfl,rfl⟩:=trodVars_none hV
 have lt0:∀x∈p0,x.block < W.heap.size:=by obtain⟨m,hm⟩:=h0;exact DataW.trod_lt m _ _ _ hm
 have lt1:∀x∈p1,x.block < W.heap.size:=by obtain⟨m,hm⟩:=h1;exact DataW.trod_lt m _ _ _ hm
 have hw:=buildLists_row enc W base hL hS v0 d0 p0 (hval 0 22 v0 rfl rfl) h0 v1 d1 p1 (hval 1 3 v1 rfl rfl) h1
 clear hA0 hval0
 refine hw.mono fun e W' ⟨he,bel⟩=>?_
 subst he
 exact⟨_,rfl,_,_,_,[],_,[],hW',trodAll_mk1 (shut_bool underlying4 _),(trodAll_cons_mk (Below.trod buildLists_laidOut zk (of_decide_eq_true zk) h0 bel lt0) (trodAll_cons_mk (Below.trod buildLists_laidOut zk (of_decide_eq_true zk) h1 bel lt1) trodAll_mk0)),rfl,Below.frame bel _,fun h=>by cases h⟩
/-- The statement. -/
theorem buildLists_holds:Rows.BuildListsSaid:=
 OpenClaim.holds_of_wide 3 Tryz.f3 rfl rfl rfl rfl rfl rfl rfl ⟨rfl,rfl,rfl,rfl,rfl⟩ rfl rfl rfl rfl rfl zk func3 zk
  (of_decide_eq_true zk) (by unfold Func.isWrapper;first | (rw[if_pos (by decide +kernel)];kernel_rfl) | (rw[if_neg (by decide +kernel)];exact⟨rfl,rfl⟩))
  (fun os started H enc _=>buildLists_lifted os started H enc)
/-- The tied card. -/
theorem buildListsCard_holds:Rows.BuildListsCardSaid:=
 Claim7.holds_tied_plain_at .later [] [.data,.pinned] true (true,"d81d32618a3a4e4822f4d76c9ec7165dbf69d5538a2618c826381d2c86183b9d") false
  buildLists_holds (fun _ h=>by cases h) zk (fun _ h=>by cases h) buildLists_row_tie rfl ⟨rfl,rfl⟩ zk rfl
  (fun f fn hf hfn=>by
   obtain rfl:f=3:=Option.some.inj ((show Tryz.prog.funcNamed "accordion/accordionlaw19.BuildLists" = some 3 by kernel_rfl).symm.trans hf) |>.symm
   obtain rfl:fn=Tryz.f3:=(Option.some.inj (Tryz.func3.symm.trans hfn)).symm
   exact⟨by kernel_rfl,fun j t ht=>by
    rw[params3] at ht
    have hm:t∈[22,3]:=by simpa using Array.mem_of_getElem? ht
    have qN:([22,3].all fun u=>!Tryz.prog.wantsStandIn u)=true:=by kernel_rfl
    exact (show Tryz.prog.wantsStandIn t=false by simpa using List.all_eq_true.1 qN t hm)⟩)
  zk
end Go.Proofs.YtjnpcddbgfmpcaaGreatDoor
