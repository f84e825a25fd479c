/-Texts-/
import Derived.Test.YtdjoffgkndncfaaGreatDOtherPBN
import Derived.Test.YtdjoffgkndncfaaGreatDOtherPBP
import Derived.Test.YtdjoffgkndncfaaGreatDOtherPBQ
import Derived.Test.YtdjoffgkndncfaaGreatDOtherPBR
set_option linter.unusedVariables false
set_option linter.unusedSimpArgs false
set_option maxHeartbeats 16000000
set_option maxRecDepth 100000
namespace Go.Proofs.YtdjoffgkndncfaaGreat
open Go.Proofs.Tryz
open Go Go.ChangeShapes Go.WideShapes Go.ChangeAt Go.RowKit Go.Joins Go.Deep
open Ft (V3 vV okV ValsAt inlineB legalB packF codeF typedF allF)
variable {w w':World} {B nb:Nat} {jB start:Int} {sh:Bool} {bs:List Value}
theorem M9 (w:World):(zeroValue 9).run prog w=.ok (.string ⟨#[]⟩) w:=by
 have h:(Tryz.prog.info? 9).map (λi=>i.zero)=some (some (.string ⟨#[]⟩)):=by kernel_rfl
 cases hi:Tryz.prog.info? 9 with
 | none=>rw[hi] at h;cases h
 | some i=>rw[hi] at h;simp at h;simp[zeroValue,typeInfo,hi,h,Result.andThen]
theorem F3 {wr:World} {v:Value} {l:List ByteArray} (h:zG wr w.heap.size v l) (hg:jC w wr) (hgr:wr.grownBy w' v.ownBlock):jC w w':=Moved.fresh hg (Moved.of_grown hgr) (λg hk=>(qm h g hk.symm).1)
theorem F4 {m:Nat} {N:List (Int × ByteArray)} (hb:oB w m (KT N)) (n:Int):(Instr.lookup 108 (.map (some m)) (.int .u64 n) false).run prog w=.ok (.string (yP N n)) w:=
 (lookU w underlying108 underlying22 (M9 w) m (KT N) hb n).trans (ql (λv=>Result.ok v w) (nL N n 0))
theorem CR {q:zR} {jD:Int} {κ:Nat→Nat} {x:BS} (la:Option Addr) (lc:Nat) (L:List V3) (hp:ValsAt w (.slice la L.length lc) L) (hl:L.length≤65536) (hz:∀z∈x.names,z.2.size≤1048576) (h:Bd B q jB jD κ x w) :
 Calls prog 140 #[jI q.p,.slice la L.length lc] w λr w'=>(qY L=true∧∃v',r=.returned v'∧zG w' w.heap.size v' ((zE x.names L).map (·.1))∧jC w w')∨(qY L=false∧r=.returned (.slice none 0 0)∧kL B q jB jD κ (x.fail 140) w w'):=by
 have HB:=zh h;have HZ:=zh hz;obtain⟨ad,c,e,kM⟩:=hp;cases e;have HC:=zh kM;have HL:=zh hl;have hll:L.length≤9223372036854775807:=by omega
 have HNM:Hid (∀n:Int,kI (yP x.names n).size):=λn=>by
  unfold yP;split
  ·rename_i qq hq;have:=HZ.out _ (List.mem_of_find?_eq_some hq);unfold kI;omega
  show kI (0:Nat);unfold kI;omega
 clear kM h hz hl;go_enter func140,ntmps140;go_wp2_with fail
 go_loopw [4,9] (λv i wr=>∃k:Nat,k≤L.length∧i=.int .i64 k∧Hid (zG wr w.heap.size v (qR x.names L k)∧jC w wr∧(0 < k→L.length % 2=0)∧∀(j:Nat) u,2*j < k→L[2*j]? = some u→u.1=4)) (λ_ i _=>L.length - (intOf i).toNat)
 case atStart=>exact⟨0,Nat.zero_le _,rfl,by
  show _∧_;rw[tP]
  exact⟨World.ownsRow_nil _ _ _ _,jC.refl _,λh=>absurd h zd,λj u h=>by omega⟩⟩
 case round=>
  obtain⟨k,hk,rfl,HW⟩:=hrel;by_cases hlt:k < L.length
  ·obtain⟨u,hu⟩:∃u,L[k]? = some u:=⟨_,za hlt⟩;have HU:=zh hu;obtain⟨ty,wd,n⟩:=u;obtain⟨b,off,rfl,c0,c1,c2⟩:=HC.out k _ hu;clear hu;have d0:=HW.2.1.cell c0;have d1:=HW.2.1.cell c1;have d2:=HW.2.1.cell c2;clear c0 c1 c2;have hki:(k:Int) < L.length:=by omega
   have HG2:Hid (jC w (wr.alloc (.cells #[.int .i64 ty,.int .i64 wd,.int .u64 n] 135))):=HW.2.1.alloc _;have jK:=qc wr (.cells #[.int .i64 ty,.int .i64 wd,.int .u64 n] 135);have e0:=jA jK 0 _ rfl;have e2:=jA jK 2 _ rfl;clear jK;have hlm:((L.length:Int)).tmod 2=((L.length % 2:Nat):Int):=by rw[Int.tmod_eq_emod_of_nonneg zo];omega
   have hkm:((k:Int)).tmod 2=((k % 2:Nat):Int):=by rw[Int.tmod_eq_emod_of_nonneg zo];omega
   by_cases hodd:L.length % 2=0
   ·rw[hodd] at hlm;have HOD:=zh hodd;clear hodd;by_cases hke:k % 2=0
    ·rw[hke] at hkm;have HKE:=zh hke;clear hke;by_cases hty:ty=4
     ·subst hty
      have HNT:Hid (qR x.names L (k+1)=qR x.names L k++[yP x.names n]):=by
       show _=_;have h:=tQ (N:=x.names) (j:=k / 2) (k:=(4,wd,n)) HOD.out (by rw[show 2*(k / 2)=k by have:=HKE.out;omega];exact HU.out);rw[show 2*(k / 2)=k by have:=HKE.out;omega] at h;exact h
      have HLE:Hid ((qR x.names L k).length≤65536):=zf (nJ _ _ _) HL.out;have HOW:=zh (HW.1:zG wr w.heap.size u4 (qR x.names L k));obtain⟨va,vc,rfl,hvc,hvc2,hvc3⟩:=jR HOW.out;have HOL:=zh (iG x.names L (k / 2));generalize hNS:qR x.names L k=NS at *;obtain⟨nm,hnm⟩:∃nm,yP x.names n=nm:=⟨_,rfl⟩;have HNM1:=zh hnm;have HNL:Hid (kI nm.size):=(by rw[← hnm];exact HNM.out n);clear hnm hvc hvc2 hvc3 hNS;have c7:=(HB.grew HG2.out).at7;have HMP:Hid (oB (wr.alloc (.cells #[.int .i64 4,.int .i64 wd,.int .u64 n] 135)) q.m (KT x.names)):=(HB.grew HG2.out).names.2;go_wp2_with fail;refine zM jC 10 [[],[],[1],[1,2],[1,2,3],[1,2,3,4],[],[6],[1,2,3,4,5,6,7],[1,2,3,4,5,6,7,8],[0,1,2,3,4,5,6,7,8,9],[0,1,2,3,4,5,6,7,8,9,10]] [[(36,1),(37,2),(38,3),(39,4),(40,5),(41,6),(42,7),(43,8),(44,9)],[(35,0),(41,6),(42,7)],[(35,0),(36,1),(41,6),(42,7)],[(35,0),(36,1),(37,2),(41,6),(42,7)],[(35,0),(36,1),(37,2),(38,3),(41,6),(42,7)],[(35,0),(36,1),(37,2),(38,3),(39,4),(41,6),(42,7)],[(35,0),(36,1),(37,2),(38,3),(39,4),(40,5)],[(35,0),(36,1),(37,2),(38,3),(39,4),(40,5),(41,6)],[(35,0),(36,1),(37,2),(38,3),(39,4),(40,5),(41,6),(42,7)],[(35,0),(36,1),(37,2),(38,3),(39,4),(40,5),(41,6),(42,7),(43,8)],[(35,0),(36,1),(37,2),(38,3),(39,4),(40,5),(41,6),(42,7),(43,8),(44,9)],[(35,0),(36,1),(37,2),(38,3),(39,4),(40,5),(41,6),(42,7),(43,8),(44,9),(45,10)]] [(35,0),(36,1),(37,2),(38,3),(39,4),(40,5),(41,6),(42,7),(43,8),(44,9)]
       [Is (.slice va NS.length vc),Is (jI q.p),Is (jI q.p),Is (.pointer (some ⟨q.p,3,none⟩)),Is (.pointer (some ⟨q.p,7,none⟩)),Is (.map (some q.m)),Is (.pointer (some ⟨wr.heap.size,2,none⟩)),Is (.int .u64 n),Is (.string nm),λv w=>zB w v [nm]]
       zk jC.trans jC.refl (jC.refl _).drew zk ⟨jJ,jJ,jJ,jJ,jJ,jJ,jJ,jJ,jJ,λ_ _ _ hg h=>zB.grew h hg,trivial⟩ rfl ?_ ?_
      rotate_left
      ·intro y w2 hG hF;simp only[zV,Is,and_true,Nat.reduceAdd] at hF;have h9:=hF.2.2.2.2.2.2.2.2.2;simp only[jF,Act.put,zq,List.drop_succ_cons,List.drop_zero];simp only[hF];clear hF;refine J6 rfl _ _ rfl w.heap.size (.slice va NS.length vc) NS rfl (zG.grew HOW.out (((jC.refl _).alloc _).trans hG)) _ [nm] rfl h9 (by have:=HLE.out;simp;omega) (HG2.trans hG).size ?_;intro v' w3 j5 hgr hnx;obtain⟨va2,vc2,rfl,hz1,hz2,hz3⟩:=jR j5;have HO3:=zh j5;have HG3:Hid (jC w w3):=F3 (zG.grew HOW.out (((jC.refl _).alloc _).trans hG)) (HG2.trans hG) hgr;clear j5 hgr hnx h9 hG hz1 hz2 hz3;go_wp2_with fail;go_roundw
       case rel=>
        refine⟨k+1,by omega,by go_num,?_⟩;show _∧_;refine⟨by have h:=HO3.out;rw[zb] at h;rw[HNT,HNM1];exact h,HG3.out,λ_=>HOD.out,λj u hj hu=>?_⟩;by_cases hjk:2*j < k
        ·exact HW.2.2.2 j u hjk hu
        have e:2*j=k:=(by have:=HKE.out;omega);rw[e,HU] at hu;cases hu;rfl
       case measure=>simp[intOf];omega
      refine⟨zst,zst,zst,zst,zst,?_⟩;constructor
      ·intro y w2 hG hD K hK;have dc7:=hG.cell c7;exact zsr
      refine⟨zst,?_⟩;constructor
      ·intro y w2 hG hD K hK;have de2:=hG.cell e2;exact zsr
      constructor
      ·intro y w2 hG hD K hK;simp only[kC,zq4,zq5,Is,and_true] at hD;simp only[jF,Act.put,zq,Is] at hK⊢;simp only[hD] at hK⊢;clear hD;refine jN ?_;have hlk:=F4 (hG.heap HMP.out) n;replace hlk:=hlk.trans (ql (λv=>Result.ok (Value.string v) w2) HNM1.out);go_simp;exact hK _ _ _ rfl (jC.refl _) rfl
      constructor
      ·intro y w2 hG hD K hK;simp only[kC,zq4,zq5,Is,and_true] at hD;simp only[jF,Act.put,zq,Is] at hK⊢;simp only[hD] at hK⊢;clear hD;refine jN ?_;go_simp;exact hK _ _ _ rfl ((jC.refl _).alloc _) (lN w2 nm HNL.out)
      trivial
     have HKF:Hid (qY L=false):=by
      show _=_
      cases hkt:qY L with
      | false=>rfl
      | true=>exact absurd (((ZY L).1 hkt).2 (k / 2) _ (by rw[show 2*(k / 2)=k by have:=HKE.out;omega];exact HU.out)) hty
     go_wp2_with fail;refine (yN 140 (HB.grew HG2.out)).mono ?_;rintro r w3 ⟨rfl,ht⟩;have HT:=zh (ht.after HG2.out);clear ht;go_wp2;go_ret;exact .inr ⟨HKF.out,rfl,HT.out⟩
    rw[show k % 2=1 by omega] at hkm;have HKO:=zh hke;clear hke;obtain⟨va,vc,rfl,hvc,hvc2,hvc3⟩:=jR (show zG wr w.heap.size u4 (qR x.names L k) from HW.1);generalize hNS:qR x.names L k=NS at *;have HNS:=zh hNS;clear hvc hvc2 hvc3 hNS;go_wp2_with fail;go_roundw
    case rel=>
     refine⟨k+1,by omega,by go_num,?_⟩;show _∧_;have hodd:=iG x.names L (k / 2);rw[show 2*(k / 2)+1=k by have:=HKO.out;omega] at hodd;refine⟨by rw[hodd,HNS];exact zG.grew HW.1 ((jC.refl _).alloc _),HG2.out,λ_=>HOD.out,λj u hj hu=>HW.2.2.2 j u (by have:=HKO.out;omega) hu⟩
    case measure=>simp[intOf];omega
   have HKF:Hid (qY L=false):=by
    show _=_
    cases hkt:qY L with
    | false=>rfl
    | true=>exact absurd ((ZY L).1 hkt).1 hodd
   rw[show L.length % 2=1 by omega] at hlm;clear hodd;go_wp2_with fail;refine (yN 140 (HB.grew HG2.out)).mono ?_;rintro r w3 ⟨rfl,ht⟩;have HT:=zh (ht.after HG2.out);clear ht;go_wp2;go_ret;exact .inr ⟨HKF.out,rfl,HT.out⟩
  have ek:k=L.length:=by omega
  subst ek
  have HKT:Hid (qY L=true):=by
   show _=_;refine (ZY L).2 ⟨?_,λj u hu=>HW.2.2.2 j u (zi.1 hu).1 hu⟩;by_cases h0:0 < L.length
   ·exact HW.2.2.1 h0
   omega
  have hw:=HW.1;rw[AL ((ZY L).1 HKT.out).1] at hw;have HO:=zh (qa hw HW.2.1);obtain⟨va,vc,rfl,hvc,hvc2,hvc3⟩:=jR hw;clear hw HW hvc hvc2 hvc3;obtain⟨NS,hNS⟩:∃NS,(zE x.names L).map (·.1)=NS:=⟨_,rfl⟩;have HO:Hid (zG wr w.heap.size (.slice va NS.length vc) NS∧jC w wr):=by have h:=HO.out;rw[hNS] at h;exact h
  rw[hNS];have HNS:=zh hNS;clear hNS;have hge:¬(L.length:Int) < L.length:=by omega
  go_wp2;go_ret;exact .inl ⟨HKT.out,.slice va NS.length vc,rfl,by rw[HNS];exact HO.1,HO.2⟩
def V5 (start:Int) (x:BS):BS:=if 0≤start∧start≤(x.stk.length:Int) then x else x.fail 2
def KZ (start:Int) (x:BS):List V3:=if 0≤start∧start≤(x.stk.length:Int) then x.stk.drop start.toNat else []
def ZZ (L:List V3) (y:BS):BS:=if qY L then y else y.fail 140
def yT (N:List (Int × ByteArray)) (L:List V3):List ByteArray:=if qY L then (zE N L).map (·.1) else []
def tT (start:Int) (x:BS):BS:=(ZZ (KZ start x) (V5 start x)).fail (KN (yT x.names (KZ start x))).2
theorem lA:KN []=([],0):=by unfold KN;rw[zl List.nodup_nil];rfl
theorem aW (start:Int) (x:BS):(V5 start x).names=x.names:=by unfold V5;split<;>rfl
theorem YU {x:BS}:x.fail 0=x:=by
 unfold BS.fail zO;obtain⟨s,e,stk,a,b,c,d,f⟩:=x;dsimp only;split
 ·rename_i h;rw[h]
 rfl
theorem CS {x:BS} {e:Int} (h:x.e=0):(x.fail e).e=e:=by unfold BS.fail zO;dsimp only;rw[zl h]
theorem CT {x:BS} (hx:x.e=0) (h:(tT start x).e≠0):x.endMap jB sh start=tT start x:=by
 unfold BS.endMap;rw[zl hx];unfold tT V5 KZ at *;by_cases hr:0≤start∧start≤(x.stk.length:Int)
 ·simp only[zl hr] at h⊢;by_cases hk:qY (x.stk.drop start.toNat)=true
  ·simp only[ZZ,yT,zl hk] at h⊢;by_cases hn:((zE x.names (x.stk.drop start.toNat)).map (·.1)).Nodup
   ·exfalso;apply h;have:(KN ((zE x.names (x.stk.drop start.toNat)).map (·.1))).2=0:=(by unfold KN;rw[zl hn]);rw[this,YU];exact hx
   rw[ze hn];have:(KN ((zE x.names (x.stk.drop start.toNat)).map (·.1))).2=71:=(by unfold KN;rw[ze hn]);rw[this]
  simp only[ZZ,yT,ze hk];rw[lA,YU]
 simp only[ze hr];have hk:qY []=true:=rfl;simp only[ZZ,yT,zl hk];rw[show zE x.names []=[] from rfl,List.map_nil,lA,YU]
theorem AP {x:BS} (hx:x.e=0) (h:(tT start x).e=0) :
 InR start x.stk.length∧qY (KZ start x)=true∧((zE x.names (KZ start x)).map (·.1)).Nodup∧tT start x=x∧KZ start x=x.stk.drop start.toNat ∧
 x.endMap jB sh start=({x with stk:=x.stk.take start.toNat}:BS).table jB sh (zF ((vW (zE x.names (KZ start x))).map (·.1))) ((vW (zE x.names (KZ start x))).map (·.2.1)) ((vW (zE x.names (KZ start x))).map (·.2.2)):=by
 unfold BS.endMap;rw[zl hx];unfold tT V5 KZ at *;unfold InR;by_cases hr:0≤start∧start≤(x.stk.length:Int)
 ·simp only[zl hr] at h⊢;by_cases hk:qY (x.stk.drop start.toNat)=true
  ·simp only[ZZ,yT,zl hk] at h⊢;by_cases hn:((zE x.names (x.stk.drop start.toNat)).map (·.1)).Nodup
   ·have:(KN ((zE x.names (x.stk.drop start.toNat)).map (·.1))).2=0:=(by unfold KN;rw[zl hn]);rw[this,YU,zl hn]
    refine⟨hr,hk,hn,?_,?_,?_⟩<;>first | rfl | trivial
   exfalso;have:(KN ((zE x.names (x.stk.drop start.toNat)).map (·.1))).2=71:=(by unfold KN;rw[ze hn]);rw[this,CS hx] at h;exact absurd h zd
  exfalso;simp only[ZZ,yT,ze hk] at h;rw[lA,YU,CS hx] at h;exact absurd h zd
 exfalso;simp only[ze hr] at h;have hk:qY []=true:=rfl;simp only[ZZ,yT,zl hk] at h;rw[show zE x.names []=[] from rfl,List.map_nil,lA,YU,CS hx] at h;exact absurd h zd
section
variable {B:Nat} {q:zR} {jB jD:Int} {κ κ0 κ1:Nat→Nat} {x y:BS} {w w' w0 w1:World} {Kp:List (Nat × Obj)}
theorem F5 (start:Int) (h:Bd B q jB jD κ x w):Calls prog 135 #[jI q.p,.int .i64 start] w λr w'=>∃v,r=.returned v∧bX B q jB jD w κ (V5 start x) v (KZ start x) w':=by
 refine (rF start h).mono ?_;rintro r w1 (⟨hin,v',rfl,ho,hg⟩|⟨hin,rfl,ht⟩)
 ·refine⟨v',rfl,?_⟩;unfold V5 KZ;rw[zl (show 0≤start∧start≤(x.stk.length:Int) from hin),zl (show 0≤start∧start≤(x.stk.length:Int) from hin)];refine⟨κ,h.grew hg,Tn.of_grew hg,ho,λg hgg=>Decidable.byContradiction λhk=>?_⟩;have h1:=(iZ ho hgg).1;have h2:=(h.lt g hk).2;omega
 refine⟨_,rfl,?_⟩;unfold V5 KZ;rw[ze (show ¬(0≤start∧start≤(x.stk.length:Int)) from hin),ze (show ¬(0≤start∧start≤(x.stk.length:Int)) from hin)];obtain⟨κ1,k1,k2⟩:=ht;exact⟨κ1,k1,k2,World.ownsRow_nil _ _ _ _,λg e=>by cases e⟩
theorem Env.callV {f:Nat} {args:Array Value} {L:List V3} (h:Env B q jB jD w0 κ0 Kp x w) (hc:∀κ,Bd B q jB jD κ x w→(∀z∈Kp,κ z.1=0)→Calls prog f args w λr w'=>∃v,r=.returned v∧bX B q jB jD w κ y v L w') :
 Calls prog f args w λr w'=>∃v Kp',r=.returned v∧jU w' w.heap.size v L∧(∀z∈Kp,z∈Kp')∧Env B q jB jD w0 κ0 Kp' y w'∧∀w2 y2,Env B q jB jD w0 κ0 Kp' y2 w2→jU w2 w.heap.size v L:=by
 obtain⟨κ,h1,h2,h3⟩:=h;refine (hc κ h1 (λz hz=>(h3 z hz).2)).mono ?_;rintro r w' ⟨v,rfl,κ1,k1,k2,k3,k4⟩;have hk:∀z∈Kp,w'.heap[z.1]? = some z.2∧κ1 z.1=0:=λz hz=>⟨k2.1.heap (h3 z hz).1 (λe=>e (h3 z hz).2),(k2.2 z.1 (zc.1 (h3 z hz).1).1).trans (h3 z hz).2⟩;rcases k3.2 with ⟨rfl,hn⟩|⟨g,cap,cur,rfl,hge,hh,hcap,hmax,hsz,htk⟩
 ·refine⟨_,Kp,rfl,k3,λz hz=>hz,⟨κ1,k1,h2.trans k2,hk⟩,λw2 y2 _=>⟨k3.1,.inl ⟨rfl,hn⟩⟩⟩
 refine⟨_,(g,.cells cur 135 (0,0))::Kp,rfl,k3,λz hz=>zj _ hz,⟨κ1,k1,h2.trans k2,λz hz=>?_⟩,λw2 y2 he=>⟨k3.1,.inr ⟨g,cap,cur,rfl,hge,he.kp zx,hcap,hmax,hsz,htk⟩⟩⟩;rcases qp.1 hz with rfl|hz
 ·exact⟨hh,k4 g rfl⟩
 exact hk z hz
theorem Env.keepB (h:Env B q jB jD w0 κ0 Kp x w) (hg:jC w w') {g:Nat} (h0:w.heap.size≤g) (h1:g < w'.heap.size):∃o,w'.heap[g]? = some o∧Env B q jB jD w0 κ0 ((g,o)::Kp) x w':=by
 obtain⟨κ,k1,k2,k3⟩:=h;refine⟨_,qx h1,κ,k1.grew hg,k2.trans (Tn.of_grew hg),λz hz=>?_⟩;rcases qp.1 hz with rfl|hz
 ·exact⟨qx h1,Decidable.byContradiction λhk=>by have:=(k1.lt g hk).2;omega⟩
 exact⟨hg.heap (k3 z hz).1,(k3 z hz).2⟩
theorem F6 {v:Value} {l:List Int} (h:fI w v l) (hb:∀a n c,v=.slice (some a) n c→w'.heap[a.block]? = w.heap[a.block]?):fI w' v l:=by
 obtain⟨a,c,rfl,z1,z2,z3,hc⟩:=h;refine⟨a,c,rfl,z1,z2,z3,λi x hx=>?_⟩;obtain⟨_,b,off,rfl,h0⟩:=hc i x hx;have e:=hb _ _ _ rfl;exact⟨trivial,b,off,rfl,(World.cell?_of_block (a:=⟨b,off+i,none⟩) e).trans h0⟩
theorem F7 {v:Value} {l:List ByteArray} (h:zB w v l) (hb:∀a n c,v=.slice (some a) n c→w'.heap[a.block]? = w.heap[a.block]?):zB w' v l:=by
 obtain⟨a,c,rfl,z1,z2,z3,hc⟩:=h;refine⟨a,c,rfl,z1,z2,z3,λi x hx=>?_⟩;obtain⟨hl,b,off,rfl,h0⟩:=hc i x hx;have e:=hb _ _ _ rfl;exact⟨hl,b,off,rfl,(World.cell?_of_block (a:=⟨b,off+i,none⟩) e).trans h0⟩
theorem Env.keepRow (h:Env B q jB jD w0 κ0 Kp x w) (hg:jC w w') {v:Value} (hf:∀a n c,v=.slice (some a) n c→w.heap.size≤a.block∧a.block < w'.heap.size) :
 ∃Kp',(∀z∈Kp,z∈Kp')∧Env B q jB jD w0 κ0 Kp' x w'∧∀w2 y2,Env B q jB jD w0 κ0 Kp' y2 w2→∀a n c,v=.slice (some a) n c→w2.heap[a.block]? = w'.heap[a.block]? := by
 by_cases hv:∃a n c,v=.slice (some a) n c
 ·obtain⟨a,n,c,rfl⟩:=hv;obtain⟨o,ho,he⟩:=h.keepB hg (hf _ _ _ rfl).1 (hf _ _ _ rfl).2;refine⟨_,λz hz=>zj _ hz,he,λw2 y2 h2 a' n' c' e=>?_⟩;cases e;exact (h2.kp zx).trans ho.symm
 exact⟨Kp,λz hz=>hz,h.grew hg,λw2 y2 _ a n c e=>absurd ⟨a,n,c,e⟩ hv⟩
theorem iH (N:List (Int × ByteArray)):∀(l:List V3),∀p∈zE N l,∃n,p.1=yP N n
 | [],p,h=>by cases h
 | [a],p,h=>by simp[zE] at h
 | a::b::r,p,h=>by
  rcases qp.1 h with rfl|h
  ·exact⟨a.2.2,rfl⟩
  exact iH N r p h
theorem F8 {N:List (Int × ByteArray)} (hz:∀z∈N,z.2.size≤1048576) (n:Int):(yP N n).size≤1048576:=by
 unfold yP;split
 ·rename_i q hq;exact hz _ (List.mem_of_find?_eq_some hq)
 show (0:Nat)≤_;omega
theorem nM {N:List (Int × ByteArray)} (hz:∀z∈N,z.2.size≤1048576) (L:List V3):∀s∈yT N L,s.size≤1048576:=by
 intro s hs;unfold yT at hs;split at hs
 ·obtain⟨p,hp,rfl⟩:=qh.1 hs;obtain⟨n,e⟩:=iH N L p hp;rw[e];exact F8 hz n
 cases hs
theorem oK (N:List (Int × ByteArray)) (L:List V3):(yT N L).length≤L.length:=by
 unfold yT;split
 ·rw[qb,JA];omega
 exact Nat.zero_le _
theorem Y8 {w:World} {B:Nat} {e:TypeId} {size:Nat} {v:Value} {n:Nat} {xs:List Value} (h:w.ownsRow B e size v n xs):∀a m c,v=.slice (some a) m c→B≤a.block∧a.block < w.heap.size:=λa m c e=>qm h a.block (by rw[e];rfl)
theorem Env.namedE {la:Option Addr} {lc:Nat} {L:List V3} (h:Env B q jB jD w0 κ0 Kp y w) (hp:ValsAt w (.slice la L.length lc) L) (hl:L.length≤65536) (hz:∀z∈y.names,z.2.size≤1048576) :
 Calls prog 140 #[jI q.p,.slice la L.length lc] w λr w'=>∃v Kp',r=.returned v∧zB w' v (yT y.names L)∧(∀z∈Kp,z∈Kp')∧Env B q jB jD w0 κ0 Kp' (ZZ L y) w'∧∀w2 y2,Env B q jB jD w0 κ0 Kp' y2 w2→zB w2 v (yT y.names L):=by
 have h':=h;obtain⟨κ,h1,h2,h3⟩:=h;refine (CR la lc L hp hl hz h1).mono ?_;rintro r w' (⟨hk,v,rfl,ho,hg⟩|⟨hk,rfl,ht⟩)
 ·have e1:yT y.names L=(zE y.names L).map (·.1):=by unfold yT;rw[zl hk]
  have e2:ZZ L y=y:=by unfold ZZ;rw[zl hk]
  rw[← e1] at ho;have hs:=ho.strs (λs hs=>by have:=nM hz L s hs;unfold kI;omega);obtain⟨Kp',hsub,he,hsame⟩:=h'.keepRow hg (Y8 ho);rw[e2];exact⟨v,Kp',rfl,hs,hsub,he,λw2 y2 k=>F7 hs (hsame w2 y2 k)⟩
 have e1:yT y.names L=[]:=by unfold yT;rw[ze (by rw[hk];decide)]
 have e2:ZZ L y=y.fail 140:=by unfold ZZ;rw[ze (by rw[hk];decide)]
 obtain⟨κ1,k1,k2⟩:=ht;rw[e1,e2];exact⟨_,Kp,rfl,zB.nil _,λz hz=>hz,⟨κ1,k1,h2.trans k2,λz hz=>⟨k2.1.heap (h3 z hz).1 (λe=>e (h3 z hz).2),(k2.2 z.1 (zc.1 (h3 z hz).1).1).trans (h3 z hz).2⟩⟩,λw2 y2 _=>zB.nil _⟩
theorem CU {l:List ByteArray} {r:Ending} (hl:l.length≤65536) (h:oZ w l r w'):jC w w'∧∃v,r=.returned (.tuple #[v,.int .i64 (KN l).2])∧fI w' v (KN l).1∧∀a n c,v=.slice (some a) n c→w.heap.size≤a.block∧a.block < w'.heap.size:=by
 rcases h with ⟨hg,⟨hn,rfl⟩|⟨hn,v,rfl,hp,hf⟩⟩
 ·obtain⟨_,v,e,hr⟩:=pH hl ⟨hg,.inl ⟨hn,rfl⟩⟩;injection e with e;injection e with e;have e0:Value.slice none 0 0=v:=Option.some.inj (by exact ql (λa:Array Value=>a[0]?) e);have e1:Value.int .i64 71=.int .i64 (KN l).2:=Option.some.inj (by exact ql (λa:Array Value=>a[1]?) e);refine⟨hg,v,by rw[e1,e0],hr,λa n c ev=>by rw[← e0] at ev;cases ev⟩
 obtain⟨_,v2,e,hr⟩:=pH hl ⟨hg,.inr ⟨hn,v,rfl,hp⟩⟩;injection e with e;injection e with e;have e0:v=v2:=Option.some.inj (by exact ql (λa:Array Value=>a[0]?) e);have e1:Value.int .i64 0=.int .i64 (KN l).2:=Option.some.inj (by exact ql (λa:Array Value=>a[1]?) e);subst e0;exact⟨hg,v,by rw[e1],hr,hf⟩
theorem Env.orderE {v:Value} {l:List ByteArray} (h:Env B q jB jD w0 κ0 Kp y w) (hs:zB w v l) (hl:l.length≤65536) :
 Calls prog 68 #[v] w λr w'=>∃v' Kp',r=.returned (.tuple #[v',.int .i64 (KN l).2])∧fI w' v' (KN l).1∧(∀z∈Kp,z∈Kp')∧Env B q jB jD w0 κ0 Kp' y w'∧∀w2 y2,Env B q jB jD w0 κ0 Kp' y2 w2→fI w2 v' (KN l).1:=by
 refine (o8 l hl v w hs).mono ?_;intro r w' hr;obtain⟨hg,v',rfl,jK,hf⟩:=CU hl hr;obtain⟨Kp',hsub,he,hsame⟩:=h.keepRow hg hf;exact⟨v',Kp',rfl,jK,hsub,he,λw2 y2 k=>F6 jK (hsame w2 y2 k)⟩
theorem rP (m:Nat):∀(l:List ByteArray) (a:ByteArray),(∀s∈l,s.size≤m)→(l.foldl (λa k=>a++(k++⟨#[0]⟩)) a).size≤a.size+l.length*(m+1)
 | [],a,_=>by simp
 | k::r,a,h=>by
  have h1:=rP m r (a++(k++⟨#[0]⟩)) (λs hs=>h s (zj _ hs));have h2:=h k zx;have e1:(⟨#[0]⟩:ByteArray).size=1:=rfl;rw[xz,xz,e1] at h1;show (r.foldl (λa k=>a++(k++⟨#[0]⟩)) (a++(k++⟨#[0]⟩))).size≤_;rw[zz,Nat.add_mul,Nat.one_mul];omega
theorem tU (l:List ByteArray) (m:Nat) (h:∀s∈l,s.size≤m):(zF l).size≤l.length*(m+1):=by
 have:=rP m l ByteArray.empty h;have e:ByteArray.empty.size=0:=rfl;rw[e,Nat.zero_add] at this;exact this
theorem txts_at {w:World} {a:Option Addr} {n c:Nat} {l:List ByteArray} (h:zB w (.slice a n c) l) {i:Nat} {s:ByteArray} (hs:l[i]? = some s):∃b off,a=some ⟨b,off,none⟩∧w.cell? ⟨b,off+i,none⟩=some (.string s):=by
 obtain⟨a',c',e,_,_,_,hc⟩:=h;injection e with e _ _;obtain⟨_,b,off,e2,h0⟩:=hc i s hs;exact⟨b,off,e.trans e2,h0⟩
theorem rowI_at {w:World} {a:Option Addr} {n c:Nat} {l:List Int} (h:fI w (.slice a n c) l) {i:Nat} {s:Int} (hs:l[i]? = some s):∃b off,a=some ⟨b,off,none⟩∧w.cell? ⟨b,off+i,none⟩=some (.int .i64 s):=by
 obtain⟨a',c',e,_,_,_,hc⟩:=h;injection e with e _ _;obtain⟨_,b,off,e2,h0⟩:=hc i s hs;exact⟨b,off,e.trans e2,h0⟩
def MpW (wb:World) (nb:Nat) (bs:List Value) (P2:World→Prop):Nat→World→Prop
 | 0,w=>Below nb wb w∧SBF nb nb bs w∧nb < w.heap.size
 | 1,w=>Below nb wb w∧nb < w.heap.size
 | _+2,w=>P2 w
theorem MpW.below {wb:World} {nb:Nat} {bs:List Value} {P2:World→Prop} {p:Nat} (h:MpW wb nb bs P2 p w) (hp:p≤1):Below nb wb w∧nb < w.heap.size:=by
 match p,h,hp with
 | 0,h,_=>exact⟨h.1,h.2.2⟩
 | 1,h,_=>exact h
end
theorem SBF.grew {b:Nat} (h:SBF B b bs w) (hg:jC w w'):SBF B b bs w':=by
 have hk:∀p,Lib.BuilderAtF 149 5 B b p bs w→Lib.BuilderAtF 149 5 B b p bs w':=by
  rintro p ⟨h0,v,h1,h2,h3⟩;refine⟨h0,v,hg.heap h1,⟨h2.1,?_⟩,h3⟩;rcases h2.2 with h|⟨g,cap,cur,fz,e,hb,hh,hr⟩
  ·exact .inl h
  exact .inr ⟨g,cap,cur,fz,e,hb,hg.heap hh,hr⟩
 exact h.elim (λh=>.inl (hk _ h)) (λh=>.inr (hk _ h))
theorem MpW.grew {wb:World} {P2:World→Prop} (h2:∀w w',jC w w'→P2 w→P2 w'):∀(p:Nat) (w w':World),jC w w'→MpW wb nb bs P2 p w→MpW wb nb bs P2 p w'
 | 0,_,_,hg,h=>⟨Below.trans h.1 (Below.mono hg (ye h.2.2)),h.2.1.grew hg,qk h.2.2 hg.size⟩
 | 1,_,_,hg,h=>⟨Below.trans h.1 (Below.mono hg (ye h.2)),qk h.2 hg.size⟩
 | _+2,_,_,hg,h=>h2 _ _ hg h
theorem F9 (a b:ByteArray):Lib.byteCells a.data.toList++Lib.strCells b=Lib.byteCells (a++b).data.toList:=by
 rw[Lib.strCells_eq];simp[Lib.byteCells]
theorem D2 {L:List V3} (h:∀v∈L,okV v) (i:Nat):okV (L.getD i (0,0,0)):=by
 rw[zw]
 cases hi:L[i]? with
 | none=>exact ok0
 | some u=>exact h u (qd hi)
def PkF (b0:Nat) (K:List V3) (p:Nat) (v:Value) (w:World):Prop:=p≤1→jU w b0 v K
def MpT (nb:Nat):Nat→World→World→Prop
 | 0,w,w'=>Lib.OthersKept 5 (some nb) w w'
 | _+1,_,_=>True
theorem PkF.st {b0:Nat} {K:List V3} (hn:nb < b0):(∀p v w w',(λ(_:Nat) w w'=>jC w w') p w w'→PkF b0 K p v w→PkF b0 K p v w')∧∀p v w w',MpT nb p w w'→PkF b0 K p v w→PkF b0 K (p+1) v w':=by
 refine⟨λp v w w' hg h hp=>JM (h hp) hg,λp v w w' ht h hp=>?_⟩;obtain rfl:p=0:=by omega
 have h0:=h zo;refine⟨h0.1,?_⟩;rcases h0.2 with h|⟨g,cap,cur,e,hb,hh,hr⟩
 ·exact .inl h
 exact .inr ⟨g,cap,cur,e,hb,ht g _ hh (λe=>by injection e with e;omega) (λc fz e=>by injection e with _ e;exact absurd e zd),hr⟩
end Go.Proofs.YtdjoffgkndncfaaGreat
namespace Go.Proofs.YtdjoffgkndncfaaGreat
open Go.Proofs.Tryz
open Go Go.ChangeShapes Go.WideShapes Go.ChangeAt Go.RowKit Go.Joins Go.Deep
open Ft (V3 vV okV ValsAt inlineB legalB packF codeF typedF allF oneF)
variable {w:World} {jB:Int}
theorem GA (t wd n a i:Int):Ft.oneF t wd n a i=0∨Ft.oneF t wd n a i=1∨Ft.oneF t wd n a i=2∨Ft.oneF t wd n a i=4∨Ft.oneF t wd n a i=8:=by
 unfold Ft.oneF;split
 ·unfold Ft.leastOf
  repeat' split
  all_goals simp
 simp
theorem GB (n:Int) (w:World):Calls prog 101 #[.int .u64 n,.int .i64 0] w λr w'=>r=.returned (.int .u64 (yD n 0))∧w'=w:=by
 have hz:IntKind.u64.wrap (n*2 ^ (64:Int).toNat)=0:=by simp[IntKind.wrap,IntKind.bits,IntKind.signed]
 have hz2:IntKind.u64.wrap (n*18446744073709551616)=0:=by simp[IntKind.wrap,IntKind.bits,IntKind.signed]
 go_enter func101,ntmps101;go_wp2;go_ret;refine⟨K5 ?_,rfl⟩;have e:yD n 0=0:=by unfold yD;show n % 2 ^ 0=0;omega
 rw[e]
theorem GC (n W:Int) (w:World) (hW:W=0∨W=1∨W=2∨W=4∨W=8) (n0:0≤n) (n1:n≤18446744073709551615):Calls prog 101 #[.int .u64 n,.int .i64 W] w λr w'=>r=.returned (.int .u64 (yD n W))∧w'=w:=by
 rcases hW with rfl|h
 ·exact GB n w
 exact xN n W w (by rcases h with rfl | rfl | rfl | rfl<;>rfl) n0 n1
theorem lowF_le {n W:Int} (n0:0≤n) (n1:n≤18446744073709551615):0≤yD n W∧yD n W≤18446744073709551615:=by
 unfold yD;have hp:(0:Int) < 2 ^ (8*W.toNat):=Int.pow_pos zd;have h1:=xg n (Int.ne_of_gt hp);refine⟨h1,Int.le_trans ?_ n1⟩;rcases Int.lt_or_le n (2 ^ (8*W.toNat)) with h|h
 ·rw[Int.emod_eq_of_lt n0 h];exact Int.le_refl _
 have:=xd n hp;omega
theorem GD (w:World) (y z:Int) (a b:UInt8) (ha:y=a.toNat) (hb:z=b.toNat):zK (w.alloc (.cells #[.int .u8 y,.int .u8 z] 5)) (.slice (some ⟨w.heap.size,0,none⟩) 2 2) [a,b]:=by
 subst ha hb;refine⟨_,2,rfl,zr _,(λh=>by cases h),λi c hc=>⟨_,_,rfl,?_⟩⟩
 match i,hc with
 | 0,hc=>simp at hc;subst hc;rw[cell_of_row _ _ _ _ _ _ (qc _ _)];rfl
 | 1,hc=>simp at hc;subst hc;rw[cell_of_row _ _ _ _ _ _ (qc _ _)];rfl
section
variable {B:Nat} {q:zR} {jB jD:Int} {κ κ0 κ1:Nat→Nat} {x y:BS} {w w' w0 w1:World} {Kp:List (Nat × Obj)}
theorem Env.text1 {g:Nat} {s:ByteArray} (h:Env B q jB jD w0 κ0 ((g,.cells #[.string s] 9 (0,0))::Kp) x w) (hss:yY [s]≤1073741824):Calls prog 104 #[jI q.b,.slice (some ⟨g,0,none⟩) 1 1] w λr w'=>r=.returned (.tuple #[])∧Env B q jB jD w0 κ0 Kp {x with s:=kQ jB (jS [s]) x.s} w':=by
 have hh:=h.kp zx;refine (h.call λκ1 hb hz=>hb.buf_calls (bH hb.ok.len) (λo ho hκ=>wT x.s _ [s] ho (Nat.zero_le _) hb.ok.len hb.ok.m1 ⟨_,_,rfl,λi t ht=>?_⟩ zp2 hss (λad n c e hk=>?_))).mono λr w' hr=>⟨hr.1,hr.2.mono (λz hz=>zj _ hz)⟩
 ·match i,ht with
  | 0,ht=>cases ht;exact⟨g,0,rfl,jA hh 0 _ rfl⟩
 cases e;have h1:=hκ _ hk;have h2:=hz _ zx;dsimp only at h1 h2;omega
def AQ (B:Nat) (q:zR) (jB jD:Int) (w0:World) (κ0:Nat→Nat) (x:BS) (v:Value) (d:List UInt8) (w:World):Prop:=
 ∃κ,Bd B q jB jD κ x w∧Tn κ0 κ w0 w∧w.ownsRow w0.heap.size 5 1 v d.length (Lib.byteCells d)∧∀g,v.ownBlock=some g→κ g=0
theorem Env.finX (h:Env B q jB jD w0 κ0 Kp x w):AQ B q jB jD w0 κ0 x (.slice none 0 0) [] w:=by
 obtain⟨κ,h1,h2,_⟩:=h;exact⟨κ,h1,h2,World.ownsRow_nil _ _ _ _,λg e=>by cases e⟩
theorem Env.bytesE (h:Env B q jB jD w0 κ0 Kp x w):Calls prog 105 #[jI q.b] w λr w'=>∃v Kp',r=.returned (.tuple #[v,.int .i64 x.s.2])∧(∃a c,v=.slice a (eC x.s).length c)∧(∀z∈Kp,z∈Kp')∧Env B q jB jD w0 κ0 Kp' x w'∧∀w2 y2,Env B q jB jD w0 κ0 Kp' y2 w2→AQ B q jB jD w0 κ0 y2 v (eC x.s) w2:=by
 have h':=h;obtain⟨κ,h1,h2,h3⟩:=h;obtain⟨_,o,hb,_⟩:=h1.buf;refine (EE hb (by have:=h'.len;omega)).mono ?_;rintro r w' ⟨v,rfl,ho,hg⟩;have ho2:w'.ownsRow w.heap.size 5 1 v (eC x.s).length (Lib.byteCells (eC x.s)):=ho
 have hf:∃a c,v=.slice a (eC x.s).length c:=by
  rcases ho2.2 with ⟨rfl,e⟩|⟨g,cap,cur,rfl,_⟩
  ·exact⟨none,0,by rw[e]⟩
  exact⟨_,_,rfl⟩
 rcases ho2.2 with ⟨rfl,hn⟩|⟨g,cap,cur,rfl,hge,hh,hcap,hmax,hsz,htk⟩
 ·refine⟨_,Kp,rfl,hf,λz hz=>hz,h'.grew hg,λw2 y2 k=>?_⟩;obtain⟨κ2,k1,k2,_⟩:=k;exact⟨κ2,k1,k2,⟨ho2.1,.inl ⟨rfl,hn⟩⟩,λg e=>by cases e⟩
 have hs:=h'.size;refine⟨_,(g,.cells cur 5 (0,0))::Kp,rfl,hf,λz hz=>zj _ hz,⟨κ,h1.grew hg,h2.trans (Tn.of_grew hg),λz hz=>?_⟩,λw2 y2 k=>?_⟩
 ·rcases qp.1 hz with rfl|hz
  ·exact⟨hh,Decidable.byContradiction λhk=>by have:=(h1.lt g hk).2;have h5:w.heap.size≤g:=hge;omega⟩
  exact⟨hg.heap (h3 z hz).1,(h3 z hz).2⟩
 have hk:=k.kp (n:=g) zx;obtain⟨κ2,k1,k2,k3⟩:=k;exact⟨κ2,k1,k2,⟨ho2.1,.inr ⟨g,cap,cur,rfl,zf hs hge,hk,hcap,hmax,hsz,htk⟩⟩,λg' e=>by cases e;exact (k3 _ zx).2⟩
end
theorem NA {a:Option Addr} {m c:Nat} {z:V3} (h:ValsAt w (.slice a m c) [z]):∃b off,a=some ⟨b,off,none⟩∧w.cell? ⟨b,off,none⟩=some (.int .i64 z.1)∧w.cell? ⟨b,off+1,none⟩=some (.int .i64 z.2.1)∧w.cell? ⟨b,off+2,none⟩=some (.int .u64 z.2.2):=by
 obtain⟨a',c',e,hc⟩:=h;injection e with e _ _;obtain⟨b,off,e2,h0,h1,h2⟩:=hc 0 z rfl;rw[Nat.zero_mul,Nat.add_zero] at h0 h1 h2;exact⟨b,off,e.trans e2,h0,h1,h2⟩
theorem CV {x:BS} (h:x.stk.length≠1):x.finish jB=(([],(x.fail 140).e),x.fail 140):=by
 have he:(x.fail 140).e≠0:=xG zd;unfold BS.finish;simp only[zl h,zl he]
theorem CW {x:BS} (h:x.stk.length=1) (he:x.e≠0):x.finish jB=(([],x.e),x):=by
 have hn:¬x.stk.length≠1:=λk=>k h;unfold BS.finish;simp only[ze hn,zl he]
theorem tV {x:BS} {v:V3} (h:x.stk=[v]) (he:x.e=0):x.finish jB =
 ((eC (kQ jB [UInt8.ofNat (packF v.1 (if inlineB v.1 then Ft.oneF v.1 v.2.1 v.2.2 x.s.1.length 0 else v.2.1)).1.toNat,UInt8.ofNat (Ft.oneF v.1 v.2.1 v.2.2 x.s.1.length 0).toNat] (j9 jB (Ft.oneF v.1 v.2.1 v.2.2 x.s.1.length 0) (if inlineB v.1 then yD v.2.2 (Ft.oneF v.1 v.2.1 v.2.2 x.s.1.length 0) else IntKind.u64.wrap (((jL jB (Ft.oneF v.1 v.2.1 v.2.2 x.s.1.length 0) x.s).1.length:Int) - v.2.2)) (jL jB (Ft.oneF v.1 v.2.1 v.2.2 x.s.1.length 0) x.s))),(kQ jB [UInt8.ofNat (packF v.1 (if inlineB v.1 then Ft.oneF v.1 v.2.1 v.2.2 x.s.1.length 0 else v.2.1)).1.toNat,UInt8.ofNat (Ft.oneF v.1 v.2.1 v.2.2 x.s.1.length 0).toNat] (j9 jB (Ft.oneF v.1 v.2.1 v.2.2 x.s.1.length 0) (if inlineB v.1 then yD v.2.2 (Ft.oneF v.1 v.2.1 v.2.2 x.s.1.length 0) else IntKind.u64.wrap (((jL jB (Ft.oneF v.1 v.2.1 v.2.2 x.s.1.length 0) x.s).1.length:Int) - v.2.2)) (jL jB (Ft.oneF v.1 v.2.1 v.2.2 x.s.1.length 0) x.s))).2),
  (({x with s:=kQ jB [UInt8.ofNat (packF v.1 (if inlineB v.1 then Ft.oneF v.1 v.2.1 v.2.2 x.s.1.length 0 else v.2.1)).1.toNat,UInt8.ofNat (Ft.oneF v.1 v.2.1 v.2.2 x.s.1.length 0).toNat] (j9 jB (Ft.oneF v.1 v.2.1 v.2.2 x.s.1.length 0) (if inlineB v.1 then yD v.2.2 (Ft.oneF v.1 v.2.1 v.2.2 x.s.1.length 0) else IntKind.u64.wrap (((jL jB (Ft.oneF v.1 v.2.1 v.2.2 x.s.1.length 0) x.s).1.length:Int) - v.2.2)) (jL jB (Ft.oneF v.1 v.2.1 v.2.2 x.s.1.length 0) x.s))}:BS).fail (kQ jB [UInt8.ofNat (packF v.1 (if inlineB v.1 then Ft.oneF v.1 v.2.1 v.2.2 x.s.1.length 0 else v.2.1)).1.toNat,UInt8.ofNat (Ft.oneF v.1 v.2.1 v.2.2 x.s.1.length 0).toNat] (j9 jB (Ft.oneF v.1 v.2.1 v.2.2 x.s.1.length 0) (if inlineB v.1 then yD v.2.2 (Ft.oneF v.1 v.2.1 v.2.2 x.s.1.length 0) else IntKind.u64.wrap (((jL jB (Ft.oneF v.1 v.2.1 v.2.2 x.s.1.length 0) x.s).1.length:Int) - v.2.2)) (jL jB (Ft.oneF v.1 v.2.1 v.2.2 x.s.1.length 0) x.s))).2).fail 140):=by
 have hn:¬x.stk.length≠1:=λk=>k (by rw[h];rfl);have h0:¬x.e≠0:=λk=>k he;unfold BS.finish;simp only[ze hn,ze h0];rw[h];rfl
theorem AR {B:Nat} {q:zR} {jD:Int} {κ:Nat→Nat} {x:BS} (h:Bd B q jB jD κ x w):Calls prog 47 #[jI q.p] w λr w'=>∃v,r=.returned (.tuple #[v,.int .i64 (x.finish jB).1.2])∧AQ B q jB jD w κ (x.finish jB).2 v (x.finish jB).1.1 w':=by
 have HE0:=zh (Env.start h);have HB:=zh h;have HOK:=zh h.ok.okS;have HN0:=zh (fV h);have c1:=h.at1;clear h;go_enter func47,ntmps47;go_wp2_with fail;refine HN0.mono ?_;rintro r wz ⟨rfl,hwz⟩;obtain rfl:w=wz:=hwz.symm;go_wp2_with fail;refine (fS 0 HB.stk HB.ok.stk).mono ?_;rintro r w1 (⟨hin,v',rfl,ho,hg⟩|⟨hin,_,_⟩);rotate_left
 ·exact absurd (show InR 0 _ from ⟨Int.le_refl _,Int.natCast_nonneg _⟩) hin
 have hd:x.stk.drop (0:Int).toNat=x.stk:=rfl;rw[hd] at ho;clear hd;have HO1:=zh ho;obtain⟨la,lc,rfl,zX⟩:=zI ho;have HE1:=zh (HE0.grew hg);clear ho hg zX hin c1;have c2:=HE1.at2;have HFA:=zh (λh=>CV (jB:=jB) (x:=x) h);have HFB:=zh (λh he=>CW (jB:=jB) (x:=x) h he);by_cases hl1:x.stk.length=1;rotate_left
 ·have HF:=zh (HFA.out hl1);have hne:¬(x.stk.length:Int)=1:=by omega
  go_wp2_with fail;refine (HE1.call λκ1 hb hz=>yN 140 hb).mono ?_;rintro r w2 ⟨rfl,he⟩;have HE2:=zh he;clear he c2;have c2:=HE2.at2;have hee:¬(x.fail 140).e=0:=xG zd;obtain⟨ex,hex⟩:∃ex,(x.fail 140).e=ex:=⟨_,rfl⟩;rw[hex] at c2 hee HF;have HEX:=zh hex;clear hex;clear hne hl1;go_wp2_with fail;go_quiet (fail);go_wp2_with fail
  go_ret2
  exact⟨.slice none 0 0,by rw[HF];rfl,by rw[HF];exact (HE2.grew ((jC.refl _).drewN _)).finX⟩
 have HL1:=zh hl1;have hl1i:(x.stk.length:Int)=1:=by omega
 by_cases he:x.e=0;rotate_left
 ·have HF:=zh (HFB.out hl1 he);obtain⟨ex,hex⟩:∃ex,x.e=ex:=⟨_,rfl⟩;rw[hex] at c2 he HF;have hne:¬ex=0:=he;clear hex he;go_wp2_with fail;go_quiet (fail);go_wp2_with fail
  go_ret2
  exact⟨.slice none 0 0,by rw[HF];rfl,by rw[HF];exact (HE1.grew ((jC.refl _).drewN _)).finX⟩
 obtain⟨v,hv⟩:∃v,x.stk=[v]:=by
  match hs:x.stk,hl1 with
  | [v],_=>exact⟨v,rfl⟩
 have HF:=zh (tV (jB:=jB) hv he);have HOKV:=zh (HOK.out v (by rw[hv];exact List.mem_singleton.2 rfl));rw[he] at c2;rw[hv] at HO1;have HV:=zh hv;obtain⟨ty,wd,n⟩:=v;have HVL:=zh HO1.vals;have hcl:=NA HVL.out;obtain⟨lb,lo,rfl,t0,t1,t2⟩:=hcl;have HLN:Hid (x.s.1.length≤1048576):=HE1.len;have HW5:=zh (GA ty wd n x.s.1.length 0);have HON:Hid (∀w,Calls prog 97 #[.agg #[.int .i64 ty,.int .i64 wd,.int .u64 n],.int .i64 x.s.1.length,.int .i64 0] w λe w'=>e=.returned (.int .i64 (Ft.oneF ty wd n x.s.1.length 0))∧jC w w'):=λw=>Ft.one_any ty wd n _ 0 w HOKV.1 HOKV.2;have HF2:Hid (x.finish jB=_):=HF.out;dsimp only at HF2;generalize Ft.oneF ty wd n x.s.1.length 0=W at *;clear HF hv he HFA HFB HO1;have HB1:=zh (HE1.add (.cells #[.int .i64 ty,.int .i64 wd,.int .u64 n] 135));go_wp2_with fail;generalize w1.alloc _=w2 at *;have HM:=zh (zx:(w1.heap.size,Obj.cells #[.int .i64 ty,.int .i64 wd,.int .u64 n] 135 (0,0))∈[(w1.heap.size,Obj.cells #[.int .i64 ty,.int .i64 wd,.int .u64 n] 135 (0,0))]);have d0:=Env.cell HB1.out HM.out 0 _ rfl;have d1:=Env.cell HB1.out HM.out 1 _ rfl;have d2:=Env.cell HB1.out HM.out 2 _ rfl;have cb0:=HB1.at0;clear t0 t1 t2 c2;refine sqH jC [[],[],[1],[1,2],[1,2,3],[1,2,3,4],[1,2,3,4,5],[0,1,2,3,4,5,6],[0,1,2,3,4,5,6,7]] [(46,0),(47,1),(48,2),(49,3),(50,4),(51,5),(52,6),(53,7),(7,8)]
  [Is (.agg #[.int .i64 ty,.int .i64 wd,.int .u64 n]),Is (jI q.p),Is (jI q.p),Is (jI q.p),Is (jI q.p),Is (jI q.b),Is (.int .i64 x.s.1.length),Is (.int .i64 W),Is (.int .i64 W)]
  sqc zk jC.trans jC.refl (jC.refl _).drew zk ⟨jJ,jJ,jJ,jJ,jJ,jJ,jJ,jJ,jJ,trivial⟩ ?_ rfl ?_
 rotate_left
 ·intro y w4 hG hF;simp only[zV,Is,and_true,Nat.reduceAdd] at hF;have hlast:=hF.2.2.2.2.2.2.2.2;clear hF;simp only[jF,Act.put,zq,hlast];have HB2:=zh (HB1.grew hG);clear hG hlast;clear d0 d1 d2 cb0;have d0:=Env.cell HB2.out HM.out 0 _ rfl;have d1:=Env.cell HB2.out HM.out 1 _ rfl;have cb0:=HB2.at0;go_wp2_with fail;refine (HB2.call λκ1 hb hz=>hb.buf_calls (z8 hb.ok.len) (λo ho _=>ZS x.s W ho (Nat.zero_le _) hb.ok.len hb.ok.m1)).mono ?_;rintro r w5 ⟨rfl,he⟩;have HB3:=zh he;clear he d0 d1 cb0;have d0:=Env.cell HB3.out HM.out 0 _ rfl;have d2:=Env.cell HB3.out HM.out 2 _ rfl;have cb0:=HB3.at0;have HL3:Hid ((jL jB W x.s).1.length≤1048576):=HB3.len;go_wp2_with fail;refine (Ft.inline_any ty w5).mono ?_;rintro r w6 ⟨rfl,hg6⟩;have HB4:=zh (HB3.grew hg6);clear hg6 d0 d2 cb0;have d0:=Env.cell HB4.out HM.out 0 _ rfl;have d2:=Env.cell HB4.out HM.out 2 _ rfl;have cb0:=HB4.at0
  cases hin:inlineB ty with
  | true=>
   have HFS:Hid (x.finish jB=((eC (kQ jB [UInt8.ofNat (packF ty (W)).1.toNat,UInt8.ofNat W.toNat] (j9 jB W (yD n W) (jL jB W x.s))),(kQ jB [UInt8.ofNat (packF ty (W)).1.toNat,UInt8.ofNat W.toNat] (j9 jB W (yD n W) (jL jB W x.s))).2),(({x with s:=(kQ jB [UInt8.ofNat (packF ty (W)).1.toNat,UInt8.ofNat W.toNat] (j9 jB W (yD n W) (jL jB W x.s)))}:BS).fail (kQ jB [UInt8.ofNat (packF ty (W)).1.toNat,UInt8.ofNat W.toNat] (j9 jB W (yD n W) (jL jB W x.s))).2).fail 140)):=(by have h:=HF2.out;rw[hin] at h;exact h);have HNN:Hid (0≤(yD n W)∧(yD n W)≤18446744073709551615):=lowF_le HOKV.1 HOKV.2;have hwu:IntKind.u8.wrap W=W:=(by rcases HW5.out with h | h | h | h | h<;>rw[h]<;>rfl);have HWB:Hid (W=((UInt8.ofNat W.toNat).toNat:Int)):=(by rcases HW5.out with h | h | h | h | h<;>(show W=_;rw[h];rfl));have HIN:=zh hin;clear hin;go_wp2_with fail;refine (GC n W w6 HW5.out HOKV.1 HOKV.2).mono ?_;rintro r w9 ⟨rfl,hw9⟩;obtain rfl:w6=w9:=hw9.symm;have HBL:=HB4;go_wp2_with fail;refine (Ft.pack_any ty (W) _).mono ?_;rintro r w7 ⟨rfl,hg7⟩;have HB5:=zh (HBL.grew hg7);have HPB:Hid ((packF ty (W)).1=((UInt8.ofNat (packF ty (W)).1.toNat).toNat:Int)):=bQ ty (W);generalize packF ty (W)=pk at *;clear hg7 d0 d2 cb0;have cb0:=HB5.at0;go_wp2_with fail;refine (HB5.call λκ1 hb hz=>hb.buf_calls (x:={x with s:=(jL jB W x.s)}) (qV hb.ok.len) (λo ho _=>JF (jL jB W x.s) W (yD n W) ho (Nat.zero_le _) hb.ok.len hb.ok.m1 HNN.1 HNN.2)).mono ?_;rintro r w8 ⟨rfl,he⟩;have HB6:=zh he;clear he cb0;go_wp2_with fail;refine jQ [11] (vR B q jB jD w κ [(w1.heap.size,Obj.cells #[.int .i64 ty,.int .i64 wd,.int .u64 n] 135 (0,0))] [{x with s:=(j9 jB W (yD n W) (jL jB W x.s))}] ({x with s:=kQ jB [UInt8.ofNat pk.1.toNat,UInt8.ofNat W.toNat] (j9 jB W (yD n W) (jL jB W x.s))})) (λ_ w w'=>jC w w') ((λp (_:Nat→Value)=>(λ_ _ _=>True) p)) [[],[0],[0,1],[0,1,2],[0,1,2,3],[],[],[6],[5,6,7],[5,6,7,8],[5,6,7,8,9],[0,1,2,3,4,5,6,7,8,9,10]] [(96,0),(97,1),(98,2),(99,3),(100,4),(101,5),(102,6),(103,7),(104,8),(105,9),(106,10),(107,11)]
    [IsP (jI q.p),IsP (jI q.p),IsP (jI q.p),IsP (jI q.p),IsP (jI q.b),IsP (.int .u8 pk.1),IsP (.int .i64 W),IsP (.int .u8 W),ZG 0 (λv w=>(∃g,v=.slice (some ⟨g,0,none⟩) 2 2)∧zK w v [UInt8.ofNat pk.1.toNat,UInt8.ofNat W.toNat]),IsP (.string ⟨#[UInt8.ofNat pk.1.toNat,UInt8.ofNat W.toNat]⟩),ZG 0 (λv w'=>∃g,v=.slice (some ⟨g,0,none⟩) 1 1∧Env B q jB jD w κ ((g,.cells #[.string ⟨#[UInt8.ofNat pk.1.toNat,UInt8.ofNat W.toNat]⟩] 9 (0,0))::[(w1.heap.size,Obj.cells #[.int .i64 ty,.int .i64 wd,.int .u64 n] 135 (0,0))]) ({x with s:=(j9 jB W (yD n W) (jL jB W x.s))}) w'),IsP (.tuple #[])]
    sqc zk (vR.grew) (HB6.grew (jC.refl _).drew) zk zk ⟨jG,jG,jG,jG,jG,jG,jG,jG,KK (ZG.st (λv w w' hg h=>⟨h.1,h.2.grew hg⟩)),jG,KK (ZG.st (λv w w' hg ⟨g,e,h⟩=>⟨g,e,h.grew hg⟩)),jG,trivial⟩ rfl ?_ ?_
   ·intro y w2 hW hF;simp only[yR,IsP,Nat.reduceAdd,zz,qg] at hF hW;have h8:=hF.2.2.2.2.2.2.2.2.1;have h10:=hF.2.2.2.2.2.2.2.2.2.2.1;simp only[jF,Act.put,zq];simp only[hF];clear hF;have HB7:Hid (Env B q jB jD w κ [(w1.heap.size,Obj.cells #[.int .i64 ty,.int .i64 wd,.int .u64 n] 135 (0,0))] ({x with s:=kQ jB [UInt8.ofNat pk.1.toNat,UInt8.ofNat W.toNat] (j9 jB W (yD n W) (jL jB W x.s))}) w2):=hW;clear hW h8 h10;have cb7:=HB7.at0;go_wp2_with fail;refine HB7.bytesE.mono ?_;rintro r w9 ⟨vd,Kp9,rfl,⟨da,dc,rfl⟩,hsub,he,hfx⟩;have HB8:=zh he;have HFX:=zh hfx;clear he hfx hsub cb7;obtain⟨D,hD⟩:∃D,eC ({x with s:=kQ jB [UInt8.ofNat pk.1.toNat,UInt8.ofNat W.toNat] (j9 jB W (yD n W) (jL jB W x.s))}:BS).s=D:=⟨_,rfl⟩;rw[hD] at HFX⊢;have HDD:=zh hD;clear hD;go_wp2_with fail;refine (HB8.call λκ1 hb hz=>yN _ hb).mono ?_;rintro r w10 ⟨rfl,he⟩;have HB9:=zh he;clear he;go_wp2_with fail;refine (HB9.call λκ1 hb hz=>yN 140 hb).mono ?_;rintro r w11 ⟨rfl,he⟩;have HB10:=zh he;clear he;go_wp2
    go_ret2
    exact⟨.slice da D.length dc,by rw[HFS];rfl,by rw[HFS];show AQ _ _ _ _ _ _ _ _ (eC ({x with s:=kQ jB [UInt8.ofNat pk.1.toNat,UInt8.ofNat W.toNat] (j9 jB W (yD n W) (jL jB W x.s))}:BS).s) _;rw[HDD];exact HFX.out _ _ HB10.out⟩
   refine⟨zqd,zqd,zqd,zqd,?_⟩;constructor
   ·exact zb68
   refine⟨zqd,zqd,zqd,?_⟩;constructor
   ·exact zb85
   constructor
   ·exact zb86
   constructor
   ·exact zb87
   constructor
   ·exact zb88
   trivial
  | false=>
   have HFS:Hid (x.finish jB=((eC (kQ jB [UInt8.ofNat (packF ty (wd)).1.toNat,UInt8.ofNat W.toNat] (j9 jB W (IntKind.u64.wrap (((jL jB W x.s).1.length:Int) - n)) (jL jB W x.s))),(kQ jB [UInt8.ofNat (packF ty (wd)).1.toNat,UInt8.ofNat W.toNat] (j9 jB W (IntKind.u64.wrap (((jL jB W x.s).1.length:Int) - n)) (jL jB W x.s))).2),(({x with s:=(kQ jB [UInt8.ofNat (packF ty (wd)).1.toNat,UInt8.ofNat W.toNat] (j9 jB W (IntKind.u64.wrap (((jL jB W x.s).1.length:Int) - n)) (jL jB W x.s)))}:BS).fail (kQ jB [UInt8.ofNat (packF ty (wd)).1.toNat,UInt8.ofNat W.toNat] (j9 jB W (IntKind.u64.wrap (((jL jB W x.s).1.length:Int) - n)) (jL jB W x.s))).2).fail 140)):=(by have h:=HF2.out;rw[hin] at h;exact h);have HNN:Hid (0≤(IntKind.u64.wrap (((jL jB W x.s).1.length:Int) - n))∧(IntKind.u64.wrap (((jL jB W x.s).1.length:Int) - n))≤18446744073709551615):=wY _;have hwu:IntKind.u8.wrap W=W:=(by rcases HW5.out with h | h | h | h | h<;>rw[h]<;>rfl);have HWB:Hid (W=((UInt8.ofNat W.toNat).toNat:Int)):=(by rcases HW5.out with h | h | h | h | h<;>(show W=_;rw[h];rfl));have HIN:=zh hin;clear hin;have hwl:=VS _ HL3.out;go_wp2_with fail;refine sqH jC [[],[0],[0,1],[0,1,2],[0,1,2,3],[0,1,2,3,4],[0,1,2,3,4,5],[],[7],[0,1,2,3,4,5,6,7,8],[0,1,2,3,4,5,6,7,8,9]] [(71,0),(72,1),(73,2),(74,3),(75,4),(76,5),(77,6),(78,7),(79,8),(80,9),(9,10)]
    [Is (jI q.p),Is (jI q.p),Is (jI q.p),Is (jI q.p),Is (jI q.b),Is (.int .i64 (jL jB W x.s).1.length),Is (.int .u64 (jL jB W x.s).1.length),Is (.pointer (some ⟨w1.heap.size,2,none⟩)),Is (.int .u64 n),Is (.int .u64 (IntKind.u64.wrap (((jL jB W x.s).1.length:Int) - n))),Is (.int .u64 (IntKind.u64.wrap (((jL jB W x.s).1.length:Int) - n)))]
    sqc zk jC.trans jC.refl (jC.refl _).drew zk ⟨jJ,jJ,jJ,jJ,jJ,jJ,jJ,jJ,jJ,jJ,jJ,trivial⟩ ?_ rfl ?_
   rotate_left
   ·intro y w4 hG hF;simp only[zV,Is,and_true,Nat.reduceAdd] at hF;have hlast:=hF.2.2.2.2.2.2.2.2.2.2;clear hF;simp only[jF,Act.put,zq,hlast];have HBL:=zh (HB4.grew hG);clear hG hlast d0 d2 cb0;have d0:=Env.cell HBL.out HM.out 0 _ rfl;have d2:=Env.cell HBL.out HM.out 2 _ rfl;have cb0:=HBL.at0;go_wp2_with fail;refine (Ft.pack_any ty (wd) _).mono ?_;rintro r w7 ⟨rfl,hg7⟩;have HB5:=zh (HBL.grew hg7);have HPB:Hid ((packF ty (wd)).1=((UInt8.ofNat (packF ty (wd)).1.toNat).toNat:Int)):=bQ ty (wd);generalize packF ty (wd)=pk at *;clear hg7 d0 d2 cb0;have cb0:=HB5.at0;go_wp2_with fail;refine (HB5.call λκ1 hb hz=>hb.buf_calls (x:={x with s:=(jL jB W x.s)}) (qV hb.ok.len) (λo ho _=>JF (jL jB W x.s) W (IntKind.u64.wrap (((jL jB W x.s).1.length:Int) - n)) ho (Nat.zero_le _) hb.ok.len hb.ok.m1 HNN.1 HNN.2)).mono ?_;rintro r w8 ⟨rfl,he⟩;have HB6:=zh he;clear he cb0;go_wp2_with fail;refine jQ [11] (vR B q jB jD w κ [(w1.heap.size,Obj.cells #[.int .i64 ty,.int .i64 wd,.int .u64 n] 135 (0,0))] [{x with s:=(j9 jB W (IntKind.u64.wrap (((jL jB W x.s).1.length:Int) - n)) (jL jB W x.s))}] ({x with s:=kQ jB [UInt8.ofNat pk.1.toNat,UInt8.ofNat W.toNat] (j9 jB W (IntKind.u64.wrap (((jL jB W x.s).1.length:Int) - n)) (jL jB W x.s))})) (λ_ w w'=>jC w w') ((λp (_:Nat→Value)=>(λ_ _ _=>True) p)) [[],[0],[0,1],[0,1,2],[0,1,2,3],[],[],[6],[5,6,7],[5,6,7,8],[5,6,7,8,9],[0,1,2,3,4,5,6,7,8,9,10]] [(96,0),(97,1),(98,2),(99,3),(100,4),(101,5),(102,6),(103,7),(104,8),(105,9),(106,10),(107,11)]
     [IsP (jI q.p),IsP (jI q.p),IsP (jI q.p),IsP (jI q.p),IsP (jI q.b),IsP (.int .u8 pk.1),IsP (.int .i64 W),IsP (.int .u8 W),ZG 0 (λv w=>(∃g,v=.slice (some ⟨g,0,none⟩) 2 2)∧zK w v [UInt8.ofNat pk.1.toNat,UInt8.ofNat W.toNat]),IsP (.string ⟨#[UInt8.ofNat pk.1.toNat,UInt8.ofNat W.toNat]⟩),ZG 0 (λv w'=>∃g,v=.slice (some ⟨g,0,none⟩) 1 1∧Env B q jB jD w κ ((g,.cells #[.string ⟨#[UInt8.ofNat pk.1.toNat,UInt8.ofNat W.toNat]⟩] 9 (0,0))::[(w1.heap.size,Obj.cells #[.int .i64 ty,.int .i64 wd,.int .u64 n] 135 (0,0))]) ({x with s:=(j9 jB W (IntKind.u64.wrap (((jL jB W x.s).1.length:Int) - n)) (jL jB W x.s))}) w'),IsP (.tuple #[])]
     sqc zk (vR.grew) (HB6.grew (jC.refl _).drew) zk zk ⟨jG,jG,jG,jG,jG,jG,jG,jG,KK (ZG.st (λv w w' hg h=>⟨h.1,h.2.grew hg⟩)),jG,KK (ZG.st (λv w w' hg ⟨g,e,h⟩=>⟨g,e,h.grew hg⟩)),jG,trivial⟩ rfl ?_ ?_
    ·intro y w2 hW hF;simp only[yR,IsP,Nat.reduceAdd,zz,qg] at hF hW;have h8:=hF.2.2.2.2.2.2.2.2.1;have h10:=hF.2.2.2.2.2.2.2.2.2.2.1;simp only[jF,Act.put,zq];simp only[hF];clear hF;have HB7:Hid (Env B q jB jD w κ [(w1.heap.size,Obj.cells #[.int .i64 ty,.int .i64 wd,.int .u64 n] 135 (0,0))] ({x with s:=kQ jB [UInt8.ofNat pk.1.toNat,UInt8.ofNat W.toNat] (j9 jB W (IntKind.u64.wrap (((jL jB W x.s).1.length:Int) - n)) (jL jB W x.s))}) w2):=hW;clear hW h8 h10;have cb7:=HB7.at0;go_wp2_with fail;refine HB7.bytesE.mono ?_;rintro r w9 ⟨vd,Kp9,rfl,⟨da,dc,rfl⟩,hsub,he,hfx⟩;have HB8:=zh he;have HFX:=zh hfx;clear he hfx hsub cb7;obtain⟨D,hD⟩:∃D,eC ({x with s:=kQ jB [UInt8.ofNat pk.1.toNat,UInt8.ofNat W.toNat] (j9 jB W (IntKind.u64.wrap (((jL jB W x.s).1.length:Int) - n)) (jL jB W x.s))}:BS).s=D:=⟨_,rfl⟩;rw[hD] at HFX⊢;have HDD:=zh hD;clear hD;go_wp2_with fail;refine (HB8.call λκ1 hb hz=>yN _ hb).mono ?_;rintro r w10 ⟨rfl,he⟩;have HB9:=zh he;clear he;go_wp2_with fail;refine (HB9.call λκ1 hb hz=>yN 140 hb).mono ?_;rintro r w11 ⟨rfl,he⟩;have HB10:=zh he;clear he;go_wp2
     go_ret2
     exact⟨.slice da D.length dc,by rw[HFS];rfl,by rw[HFS];show AQ _ _ _ _ _ _ _ _ (eC ({x with s:=kQ jB [UInt8.ofNat pk.1.toNat,UInt8.ofNat W.toNat] (j9 jB W (IntKind.u64.wrap (((jL jB W x.s).1.length:Int) - n)) (jL jB W x.s))}:BS).s) _;rw[HDD];exact HFX.out _ _ HB10.out⟩
    refine⟨zqd,zqd,zqd,zqd,?_⟩;constructor
    ·exact zb68
    refine⟨zqd,zqd,zqd,?_⟩;constructor
    ·exact zb85
    constructor
    ·exact zb86
    constructor
    ·exact zb87
    constructor
    ·exact zb88
    trivial
   constructor
   ·exact zb89
   constructor
   ·exact oN
   constructor
   ·exact oN
   constructor
   ·exact oN
   constructor
   ·exact zb91
   constructor
   ·intro y w4 hG hD K hK;simp only[kC,zq4,zq5,Is,and_true] at hD;simp only[jF,Act.put,zq,Is] at hK⊢;simp only[hD] at hK⊢;clear hD;refine jN ?_;go_simp;refine (HB4.grew hG).buflen.mono ?_;rintro r w9 ⟨rfl,hw9⟩;exact hK _ _ _ rfl (by rw[hw9];exact jC.refl _) rfl
   constructor
   ·exact oN
   constructor
   ·exact zb89
   constructor
   ·intro y w4 hG hD K hK;simp only[kC,zq4,zq5,Is,and_true] at hD;have dd2:=hG.cell d2;simp only[jF,Act.put,zq,Is] at hK⊢;simp only[hD] at hK⊢;clear hD;refine jN ?_;go_simp;exact hK _ _ _ rfl (jC.refl _) rfl
   constructor
   ·exact oN
   constructor
   ·exact oN
   trivial
 constructor
 ·intro y w4 hG hD K hK;have dd0:=hG.cell d0;have dd1:=hG.cell d1;have dd2:=hG.cell d2;simp only[jF,Act.put,zq,Is] at hK⊢;refine jN ?_;go_simp;exact hK _ _ _ rfl (jC.refl _) rfl
 constructor
 ·exact zb89
 constructor
 ·exact oN
 constructor
 ·exact oN
 constructor
 ·exact oN
 constructor
 ·exact zb91
 constructor
 ·intro y w4 hG hD K hK;simp only[kC,zq4,zq5,Is,and_true] at hD;simp only[jF,Act.put,zq,Is] at hK⊢;simp only[hD] at hK⊢;clear hD;refine jN ?_;go_simp;refine (HB1.grew hG).buflen.mono ?_;rintro r w9 ⟨rfl,hw9⟩;exact hK _ _ _ rfl (by rw[hw9];exact jC.refl _) rfl
 constructor
 ·intro y w4 hG hD K hK;simp only[kC,zq4,zq5,Is,and_true] at hD;simp only[jF,Act.put,zq,Is] at hK⊢;simp only[hD] at hK⊢;clear hD;refine jN ?_;go_simp;refine (HON.out w4).mono ?_;rintro r w9 ⟨rfl,hg9⟩;exact hK _ _ _ rfl hg9 rfl
 constructor
 ·exact oN
 trivial
end Go.Proofs.YtdjoffgkndncfaaGreat
namespace Go.Proofs.YtdjoffgkndncfaaGreat
open Go.Proofs.Tryz
open Go Go.ChangeShapes Go.WideShapes Go.ChangeAt Go.RowKit Go.Joins Go.Deep
open Ft (V3 vV okV ValsAt inlineB legalB packF codeF typedF allF)
variable {B size n:Nat} {q:zR} {jB jD:Int} {κ:Nat→Nat} {w w':World} {v:Value} {xs:List Value}
theorem BS.new_ok (jB:Int):BS.new.Ok (JV jB):=by
 have h0:0≤JV jB∧JV jB≤1048576:=by unfold JV;omega
 exact⟨h0.1,h0.2,h0.1,by decide,λv h=>absurd h List.not_mem_nil,by decide,by decide,by decide,by decide,λv h=>absurd h List.not_mem_nil,λv h=>absurd h List.not_mem_nil,λv h=>absurd h List.not_mem_nil⟩
def tW (q:zR) (k:Nat):Nat:=if k=q.b then 2 else if k=q.s then 3 else if k=q.k then 4 else if k=q.t then 5 else if k=q.l then 6 else if k=q.m then 7 else if k=q.p then 1 else 0
theorem NC (jD jB:Int) (w:World):Calls prog 45 #[.int .i64 jD,.int .i64 jB] w λr w'=>∃q κ,r=.returned (jI q.p)∧Bd w.heap.size q (JV jB) jD κ BS.new w'∧jC w w':=by
 have hmm:=λw=>run_makeMap_plain (P:=prog) w 108;go_enter func45,ntmps45;go_wp2_with fail;refine (new_any jB w).mono ?_;rintro r w1 ⟨rfl,hb,hg1,hs1⟩;have H1:=zh (qa hb (qa hg1 hs1));clear hb hg1 hs1;go_wp2_with fail;refine (L5 w1).mono ?_;rintro r w2 ⟨rfl,hb,hg1,hs1⟩;have H2:=zh (qa hb (qa hg1 hs1));clear hb hg1 hs1;go_wp2_with fail;refine (mU w2).mono ?_;rintro r w3 ⟨rfl,hb,hg1,hs1⟩;have H3:=zh (qa hb (qa hg1 hs1));clear hb hg1 hs1;go_wp2_with fail;refine (mU w3).mono ?_;rintro r w4 ⟨rfl,hb,hg1,hs1⟩;have H4:=zh (qa hb (qa hg1 hs1));clear hb hg1 hs1;go_wp2_with fail;refine (mU w4).mono ?_;rintro r w5 ⟨rfl,hb,hg1,hs1⟩;have H5:=zh (qa hb (qa hg1 hs1));clear hb hg1 hs1;go_wp2;go_ret;obtain⟨b1,g1,s1⟩:=H1.out;obtain⟨b2,g2,s2⟩:=H2.out;obtain⟨b3,g3,s3⟩:=H3.out;obtain⟨b4,g4,s4⟩:=H4.out;obtain⟨b5,g5,s5⟩:=H5.out;have gm:=(jC.refl w5).alloc (.map #[] 0);have hm:=qc w5 (.map #[] 0);refine⟨⟨w5.heap.size+1,w.heap.size,w1.heap.size,w2.heap.size,w3.heap.size,w4.heap.size,w5.heap.size⟩,tW ⟨w5.heap.size+1,w.heap.size,w1.heap.size,w2.heap.size,w3.heap.size,w4.heap.size,w5.heap.size⟩,by simp,?_,(g1.trans (g2.trans (g3.trans (g4.trans (g5.trans gm))))).alloc _⟩;have hz:=qc (w5.alloc (.map #[] 0)) (eM ⟨w5.heap.size+1,w.heap.size,w1.heap.size,w2.heap.size,w3.heap.size,w4.heap.size,w5.heap.size⟩ jD (.slice none 0 0) 0);have ga:=(jC.refl (w5.alloc (.map #[] 0))).alloc (eM ⟨w5.heap.size+1,w.heap.size,w1.heap.size,w2.heap.size,w3.heap.size,w4.heap.size,w5.heap.size⟩ jD (.slice none 0 0) 0);have hsz:(w5.alloc (.map #[] 0)).heap.size=w5.heap.size+1:=by simp
 rw[hsz] at hz;have G5:=gm.trans ga;have G4:=g5.trans G5;have G3:=g4.trans G4;have G2:=g3.trans G3;have G1:=g2.trans G2;have hm2:=ga.heap hm;have htot:((w5.alloc (.map #[] 0)).alloc (eM ⟨w5.heap.size+1,w.heap.size,w1.heap.size,w2.heap.size,w3.heap.size,w4.heap.size,w5.heap.size⟩ jD (.slice none 0 0) 0)).heap.size=w5.heap.size+2:=by simp
 refine⟨λk hk=>?_,BS.new_ok jB,⟨?_,_,hz,World.ownsRow_nil _ _ _ _,λg e=>by cases e⟩,⟨?_,none,?_,λk e=>by cases e⟩,(b2.grew G2).mono (λk _ hk=>?_),qK.mono (b3.grew G3) (λk _ hk=>?_),qK.mono (b4.grew G4) (λk _ hk=>?_),qK.mono (b5.grew G5) (λk _ hk=>?_),⟨?_,hm2⟩⟩
 ·rw[htot];unfold tW at hk;dsimp only at hk
  repeat' split at hk
  all_goals first | omega | exact absurd rfl hk
 ·unfold tW;dsimp only;repeat' split<;>try omega
  all_goals first | omega | rfl
 ·unfold tW;dsimp only;rw[zl rfl]
 ·obtain⟨h0,v,h1,h2,h3,h4⟩:=b1;exact⟨Nat.zero_le _,v,G1.heap h1,Moved.owns (Moved.of_grew (S:=λ_=>False) G1) (GY h2 (Nat.zero_le _)) (λ_ _ h=>h),h3,h4⟩
 ·subst hk;unfold tW;dsimp only;rw[ze zo,zl rfl]
 ·subst hk;unfold tW;dsimp only;rw[ze zo,ze zo,zl rfl]
 ·subst hk;unfold tW;dsimp only;rw[ze zo,ze zo,ze zo,zl rfl]
 ·subst hk;unfold tW;dsimp only;rw[ze zo,ze zo,ze zo,ze zo,zl rfl]
 unfold tW;dsimp only;rw[ze zo,ze zo,ze zo,ze zo,ze zo,zl rfl]
theorem GE (b:Nat) (hb:b≤1) (pa:Option Addr) (n pc:Nat) (p:List Nat) (hn:p.length=n) (la:Option Addr) (lc:Nat) (L:List V3) (np nl:Nat) (w:World) (hp:fI w (.slice pa n pc) (p.map λ(x:Nat)=>(x:Int))) (hL:ValsAt w (.slice la L.length lc) L) (h1:w.cell? ⟨np,0,none⟩=some (.slice pa n pc)) (h2:w.cell? ⟨nl,0,none⟩=some (.slice la L.length lc)) (hlt:∀j∈p,2*j+1 < L.length) (hl:L.length≤65536) (hpl:p.length≤65536) :
 Calls prog 141 #[.int .i64 b,.pointer (some ⟨np,0,none⟩),.pointer (some ⟨nl,0,none⟩)] w λr w'=>∃v',r=.returned v'∧jU w' w.heap.size v' (p.map λj=>L.getD (2*j+b) (0,0,0))∧jC w w':=by
 subst hn;obtain⟨_,_,e,z1,z2,z3,hcp⟩:=hp
 have hcp:∀(i:Nat) (x:Nat),p[i]? = some x→∃bl off,pa=some ⟨bl,off,none⟩∧w.cell? ⟨bl,off+i,none⟩=some (.int .i64 (x:Int)):=λi x hx=>by
  obtain⟨_,bl,off,e2,h⟩:=hcp i (x:Int) (by rw[xj,hx];rfl);injection e with e0 _ _;exact⟨bl,off,e0.trans e2,h⟩
 clear e z1 z2 z3;obtain⟨_,_,e,hcl⟩:=hL
 have hcl:∀(i:Nat) (x:V3),L[i]? = some x→∃bl off,la=some ⟨bl,off,none⟩∧w.cell? ⟨bl,off+i*3,none⟩=some (.int .i64 x.1)∧w.cell? ⟨bl,off+i*3+1,none⟩=some (.int .i64 x.2.1)∧w.cell? ⟨bl,off+i*3+2,none⟩=some (.int .u64 x.2.2):=λi x hx=>by
  obtain⟨bl,off,e2,h⟩:=hcl i x hx;injection e with e0 _ _;exact⟨bl,off,e0.trans e2,h⟩
 clear e;have HCP:=zh hcp;have HCL:=zh hcl;have HLT:=zh hlt;have HH:=zh (qa h1 h2);have HL:=zh hl;have HPL:=zh hpl;have hll:p.length≤9223372036854775807:=by omega
 have hlL:L.length≤9223372036854775807:=by omega
 clear hcp hcl hlt h2;go_enter func141,ntmps141;go_wp2_with fail;clear h1
 go_loopw [4,9] (λv i wr=>∃k:Nat,k≤p.length∧i=.int .i64 k∧Hid (jU wr w.heap.size v ((p.take k).map λj=>L.getD (2*j+b) (0,0,0))∧jC w wr)) (λ_ i _=>p.length - (intOf i).toNat)
 case atStart=>exact⟨0,Nat.zero_le _,rfl,by
  show _∧_
  exact⟨World.ownsRow_nil _ _ _ _,jC.refl _⟩⟩
 case round=>
  obtain⟨k,hk,rfl,HW⟩:=hrel;by_cases hlt:k < p.length
  ·obtain⟨x,hx⟩:∃x,p[k]? = some x:=⟨_,za hlt⟩;have HXL:=zh (HLT.out x (qd hx));obtain⟨u,hu⟩:∃u,L[2*x+b]? = some u:=⟨_,za (by have:=HXL.out;omega)⟩;have HSN:Hid (((p.take (k+1)).map λj=>L.getD (2*j+b) (0,0,0))=((p.take k).map λj=>L.getD (2*j+b) (0,0,0))++[u]):=by show _=_;rw[qo,hx];simp[zw,hu]
   obtain⟨bp,op,rfl,c0⟩:=HCP.out k x hx;have d0:=HW.2.cell c0;obtain⟨bl,ol,rfl,l0,l1,l2⟩:=HCL.out _ u hu;obtain⟨u0,u1,u2⟩:=u;have e0:=HW.2.cell l0;have e1:=HW.2.cell l1;have e2:=HW.2.cell l2;have f2:=HW.2.cell HH.2;have HO:=zh (show jU wr w.heap.size u4 ((p.take k).map λj=>L.getD (2*j+b) (0,0,0)) from HW.1);have HG:=zh HW.2;obtain⟨va,vc,rfl,hvc⟩:=zI HO.out;have HLN:Hid (((p.take k).map λj=>L.getD (2*j+b) (0,0,0)).length < p.length):=by show _ < _;rw[qb,qr];omega
   generalize ((p.take k).map λj=>L.getD (2*j+b) (0,0,0))=M at *;have hxw:IntKind.i64.wrap (2*(x:Int))=2*(x:Int):=by have:=HXL.out;rw[zy];omega
   have hxb:IntKind.i64.wrap (2*(x:Int)+(b:Int))=((2*x+b:Nat):Int):=by have:=HXL.out;rw[zy];omega
   have hxl:((2*x+b:Nat):Int) < L.length:=by have:=HXL.out;omega
   generalize hY:2*x+b=y at *;clear hvc HW hx hu c0 l0 l1 l2;have HO2:Hid (∀o,jU (wr.alloc o) w.heap.size (.slice va M.length vc) M):=λo=>JM HO.out ((jC.refl _).alloc o);go_wp2_with (at_builtin;refine qJ rfl _ _ rfl w.heap.size (.slice va M.length vc) M rfl (HO2.out _) _ [(u0,u1,u2)] rfl (Y2 _ _) (λc h=>by cases h) (by have:=HLN.out;have:=HPL.out;simp;omega) (zf HG.size zp2) ?_;intro v' w3 j5 hgr hqq;obtain⟨va2,vc2,rfl,_⟩:=zI j5;have HG3:=zh (qa j5 (aL (HO2.out _) (HG.alloc _) hgr));clear j5 hgr hqq);go_roundw
   case rel=>
    refine⟨k+1,by omega,by go_num,?_⟩;show _∧_;have hh:=HG3.out;rw[zb] at hh;rw[HSN];exact hh
   case measure=>simp[intOf];omega
  have ek:k=p.length:=by omega
  subst ek;have hw:=HW.out;rw[qn] at hw;obtain⟨va,vc,rfl,hvc⟩:=zI hw.1;have HO:=zh hw;clear hw HW hvc;obtain⟨M,hM⟩:∃M,(p.map λj=>L.getD (2*j+b) (0,0,0))=M:=⟨_,rfl⟩;have hML:M.length=p.length:=by rw[← hM,qb]
  have HO:Hid (jU wr w.heap.size (.slice va M.length vc) M∧jC w wr):=by have h:=HO.out;rw[hM] at h;exact h
  rw[hM];have HM:=zh hM;clear hM;rw[hML];go_wp2;go_ret;exact⟨.slice va p.length vc,rfl,by rw[HM,← hML];exact HO.1,HO.2⟩
theorem AT {x:BS} (n1 n2:Nat) (start:Int) (hg:x.Good) (hx:x.e=0) (he:Env B q jB jD w κ [(n2,Obj.cells #[.int .i64 start] 3 (0,0)),(n1,Obj.cells #[jI q.p] 70 (0,0))] x w):Calls prog 139 #[.pointer (some ⟨n1,0,none⟩),.pointer (some ⟨n2,0,none⟩)] w λr w'=>r=.returned (.tuple #[])∧kL B q jB jD κ (x.endMap jB (onF jD 4) start) w w':=by
 have HE0:=zh he;have HM2:Hid ((n2,Obj.cells #[.int .i64 start] 3 (0,0))∈([(n2,Obj.cells #[.int .i64 start] 3 (0,0)),(n1,Obj.cells #[jI q.p] 70 (0,0))]:List (Nat × Obj))):=zx;have HM1:Hid ((n1,Obj.cells #[jI q.p] 70 (0,0))∈([(n2,Obj.cells #[.int .i64 start] 3 (0,0)),(n1,Obj.cells #[jI q.p] 70 (0,0))]:List (Nat × Obj))):=zj _ (zx);have cb:=Env.cell he HM1.out 0 _ rfl;have cs:=Env.cell he HM2.out 0 _ rfl;have HG:=zh hg;have HX:=zh hx;have HBAD:=zh (λh=>CT (jB:=jB) (start:=start) (sh:=onF jD 4) hx h);have HGOOD:=zh (λh=>AP (jB:=jB) (start:=start) (sh:=onF jD 4) hx h)
 have HLL:Hid ((KZ start x).length≤65536):=by
  show _≤_;unfold KZ;split
  ·rw[xr];have:=he.ok.stk;omega
  exact Nat.zero_le _
 have HOK:Hid (∀v∈KZ start x,okV v):=by
  intro v hv;unfold KZ at hv;split at hv
  ·exact he.ok.okS v (List.mem_of_mem_drop hv)
  cases hv
 have HZ:Hid (∀z∈(V5 start x).names,z.2.size≤1048576):=λz hz=>by rw[aW] at hz;exact zf (hg.nz hx z hz) he.len
 have HMY:Hid (tT start x=(ZZ (KZ start x) (V5 start x)).fail (KN (yT (V5 start x).names (KZ start x))).2):=by show _=_;rw[aW];rfl
 obtain⟨y,hy⟩:∃y,V5 start x=y:=⟨_,rfl⟩;obtain⟨L,hL⟩:∃L,KZ start x=L:=⟨_,rfl⟩;have HFR:Hid (∀κ1,Bd B q jB jD κ1 x w→Calls prog 135 #[jI q.p,.int .i64 start] w λr w'=>∃v,r=.returned v∧bX B q jB jD w κ1 y v L w'):=λκ1 hb=>by have h:=F5 start hb;rw[hy,hL] at h;exact h
 rw[hy,hL] at HMY;rw[hy] at HZ;rw[hL] at HLL HOK HGOOD;have HYY:=zh hy;have HLE:=zh hL;clear he hg hx hy hL;go_enter func139,ntmps139;go_wp2_with fail;refine (HE0.callV λκ1 hb hz=>HFR.out κ1 hb).mono ?_;rintro r w1 ⟨v,Kp1,rfl,ho,hsub,he1,j5⟩;obtain⟨la,lc,rfl,zX⟩:=zI ho;have HE1:=zh he1;have HOW:=zh j5;have HSUB:=zh hsub;have HNIL:=zh zX;clear ho he1 j5 hsub cb cs HFR zX;have HB1:=zh (HE1.add (.cells #[.slice la L.length lc] 109));have cb1:=Env.cell HB1.out (zj _ (HSUB.out _ HM1.out)) 0 _ rfl;have cl1:=Env.cell HB1.out zx 0 _ rfl;go_wp2_with fail;generalize w1.alloc _=w2 at *;have HOV:=zh (HOW.out w2 y (HB1.mono (λz hz=>zj _ hz)));refine (HB1.namedE HOV.vals HLL.out HZ.out).mono ?_;rintro r w3 ⟨vn,Kp2,rfl,hn,hsub,he,hns⟩;obtain⟨na,nc,rfl⟩:=hn.form;have HE2:=zh he;have HNS:=zh hns;have HSUB2:=zh hsub;have HN2:=zh hn;clear he hns hsub hn cb1 cl1;have HNL:Hid ((yT y.names L).length≤65536):=zf (oK _ _) HLL.out;have HNZ:Hid (∀s∈yT y.names L,s.size≤1048576):=nM HZ.out L;have HOD:Hid (∀w2 Kp z,zB w2 (.slice na (yT y.names L).length nc) (yT y.names L)→Env B q jB jD w κ Kp z w2→Calls prog 68 #[.slice na (yT y.names L).length nc] w2 λr w'=>∃v' Kp',r=.returned (.tuple #[v',.int .i64 (KN (yT y.names L)).2])∧fI w' v' (KN (yT y.names L)).1∧(∀z∈Kp,z∈Kp')∧Env B q jB jD w κ Kp' z w'∧∀w2 y2,Env B q jB jD w κ Kp' y2 w2→fI w2 v' (KN (yT y.names L)).1):=λw2 Kp z h1 h2=>h2.orderE h1 HNL.out;have HND:Hid (qY L=true→yT y.names L=(zE x.names L).map (·.1)):=λhk=>by unfold yT;rw[zl hk,← HYY.out,aW]
 have HON:Hid (qY L=true→((zE x.names L).map (·.1)).Nodup→(KN (yT y.names L)).1=(vM x.names L).map (λ(n:Nat)=>(n:Int))):=λhk hd=>by rw[HND.out hk,CP hd]
 generalize yT y.names L=N at *;generalize KN N=od at *;obtain⟨P,oe⟩:=od;obtain⟨np,hnp⟩:∃n,P.length=n:=⟨_,rfl⟩;have HNP:=zh hnp;clear hnp;go_wp2_with fail;refine (HOD.out _ _ _ HN2.out HE2.out).mono ?_;rintro r w4 ⟨vp,Kp3,rfl,hr,hsub,he,hrs⟩;obtain⟨pa,pc,rfl⟩:∃a c,vp=.slice a np c:=by obtain⟨a,c,e,_⟩:=hr;exact⟨a,c,by rw[e,HNP]⟩
 have HE3:=zh he;have HRS:=zh hrs;have HSUB3:=zh hsub;clear he hrs hsub hr HOD HN2;have HB3:=zh (HE3.add (.cells #[.slice pa np pc] 40));have HP1:Hid ((n1,Obj.cells #[jI q.p] 70 (0,0))∈(((w4.heap.size,Obj.cells #[.slice pa np pc] 40 (0,0))::Kp3):List (Nat × Obj))):=zj _ (HSUB3.out _ (HSUB2.out _ (zj _ (HSUB.out _ HM1.out))));have HPL:Hid ((w1.heap.size,Obj.cells #[.slice la L.length lc] 109 (0,0))∈(((w4.heap.size,Obj.cells #[.slice pa np pc] 40 (0,0))::Kp3):List (Nat × Obj))):=zj _ (HSUB3.out _ (HSUB2.out _ zx));have HPP:Hid ((w4.heap.size,Obj.cells #[.slice pa np pc] 40 (0,0))∈(((w4.heap.size,Obj.cells #[.slice pa np pc] 40 (0,0))::Kp3):List (Nat × Obj))):=zx;have HS3:Hid (∀z∈Kp3,z∈((w4.heap.size,Obj.cells #[.slice pa np pc] 40 (0,0))::Kp3)):=λz hz=>zj _ hz;have HS2:Hid (∀z∈Kp2,z∈((w4.heap.size,Obj.cells #[.slice pa np pc] 40 (0,0))::Kp3)):=λz hz=>zj _ (HSUB3.out _ hz);have HS1:Hid (∀z∈Kp1,z∈((w4.heap.size,Obj.cells #[.slice pa np pc] 40 (0,0))::Kp3)):=λz hz=>zj _ (HSUB3.out _ (HSUB2.out _ (zj _ hz)));have cb3:=Env.cell HB3.out HP1.out 0 _ rfl;go_wp2_with fail;generalize w4.alloc _=w5 at *;refine (HB3.call λκ1 hb hz=>yN oe hb).mono ?_;rintro r w6 ⟨rfl,he⟩;rw[← HMY.out] at he;have HE4:=zh he;clear he cb3;have cb4:=Env.cell HE4.out HP1.out 0 _ rfl;have ce4:=HE4.at2;by_cases hme:(tT start x).e=0;rotate_left
 ·have HBD:=zh (HBAD.out hme);obtain⟨ex,hex⟩:∃ex,(tT start x).e=ex:=⟨_,rfl⟩;rw[hex] at ce4 hme;have hne:¬ex=0:=hme;clear hex hme;go_wp2;refine bodyPost_ret (results_none rfl _ _ _) rfl ?_;exact⟨rfl,by rw[HBD];exact HE4.turn⟩
 have hgd:=HGOOD.out hme;rw[hme] at ce4;have HIN:=zh hgd.1;have HKT:=zh hgd.2.1;have HDU:=zh hgd.2.2.1;have HMX:=zh hgd.2.2.2.1;have HLD:=zh hgd.2.2.2.2.1;have HEM:=zh hgd.2.2.2.2.2;clear hgd hme;have HE5:Hid (Env B q jB jD w κ ((w4.heap.size,Obj.cells #[.slice pa np pc] 40 (0,0))::Kp3) x w6):=by have h:=HE4.out;rw[HMX] at h;exact h
 have HPQ:=zh (HON.out HKT.out HDU.out);have HNN:=zh (HND.out HKT.out);have HEV:=zh ((ZY L).1 HKT.out).1;have HLT:Hid (∀j∈vM x.names L,2*j+1 < L.length):=λj hj=>by have h1:=rN hj;have h2:=HEV.out;omega
 have HQL:Hid ((vM x.names L).length=np):=by have h:=ql List.length HPQ.out;rw[qb] at h;show _=_;rw[← h];exact HNP.out
 have HNL2:Hid (N.length=L.length / 2):=by show _=_;rw[HNN,qb,JA]
 have HQS:Hid (np≤65536):=by have h1:=oJ x.names L;have h2:=HQL.out;have h3:=HLL.out;show _≤_;omega
 have HK0E:=zh (D1 (N:=x.names) HEV.out 0 (.inl rfl));have HK1E:=zh (D1 (N:=x.names) HEV.out 1 (.inr rfl));have HSE:=zh (CQ x.names L ByteArray.empty);have HEM2:Hid (x.endMap jB (onF jD 4) start=({x with stk:=x.stk.take start.toNat}:BS).table jB (onF jD 4) (zF ((vM x.names L).map (λj=>N.getD j ByteArray.empty))) ((vM x.names L).map λj=>L.getD (2*j+0) (0,0,0)) ((vM x.names L).map λj=>L.getD (2*j+1) (0,0,0))):=by show _=_;rw[HEM,HNN,HSE,HK0E,HK1E];rfl
 clear HK0E HK1E HSE HEM
 have HTK:Hid (x.stk.take (x.stk.length - L.length)=x.stk.take start.toNat):=by
  show _=_;have h1:=HIN.1;have h2:=HIN.2;rw[HLD,xr];congr 1;omega
 have HLE2:Hid (L.length≤x.stk.length):=by show _≤_;rw[HLD,xr];omega
 generalize vM x.names L=Q at *;clear HON HND HBAD HGOOD HMX HLD HE4 HMY HIN HDU HKT HNN;go_wp2_with fail;refine jQ [7] (vR B q jB jD w κ ((w4.heap.size,Obj.cells #[.slice pa np pc] 40 (0,0))::Kp3) [x] ({x with stk:=x.stk.take start.toNat})) (λ_ w w'=>jC w w') ((λp (_:Nat→Value)=>(λ_ _ _=>True) p)) [[],[0],[0,1],[0,1,2],[0,1,2,3],[],[5],[0,1,2,3,4,5,6]] [(32,0),(33,1),(34,2),(35,3),(36,4),(37,5),(38,6),(39,7)]
  [IsP (jI q.p),IsP (jI q.p),IsP (jI q.p),IsP (.pointer (some ⟨q.p,1,none⟩)),IsP (jI q.s),IsP (.slice la L.length lc),IsP (.int .i64 L.length),λ_ _ _=>True]
  sqc zk (vR.grew) (HE5.grew (jC.refl _).drew) zk zk ⟨jG,jG,jG,jG,jG,jG,jG,⟨λ_ _ _ _ _ h=>h,λ_ _ _ _ _ h=>h⟩,trivial⟩ rfl ?_ ?_
 ·intro yy wB hW hF;simp only[yR,IsP,Nat.reduceAdd,zz,qg] at hF hW;simp only[jF,Act.put,zq];simp only[hF];clear hF;have HE6:Hid (Env B q jB jD w κ ((w4.heap.size,Obj.cells #[.slice pa np pc] 40 (0,0))::Kp3) ({x with stk:=x.stk.take start.toNat}) wB):=hW;clear hW HE5 cb4 ce4;have HG2:Hid (BS.Good {x with stk:=x.stk.take start.toNat}):=HG.stk _;have HX2:Hid (({x with stk:=x.stk.take start.toNat}:BS).e=0):=HX.out;have hgB:=(jC.refl wB).alloc (.cells #[.pointer none,.slice none 0 0] 149);have cp:=Env.cell (HE6.grew hgB) HPP.out 0 _ rfl;clear hgB;have hnpl:np≤9223372036854775807:=by have:=HQS.out;omega
  obtain⟨S,hS⟩:∃S,Q.map (λj=>N.getD j ByteArray.empty)=S:=⟨_,rfl⟩;have HSL:Hid (S.length=np):=by show _=_;rw[← hS,qb];exact HQL.out
  have HSG:Hid (∀(k j:Nat),Q[k]? = some j→S[k]? = some (N.getD j ByteArray.empty)):=λk j h=>by rw[← hS,xj,h];rfl
  have HSZ2:Hid (∀s∈S,s.size≤1048576):=λs hs=>by
   rw[← hS] at hs;obtain⟨j,hj,rfl⟩:=qh.1 hs;rw[zw]
   cases hn:N[j]? with
   | none=>show (0:Nat)≤_;omega
   | some u=>exact HNZ.out u (qd hn)
  rw[hS] at HEM2;have HS:=zh hS;clear hS;go_wp2_with fail
  go_loopw [43] (λi wr=>∃k:Nat,k≤np∧i=.int .i64 k∧Hid (Below wB.heap.size wB wr∧SBF wB.heap.size wB.heap.size (Lib.byteCells (zF (S.take k)).data.toList) wr∧wB.heap.size < wr.heap.size)) (λi _=>np - (intOf i).toNat)
  case atStart=>exact⟨0,Nat.zero_le _,rfl,by
   show _∧_∧_
   exact⟨(jC.refl wB).alloc _,Lib.IsBuilderF.of (Lib.fresh_isBuilder _ _ wB),by simp⟩⟩
  case round=>
   obtain⟨k,hk,rfl,HW⟩:=hrel;by_cases hlt:k < np
   ·obtain⟨j,hj⟩:∃j,Q[k]? = some j:=⟨_,za (by have:=HQL.out;omega)⟩;have HJ:=zh (HLT.out j (qd hj));obtain⟨s,hs⟩:∃s,N[j]? = some s:=⟨_,za (by have:=HJ.out;have:=HNL2.out;omega)⟩;have HZS:=zh (HNZ.out s (qd hs));have HSK:Hid (S[k]? = some s):=(by have h:=HSG.out k j hj;rw[zw,hs] at h;exact h);have HPK:Hid (P[k]? = some (j:Int)):=(by show _=_;rw[HPQ,xj,hj];rfl);have HEW:=zh (HE6.grew HW.1);obtain⟨bp,op,rfl,c0⟩:=rowI_at (HRS.out wr _ (HEW.mono HS3.out)) HPK.out;obtain⟨bn,on,rfl,d0⟩:=txts_at (HNS.out wr _ (HEW.mono HS2.out)) hs;have hjn:(j:Int) < N.length:=(by have:=HJ.out;have:=HNL2.out;omega);have hkn:(k:Int) < np:=(by omega);have HTK2:Hid (zF (S.take (k+1))=zF (S.take k)++(s++⟨#[0]⟩)):=by show _=_;rw[qo,HSK];exact tR _ _
    have HLEN:Hid ((Lib.byteCells (zF (S.take k)).data.toList).length+(s++⟨#[0]⟩:ByteArray).size≤140737488355328):=by
     show _≤_;have h1:=tU (S.take k) 1048576 (λs hs=>HSZ2.out s (List.mem_of_mem_take hs));have h2:(S.take k).length≤65536:=(by rw[qr];have:=HSL.out;have:=HQS.out;omega);have h3:=HZS.out;have e1:(⟨#[0]⟩:ByteArray).size=1:=rfl;have e2:(zF (S.take k)).data.toList.length=(zF (S.take k)).size:=(by rw[Array.length_toList];rfl);rw[Lib.byteCells_length,e2,xz,e1];have h4:(S.take k).length*(1048576+1)≤65536*(1048576+1):=Nat.mul_le_mul_right _ h2;omega
    clear hj hs;have hcat:=λW=>run_string_add (P:=prog) W s ⟨#[0]⟩ (by have:=HZS.out;omega) zd;go_wp2_with fail;refine (AO _ _ _ _ wr HW.2.1 HLEN.out (ye HW.2.2)).mono ?_;rintro r w8 ⟨rfl,h1,h2⟩;rw[F9,← HTK2.out] at h1;have H8:=zh (qa h1 h2);clear h1 h2 c0 d0;go_wp2_with fail;go_roundw
    case rel=>
     refine⟨k+1,by omega,by go_num,?_⟩;show _∧_∧_;exact⟨Below.trans HW.1 H8.2,H8.1,qk HW.2.2 H8.2.size⟩
    case measure=>simp[intOf];omega
   have ek:k=np:=(by omega);subst ek;have hsa:S.take k=S:=(by rw[List.take_of_length_le (Nat.le_of_eq HSL.out)]);have HW2:Hid (Below wB.heap.size wB wr∧SBF wB.heap.size wB.heap.size (Lib.byteCells (zF S).data.toList) wr∧wB.heap.size < wr.heap.size):=(by have h:=HW.out;rw[hsa] at h;exact h);clear hsa HW
   have HSTR:Hid (∀w2,SBF wB.heap.size wB.heap.size (Lib.byteCells (zF S).data.toList) w2→wB.heap.size≤w2.heap.size→Calls prog 112 #[.pointer (some ⟨wB.heap.size,0,none⟩)] w2 λe w'=>e=.returned (.string (zF S))∧SBF wB.heap.size wB.heap.size (Lib.byteCells (zF S).data.toList) w'∧Below wB.heap.size w2 w'∧Lib.OthersKept 5 (some wB.heap.size) w2 w'):=λw2 h1 h2=>by
    have h:=tS _ _ _ w2 h1 h2;have e:(⟨(zF S).data.toList.toArray⟩:ByteArray)=zF S:=(by simp);rw[e] at h;exact h
   obtain⟨K0,hK0⟩:∃K0,(Q.map λj=>L.getD (2*j+0) (0,0,0))=K0:=⟨_,rfl⟩;obtain⟨K1,hK1⟩:∃K1,(Q.map λj=>L.getD (2*j+1) (0,0,0))=K1:=⟨_,rfl⟩;have HKL:Hid (K0.length≤65536∧K1.length≤65536):=by show _∧_;rw[← hK0,← hK1,qb,qb,HQL];exact⟨HQS.out,HQS.out⟩
   have HKO:Hid ((∀v∈K0,okV v)∧∀v∈K1,okV v):=by
    show _∧_;rw[← hK0,← hK1];refine⟨λv hv=>?_,λv hv=>?_⟩
    ·obtain⟨j,_,rfl⟩:=qh.1 hv;exact D2 HOK.out _
    obtain⟨j,_,rfl⟩:=qh.1 hv;exact D2 HOK.out _
   rw[hK0,hK1] at HEM2
   have HPK:Hid (∀(b:Nat) (K:List V3),b≤1→(Q.map λj=>L.getD (2*j+b) (0,0,0))=K→∀w2,jC wB w2→Calls prog 141 #[.int .i64 b,.pointer (some ⟨w4.heap.size,0,none⟩),.pointer (some ⟨w1.heap.size,0,none⟩)] w2 λr w'=>∃v',r=.returned v'∧jU w' w2.heap.size v' K∧jC w2 w'):=λb K hb hKe w2 hg=>by
    have HEg:=HE6.grew hg;have hr:=HRS.out w2 _ (HEg.mono HS3.out);rw[HPQ] at hr;rw[← hKe];exact GE b hb pa k pc Q HQL.out la lc L w4.heap.size w1.heap.size w2 hr (HOW.out w2 _ (HEg.mono HS1.out)).vals (Env.cell HEg HPP.out 0 _ rfl) (Env.cell HEg HPL.out 0 _ rfl) HLT.out HLL.out (by have:=HQL.out;have:=HQS.out;omega)
   have HKE:=zh (qa hK0 hK1);clear hK0 hK1;have hge:¬(k:Int) < k:=(by omega);go_wp2_with fail;refine jQ [1,6] (MpW wB wB.heap.size (Lib.byteCells (zF S).data.toList) (λw'=>Env B q jB jD w κ ((w4.heap.size,Obj.cells #[.slice pa k pc] 40 (0,0))::Kp3) (({x with stk:=x.stk.take start.toNat}:BS).table jB (onF jD 4) (zF S) K0 K1) w')) (λ_ w w'=>jC w w') ((λp (_:Nat→Value)=>(MpT wB.heap.size) p)) [[],[],[],[1,2],[],[1,2,3,4],[0,1,2,3,4,5]] [(54,0),(55,1),(56,2),(57,3),(58,4),(59,5),(60,6)]
    [IsP (jI q.p),IsP (.string (zF S)),IsP (.func (.func 141) #[] #[.pointer (some ⟨w4.heap.size,0,none⟩),.pointer (some ⟨w1.heap.size,0,none⟩)]),PkF (wB.heap.size+1) K0,IsP (.func (.func 141) #[] #[.pointer (some ⟨w4.heap.size,0,none⟩),.pointer (some ⟨w1.heap.size,0,none⟩)]),PkF (wB.heap.size+1) K1,IsP (.tuple #[])]
    sqc zk (MpW.grew (λw1 w2 hg h=>Env.grew h hg)) (MpW.grew (λw1 w2 hg h=>Env.grew h hg) 0 _ _ (jC.refl _).drew ⟨HW2.1,HW2.2.1,HW2.2.2⟩) zk zk ⟨jG,jG,jG,KK (PkF.st (Nat.lt_succ_self _)),jG,KK (PkF.st (Nat.lt_succ_self _)),jG,trivial⟩ rfl ?_ ?_
   ·intro y w8 hW hF;simp only[yR,IsP,Nat.reduceAdd,zz,qg] at hF hW;have h3:=hF.2.2.2.1;have h5:=hF.2.2.2.2.2.1;simp only[jF,Act.put,zq];simp only[hF];clear hF;go_wp2;go_end0;exact⟨rfl,by rw[HEM2];exact Env.turn hW⟩
   constructor
   ·refine jP 0 1 ?_;intro y w8 p hlo hhi hW hD K hK;have hgb:=MpW.below hW zo;have dq:=Env.cell (HE6.grew hgb.1) HP1.out 0 _ rfl;clear hD;generalize hAA:jF y _ _=AA at hK⊢;simp only[jF,Act.put,zq,IsP] at hAA;subst hAA;simp only[zq4,zq5,IsP] at hK;refine jN ?_;go_simp;exact hK _ _ _ rfl (jC.refl _) rfl
   constructor
   ·refine jZ 0 rfl ?_;intro y w8 hW hD K hK;clear hD;generalize hAA:jF y _ _=AA at hK⊢;simp only[jF,Act.put,zq,IsP] at hAA;subst hAA;simp only[zq4,zq5,IsP] at hK;refine jN ?_;go_simp;have hW3:Below _ wB w8∧SBF _ _ _ w8∧_ < w8.heap.size:=hW;refine (HSTR.out w8 hW3.2.1 (ye hW3.2.2)).mono ?_;rintro r w9 ⟨rfl,h1,h2,h3⟩;exact hK _ _ _ rfl h3 ⟨Below.trans hW3.1 h2,qk hW3.2.2 h2.size⟩ rfl
   constructor
   ·exact zb92
   constructor
   ·refine jP 1 1 ?_;intro y w8 p hlo hhi hW hD K hK;simp only[kV,zq4,zq5,IsP] at hD;generalize hAA:jF y _ _=AA at hK⊢;simp only[jF,Act.put,zq,IsP] at hAA;subst hAA;simp only[zq4,zq5,IsP] at hK;simp only[hD] at hK⊢;clear hD;refine jN ?_;go_simp;have hgb:=MpW.below hW zo;refine (HPK.out 0 K0 zd HKE.1 w8 hgb.1).mono ?_;rintro r w9 ⟨v',rfl,ho,hg⟩;exact hK _ _ _ rfl hg (λ_=>pS ho hgb.2)
   constructor
   ·exact zb92
   constructor
   ·refine jP 1 1 ?_;intro y w8 p hlo hhi hW hD K hK;simp only[kV,zq4,zq5,IsP] at hD;generalize hAA:jF y _ _=AA at hK⊢;simp only[jF,Act.put,zq,IsP] at hAA;subst hAA;simp only[zq4,zq5,IsP] at hK;simp only[hD] at hK⊢;clear hD;refine jN ?_;go_simp;have hgb:=MpW.below hW zo;refine (HPK.out 1 K1 zd HKE.2 w8 hgb.1).mono ?_;rintro r w9 ⟨v',rfl,ho,hg⟩;exact hK _ _ _ rfl hg (λ_=>pS ho hgb.2)
   constructor
   ·refine jZ 1 rfl ?_;intro y w8 hW hD K hK;simp only[kV,zq4,zq5,IsP] at hD;have h0:=hD.1;have h1:=hD.2.1;have h2:=hD.2.2.1;have h3:=hD.2.2.2.1;have h4:=hD.2.2.2.2.1;have h5:=hD.2.2.2.2.2.1;clear hD;generalize hAA:jF y _ _=AA at hK⊢;simp only[jF,Act.put,zq,IsP] at hAA;subst hAA;simp only[zq4,zq5,IsP] at hK;simp only[h0,h1,h2,h4] at hK⊢;clear h0 h1 h2 h4;have o3:=h3 zd;have o5:=h5 zd;obtain⟨a3,c3,e3,n3⟩:=zI o3;obtain⟨a5,c5,e5,n5⟩:=zI o5;rw[e3] at o3;rw[e5] at o5;simp only[e3,e5] at hK⊢;clear h3 h5;refine jN ?_;go_simp;obtain⟨κ6,hb6,ht6,hk6⟩:=HE6.out;have hgb:Below wB.heap.size wB w8∧wB.heap.size < w8.heap.size:=hW;have hap:∀{v:Value} {l:List V3},jU w8 (wB.heap.size+1) v l→qL κ6 w8 v:=λho ad n c e=>⟨(Y8 ho ad n c e).2,Decidable.byContradiction λhk=>by have h1:=(hb6.lt _ hk).2;have h2:=(Y8 ho ad n c e).1;omega⟩;refine (FV (zF S) a3 c3 K0 a5 c5 K1 o3.vals (hap o3) o5.vals (hap o5) (λc e=>by injection e with e1 e2 e3;rw[← e3];exact n5 e1) (by have:=HKL.1;omega) (by have:=HKL.2;omega) HKO.1 HKO.2 HG2.out HX2.out (hb6.grew hgb.1)).mono ?_;rintro r w9 ⟨rfl,κ7,k1,k2⟩;exact hK _ _ _ rfl trivial ⟨κ7,k1,(ht6.trans (Tn.of_grew hgb.1)).trans k2,λz hz=>⟨k2.1.heap (jC.heap hgb.1 (hk6 z hz).1) (λe=>e (hk6 z hz).2),(k2.2 z.1 (zc.1 (jC.heap hgb.1 (hk6 z hz).1)).1).trans (hk6 z hz).2⟩⟩ rfl
   trivial
 constructor
 ·refine jP 0 0 ?_;intro yy wB p hlo hhi hW hD K hK;have dq:=Env.cell hW HP1.out 0 _ rfl;clear hD;generalize hAA:jF yy _ _=AA at hK⊢;simp only[jF,Act.put,zq,IsP] at hAA;subst hAA;simp only[zq4,zq5,IsP] at hK;refine jN ?_;go_simp;exact hK _ _ _ rfl (jC.refl _) rfl
 constructor
 ·exact zb93
 constructor
 ·exact zb93
 constructor
 ·exact zb93
 constructor
 ·refine jP 0 0 ?_;intro yy wB p hlo hhi hW hD K hK;have dd:=Env.at1 hW;simp only[kV,zq4,zq5,IsP] at hD;generalize hAA:jF yy _ _=AA at hK⊢;simp only[jF,Act.put,zq,IsP] at hAA;subst hAA;simp only[zq4,zq5,IsP] at hK;simp only[hD] at hK⊢;clear hD;refine jN ?_;go_simp;exact hK _ _ _ rfl (jC.refl _) rfl
 constructor
 ·refine jP 0 0 ?_;intro yy wB p hlo hhi hW hD K hK;have dd:=Env.cell hW HPL.out 0 _ rfl;clear hD;generalize hAA:jF yy _ _=AA at hK⊢;simp only[jF,Act.put,zq,IsP] at hAA;subst hAA;simp only[zq4,zq5,IsP] at hK;refine jN ?_;go_simp;exact hK _ _ _ rfl (jC.refl _) rfl
 constructor
 ·exact zb93
 constructor
 ·refine jZ 0 rfl ?_;intro yy wB hW hD K hK;simp only[kV,zq4,zq5,IsP] at hD;generalize hAA:jF yy _ _=AA at hK⊢;simp only[jF,Act.put,zq,IsP] at hAA;subst hAA;simp only[zq4,zq5,IsP] at hK;simp only[hD] at hK⊢;clear hD;refine jN ?_;go_simp;refine (Env.call (show Env B q jB jD w κ ((w4.heap.size,Obj.cells #[.slice pa np pc] 40 (0,0))::Kp3) x wB from hW) λκ1 hb hz=>xY L.length hb HLE2.out).mono ?_;rintro r w9 ⟨⟨v',rfl⟩,he⟩;rw[HTK] at he;exact hK _ _ _ rfl trivial he trivial
 trivial
theorem AU {x:BS} (start:Int) (hg:x.Good) (h:Bd B q jB jD κ x w):Calls prog 92 #[jI q.p,.int .i64 start] w λr w'=>r=.returned (.tuple #[])∧kL B q jB jD κ (x.endMap jB (onF jD 4) start) w w':=by
 have HH:=zh hg
 have HE:Hid (Env B q jB jD w κ [(w.heap.size+1,Obj.cells #[.int .i64 start] 3 (0,0)),(w.heap.size,Obj.cells #[jI q.p] 70 (0,0))] x ((w.alloc (.cells #[jI q.p] 70)).alloc (.cells #[.int .i64 start] 3))):=by
  have hh:=((Env.start h).add (.cells #[jI q.p] 70)).add (.cells #[.int .i64 start] 3);simp only[zm,Nat.add_assoc,Nat.reduceAdd] at hh;exact hh
 clear h hg;go_enter func92,ntmps92;go_wp2_with fail;refine (HE.call' λκ1 hb he=>yV hb _ _ (x.endMap jB (onF jD 4) start) (λhx=>by unfold BS.endMap;rw[ze hx]) (λ_=>enters_of func139 zk rfl _ _) (λhx=>AT _ _ _ HH.out hx he)).mono ?_;rintro r w5 ⟨rfl,he⟩;have HT:=zh he;clear he;go_wp2;go_end0;exact⟨rfl,HT.turn⟩
theorem aX {α:Type} (f:α→Value) (h1:∀x,(f x).oneCell'=true) (ts te:TypeId) (z:Value) (bytes:Nat) (hu:Tryz.prog.underlying ts=some (.slice te)) (hi:∃i0,Tryz.prog.info? te=some i0∧i0.zero=some z∧i0.size=1∧i0.bytes=bytes) (hz:z.cells.size=1) (hb:bytes≤8)
 {ops:Array Oper} {rest:List Oper} {o:Oper} {a:Act} {w:World} {Q:Exit→Act→World→Prop} (hgd:o.guard=none) (s x:Operand)
 (ho:o.op=.call {callee:=.builtin .append,args:=#[s,x],argTypes:=#[ts,ts]}) (B:Nat) (v:Value) (l:List α) (hs:a.eval s=v) (j5:w.ownsRow B te 1 v l.length (l.map f))
 (sv:Value) (l2:List α) (hx:a.eval x=sv) (hsv:yE f w sv l2) (zX:∀n c,sv=.slice none n c→c=0) (kE:l.length+l2.length≤1048576) (hB:B≤w.heap.size)
 (h:∀v' w',w'.ownsRow B te 1 v' (l++l2).length ((l++l2).map f)→w.grownBy w' v.ownBlock→yX w v.ownBlock v'.ownBlock→wpList prog ops Q rest (a.put o.dst v') w'):wpList prog ops Q (o::rest) a w:=by
 obtain⟨i0,hi,hz0,hz1,hz2⟩:=hi;obtain⟨sa,cap,rfl,hc⟩:=hsv
 cases sa with
 | none=>
  have h0:l2=[]:=by
   cases l2 with
   | nil=>rfl
   | cons y r=>obtain⟨b,off,e,_⟩:=hc 0 y rfl;cases e
  subst h0;have:=zX _ cap rfl;subst this;refine wpList_append_own_none hgd s x ts ho B te i0 1 hu hi v l.length _ hs j5 hx ?_;exact h v w zp26 ⟨rfl,rfl,rfl,zr _,λ_ _ _=>rfl⟩ (yX.refl _ _)
 | some ad=>
  have hnews:∀j u,(l2.map f)[j]? = some u→w.cell? (ad.add j)=some u:=by
   intro j u hj;rw[xj] at hj
   cases hq:l2[j]? with
   | none=>rw[hq] at hj;cases hj
   | some s=>
    rw[hq] at hj;obtain⟨b,off,e,kM⟩:=hc j s hq;cases e;simp at hj;subst hj;rw[VB _ b off j rfl];exact kM
  obtain⟨v',w',hr,h2,h3,h4⟩:=vT (P:=prog) w B ts o.type te i0 z 1 bytes hu hi hz0 hz1 hz2 hz zd v l.length _ j5 ad l2.length cap (l2.map f) zp2 hnews (by intro u hu;obtain⟨s,_,rfl⟩:=qh.1 hu;exact h1 s) gM (zf (Nat.mul_le_mul_left _ hb) zo) hB;refine wpList_plain hgd λ_ hK=>Lib.wp_append_run w s x ts ts ho v _ hs hx v' w' hr (hK _ _ (h v' w' ?_ h3 h4));rw[zb,xb];exact h2
theorem CX:∃i0,Tryz.prog.info? 2=some i0∧i0.zero=some (.int .i64 0)∧i0.size=1∧i0.bytes=8:=by
 have h:(Tryz.prog.info? 2).map (λi=>(i.zero,i.size,i.bytes))=some (some (.int .i64 0),1,8):=by kernel_rfl
 cases hi:Tryz.prog.info? 2 with
 | none=>rw[hi] at h;cases h
 | some i=>rw[hi] at h;simp at h;exact⟨i,rfl,h.1,h.2.1,h.2.2⟩
theorem AV:∃i0,Tryz.prog.info? 22=some i0∧i0.zero=some (.int .u64 0)∧i0.size=1∧i0.bytes=8:=by
 have h:(Tryz.prog.info? 22).map (λi=>(i.zero,i.size,i.bytes))=some (some (.int .u64 0),1,8):=by kernel_rfl
 cases hi:Tryz.prog.info? 22 with
 | none=>rw[hi] at h;cases h
 | some i=>rw[hi] at h;simp at h;exact⟨i,rfl,h.1,h.2.1,h.2.2⟩
theorem GF:∃i0,Tryz.prog.info? 4=some i0∧i0.zero=some (.bool false)∧i0.size=1∧i0.bytes=1:=by
 have h:(Tryz.prog.info? 4).map (λi=>(i.zero,i.size,i.bytes))=some (some (.bool false),1,1):=by kernel_rfl
 cases hi:Tryz.prog.info? 4 with
 | none=>rw[hi] at h;cases h
 | some i=>rw[hi] at h;simp at h;exact⟨i,rfl,h.1,h.2.1,h.2.2⟩
theorem eR {α:Type} {f:α→Value} {te:TypeId} {l:List α} (h:w.ownsRow B te 1 v l.length (l.map f)):yE f w v l:=by
 obtain⟨a,c,rfl,_⟩:=jR h;refine⟨a,c,rfl,λi x hx=>?_⟩;rcases h.2 with ⟨e,hn⟩|⟨g,cap,cur,e,_⟩
 ·have h0:l=[]:=List.length_eq_zero_iff.1 hn;subst h0;cases hx
 cases e;have hc:=World.ownsRow.cells h (g:=g) rfl i (f x) (by rw[xj,hx];rfl);rw[nY] at hc;exact⟨g,0,rfl,hc⟩
theorem gH {α:Type} (f:α→Value) (w:World) (t:TypeId) (x:α):yE f (w.alloc (.cells #[f x] t)) (.slice (some ⟨w.heap.size,0,none⟩) 1 1) [x]:=by
 refine⟨_,1,rfl,λi y hy=>?_⟩
 match i,hy with
 | 0,hy=>cases hy;exact⟨_,0,rfl,jA (qc w _) 0 _ rfl⟩
theorem qF {e:TypeId} (h:w.ownsRow B e size v n xs) (hg:jC w w'):w'.ownsRow B e size v n xs:=Moved.owns (Moved.of_grew (S:=λ_=>False) hg) h (λ_ _ h=>h)
theorem bV {w1 wr:World} {e:TypeId} (h:wr.ownsRow w1.heap.size e size v n xs) (hg:jC w1 wr) (hgr:wr.grownBy w' v.ownBlock):jC w1 w':=Moved.fresh hg (Moved.of_grown hgr) (λg hk=>(qm h g hk.symm).1)
section
variable {B:Nat} {q:zR} {jB jD:Int} {κ κ0 κ1:Nat→Nat} {x y:BS} {w w' w0 w1 w2:World} {d:List UInt8} {v:Value}
theorem AW {te:TypeId} {n:Nat} {xs:List Value} (h:Bd B q jB jD κ x w) (ho:w'.ownsRow w.heap.size te 1 v n xs):qL κ w' v:=λad m c e=>⟨(Y8 ho ad m c e).2,Decidable.byContradiction λhk=>by have h1:=(h.lt _ hk).2;have h2:=(Y8 ho ad m c e).1;omega⟩
end
section
variable {q:zR} {jB jD:Int} {κ κ':Nat→Nat} {x y:BS} {w w' w0 w1:World} {v:Value} {d:List UInt8}
end
section
variable {w0 w w':World} {R:List BRec} {Kp:List (Nat × Obj)}
end
end Go.Proofs.YtdjoffgkndncfaaGreat
namespace Go.Proofs.YtdjoffgkndncfaaGreat
open Go.Proofs.Tryz
open Go Go.ChangeShapes Go.WideShapes Go.ChangeAt Go.RowKit Go.Joins Go.Deep
open Ft (V3 vV okV ValsAt inlineB legalB packF codeF typedF allF unpackF unpack_any)
end Go.Proofs.YtdjoffgkndncfaaGreat
