/-
  EncodeOrder: trees with the same sorted form have the same document.
-/
import Derived.Test.YtdjoffgkndncfaaGreatEOrderPBX
set_option linter.unusedVariables false
set_option linter.unusedSimpArgs false
set_option maxHeartbeats 4000000
set_option maxRecDepth 100000
namespace Go.Proofs.YtdjoffgkndncfaaGreat
open Go Go.ChangeShapes Go.WideShapes Go.ChangeAt Go.RowKit Go.Joins
open Go.ChangeMaps (open_string shut_string)
open Go.Deep
open Go.Proofs.YtdjoffgkndncfaaGreat.Ft (V3 vV okV ValsAt inlineB legalB packF codeF typedF allF oneF unpackF)
theorem encodeOrder_any (t:Tr) (v:Value) (fl by_:Int) (w:World) (hn:NodeAt w t v):Calls Tryz.prog 3 #[v,.int .i64 fl,.int .i64 by_] w fun r w'=>r=.returned (.bool true)∧Below w.heap.size w w':=by
 have HN:=zh hn
 obtain⟨k,n,u,s,a4,n4,c4,a5,n5,c5,rfl⟩:=hn.node6
 have HG1:=zh ((Grew.refl w).alloc (.cells #[.int .i64 k,.int .i64 n,.int .u64 u,.string s,.slice a4 n4 c4,.slice a5 n5 c5] 26))
 have hrow:=heap_alloc_new w (.cells #[.int .i64 k,.int .i64 n,.int .u64 u,.string s,.slice a4 n4 c4,.slice a5 n5 c5] 26)
 have g0:=jA hrow 0 _ rfl
 have g1:=jA hrow 1 _ rfl
 have g2:=jA hrow 2 _ rfl
 have g3:=jA hrow 3 _ rfl
 have g4:=jA hrow 4 _ rfl
 have g5:=jA hrow 5 _ rfl
 have HR1:=zh hrow
 clear hn hrow
 obtain⟨T0,hT0⟩:∃T0,jEj t=T0:=⟨_,rfl⟩
 have hsz:T0.size≤120:=by rw[← hT0];exact jK3 t
 have hsm:smT 60 T0:=by rw[← hT0];exact jIe t
 have hsm':smT 1000 T0:=by rw[← hT0];exact jLx t
 have HZ:=zh (And.intro hsz (And.intro hsm hsm'))
 go_enter Tryz.func3,Tryz.ntmps3
 go_wp2_with fail
 generalize (w.alloc (.cells #[.int .i64 k,.int .i64 n,.int .u64 u,.string s,.slice a4 n4 c4,.slice a5 n5 c5] 26))=w1 at *
 have HG0:=HG1
 refine (jNd t _ _ (HN.out.grew HG0.out)).mono ?_
 rw[hT0]
 clear hT0 hsz hsm hsm'
 rintro r w2 ⟨v2,rfl,ho,hg2⟩
 have HN2:=zh ho.node
 obtain⟨rk,rn,ru,rs,ra4,rn4,rc4,ra5,rn5,rc5,rfl⟩:=ho.node6
 have HRG:=zh (jHN HN2.out)
 have HG2:=zh (HG0.out.trans hg2)
 clear ho hg2 g0 g1 g2 g3 g4 g5
 have HG3:=zh (HG2.out.trans ((Grew.refl w2).alloc (.cells #[.int .i64 rk,.int .i64 rn,.int .u64 ru,.string rs,.slice ra4 rn4 rc4,.slice ra5 rn5 rc5] 26)))
 have HN3:=zh (HN2.out.grew ((Grew.refl w2).alloc (.cells #[.int .i64 rk,.int .i64 rn,.int .u64 ru,.string rs,.slice ra4 rn4 rc4,.slice ra5 rn5 rc5] 26)))
 have hrow:=heap_alloc_new w2 (.cells #[.int .i64 rk,.int .i64 rn,.int .u64 ru,.string rs,.slice ra4 rn4 rc4,.slice ra5 rn5 rc5] 26)
 have r0:=jA hrow 0 _ rfl
 have r1:=jA hrow 1 _ rfl
 have r2:=jA hrow 2 _ rfl
 have r3:=jA hrow 3 _ rfl
 have r4:=jA hrow 4 _ rfl
 have r5:=jA hrow 5 _ rfl
 have HROW:=zh hrow
 clear hrow
 go_wp2_with fail
 generalize (w2.alloc (.cells #[.int .i64 rk,.int .i64 rn,.int .u64 ru,.string rs,.slice ra4 rn4 rc4,.slice ra5 rn5 rc5] 26))=w3 at *
 have hb:=jC9 fl T0 _ w3 HN3.out (by have:=HZ.out.1;omega) (jDU HZ.out.2.2)
 obtain⟨R,hR⟩:∃R,jAI 1048576 fl T0=R:=⟨_,rfl⟩
 rw[hR] at hb
 have HR:=zh hR
 obtain⟨D,E⟩:=R
 dsimp only at hb
 clear hR
 refine hb.mono ?_
 rintro r w4 ⟨v4,rfl,ho,hg4⟩
 have HG34:=zh hg4
 have HG4:=zh (HG3.out.trans hg4)
 have HD:=zh (BytesAt.of_own ho)
 obtain⟨da,dc,rfl,hz1,hz2,hz3⟩:=jM ho
 have hr4:=hg4.heap HROW.out
 clear hb ho hg4 hz1 hz2 hz3 r0 r1 r2 r3 r4 r5
 have HROW4:=zh hr4
 clear hr4
 by_cases hc:jAw T0=0
 ·obtain⟨b,vv,hB,he⟩:=jLy (fl:=fl) hc HZ.out.2.1 HRG.out HZ.out.1
  obtain⟨hED,hEE⟩:jHe b vv=D∧(0:Int)=E:=by
   have h:=HR.out
   rw[he] at h
   exact⟨congrArg Prod.fst h,congrArg Prod.snd h⟩
  subst hEE
  clear hB he hED
  have HC:=zh hc
  obtain⟨q,hq⟩:∃q:Nat,by_ % 120=(q:Int):=⟨(by_ % 120).toNat,by omega⟩
  have hq2:q≤120:=by omega
  have HBR:Hid (∀w,Calls Tryz.prog 16 #[.int .i64 by_,.int .i64 120] w fun r w'=>r=.returned (.int .i64 (q:Int))∧w'=w):=fun w=>by rw[← hq];exact jLU by_ 120 w (by omega) (by omega)
  have HTU:=zh (turn_ok q hc)
  have HSO:=zh (sort_ok hc)
  have HFEW:=zh (jIz (jFN hc).1)
  have HQ2:=zh hq2
  have HTB:Hid (jAI 1048576 fl (jAm T0 q)=(D,0)):=by show _=_;rw[jF4 hc HTU.out.1 HTU.out.2.1];exact HR.out
  have HSB:Hid (jAI 1048576 fl (jh T0)=(D,0)):=by show _=_;rw[jF4 hc HSO.out.1 HSO.out.2.1];exact HR.out
  clear hc hq hq2
  have r0:=jA HROW4.out 0 _ rfl
  have r1:=jA HROW4.out 1 _ rfl
  have r2:=jA HROW4.out 2 _ rfl
  have r3:=jA HROW4.out 3 _ rfl
  have r4:=jA HROW4.out 4 _ rfl
  have r5:=jA HROW4.out 5 _ rfl
  go_wp2_with fail
  refine (jGl T0 _ w4 (HN3.out.grew HG34.out) (by have:=HZ.out.1;omega)).mono ?_
  intro r w5 hso
  obtain⟨hg5,e,sk,sn,su,ss,sa4,sn4,sc4,sa5,sn5,sc5,rfl,he,hno⟩:=jF1 hso
  rw[HC.out] at he
  subst he
  have HN5:=zh (hno rfl)
  have HG45:=zh hg5
  clear hso hno hg5 r0 r1 r2 r3 r4 r5
  have HGS:=zh ((Grew.refl w5).alloc (.cells #[.int .i64 sk,.int .i64 sn,.int .u64 su,.string ss,.slice sa4 sn4 sc4,.slice sa5 sn5 sc5] 26))
  have hrs:=heap_alloc_new w5 (.cells #[.int .i64 sk,.int .i64 sn,.int .u64 su,.string ss,.slice sa4 sn4 sc4,.slice sa5 sn5 sc5] 26)
  have s0:=jA hrs 0 _ rfl
  have s1:=jA hrs 1 _ rfl
  have s2:=jA hrs 2 _ rfl
  have s3:=jA hrs 3 _ rfl
  have s4:=jA hrs 4 _ rfl
  have s5:=jA hrs 5 _ rfl
  clear hrs
  go_wp2_with fail
  generalize (w5.alloc (.cells #[.int .i64 sk,.int .i64 sn,.int .u64 su,.string ss,.slice sa4 sn4 sc4,.slice sa5 sn5 sc5] 26))=w5b at *
  clear s0 s1 s2 s3 s4 s5
  have HN5b:=zh (HN5.out.grew HGS.out)
  have HG45b:=zh (HG45.out.trans HGS.out)
  have hb:=jC9 fl (jh T0) _ w5b HN5b.out (by have:=HSO.out.2.2;have:=HZ.out.1;omega) (fun _=>by rw[HSO.out.2.1];exact jDU HZ.out.2.2 HC.out)
  rw[HSB.out] at hb
  refine hb.mono ?_
  dsimp only
  rintro r w6 ⟨v6,rfl,ho,hg6⟩
  have HD6:=zh (BytesAt.of_own ho)
  obtain⟨da6,dc6,rfl,hz1,hz2,hz3⟩:=jM ho
  have HG46:=zh (HG45b.out.trans hg6)
  clear hb ho hg6 hz1 hz2 hz3
  have HNT:=zh ((HN3.out.grew HG34.out).grew HG46.out)
  have hr6:=HG46.out.heap HROW4.out
  have r0:=jA hr6 0 _ rfl
  have r1:=jA hr6 1 _ rfl
  have r2:=jA hr6 2 _ rfl
  have r3:=jA hr6 3 _ rfl
  have r4:=jA hr6 4 _ rfl
  have r5:=jA hr6 5 _ rfl
  clear hr6
  go_wp2_with fail
  refine jj Grew [[],[],[1],[0,2],[],[3,4],[5],[6],[6],[7],[8]] [[(51,1),(52,2),(54,4),(55,5),(49,6),(56,7),(57,8),(14,9),(15,10)],[(50,0),(53,3),(54,4),(55,5),(49,6),(56,7),(57,8),(14,9),(15,10)],[(50,0),(51,1),(54,4),(55,5),(49,6),(56,7),(57,8),(14,9),(15,10)],[(50,0),(51,1),(52,2),(54,4),(49,6),(56,7),(57,8),(14,9),(15,10)],[(50,0),(51,1),(52,2),(53,3),(49,6),(56,7),(57,8),(14,9),(15,10)],[(50,0),(51,1),(52,2),(53,3),(54,4),(56,7),(57,8),(14,9),(15,10)],[(50,0),(51,1),(52,2),(53,3),(54,4),(55,5),(14,9),(15,10)],[(50,0),(51,1),(52,2),(53,3),(54,4),(55,5),(49,6),(57,8),(15,10)],[(50,0),(51,1),(52,2),(53,3),(54,4),(55,5),(49,6),(56,7),(14,9)],[(50,0),(51,1),(52,2),(53,3),(54,4),(55,5),(49,6),(56,7),(57,8),(15,10)],[(50,0),(51,1),(52,2),(53,3),(54,4),(55,5),(49,6),(56,7),(57,8),(14,9)]] [(50,0),(51,1),(52,2),(53,3),(54,4),(55,5),(49,6),(56,7),(57,8),(14,9),(15,10)]
   [Is (.agg #[.int .i64 rk,.int .i64 rn,.int .u64 ru,.string rs,.slice ra4 rn4 rc4,.slice ra5 rn5 rc5]),Is (.int .i64 by_),Is (.int .i64 (q:Int)),fun v w=>NodeAt w (jAm T0 q) v,Is (.int .i64 fl),fun v w=>∃a c,v=.tuple #[.slice a D.length c,.int .i64 0]∧BytesAt w (.slice a D.length c) D,fun v w=>∃a c,v=.tuple #[.slice a D.length c,.int .i64 0]∧BytesAt w (.slice a D.length c) D,fun v w=>∃a c,v=.slice a D.length c∧BytesAt w (.slice a D.length c) D,Is (.int .i64 0),fun v w=>∃a c,v=.slice a D.length c∧BytesAt w (.slice a D.length c) D,Is (.int .i64 0)]
   zk Grew.trans Grew.refl (Grew.refl _).drew zk ⟨jI,jI,jI,fun v w w' hg h=>h.grew hg,jI,fun v w w' hg ⟨a,c,e,h⟩=>⟨a,c,e,h.grew hg⟩,fun v w w' hg ⟨a,c,e,h⟩=>⟨a,c,e,h.grew hg⟩,fun v w w' hg ⟨a,c,e,h⟩=>⟨a,c,e,h.grew hg⟩,jI,fun v w w' hg ⟨a,c,e,h⟩=>⟨a,c,e,h.grew hg⟩,jI,trivial⟩ ⟨?_,?_,?_,?_,?_,?_,?_,?_,?_,?_,?_,trivial⟩ rfl ?_
  ·intro y wq hG hD K hK
   have dr0:=hG.cell r0
   have dr1:=hG.cell r1
   have dr2:=hG.cell r2
   have dr3:=hG.cell r3
   have dr4:=hG.cell r4
   have dr5:=hG.cell r5
   simp only[jB,Act.put,zq1,zq2,zq3,zq4,zq5,Is] at hK⊢
   refine jG ?_
   go_simp
   exact hK _ _ _ rfl (Grew.refl _) rfl
  ·intro y wq hG hD K hK
   simp only[jB,Act.put,zq1,zq2,zq3,zq4,zq5,Is] at hK⊢
   refine jG ?_
   go_simp
   exact hK _ _ _ rfl (Grew.refl _) rfl
  ·intro y wq hG hD K hK
   simp only[jR,zq4,zq5,Is,and_true] at hD
   have h1:=hD
   clear hD
   simp only[jB,Act.put,zq1,zq2,zq3,zq4,zq5,Is] at hK⊢
   rw[h1] at hK⊢
   clear h1
   refine jG ?_
   go_simp
   refine (HBR.out _).mono ?_
   rintro r wz ⟨rfl,ez⟩
   rw[ez]
   exact hK _ _ _ rfl (Grew.refl _) rfl
  ·intro y wq hG hD K hK
   simp only[jR,zq4,zq5,Is,and_true] at hD
   have h0:=hD.1
   have h2:=hD.2
   clear hD
   simp only[jB,Act.put,zq1,zq2,zq3,zq4,zq5,Is] at hK⊢
   rw[h0,h2] at hK⊢
   clear h0 h2
   refine jG ?_
   go_simp
   refine (jLz 120 T0 HZ.out.1 q _ wq (HNT.out.grew hG) HFEW.out (by have:=HQ2.out;omega)).mono ?_
   rintro r wz ⟨vz,rfl,ho,hg⟩
   exact hK _ _ _ rfl hg ho.node
  ·intro y wq hG hD K hK
   simp only[jB,Act.put,zq1,zq2,zq3,zq4,zq5,Is] at hK⊢
   refine jG ?_
   go_simp
   exact hK _ _ _ rfl (Grew.refl _) rfl
  ·intro y wq hG hD K hK
   simp only[jR,zq4,zq5,Is,and_true] at hD
   have h3:=hD.1
   have h4:=hD.2
   clear hD
   simp only[jB,Act.put,zq1,zq2,zq3,zq4,zq5,Is] at hK⊢
   rw[h4] at hK⊢
   clear h4
   refine jG ?_
   go_simp
   have hcp:=jC9 fl (jAm T0 q) _ wq h3 (by have:=HTU.out.2.2;have:=HZ.out.1;omega) (fun _=>by rw[HTU.out.2.1];exact jDU HZ.out.2.2 HC.out)
   rw[HTB.out] at hcp
   refine hcp.mono ?_
   dsimp only
   rintro r wz ⟨vz,rfl,ho,hg⟩
   have hb:=BytesAt.of_own ho
   obtain⟨ya,yc,rfl,hz1,hz2,hz3⟩:=jM ho
   exact hK _ _ _ rfl hg ⟨_,_,rfl,hb⟩
  ·intro y wq hG hD K hK
   simp only[jR,zq4,zq5,Is,and_true] at hD
   have h5:=hD
   clear hD
   simp only[jB,Act.put,zq1,zq2,zq3,zq4,zq5,Is] at hK⊢
   refine jG ?_
   obtain⟨a,c,e,hb⟩:=h5
   simp only[e] at hK⊢
   go_simp
   exact hK _ _ _ rfl (Grew.refl _) ⟨_,_,rfl,hb⟩
  ·intro y wq hG hD K hK
   simp only[jR,zq4,zq5,Is,and_true] at hD
   have h6:=hD
   clear hD
   simp only[jB,Act.put,zq1,zq2,zq3,zq4,zq5,Is] at hK⊢
   refine jG ?_
   obtain⟨a,c,e,hb⟩:=h6
   simp only[e] at hK⊢
   go_simp
   exact hK _ _ _ rfl (Grew.refl _) ⟨_,_,rfl,hb⟩
  ·intro y wq hG hD K hK
   simp only[jR,zq4,zq5,Is,and_true] at hD
   have h6:=hD
   clear hD
   simp only[jB,Act.put,zq1,zq2,zq3,zq4,zq5,Is] at hK⊢
   refine jG ?_
   obtain⟨a,c,e,hb⟩:=h6
   simp only[e] at hK⊢
   go_simp
   exact hK _ _ _ rfl (Grew.refl _) rfl
  ·intro y wq hG hD K hK
   simp only[jR,zq4,zq5,Is,and_true] at hD
   have h7:=hD
   clear hD
   simp only[jB,Act.put,zq1,zq2,zq3,zq4,zq5,Is] at hK⊢
   refine jG ?_
   obtain⟨a,c,e,hb⟩:=h7
   simp only[e] at hK⊢
   go_simp
   exact hK _ _ _ rfl (Grew.refl _) ⟨_,_,rfl,hb⟩
  ·intro y wq hG hD K hK
   simp only[jR,zq4,zq5,Is,and_true] at hD
   have h8:=hD
   clear hD
   simp only[jB,Act.put,zq1,zq2,zq3,zq4,zq5,Is] at hK⊢
   rw[h8] at hK⊢
   clear h8
   refine jG ?_
   go_simp
   exact hK _ _ _ rfl (Grew.refl _) rfl
  ·intro y wq hG hF
   simp only[j9,Is,and_true,Nat.reduceAdd] at hF
   have h0:=hF.1
   have h1:=hF.2.1
   have h2:=hF.2.2.1
   have h3:=hF.2.2.2.1
   have h4:=hF.2.2.2.2.1
   have h5:=hF.2.2.2.2.2.1
   have h6:=hF.2.2.2.2.2.2.1
   have h7:=hF.2.2.2.2.2.2.2.1
   have h8:=hF.2.2.2.2.2.2.2.2.1
   have h9:=hF.2.2.2.2.2.2.2.2.2.1
   have h10:=hF.2.2.2.2.2.2.2.2.2.2
   clear hF
   simp only[jB,Act.put,zq1,zq2,zq3,zq4,zq5,Is]
   rw[h0,h1,h2,h4,h8,h10]
   clear h0 h1 h2 h4 h8 h10
   obtain⟨a5,c5,e5,b5⟩:=h5
   obtain⟨a6,c6,e6,b6⟩:=h6
   obtain⟨a7,c7,e7,b7⟩:=h7
   obtain⟨a9,c9,e9,b9⟩:=h9
   simp only[e5,e6,e7,e9]
   clear e5 e6 e7 e9 b5 b6 b7
   have HDz:=zh b9
   have HDx:=zh ((HD.out.grew HG46.out).grew hG)
   have HDy:=zh (HD6.out.grew hG)
   have HGF:=zh ((HG4.out.trans HG46.out).trans hG)
   clear b9 h3 hG r0 r1 r2 r3 r4 r5
   go_wp2_with fail
   refine (jFm _ _ _ _ HDx.out HDy.out).mono ?_
   rw[decide_eq_true rfl]
   rintro r wa ⟨rfl,rfl⟩
   go_wp2_with fail
   refine (jFm _ _ _ _ HDx.out HDz.out).mono ?_
   rw[decide_eq_true rfl]
   rintro r wb ⟨rfl,rfl⟩
   go_wp2_with fail
   refine (jF3 _).mono ?_
   rintro r w9 ⟨rfl,hg9⟩
   have HG9:=zh (HGF.out.trans hg9)
   clear hg9
   go_wp2
   go_ret
   exact⟨rfl,HG9.out⟩
 ·have HE:Hid (D=[]∧E=jAw T0):=by
   have h:=HR.out
   rw[jNg hc] at h
   exact⟨(congrArg Prod.fst h).symm,(congrArg Prod.snd h).symm⟩
  have he:(E != 0)=true:=by rw[HE.out.2];simpa using hc
  clear hc
  have r0:=jA HROW4.out 0 _ rfl
  have r1:=jA HROW4.out 1 _ rfl
  have r2:=jA HROW4.out 2 _ rfl
  have r3:=jA HROW4.out 3 _ rfl
  have r4:=jA HROW4.out 4 _ rfl
  have r5:=jA HROW4.out 5 _ rfl
  have hck:=jGf T0 _ w4 (HN3.out.grew HG34.out) (by have:=HZ.out.1;omega)
  rw[← HE.out.2] at hck
  have HCK:=zh hck
  clear hck
  have hdl:D.length=0:=by rw[HE.out.1];rfl
  go_wp2_with fail
  refine HCK.out.mono ?_
  rintro r w5 ⟨rfl,hg⟩
  have HG5:=zh (HG4.out.trans hg)
  clear hg
  go_wp2_with fail
  refine (jF3 _).mono ?_
  rintro r w9 ⟨rfl,hg9⟩
  have HG9:=zh (HG5.out.trans hg9)
  clear hg9
  go_wp2
  go_ret
  exact⟨rfl,HG9.out⟩
theorem encodeOrder_row {H:Type} (enc:TypeId × Value→H) (W:World) (base:Nat) (v0:Value) (d0:DataW H) (p0:List MemPlace) (o0:Value.okWide Tryz.prog W .any base 26 v0) (k0:DataW.Trod enc Tryz.prog W 0 (fun _=>true) true 26 v0 d0 p0) (v1:Value) (d1:DataW H) (p1:List MemPlace) (o1:Value.okWide Tryz.prog W .any base 3 v1) (k1:DataW.Trod enc Tryz.prog W 0 (fun _=>true) true 3 v1 d1 p1) (v2:Value) (d2:DataW H) (p2:List MemPlace) (o2:Value.okWide Tryz.prog W .any base 3 v2) (k2:DataW.Trod enc Tryz.prog W 0 (fun _=>true) true 3 v2 d2 p2) :
 Calls Tryz.prog 3 #[v0,v1,v2] W fun e w'=>e=.returned (.bool true)∧Below W.heap.size W w':=by
 obtain⟨T,hT⟩:=jMX o0 k0
 obtain⟨fl,rfl,_,_,_⟩:=open_int Tryz.underlying3 o1 k1
 obtain⟨mo,rfl,_,_,_⟩:=open_int Tryz.underlying3 o2 k2
 exact encodeOrder_any T _ fl mo W hT
theorem encodeOrder_own:ownKnob Tryz.prog.godebug=none:=by kernel_rfl
theorem encodeOrder_laidOut:laidOutB Tryz.prog=true:=by kernel_rfl
theorem encodeOrder_lifted (os:Os) (started:os.Started) (H:Type) (enc:TypeId × Value→H) :
 ReturnsInHanded {} Tryz.checked os 3 .any (Rows.encodeOrderSpec.pre6 enc Tryz.prog Tryz.f3 Rows.encodeOrderRow.domain false) (Rows.encodeOrderSpec.post enc Tryz.prog Tryz.f3 false true false false):=by
 refine returnsInHanded_of_change (C:=Tryz.checked) encodeOrder_own started zk Tryz.func3
  (ChangeSpec.witness6 (enc:=enc) (C:=Tryz.checked) false ⟨#[],#[.agg #[.int .i64 0,.int .i64 0,.int .u64 0,.string ⟨#[]⟩,.slice none 0 0,.slice none 0 0],.int .i64 0,.int .i64 0],[]⟩ 8 zk zk zk zk) ?_
 intro W base args ds gs before hval0 hW hcnd _
 have hval:∀(j:Nat) t v,Tryz.f3.params[j]? = some t→args[j]? = some v→Value.okWide Tryz.prog W .any base t v:=hval0
 have hW':=hW
 obtain⟨p,q,hA0,hV,rfl,hfz,hnd⟩:=hW
 have hA:DataW.TrodAll enc Tryz.prog W 0 (fun _=>true) true Tryz.f3.params.toList args.toList ds p:=hA0
 rw[Tryz.params3] at hA hval
 obtain⟨v0,vs0,d0,ds0,p0,q0,hargs,rfl,rfl,h0,r0⟩:=trodAll_cons hA
 obtain⟨v1,vs1,d1,ds1,p1,q1,rfl,rfl,rfl,h1,r1⟩:=trodAll_cons r0
 obtain⟨v2,vs2,d2,ds2,p2,q2,rfl,rfl,rfl,h2,r2⟩:=trodAll_cons r1
 obtain⟨rfl,rfl,rfl⟩:=trodAll_nil r2
 obtain rfl:args=#[v0,v1,v2]:=by cases args;simp_all
 obtain⟨rfl,rfl⟩:=trodVars_none hV
 have lt0:∀x∈p0,x.block < W.heap.size:=by obtain⟨m,hm⟩:=h0;exact DataW.trod_lt m _ _ _ hm
 have lt1:∀x∈p1,x.block < W.heap.size:=by obtain⟨m,hm⟩:=h1;exact DataW.trod_lt m _ _ _ hm
 have lt2:∀x∈p2,x.block < W.heap.size:=by obtain⟨m,hm⟩:=h2;exact DataW.trod_lt m _ _ _ hm
 have hw:=encodeOrder_row enc W base v0 d0 p0 (hval 0 26 v0 rfl rfl) h0 v1 d1 p1 (hval 1 3 v1 rfl rfl) h1 v2 d2 p2 (hval 2 3 v2 rfl rfl) h2
 clear hA0 hval0
 refine hw.mono fun e W' ⟨he,bel⟩=>?_
 subst he
 exact⟨_,rfl,_,_,_,[],_,[],hW',trodAll_mk1 (shut_bool Tryz.underlying4 _),(trodAll_cons_mk (Below.trod encodeOrder_laidOut zk (of_decide_eq_true zk) h0 bel lt0) (trodAll_cons_mk (Below.trod encodeOrder_laidOut zk (of_decide_eq_true zk) h1 bel lt1) (trodAll_cons_mk (Below.trod encodeOrder_laidOut zk (of_decide_eq_true zk) h2 bel lt2) trodAll_mk0))),rfl,Below.frame bel _,fun h=>by cases h⟩
/-- The statement. -/
theorem encodeOrder_holds:Rows.EncodeOrderSaid:=
 OpenClaim.holds_of_wide 3 Tryz.f3 rfl rfl rfl rfl rfl rfl rfl ⟨rfl,rfl,rfl,rfl,rfl⟩ rfl rfl rfl rfl rfl zk Tryz.func3 zk
  (of_decide_eq_true zk) (by unfold Func.isWrapper;first | (rw[if_pos (by decide +kernel)];kernel_rfl) | (rw[if_neg (by decide +kernel)];exact⟨rfl,rfl⟩))
  (fun os started H enc _=>encodeOrder_lifted os started H enc)
end Go.Proofs.YtdjoffgkndncfaaGreat
