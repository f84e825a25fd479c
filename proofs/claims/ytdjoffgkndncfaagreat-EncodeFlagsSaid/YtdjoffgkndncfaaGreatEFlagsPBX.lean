/-
  Texts of the proof.
-/
import Derived.Test.YtdjoffgkndncfaaGreatEFlagsPBU
import Derived.Test.YtdjoffgkndncfaaGreatEFlagsPBW
set_option linter.unusedVariables false
set_option linter.unusedSimpArgs false
set_option maxHeartbeats 32000000
set_option maxRecDepth 100000
namespace Go.Proofs.YtdjoffgkndncfaaGreat
open Go Go.ChangeShapes Go.WideShapes Go.ChangeAt Go.RowKit Go.Joins Go.Deep
theorem w20_a:qO 1048576 0 (.mk 3 5 0 ⟨#[]⟩ [] [])=((⟨#[5,4,1]⟩:ByteArray).data.toList,0):=by decide +kernel
theorem w20_b:qO 1048576 7 (.mk 17 0 0 ⟨#[]⟩ [⟨#[98]⟩,⟨#[97]⟩] [(.mk 3 1 0 ⟨#[]⟩ [] []),(.mk 1 0 0 ⟨#[]⟩ [] [])])=((⟨#[97,0,98,0,2,5,4,2,1,2,0,1,0,4,4,36,1]⟩:ByteArray).data.toList,0):=by decide +kernel
theorem w20_c:qO 1048576 0 (.mk 17 0 0 ⟨#[]⟩ [⟨#[97]⟩,⟨#[98]⟩] [(.mk 1 0 0 ⟨#[]⟩ [] []),(.mk 3 1 0 ⟨#[]⟩ [] [])])=((⟨#[97,0,98,0,2,5,4,2,1,2,0,1,0,4,4,36,1]⟩:ByteArray).data.toList,0):=by decide +kernel
theorem w20_d:qO 1048576 0 (.mk 10 0 0 ⟨#[]⟩ [] [(.mk 6 0 0 ⟨#[120]⟩ [] []),(.mk 6 0 0 ⟨#[120]⟩ [] [])])=((⟨#[1,120,0,1,120,0,2,6,4,20,20,4,40,1]⟩:ByteArray).data.toList,0):=by decide +kernel
theorem w20_e:qO 1048576 2 (.mk 10 0 0 ⟨#[]⟩ [] [(.mk 6 0 0 ⟨#[120]⟩ [] []),(.mk 6 0 0 ⟨#[120]⟩ [] [])])=((⟨#[1,120,0,2,3,4,20,20,4,40,1]⟩:ByteArray).data.toList,0):=by decide +kernel
theorem w20_z:qO 1048576 0 (.mk 0 0 0 ⟨#[]⟩ [] [])=([],60):=by decide +kernel
theorem w20_f:qO 2 0 (.mk 3 5 0 ⟨#[]⟩ [] [])=([],5):=by decide +kernel
theorem w20_g:qO 3 0 (.mk 3 5 0 ⟨#[]⟩ [] [])=((⟨#[5,4,1]⟩:ByteArray).data.toList,0):=by decide +kernel
theorem V6 (w:World):Calls Tryz.prog 13 #[] w fun r w'=>r=.returned (.bool true)∧jD w w':=by
 go_enter Tryz.func13,Tryz.ntmps13
 have HG:=zh (jD.refl w)
 go_upto_region 3 with fail
 obtain⟨g1,hs1⟩:∃g,w.heap.size=g:=⟨_,rfl⟩
 have hvn:=heap_alloc_new w (.cells #[.int .i64 1,.int .i64 0,.int .u64 0,.string ⟨#[]⟩,.slice none 0 0,.slice none 0 0] 26)
 have hg1:=(jD.refl w).alloc (.cells #[.int .i64 1,.int .i64 0,.int .u64 0,.string ⟨#[]⟩,.slice none 0 0,.slice none 0 0] 26)
 have hz1:(w.alloc (.cells #[.int .i64 1,.int .i64 0,.int .u64 0,.string ⟨#[]⟩,.slice none 0 0,.slice none 0 0] 26)).heap.size=w.heap.size+1:=World.size_alloc _ _
 generalize (w.alloc (.cells #[.int .i64 1,.int .i64 0,.int .u64 0,.string ⟨#[]⟩,.slice none 0 0,.slice none 0 0] 26))=w1 at *
 rw[hs1] at hvn hz1
 try rw[hs1]
 replace HG:=zh (HG.out.trans hg1)
 clear hg1
 have a0:=jB hvn 0 _ rfl
 have a1:=jB hvn 1 _ rfl
 have a2:=jB hvn 2 _ rfl
 have a3:=jB hvn 3 _ rfl
 have a4:=jB hvn 4 _ rfl
 have a5:=jB hvn 5 _ rfl
 clear hvn
 refine zG jD [[],[0],[0,1],[0,1,2],[0,1,2,3],[0,1,2,3],[0,1,2,3],[0,1,2,3,5,6],[0,1,2,3,4,5,6,7],[0,1,2,3],[0,1,2,3,4,5,6,7,8,9],[0,1,2,3,4,5,6,7,8,9,10],[0,1,2,3,4,5,6,7,8,9,10,11],[0,1,2,3,4,5,6,7,8,9,10,11,12],[0,1,2,3,4,5,6,7,8,9,10,11,12,13],[0,1,2,3,4,5,6,7,8,9,10,11,12,13],[0,1,2,3,4,5,6,7,8,9,10,11,12,13],[0,1,2,3,4,5,6,7,8,9,10,11,12,13,15,16],[0,1,2,3,4,5,6,7,8,9,10,11,12,13,14,15,16,17],[0,1,2,3,4,5,6,7,8,9,10,11,12,13],[0,1,2,3,4,5,6,7,8,9,10,11,12,13,14,15,16,17,18,19],[0,1,2,3,4,5,6,7,8,9,10,11,12,13,14,15,16,17,18,19,20],[0,1,2,3,4,5,6,7,8,9,10,11,12,13,14,15,16,17,18,19,20,21]] [[],[(11,0)],[(11,0),(12,1)],[(11,0),(12,1),(13,2)],[(11,0),(12,1),(13,2),(14,3),(16,5),(17,6),(18,7),(20,9)],[(11,0),(12,1),(13,2),(14,3),(15,4),(17,6),(20,9)],[(11,0),(12,1),(13,2),(14,3),(15,4),(16,5),(20,9)],[(11,0),(12,1),(13,2),(14,3),(15,4),(16,5),(17,6),(20,9)],[(11,0),(12,1),(13,2),(14,3),(15,4),(16,5),(17,6),(18,7),(20,9)],[(11,0),(12,1),(13,2),(14,3),(15,4),(16,5),(17,6),(18,7),(19,8)],[(11,0),(12,1),(13,2),(14,3),(15,4),(16,5),(17,6),(18,7),(19,8),(20,9)],[(11,0),(12,1),(13,2),(14,3),(15,4),(16,5),(17,6),(18,7),(19,8),(20,9),(21,10)],[(11,0),(12,1),(13,2),(14,3),(15,4),(16,5),(17,6),(18,7),(19,8),(20,9),(21,10),(22,11)],[(11,0),(12,1),(13,2),(14,3),(15,4),(16,5),(17,6),(18,7),(19,8),(20,9),(21,10),(22,11),(23,12)],[(11,0),(12,1),(13,2),(14,3),(15,4),(16,5),(17,6),(18,7),(19,8),(20,9),(21,10),(22,11),(23,12),(24,13),(26,15),(27,16),(28,17),(30,19)],[(11,0),(12,1),(13,2),(14,3),(15,4),(16,5),(17,6),(18,7),(19,8),(20,9),(21,10),(22,11),(23,12),(24,13),(25,14),(27,16),(30,19)],[(11,0),(12,1),(13,2),(14,3),(15,4),(16,5),(17,6),(18,7),(19,8),(20,9),(21,10),(22,11),(23,12),(24,13),(25,14),(26,15),(30,19)],[(11,0),(12,1),(13,2),(14,3),(15,4),(16,5),(17,6),(18,7),(19,8),(20,9),(21,10),(22,11),(23,12),(24,13),(25,14),(26,15),(27,16),(30,19)],[(11,0),(12,1),(13,2),(14,3),(15,4),(16,5),(17,6),(18,7),(19,8),(20,9),(21,10),(22,11),(23,12),(24,13),(25,14),(26,15),(27,16),(28,17),(30,19)],[(11,0),(12,1),(13,2),(14,3),(15,4),(16,5),(17,6),(18,7),(19,8),(20,9),(21,10),(22,11),(23,12),(24,13),(25,14),(26,15),(27,16),(28,17),(29,18)],[(11,0),(12,1),(13,2),(14,3),(15,4),(16,5),(17,6),(18,7),(19,8),(20,9),(21,10),(22,11),(23,12),(24,13),(25,14),(26,15),(27,16),(28,17),(29,18),(30,19)],[(11,0),(12,1),(13,2),(14,3),(15,4),(16,5),(17,6),(18,7),(19,8),(20,9),(21,10),(22,11),(23,12),(24,13),(25,14),(26,15),(27,16),(28,17),(29,18),(30,19),(31,20)],[(11,0),(12,1),(13,2),(14,3),(15,4),(16,5),(17,6),(18,7),(19,8),(20,9),(21,10),(22,11),(23,12),(24,13),(25,14),(26,15),(27,16),(28,17),(29,18),(30,19),(31,20),(32,21)]] [(11,0),(12,1),(13,2),(14,3),(15,4),(16,5),(17,6),(18,7),(19,8),(20,9),(21,10),(22,11),(23,12),(24,13),(25,14),(26,15),(27,16),(28,17),(29,18),(30,19),(31,20),(32,21),(33,22)]
  [Is (.agg #[.int .i64 3,.int .i64 5,.int .u64 0,.string ⟨#[]⟩,.slice none 0 0,.slice none 0 0]),Is (.bool true),Is (.bool false),Is (.bool false),SsX 2 [⟨#[98]⟩,⟨#[97]⟩],Is (.agg #[.int .i64 3,.int .i64 1,.int .u64 0,.string ⟨#[]⟩,.slice none 0 0,.slice none 0 0]),Is (.agg #[.int .i64 1,.int .i64 0,.int .u64 0,.string ⟨#[]⟩,.slice none 0 0,.slice none 0 0]),RnX 2 [(.mk 3 1 0 ⟨#[]⟩ [] []),(.mk 1 0 0 ⟨#[]⟩ [] [])],Nd (.mk 17 0 0 ⟨#[]⟩ [⟨#[98]⟩,⟨#[97]⟩] [(.mk 3 1 0 ⟨#[]⟩ [] []),(.mk 1 0 0 ⟨#[]⟩ [] [])]),Is (.string ⟨#[97,0,98,0,2,5,4,2,1,2,0,1,0,4,4,36,1]⟩),Is (.bool true),Is (.bool false),Is (.bool false),Is (.bool false),SsX 2 [⟨#[97]⟩,⟨#[98]⟩],Is (.agg #[.int .i64 1,.int .i64 0,.int .u64 0,.string ⟨#[]⟩,.slice none 0 0,.slice none 0 0]),Is (.agg #[.int .i64 3,.int .i64 1,.int .u64 0,.string ⟨#[]⟩,.slice none 0 0,.slice none 0 0]),RnX 2 [(.mk 1 0 0 ⟨#[]⟩ [] []),(.mk 3 1 0 ⟨#[]⟩ [] [])],Nd (.mk 17 0 0 ⟨#[]⟩ [⟨#[97]⟩,⟨#[98]⟩] [(.mk 1 0 0 ⟨#[]⟩ [] []),(.mk 3 1 0 ⟨#[]⟩ [] [])]),Is (.string ⟨#[97,0,98,0,2,5,4,2,1,2,0,1,0,4,4,36,1]⟩),Is (.bool true),Is (.bool false),Is (.bool false)]
  zk jD.trans jD.refl (jD.refl _).drew zk ⟨jN,jN,jN,jN,SsX.st _ _,jN,jN,RnX.st _ _,Nd.st _,jN,jN,jN,jN,jN,SsX.st _ _,jN,jN,RnX.st _ _,Nd.st _,jN,jN,jN,jN,trivial⟩ ?_ rfl ?_
 rotate_left
 ·intro y w2 hG hF
  simp only[yG,Is,and_true,Nat.reduceAdd] at hF
  have hlast:=hF.2.2.2.2.2.2.2.2.2.2.2.2.2.2.2.2.2.2.2.2.2.2
  clear hF
  simp only[jE,Act.put,zq1,zq2,zq3,zq4,zq5,hlast]
  replace HG:=zh (HG.out.trans hG)
  clear hG hlast
  go_wp2_with fail
  refine (lN ⟨#[120]⟩ w2).mono ?_
  rintro r v1 ⟨rfl,hgc⟩
  replace HG:=zh (HG.out.trans hgc)
  clear hgc
  go_wp2_with fail
  refine (lN ⟨#[120]⟩ v1).mono ?_
  rintro r v2 ⟨rfl,hgc⟩
  replace HG:=zh (HG.out.trans hgc)
  clear hgc
  go_wp2_with fail
  obtain⟨g2,hs2⟩:∃g,v2.heap.size=g:=⟨_,rfl⟩
  have r1:Rn [(.mk 6 0 0 ⟨#[120]⟩ [] []),(.mk 6 0 0 ⟨#[120]⟩ [] [])] (.slice (some ⟨v2.heap.size,0,none⟩) 2 2) (v2.alloc (.cells #[.int .i64 6,.int .i64 0,.int .u64 0,.string ⟨#[120]⟩,.slice none 0 0,.slice none 0 0,.int .i64 6,.int .i64 0,.int .u64 0,.string ⟨#[120]⟩,.slice none 0 0,.slice none 0 0] 26)):=VM v2 [(.mk 6 0 0 ⟨#[120]⟩ [] []),(.mk 6 0 0 ⟨#[120]⟩ [] [])] [.agg #[.int .i64 6,.int .i64 0,.int .u64 0,.string ⟨#[120]⟩,.slice none 0 0,.slice none 0 0],.agg #[.int .i64 6,.int .i64 0,.int .u64 0,.string ⟨#[120]⟩,.slice none 0 0,.slice none 0 0]] (by intro x hx;simp only[List.mem_cons,List.not_mem_nil,or_false] at hx;rcases hx with rfl | rfl<;>exact⟨_,_,_,_,_,_,_,_,_,_,rfl⟩) ⟨_,_,rfl,(ZN 6 0 0 ⟨#[120]⟩ (by unfold qH vT kF;decide) _),⟨_,_,rfl,(ZN 6 0 0 ⟨#[120]⟩ (by unfold qH vT kF;decide) _),rfl⟩⟩ (by simp)
  have hg2:=(jD.refl v2).alloc (.cells #[.int .i64 6,.int .i64 0,.int .u64 0,.string ⟨#[120]⟩,.slice none 0 0,.slice none 0 0,.int .i64 6,.int .i64 0,.int .u64 0,.string ⟨#[120]⟩,.slice none 0 0,.slice none 0 0] 26)
  have hz2:(v2.alloc (.cells #[.int .i64 6,.int .i64 0,.int .u64 0,.string ⟨#[120]⟩,.slice none 0 0,.slice none 0 0,.int .i64 6,.int .i64 0,.int .u64 0,.string ⟨#[120]⟩,.slice none 0 0,.slice none 0 0] 26)).heap.size=v2.heap.size+1:=World.size_alloc _ _
  generalize (v2.alloc (.cells #[.int .i64 6,.int .i64 0,.int .u64 0,.string ⟨#[120]⟩,.slice none 0 0,.slice none 0 0,.int .i64 6,.int .i64 0,.int .u64 0,.string ⟨#[120]⟩,.slice none 0 0,.slice none 0 0] 26))=w2 at *
  rw[hs2] at r1 hz2
  try rw[hs2]
  replace HG:=zh (HG.out.trans hg2)
  clear hg2
  have n1:=vecK_nd 10 (by unfold qH;decide) r1
  refine (DZ _ _ _ w2).mono ?_
  rintro r v3 ⟨rfl,hgc⟩
  replace r1:=Rn.st _ _ _ _ hgc r1
  replace n1:=Nd.st _ _ _ _ hgc n1
  replace HG:=zh (HG.out.trans hgc)
  clear hgc
  go_wp2_with fail
  obtain⟨g3,hs3⟩:∃g,v3.heap.size=g:=⟨_,rfl⟩
  have hvt:=heap_alloc_new v3 (.cells #[.int .i64 10,.int .i64 0,.int .u64 0,.string ⟨#[]⟩,.slice none 0 0,.slice (some ⟨g2,0,none⟩) 2 2] 26)
  have hg3:=(jD.refl v3).alloc (.cells #[.int .i64 10,.int .i64 0,.int .u64 0,.string ⟨#[]⟩,.slice none 0 0,.slice (some ⟨g2,0,none⟩) 2 2] 26)
  have hz3:(v3.alloc (.cells #[.int .i64 10,.int .i64 0,.int .u64 0,.string ⟨#[]⟩,.slice none 0 0,.slice (some ⟨g2,0,none⟩) 2 2] 26)).heap.size=v3.heap.size+1:=World.size_alloc _ _
  generalize (v3.alloc (.cells #[.int .i64 10,.int .i64 0,.int .u64 0,.string ⟨#[]⟩,.slice none 0 0,.slice (some ⟨g2,0,none⟩) 2 2] 26))=w3 at *
  rw[hs3] at hvt hz3
  try rw[hs3]
  replace r1:=Rn.st _ _ _ _ hg3 r1
  replace n1:=Nd.st _ _ _ _ hg3 n1
  replace HG:=zh (HG.out.trans hg3)
  clear hg3
  refine (K5 0 (.mk 10 0 0 ⟨#[]⟩ [] [(.mk 6 0 0 ⟨#[120]⟩ [] []),(.mk 6 0 0 ⟨#[120]⟩ [] [])]) _ ⟨#[1,120,0,1,120,0,2,6,4,20,20,4,40,1]⟩ w3 n1 (by decide) (by decide) w20_d).mono ?_
  rintro r v4 ⟨rfl,hgc⟩
  replace r1:=Rn.st _ _ _ _ hgc r1
  replace n1:=Nd.st _ _ _ _ hgc n1
  replace hvt:=hgc.heap hvt
  replace HG:=zh (HG.out.trans hgc)
  clear hgc
  have b0:=jB hvt 0 _ rfl
  have b1:=jB hvt 1 _ rfl
  have b2:=jB hvt 2 _ rfl
  have b3:=jB hvt 3 _ rfl
  have b4:=jB hvt 4 _ rfl
  have b5:=jB hvt 5 _ rfl
  go_wp2_with fail
  refine (K5 2 (.mk 10 0 0 ⟨#[]⟩ [] [(.mk 6 0 0 ⟨#[120]⟩ [] []),(.mk 6 0 0 ⟨#[120]⟩ [] [])]) _ ⟨#[1,120,0,2,3,4,20,20,4,40,1]⟩ v4 n1 (by decide) (by decide) w20_e).mono ?_
  rintro r v5 ⟨rfl,hgc⟩
  replace r1:=Rn.st _ _ _ _ hgc r1
  replace n1:=Nd.st _ _ _ _ hgc n1
  replace hvt:=hgc.heap hvt
  replace HG:=zh (HG.out.trans hgc)
  clear hgc
  clear b0 b1 b2 b3 b4 b5
  go_wp2_with fail
  clear hvt n1
  have hh:=aM 0 (.mk 0 0 0 ⟨#[]⟩ [] []) _ v5 (ZN 0 0 0 ⟨#[]⟩ (by unfold qH vT kF;decide) _) (by decide) (cS (lM (by decide)))
  rw[w20_z] at hh
  dsimp only at hh
  refine hh.mono ?_
  rintro r v6 ⟨vqz,rfl,ho,hgc⟩
  obtain⟨qaz,qcz,rfl,hz1,hz2,hz3⟩:=jR ho
  clear hz1 hz2 hz3
  replace r1:=Rn.st _ _ _ _ hgc r1
  replace HG:=zh (HG.out.trans hgc)
  clear hgc
  clear ho hh
  go_wp2_with fail
  refine (QD 5 v6).mono ?_
  rintro r v7 ⟨rfl,hgc⟩
  replace r1:=Rn.st _ _ _ _ hgc r1
  replace HG:=zh (HG.out.trans hgc)
  clear hgc
  go_wp2_with fail
  have hh:=bT 0 2 (.mk 3 5 0 ⟨#[]⟩ [] []) _ v7 (ZN 3 5 0 ⟨#[]⟩ (by unfold qH vT kF;decide) _) (by decide) (cS (lM (by decide)))
  rw[w20_f] at hh
  dsimp only at hh
  refine hh.mono ?_
  rintro r v8 ⟨vqf,rfl,ho,hgc⟩
  obtain⟨qaf,qcf,rfl,hz1,hz2,hz3⟩:=jR ho
  clear hz1 hz2 hz3
  replace r1:=Rn.st _ _ _ _ hgc r1
  replace HG:=zh (HG.out.trans hgc)
  clear hgc
  clear ho hh
  go_wp2_with fail
  refine (QD 5 v8).mono ?_
  rintro r v9 ⟨rfl,hgc⟩
  replace r1:=Rn.st _ _ _ _ hgc r1
  replace HG:=zh (HG.out.trans hgc)
  clear hgc
  go_wp2_with fail
  have hh:=bT 0 3 (.mk 3 5 0 ⟨#[]⟩ [] []) _ v9 (ZN 3 5 0 ⟨#[]⟩ (by unfold qH vT kF;decide) _) (by decide) (cS (lM (by decide)))
  rw[w20_g] at hh
  dsimp only at hh
  refine hh.mono ?_
  rintro r v10 ⟨vqg,rfl,ho,hgc⟩
  have hst:=qG (zQ.of_own ho)
  obtain⟨qa,qc,rfl,hz1,hz2,hz3⟩:=jR ho
  clear hz1 hz2 hz3
  replace r1:=Rn.st _ _ _ _ hgc r1
  replace HG:=zh (HG.out.trans hgc)
  clear hgc
  clear ho hh
  have hst:(convert 28 9 (.slice qa 3 qc)).run Tryz.prog v10=.ok (.string ⟨#[5,4,1]⟩) v10:=hst
  have hse:=dC (⟨#[5,4,1]⟩:ByteArray) ⟨#[5,4,1]⟩
  rw[decide_eq_true rfl] at hse
  go_wp2
  go_ret
  exact⟨rfl,HG.out⟩
 refine⟨?_,?_⟩
 ·intro y w2 hG hD K hK
  generalize hA:jE y _ _=A at hK⊢
  simp only[jE,Act.put,zq1,zq2,zq3,zq4,zq5,Is] at hA
  subst hA
  refine jL ?_
  go_simp
  refine (QD 5 _).mono ?_
  rintro r w3 ⟨rfl,hg3⟩
  exact hK _ _ _ rfl hg3 rfl
 refine⟨?_,?_⟩
 ·intro y w2 hG hD K hK
  simp only[jY,zq4,zq5,Is,and_true] at hD
  generalize hA:jE y _ _=A at hK⊢
  simp only[jE,Act.put,zq1,zq2,zq3,zq4,zq5,Is] at hA
  subst hA
  simp only[hD] at hK⊢
  clear hD
  refine jL ?_
  go_simp
  refine (K5 0 (.mk 3 5 0 ⟨#[]⟩ [] []) _ ⟨#[5,4,1]⟩ w2 (ZN 3 5 0 ⟨#[]⟩ (by unfold qH vT kF;decide) _) (by decide) (by decide) w20_a).mono ?_
  rintro r w3 ⟨rfl,hg3⟩
  exact hK _ _ _ rfl hg3 rfl
 refine⟨zsh,zsh,?_⟩
 refine⟨?_,?_⟩
 ·intro y w2 hG hD K hK
  simp only[jY,zq4,zq5,Is,and_true] at hD
  generalize hA:jE y _ _=A at hK⊢
  simp only[jE,Act.put,zq1,zq2,zq3,zq4,zq5,Is] at hA
  subst hA
  simp only[hD] at hK⊢
  clear hD
  refine jL ?_
  go_simp
  have hbb:=gU w2 [⟨#[98]⟩,⟨#[97]⟩] (wF _ (by decide)) (by decide)
  exact hK _ _ _ rfl ((jD.refl _).alloc _) ⟨⟨_,rfl⟩,hbb⟩
 refine⟨?_,?_⟩
 ·intro y w2 hG hD K hK
  simp only[jY,zq4,zq5,Is,and_true] at hD
  generalize hA:jE y _ _=A at hK⊢
  simp only[jE,Act.put,zq1,zq2,zq3,zq4,zq5,Is] at hA
  subst hA
  simp only[hD] at hK⊢
  clear hD
  refine jL ?_
  go_simp
  refine (QD 1 _).mono ?_
  rintro r w3 ⟨rfl,hg3⟩
  exact hK _ _ _ rfl hg3 rfl
 refine⟨?_,?_⟩
 ·intro y w2 hG hD K hK
  have da0:=hG.cell a0
  have da1:=hG.cell a1
  have da2:=hG.cell a2
  have da3:=hG.cell a3
  have da4:=hG.cell a4
  have da5:=hG.cell a5
  exact zsg
 refine⟨?_,?_⟩
 ·intro y w2 hG hD K hK
  simp only[jY,zq4,zq5,Is,and_true] at hD
  generalize hA:jE y _ _=A at hK⊢
  simp only[jE,Act.put,zq1,zq2,zq3,zq4,zq5,Is] at hA
  subst hA
  simp only[hD] at hK⊢
  clear hD
  refine jL ?_
  go_simp
  have hbb:=VM w2 [(.mk 3 1 0 ⟨#[]⟩ [] []),(.mk 1 0 0 ⟨#[]⟩ [] [])] [.agg #[.int .i64 3,.int .i64 1,.int .u64 0,.string ⟨#[]⟩,.slice none 0 0,.slice none 0 0],.agg #[.int .i64 1,.int .i64 0,.int .u64 0,.string ⟨#[]⟩,.slice none 0 0,.slice none 0 0]] (by intro x hx;simp only[List.mem_cons,List.not_mem_nil,or_false] at hx;rcases hx with rfl | rfl<;>exact⟨_,_,_,_,_,_,_,_,_,_,rfl⟩) ⟨_,_,rfl,(ZN 3 1 0 ⟨#[]⟩ (by unfold qH vT kF;decide) _),⟨_,_,rfl,(ZN 1 0 0 ⟨#[]⟩ (by unfold qH vT kF;decide) _),rfl⟩⟩ (by simp)
  exact hK _ _ _ rfl ((jD.refl _).alloc _) ⟨⟨_,rfl⟩,hbb⟩
 refine⟨?_,?_⟩
 ·intro y w2 hG hD K hK
  simp only[jY,zq4,zq5,Is,and_true] at hD
  have h0:=hD.1
  have h1:=hD.2.1
  have h2:=hD.2.2.1
  have h3:=hD.2.2.2.1
  have h4:=hD.2.2.2.2.1
  have h5:=hD.2.2.2.2.2.1
  have h6:=hD.2.2.2.2.2.2.1
  have h7:=hD.2.2.2.2.2.2.2
  clear hD
  generalize hA:jE y _ _=A at hK⊢
  simp only[jE,Act.put,zq1,zq2,zq3,zq4,zq5,Is] at hA
  subst hA
  simp only[h0,h1,h2,h3,h5,h6] at hK⊢
  clear h0 h1 h2 h3 h5 h6
  refine jL ?_
  obtain⟨⟨gq,eq⟩,hq⟩:=h4
  obtain⟨⟨gr,er⟩,hr⟩:=h7
  rw[eq] at hq
  rw[er] at hr
  simp only[eq,er] at hK⊢
  go_simp
  refine (eV _ _ _ _ _ _ _).mono ?_
  rintro r w3 ⟨rfl,hg3⟩
  exact hK _ _ _ rfl hg3 (sP (Ss.st _ _ _ _ hg3 hq) (Rn.st _ _ _ _ hg3 hr))
 refine⟨zsh,?_⟩
 refine⟨?_,?_⟩
 ·intro y w2 hG hD K hK
  simp only[jY,zq4,zq5,Is,and_true] at hD
  have h0:=hD.1
  have h1:=hD.2.1
  have h2:=hD.2.2.1
  have h3:=hD.2.2.2.1
  have h4:=hD.2.2.2.2.1
  have h5:=hD.2.2.2.2.2.1
  have h6:=hD.2.2.2.2.2.2.1
  have h7:=hD.2.2.2.2.2.2.2.1
  have h8:=hD.2.2.2.2.2.2.2.2.1
  have h9:=hD.2.2.2.2.2.2.2.2.2
  clear hD
  generalize hA:jE y _ _=A at hK⊢
  simp only[jE,Act.put,zq1,zq2,zq3,zq4,zq5,Is] at hA
  subst hA
  simp only[h0,h1,h2,h3,h5,h6,h9] at hK⊢
  clear h0 h1 h2 h3 h5 h6 h9
  refine jL ?_
  go_simp
  refine (K5 7 (.mk 17 0 0 ⟨#[]⟩ [⟨#[98]⟩,⟨#[97]⟩] [(.mk 3 1 0 ⟨#[]⟩ [] []),(.mk 1 0 0 ⟨#[]⟩ [] [])]) _ ⟨#[97,0,98,0,2,5,4,2,1,2,0,1,0,4,4,36,1]⟩ w2 h8 (by decide) (by decide) w20_b).mono ?_
  rintro r w3 ⟨rfl,hg3⟩
  exact hK _ _ _ rfl hg3 rfl
 refine⟨zsh,zsh,zsh,?_⟩
 refine⟨?_,?_⟩
 ·intro y w2 hG hD K hK
  simp only[jY,zq4,zq5,Is,and_true] at hD
  have h0:=hD.1
  have h1:=hD.2.1
  have h2:=hD.2.2.1
  have h3:=hD.2.2.2.1
  have h4:=hD.2.2.2.2.1
  have h5:=hD.2.2.2.2.2.1
  have h6:=hD.2.2.2.2.2.2.1
  have h7:=hD.2.2.2.2.2.2.2.1
  have h8:=hD.2.2.2.2.2.2.2.2.1
  have h9:=hD.2.2.2.2.2.2.2.2.2.1
  have h10:=hD.2.2.2.2.2.2.2.2.2.2.1
  have h11:=hD.2.2.2.2.2.2.2.2.2.2.2.1
  have h12:=hD.2.2.2.2.2.2.2.2.2.2.2.2.1
  have h13:=hD.2.2.2.2.2.2.2.2.2.2.2.2.2
  clear hD
  generalize hA:jE y _ _=A at hK⊢
  simp only[jE,Act.put,zq1,zq2,zq3,zq4,zq5,Is] at hA
  subst hA
  simp only[h0,h1,h2,h3,h5,h6,h9,h10,h11,h12,h13] at hK⊢
  clear h0 h1 h2 h3 h5 h6 h9 h10 h11 h12 h13
  refine jL ?_
  go_simp
  have hbb:=gU w2 [⟨#[97]⟩,⟨#[98]⟩] (wF _ (by decide)) (by decide)
  exact hK _ _ _ rfl ((jD.refl _).alloc _) ⟨⟨_,rfl⟩,hbb⟩
 refine⟨?_,?_⟩
 ·intro y w2 hG hD K hK
  have da0:=hG.cell a0
  have da1:=hG.cell a1
  have da2:=hG.cell a2
  have da3:=hG.cell a3
  have da4:=hG.cell a4
  have da5:=hG.cell a5
  exact zsg
 refine⟨?_,?_⟩
 ·intro y w2 hG hD K hK
  simp only[jY,zq4,zq5,Is,and_true] at hD
  have h0:=hD.1
  have h1:=hD.2.1
  have h2:=hD.2.2.1
  have h3:=hD.2.2.2.1
  have h4:=hD.2.2.2.2.1
  have h5:=hD.2.2.2.2.2.1
  have h6:=hD.2.2.2.2.2.2.1
  have h7:=hD.2.2.2.2.2.2.2.1
  have h8:=hD.2.2.2.2.2.2.2.2.1
  have h9:=hD.2.2.2.2.2.2.2.2.2.1
  have h10:=hD.2.2.2.2.2.2.2.2.2.2.1
  have h11:=hD.2.2.2.2.2.2.2.2.2.2.2.1
  have h12:=hD.2.2.2.2.2.2.2.2.2.2.2.2.1
  have h13:=hD.2.2.2.2.2.2.2.2.2.2.2.2.2
  clear hD
  generalize hA:jE y _ _=A at hK⊢
  simp only[jE,Act.put,zq1,zq2,zq3,zq4,zq5,Is] at hA
  subst hA
  simp only[h0,h1,h2,h3,h5,h6,h9,h10,h11,h12,h13] at hK⊢
  clear h0 h1 h2 h3 h5 h6 h9 h10 h11 h12 h13
  refine jL ?_
  go_simp
  refine (QD 1 _).mono ?_
  rintro r w3 ⟨rfl,hg3⟩
  exact hK _ _ _ rfl hg3 rfl
 refine⟨?_,?_⟩
 ·intro y w2 hG hD K hK
  simp only[jY,zq4,zq5,Is,and_true] at hD
  have h0:=hD.1
  have h1:=hD.2.1
  have h2:=hD.2.2.1
  have h3:=hD.2.2.2.1
  have h4:=hD.2.2.2.2.1
  have h5:=hD.2.2.2.2.2.1
  have h6:=hD.2.2.2.2.2.2.1
  have h7:=hD.2.2.2.2.2.2.2.1
  have h8:=hD.2.2.2.2.2.2.2.2.1
  have h9:=hD.2.2.2.2.2.2.2.2.2.1
  have h10:=hD.2.2.2.2.2.2.2.2.2.2.1
  have h11:=hD.2.2.2.2.2.2.2.2.2.2.2.1
  have h12:=hD.2.2.2.2.2.2.2.2.2.2.2.2.1
  have h13:=hD.2.2.2.2.2.2.2.2.2.2.2.2.2.1
  have h15:=hD.2.2.2.2.2.2.2.2.2.2.2.2.2.2.1
  have h16:=hD.2.2.2.2.2.2.2.2.2.2.2.2.2.2.2
  clear hD
  generalize hA:jE y _ _=A at hK⊢
  simp only[jE,Act.put,zq1,zq2,zq3,zq4,zq5,Is] at hA
  subst hA
  simp only[h0,h1,h2,h3,h5,h6,h9,h10,h11,h12,h13,h15,h16] at hK⊢
  clear h0 h1 h2 h3 h5 h6 h9 h10 h11 h12 h13 h15 h16
  refine jL ?_
  go_simp
  have hbb:=VM w2 [(.mk 1 0 0 ⟨#[]⟩ [] []),(.mk 3 1 0 ⟨#[]⟩ [] [])] [.agg #[.int .i64 1,.int .i64 0,.int .u64 0,.string ⟨#[]⟩,.slice none 0 0,.slice none 0 0],.agg #[.int .i64 3,.int .i64 1,.int .u64 0,.string ⟨#[]⟩,.slice none 0 0,.slice none 0 0]] (by intro x hx;simp only[List.mem_cons,List.not_mem_nil,or_false] at hx;rcases hx with rfl | rfl<;>exact⟨_,_,_,_,_,_,_,_,_,_,rfl⟩) ⟨_,_,rfl,(ZN 1 0 0 ⟨#[]⟩ (by unfold qH vT kF;decide) _),⟨_,_,rfl,(ZN 3 1 0 ⟨#[]⟩ (by unfold qH vT kF;decide) _),rfl⟩⟩ (by simp)
  exact hK _ _ _ rfl ((jD.refl _).alloc _) ⟨⟨_,rfl⟩,hbb⟩
 refine⟨?_,?_⟩
 ·intro y w2 hG hD K hK
  simp only[jY,zq4,zq5,Is,and_true] at hD
  have h0:=hD.1
  have h1:=hD.2.1
  have h2:=hD.2.2.1
  have h3:=hD.2.2.2.1
  have h4:=hD.2.2.2.2.1
  have h5:=hD.2.2.2.2.2.1
  have h6:=hD.2.2.2.2.2.2.1
  have h7:=hD.2.2.2.2.2.2.2.1
  have h8:=hD.2.2.2.2.2.2.2.2.1
  have h9:=hD.2.2.2.2.2.2.2.2.2.1
  have h10:=hD.2.2.2.2.2.2.2.2.2.2.1
  have h11:=hD.2.2.2.2.2.2.2.2.2.2.2.1
  have h12:=hD.2.2.2.2.2.2.2.2.2.2.2.2.1
  have h13:=hD.2.2.2.2.2.2.2.2.2.2.2.2.2.1
  have h14:=hD.2.2.2.2.2.2.2.2.2.2.2.2.2.2.1
  have h15:=hD.2.2.2.2.2.2.2.2.2.2.2.2.2.2.2.1
  have h16:=hD.2.2.2.2.2.2.2.2.2.2.2.2.2.2.2.2.1
  have h17:=hD.2.2.2.2.2.2.2.2.2.2.2.2.2.2.2.2.2
  clear hD
  generalize hA:jE y _ _=A at hK⊢
  simp only[jE,Act.put,zq1,zq2,zq3,zq4,zq5,Is] at hA
  subst hA
  simp only[h0,h1,h2,h3,h5,h6,h9,h10,h11,h12,h13,h15,h16] at hK⊢
  clear h0 h1 h2 h3 h5 h6 h9 h10 h11 h12 h13 h15 h16
  refine jL ?_
  obtain⟨⟨gq,eq⟩,hq⟩:=h14
  obtain⟨⟨gr,er⟩,hr⟩:=h17
  rw[eq] at hq
  rw[er] at hr
  simp only[eq,er] at hK⊢
  go_simp
  refine (eV _ _ _ _ _ _ _).mono ?_
  rintro r w3 ⟨rfl,hg3⟩
  exact hK _ _ _ rfl hg3 (sP (Ss.st _ _ _ _ hg3 hq) (Rn.st _ _ _ _ hg3 hr))
 refine⟨zsh,?_⟩
 refine⟨?_,?_⟩
 ·intro y w2 hG hD K hK
  simp only[jY,zq4,zq5,Is,and_true] at hD
  have h0:=hD.1
  have h1:=hD.2.1
  have h2:=hD.2.2.1
  have h3:=hD.2.2.2.1
  have h4:=hD.2.2.2.2.1
  have h5:=hD.2.2.2.2.2.1
  have h6:=hD.2.2.2.2.2.2.1
  have h7:=hD.2.2.2.2.2.2.2.1
  have h8:=hD.2.2.2.2.2.2.2.2.1
  have h9:=hD.2.2.2.2.2.2.2.2.2.1
  have h10:=hD.2.2.2.2.2.2.2.2.2.2.1
  have h11:=hD.2.2.2.2.2.2.2.2.2.2.2.1
  have h12:=hD.2.2.2.2.2.2.2.2.2.2.2.2.1
  have h13:=hD.2.2.2.2.2.2.2.2.2.2.2.2.2.1
  have h14:=hD.2.2.2.2.2.2.2.2.2.2.2.2.2.2.1
  have h15:=hD.2.2.2.2.2.2.2.2.2.2.2.2.2.2.2.1
  have h16:=hD.2.2.2.2.2.2.2.2.2.2.2.2.2.2.2.2.1
  have h17:=hD.2.2.2.2.2.2.2.2.2.2.2.2.2.2.2.2.2.1
  have h18:=hD.2.2.2.2.2.2.2.2.2.2.2.2.2.2.2.2.2.2.1
  have h19:=hD.2.2.2.2.2.2.2.2.2.2.2.2.2.2.2.2.2.2.2
  clear hD
  generalize hA:jE y _ _=A at hK⊢
  simp only[jE,Act.put,zq1,zq2,zq3,zq4,zq5,Is] at hA
  subst hA
  simp only[h0,h1,h2,h3,h5,h6,h9,h10,h11,h12,h13,h15,h16,h19] at hK⊢
  clear h0 h1 h2 h3 h5 h6 h9 h10 h11 h12 h13 h15 h16 h19
  refine jL ?_
  go_simp
  refine (K5 0 (.mk 17 0 0 ⟨#[]⟩ [⟨#[97]⟩,⟨#[98]⟩] [(.mk 1 0 0 ⟨#[]⟩ [] []),(.mk 3 1 0 ⟨#[]⟩ [] [])]) _ ⟨#[97,0,98,0,2,5,4,2,1,2,0,1,0,4,4,36,1]⟩ w2 h18 (by decide) (by decide) w20_c).mono ?_
  rintro r w3 ⟨rfl,hg3⟩
  exact hK _ _ _ rfl hg3 rfl
 refine⟨zsh,zsh,?_⟩
 trivial
theorem oR (x:Tr):∀l:List Tr,JL (l++[x])=JL l+J2 x
 | []=>by simp[JL]
 | t::r=>by simp only[List.cons_append,JL,oR x r];omega
mutual
theorem empT_le:∀t:Tr,J2 t≤t.size
 | .mk k n u s keys l=>by
  have:=rK l
  simp only[J2,Tr.size]
  split<;>omega
theorem rK:∀l:List Tr,JL l≤kV l
 | []=>Nat.le_refl _
 | t::r=>by
  have:=empT_le t
  have:=rK r
  simp only[JL,kV]
  omega
end
theorem a6:∀(l:List Tr) (k:Nat),kV (l.take k)≤kV l
 | [],k=>by simp
 | t::r,0=>by simp[kV]
 | t::r,k+1=>by
  have:=a6 r k
  simp only[List.take_succ_cons,kV]
  omega
theorem zmaps {p:Prop} (h:p:=by
 go_loopw [3,4] (fun v i wr=>∃kk:Nat,kk≤l.length∧i=.int .i64 kk∧v=.int .i64 ((e0+JL (l.take kk):Nat):Int)∧Hid (jD w1 wr)) (fun _ i _=>l.length - (intOf i).toNat)
 case atStart=>exact⟨0,Nat.zero_le _,rfl,by rw[← HE0.out];simp[JL],jD.refl _⟩
 case round=>
  obtain⟨kk,hkk,rfl,hv,HW⟩:=hrel
  rw[hv]
  clear hv
  have b5:=jB (HW.out.heap HB1.out) 5 _ rfl
  by_cases hlt:kk < l.length
  ·have hlti:(kk:Int) < l.length:=by omega
   obtain⟨x,hx⟩:∃x,l[kk]? = some x:=⟨_,List.getElem?_eq_getElem hlt⟩
   obtain⟨xv,hxv,hnx⟩:=HK.out.get hx
   have hxm:x∈l:=List.mem_of_getElem? hx
   have HXS:=zh (HSZ.out x hxm)
   have HXN:Hid (k7 wr x xv):=hnx.grew (HG1.out.trans HW.out)
   have HX:Hid (JL (l.take (kk+1))=JL (l.take kk)+J2 x):=by show _=_;rw[List.take_add_one,hx];exact oR x _
   obtain⟨bb,off,rfl,kZ⟩:∃bb off,a5=some ⟨bb,off,none⟩∧qI wr bb (off+kk*6) xv:=by
    obtain⟨a,c,e,_,_,_,h⟩:=kY.out
    injection e with e1 e2 e3
    subst e1
    obtain⟨b,off,e,h6⟩:=h kk xv hxv
    exact⟨b,off,e,h6.grew (HG1.out.trans HW.out)⟩
   obtain⟨xk,xn,xu,xs,xa4,xn4,xc4,xa5,xn5,xc5,rfl⟩:=hnx.node6
   obtain⟨e0',e1,e2,e3,e4,e5⟩:=kZ.get
   have hb1:JL (l.take kk)+J2 x≤4096:=by rw[← HX.out];have h1:=rK (l.take (kk+1));have h2:=a6 l (kk+1);have:=HZ.out;omega
   obtain⟨q,hq⟩:∃q,e0+JL (l.take kk)=q:=⟨_,rfl⟩
   have HQ:Hid (e0+JL (l.take (kk+1))=q+J2 x):=by show _=_;rw[HX.out,← hq];omega
   have hqb:q+J2 x≤4097:=by have:=HE1.out;omega
   rw[hq]
   clear kZ hx hxv hnx hxm hb1 hq
   go_wp2_with fail
   refine (HIH.out x HXS.out.1 HXS.out.2 _ wr HXN.out).mono ?_
   rintro r w4 ⟨rfl,hg4⟩
   have HG4:=zh (HW.out.trans hg4)
   clear hg4 e0' e1 e2 e3 e4 e5 b5
   generalize J2 x=z at *
   have hwr:IntKind.i64.wrap ((q:Int)+(z:Int))=((q+z:Nat):Int):=by rw[IntKind.wrap_i64];omega
   go_wp2_with fail
   go_roundw
   case rel=>exact⟨kk+1,by omega,by go_num,by rw[HQ.out];simp,HG4.out⟩
   case measure=>simp[intOf];omega
  ·have ek:kk=l.length:=by omega
   subst ek
   rw[List.take_length]
   go_wp2
   go_ret
   exact⟨by rw[HT.out];rfl,HG1.out.trans HW.out⟩):p:=h
theorem AU:∀(m:Nat) (t:Tr),t.size≤m→t.size≤4096→∀(v:Value) (w:World),k7 w t v→Calls Tryz.prog 23 #[v] w fun r w'=>r=.returned (.int .i64 (J2 t))∧jD w w':=by
 intro m
 induction m with
 | zero=>intro t ht;have:=t.size_pos;omega
 | succ m ih=>
 intro t ht hz v w hn
 obtain⟨k,n,u,s,keys,l⟩:=t
 simp only[k7] at hn
 obtain⟨hb,kv,lv,vs,rfl,hks,yZ,qP⟩:=hn
 have hkl:vs.length=l.length:=qP.length
 have HK:=zh qP
 obtain⟨a4,c4,rfl,hx1,hx2,hx3,hx4⟩:=hks
 have kY:=zh yZ
 obtain⟨a5,c5,rfl,hy1,hy2,hy3,hy4⟩:=yZ
 rw[hkl] at kY⊢
 have HSZ:Hid (∀x∈l,x.size≤m∧x.size≤4096):=fun x hx=>by have:=yA hx;simp only[Tr.size] at ht hz;omega
 have HZ:Hid (kV l≤4095):=by show _≤_;simp only[Tr.size] at hz;omega
 have hll:l.length≤4096:=by have:=J0 l;have:=HZ.out;omega
 have HIH:=zh ih
 clear qP hb ht hz hkl ih hx1 hx2 hx3 hx4 hy1 hy2 hy3 hy4
 go_enter Tryz.func23,Tryz.ntmps23
 have hb1:=heap_alloc_new w (.cells #[.int .i64 k,.int .i64 n,.int .u64 u,.string s,.slice a4 keys.length c4,.slice a5 l.length c5] 26)
 have hg1:=(jD.refl w).alloc (.cells #[.int .i64 k,.int .i64 n,.int .u64 u,.string s,.slice a4 keys.length c4,.slice a5 l.length c5] 26)
 have HB1:=zh hb1
 have HG1:=zh hg1
 have c0:=jB hb1 0 _ rfl
 have c5':=jB hb1 5 _ rfl
 clear hb1 hg1
 by_cases hk:k=17
 ·have hkb:(k == 17)=true:=by simpa using hk
  by_cases hl0:l.length=0
  ·have HT:Hid (J2 (.mk k n u s keys l)=1+JL l):=by show _=_;rw[J2,if_pos ⟨hk,hl0⟩]
   have hlb:((l.length:Int) == 0)=true:=by simpa using hl0
   obtain⟨e0,he0⟩:∃e:Nat,1=e:=⟨_,rfl⟩
   have HE0:Hid (1=e0):=he0
   have HE1:Hid (e0≤1):=by show _≤_;omega
   have HT2:Hid (J2 (.mk k n u s keys l)=e0+JL l):=by rw[← he0];exact HT.out
   clear HT he0 hk hl0
   have HT:=HT2
   go_wp2_with fail
   generalize (w.alloc (.cells #[.int .i64 k,.int .i64 n,.int .u64 u,.string s,.slice a4 keys.length c4,.slice a5 l.length c5] 26))=w1 at *
   clear c0 c5' hlb
   exact zmaps
  ·have HT:Hid (J2 (.mk k n u s keys l)=0+JL l):=by show _=_;rw[J2,if_neg (fun h=>hl0 h.2)]
   have hlb:((l.length:Int) == 0)=false:=by simpa using hl0
   obtain⟨e0,he0⟩:∃e:Nat,0=e:=⟨_,rfl⟩
   have HE0:Hid (0=e0):=he0
   have HE1:Hid (e0≤1):=by show _≤_;omega
   have HT2:Hid (J2 (.mk k n u s keys l)=e0+JL l):=by rw[← he0];exact HT.out
   clear HT he0 hk hl0
   have HT:=HT2
   go_wp2_with fail
   generalize (w.alloc (.cells #[.int .i64 k,.int .i64 n,.int .u64 u,.string s,.slice a4 keys.length c4,.slice a5 l.length c5] 26))=w1 at *
   clear c0 c5' hlb
   exact zmaps
 ·have hkb:(k == 17)=false:=by simpa using hk
  have HT:Hid (J2 (.mk k n u s keys l)=0+JL l):=by show _=_;rw[J2,if_neg (fun h=>hk h.1)]
  obtain⟨e0,he0⟩:∃e:Nat,0=e:=⟨_,rfl⟩
  have HE0:Hid (0=e0):=he0
  have HE1:Hid (e0≤1):=by show _≤_;omega
  have HT2:Hid (J2 (.mk k n u s keys l)=e0+JL l):=by rw[← he0];exact HT.out
  clear HT he0 hk
  have HT:=HT2
  go_wp2_with fail
  generalize (w.alloc (.cells #[.int .i64 k,.int .i64 n,.int .u64 u,.string s,.slice a4 keys.length c4,.slice a5 l.length c5] 26))=w1 at *
  clear c0 c5'
  exact zmaps
end Go.Proofs.YtdjoffgkndncfaaGreat
