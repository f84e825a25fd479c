/-
  Texts of the proof.
-/
import Derived.Test.YtdjoffgkndncfaaGreatEOrderPBU
import Derived.Test.YtdjoffgkndncfaaGreatEOrderPBW
set_option linter.unusedVariables false
set_option linter.unusedSimpArgs false
set_option maxHeartbeats 8000000
set_option maxRecDepth 100000
namespace Go.Proofs.YtdjoffgkndncfaaGreat
open Go Go.ChangeShapes Go.WideShapes Go.ChangeAt Go.RowKit Go.Joins Go.Deep
theorem w20_a:jAI 1048576 0 (.mk 3 5 0 ⟨#[]⟩ [] [])=((⟨#[5,4,1]⟩:ByteArray).data.toList,0):=by decide +kernel
theorem w20_b:jAI 1048576 7 (.mk 17 0 0 ⟨#[]⟩ [⟨#[98]⟩,⟨#[97]⟩] [(.mk 3 1 0 ⟨#[]⟩ [] []),(.mk 1 0 0 ⟨#[]⟩ [] [])])=((⟨#[97,0,98,0,2,5,4,2,1,2,0,1,0,4,4,36,1]⟩:ByteArray).data.toList,0):=by decide +kernel
theorem w20_c:jAI 1048576 0 (.mk 17 0 0 ⟨#[]⟩ [⟨#[97]⟩,⟨#[98]⟩] [(.mk 1 0 0 ⟨#[]⟩ [] []),(.mk 3 1 0 ⟨#[]⟩ [] [])])=((⟨#[97,0,98,0,2,5,4,2,1,2,0,1,0,4,4,36,1]⟩:ByteArray).data.toList,0):=by decide +kernel
theorem w20_d:jAI 1048576 0 (.mk 10 0 0 ⟨#[]⟩ [] [(.mk 6 0 0 ⟨#[120]⟩ [] []),(.mk 6 0 0 ⟨#[120]⟩ [] [])])=((⟨#[1,120,0,1,120,0,2,6,4,20,20,4,40,1]⟩:ByteArray).data.toList,0):=by decide +kernel
theorem w20_e:jAI 1048576 2 (.mk 10 0 0 ⟨#[]⟩ [] [(.mk 6 0 0 ⟨#[120]⟩ [] []),(.mk 6 0 0 ⟨#[120]⟩ [] [])])=((⟨#[1,120,0,2,3,4,20,20,4,40,1]⟩:ByteArray).data.toList,0):=by decide +kernel
theorem w20_z:jAI 1048576 0 (.mk 0 0 0 ⟨#[]⟩ [] [])=([],60):=by decide +kernel
theorem w20_f:jAI 2 0 (.mk 3 5 0 ⟨#[]⟩ [] [])=([],5):=by decide +kernel
theorem w20_g:jAI 3 0 (.mk 3 5 0 ⟨#[]⟩ [] [])=((⟨#[5,4,1]⟩:ByteArray).data.toList,0):=by decide +kernel
theorem jF3 (w:World):Calls Tryz.prog 13 #[] w fun r w'=>r=.returned (.bool true)∧Grew w w':=by
 go_enter Tryz.func13,Tryz.ntmps13
 have HG:=zh (Grew.refl w)
 go_upto_region 3 with fail
 obtain⟨g1,hs1⟩:∃g,w.heap.size=g:=⟨_,rfl⟩
 have hvn:=heap_alloc_new w (.cells #[.int .i64 1,.int .i64 0,.int .u64 0,.string ⟨#[]⟩,.slice none 0 0,.slice none 0 0] 26)
 have hg1:=(Grew.refl w).alloc (.cells #[.int .i64 1,.int .i64 0,.int .u64 0,.string ⟨#[]⟩,.slice none 0 0,.slice none 0 0] 26)
 have hz1:(w.alloc (.cells #[.int .i64 1,.int .i64 0,.int .u64 0,.string ⟨#[]⟩,.slice none 0 0,.slice none 0 0] 26)).heap.size=w.heap.size+1:=World.size_alloc _ _
 generalize (w.alloc (.cells #[.int .i64 1,.int .i64 0,.int .u64 0,.string ⟨#[]⟩,.slice none 0 0,.slice none 0 0] 26))=w1 at *
 rw[hs1] at hvn hz1
 try rw[hs1]
 replace HG:=zh (HG.out.trans hg1)
 clear hg1
 have a0:=jA hvn 0 _ rfl
 have a1:=jA hvn 1 _ rfl
 have a2:=jA hvn 2 _ rfl
 have a3:=jA hvn 3 _ rfl
 have a4:=jA hvn 4 _ rfl
 have a5:=jA hvn 5 _ rfl
 clear hvn
 refine jj Grew [[],[0],[0,1],[0,1,2],[0,1,2,3],[0,1,2,3],[0,1,2,3],[0,1,2,3,5,6],[0,1,2,3,4,5,6,7],[0,1,2,3],[0,1,2,3,4,5,6,7,8,9],[0,1,2,3,4,5,6,7,8,9,10],[0,1,2,3,4,5,6,7,8,9,10,11],[0,1,2,3,4,5,6,7,8,9,10,11,12],[0,1,2,3,4,5,6,7,8,9,10,11,12,13],[0,1,2,3,4,5,6,7,8,9,10,11,12,13],[0,1,2,3,4,5,6,7,8,9,10,11,12,13],[0,1,2,3,4,5,6,7,8,9,10,11,12,13,15,16],[0,1,2,3,4,5,6,7,8,9,10,11,12,13,14,15,16,17],[0,1,2,3,4,5,6,7,8,9,10,11,12,13],[0,1,2,3,4,5,6,7,8,9,10,11,12,13,14,15,16,17,18,19],[0,1,2,3,4,5,6,7,8,9,10,11,12,13,14,15,16,17,18,19,20],[0,1,2,3,4,5,6,7,8,9,10,11,12,13,14,15,16,17,18,19,20,21]] [[],[(11,0)],[(11,0),(12,1)],[(11,0),(12,1),(13,2)],[(11,0),(12,1),(13,2),(14,3),(16,5),(17,6),(18,7),(20,9)],[(11,0),(12,1),(13,2),(14,3),(15,4),(17,6),(20,9)],[(11,0),(12,1),(13,2),(14,3),(15,4),(16,5),(20,9)],[(11,0),(12,1),(13,2),(14,3),(15,4),(16,5),(17,6),(20,9)],[(11,0),(12,1),(13,2),(14,3),(15,4),(16,5),(17,6),(18,7),(20,9)],[(11,0),(12,1),(13,2),(14,3),(15,4),(16,5),(17,6),(18,7),(19,8)],[(11,0),(12,1),(13,2),(14,3),(15,4),(16,5),(17,6),(18,7),(19,8),(20,9)],[(11,0),(12,1),(13,2),(14,3),(15,4),(16,5),(17,6),(18,7),(19,8),(20,9),(21,10)],[(11,0),(12,1),(13,2),(14,3),(15,4),(16,5),(17,6),(18,7),(19,8),(20,9),(21,10),(22,11)],[(11,0),(12,1),(13,2),(14,3),(15,4),(16,5),(17,6),(18,7),(19,8),(20,9),(21,10),(22,11),(23,12)],[(11,0),(12,1),(13,2),(14,3),(15,4),(16,5),(17,6),(18,7),(19,8),(20,9),(21,10),(22,11),(23,12),(24,13),(26,15),(27,16),(28,17),(30,19)],[(11,0),(12,1),(13,2),(14,3),(15,4),(16,5),(17,6),(18,7),(19,8),(20,9),(21,10),(22,11),(23,12),(24,13),(25,14),(27,16),(30,19)],[(11,0),(12,1),(13,2),(14,3),(15,4),(16,5),(17,6),(18,7),(19,8),(20,9),(21,10),(22,11),(23,12),(24,13),(25,14),(26,15),(30,19)],[(11,0),(12,1),(13,2),(14,3),(15,4),(16,5),(17,6),(18,7),(19,8),(20,9),(21,10),(22,11),(23,12),(24,13),(25,14),(26,15),(27,16),(30,19)],[(11,0),(12,1),(13,2),(14,3),(15,4),(16,5),(17,6),(18,7),(19,8),(20,9),(21,10),(22,11),(23,12),(24,13),(25,14),(26,15),(27,16),(28,17),(30,19)],[(11,0),(12,1),(13,2),(14,3),(15,4),(16,5),(17,6),(18,7),(19,8),(20,9),(21,10),(22,11),(23,12),(24,13),(25,14),(26,15),(27,16),(28,17),(29,18)],[(11,0),(12,1),(13,2),(14,3),(15,4),(16,5),(17,6),(18,7),(19,8),(20,9),(21,10),(22,11),(23,12),(24,13),(25,14),(26,15),(27,16),(28,17),(29,18),(30,19)],[(11,0),(12,1),(13,2),(14,3),(15,4),(16,5),(17,6),(18,7),(19,8),(20,9),(21,10),(22,11),(23,12),(24,13),(25,14),(26,15),(27,16),(28,17),(29,18),(30,19),(31,20)],[(11,0),(12,1),(13,2),(14,3),(15,4),(16,5),(17,6),(18,7),(19,8),(20,9),(21,10),(22,11),(23,12),(24,13),(25,14),(26,15),(27,16),(28,17),(29,18),(30,19),(31,20),(32,21)]] [(11,0),(12,1),(13,2),(14,3),(15,4),(16,5),(17,6),(18,7),(19,8),(20,9),(21,10),(22,11),(23,12),(24,13),(25,14),(26,15),(27,16),(28,17),(29,18),(30,19),(31,20),(32,21),(33,22)]
  [Is (.agg #[.int .i64 3,.int .i64 5,.int .u64 0,.string ⟨#[]⟩,.slice none 0 0,.slice none 0 0]),Is (.bool true),Is (.bool false),Is (.bool false),SsX 2 [⟨#[98]⟩,⟨#[97]⟩],Is (.agg #[.int .i64 3,.int .i64 1,.int .u64 0,.string ⟨#[]⟩,.slice none 0 0,.slice none 0 0]),Is (.agg #[.int .i64 1,.int .i64 0,.int .u64 0,.string ⟨#[]⟩,.slice none 0 0,.slice none 0 0]),RnX 2 [(.mk 3 1 0 ⟨#[]⟩ [] []),(.mk 1 0 0 ⟨#[]⟩ [] [])],Nd (.mk 17 0 0 ⟨#[]⟩ [⟨#[98]⟩,⟨#[97]⟩] [(.mk 3 1 0 ⟨#[]⟩ [] []),(.mk 1 0 0 ⟨#[]⟩ [] [])]),Is (.string ⟨#[97,0,98,0,2,5,4,2,1,2,0,1,0,4,4,36,1]⟩),Is (.bool true),Is (.bool false),Is (.bool false),Is (.bool false),SsX 2 [⟨#[97]⟩,⟨#[98]⟩],Is (.agg #[.int .i64 1,.int .i64 0,.int .u64 0,.string ⟨#[]⟩,.slice none 0 0,.slice none 0 0]),Is (.agg #[.int .i64 3,.int .i64 1,.int .u64 0,.string ⟨#[]⟩,.slice none 0 0,.slice none 0 0]),RnX 2 [(.mk 1 0 0 ⟨#[]⟩ [] []),(.mk 3 1 0 ⟨#[]⟩ [] [])],Nd (.mk 17 0 0 ⟨#[]⟩ [⟨#[97]⟩,⟨#[98]⟩] [(.mk 1 0 0 ⟨#[]⟩ [] []),(.mk 3 1 0 ⟨#[]⟩ [] [])]),Is (.string ⟨#[97,0,98,0,2,5,4,2,1,2,0,1,0,4,4,36,1]⟩),Is (.bool true),Is (.bool false),Is (.bool false)]
  zk Grew.trans Grew.refl (Grew.refl _).drew zk ⟨jI,jI,jI,jI,SsX.st _ _,jI,jI,RnX.st _ _,Nd.st _,jI,jI,jI,jI,jI,SsX.st _ _,jI,jI,RnX.st _ _,Nd.st _,jI,jI,jI,jI,trivial⟩ ?_ rfl ?_
 rotate_left
 ·intro y w2 hG hF
  simp only[j9,Is,and_true,Nat.reduceAdd] at hF
  have hlast:=hF.2.2.2.2.2.2.2.2.2.2.2.2.2.2.2.2.2.2.2.2.2.2
  clear hF
  simp only[jB,Act.put,zq1,zq2,zq3,zq4,zq5,hlast]
  replace HG:=zh (HG.out.trans hG)
  clear hG hlast
  go_wp2_with fail
  refine (jHT ⟨#[120]⟩ w2).mono ?_
  rintro r v1 ⟨rfl,hgc⟩
  replace HG:=zh (HG.out.trans hgc)
  clear hgc
  go_wp2_with fail
  refine (jHT ⟨#[120]⟩ v1).mono ?_
  rintro r v2 ⟨rfl,hgc⟩
  replace HG:=zh (HG.out.trans hgc)
  clear hgc
  go_wp2_with fail
  obtain⟨g2,hs2⟩:∃g,v2.heap.size=g:=⟨_,rfl⟩
  have r1:Rn [(.mk 6 0 0 ⟨#[120]⟩ [] []),(.mk 6 0 0 ⟨#[120]⟩ [] [])] (.slice (some ⟨v2.heap.size,0,none⟩) 2 2) (v2.alloc (.cells #[.int .i64 6,.int .i64 0,.int .u64 0,.string ⟨#[120]⟩,.slice none 0 0,.slice none 0 0,.int .i64 6,.int .i64 0,.int .u64 0,.string ⟨#[120]⟩,.slice none 0 0,.slice none 0 0] 26)):=jDo v2 [(.mk 6 0 0 ⟨#[120]⟩ [] []),(.mk 6 0 0 ⟨#[120]⟩ [] [])] [.agg #[.int .i64 6,.int .i64 0,.int .u64 0,.string ⟨#[120]⟩,.slice none 0 0,.slice none 0 0],.agg #[.int .i64 6,.int .i64 0,.int .u64 0,.string ⟨#[120]⟩,.slice none 0 0,.slice none 0 0]] (by intro x hx;simp only[List.mem_cons,List.not_mem_nil,or_false] at hx;rcases hx with rfl | rfl<;>exact⟨_,_,_,_,_,_,_,_,_,_,rfl⟩) ⟨_,_,rfl,(jCF 6 0 0 ⟨#[120]⟩ (by unfold jAV jAv jY;decide) _),⟨_,_,rfl,(jCF 6 0 0 ⟨#[120]⟩ (by unfold jAV jAv jY;decide) _),rfl⟩⟩ (by simp)
  have hg2:=(Grew.refl v2).alloc (.cells #[.int .i64 6,.int .i64 0,.int .u64 0,.string ⟨#[120]⟩,.slice none 0 0,.slice none 0 0,.int .i64 6,.int .i64 0,.int .u64 0,.string ⟨#[120]⟩,.slice none 0 0,.slice none 0 0] 26)
  have hz2:(v2.alloc (.cells #[.int .i64 6,.int .i64 0,.int .u64 0,.string ⟨#[120]⟩,.slice none 0 0,.slice none 0 0,.int .i64 6,.int .i64 0,.int .u64 0,.string ⟨#[120]⟩,.slice none 0 0,.slice none 0 0] 26)).heap.size=v2.heap.size+1:=World.size_alloc _ _
  generalize (v2.alloc (.cells #[.int .i64 6,.int .i64 0,.int .u64 0,.string ⟨#[120]⟩,.slice none 0 0,.slice none 0 0,.int .i64 6,.int .i64 0,.int .u64 0,.string ⟨#[120]⟩,.slice none 0 0,.slice none 0 0] 26))=w2 at *
  rw[hs2] at r1 hz2
  try rw[hs2]
  replace HG:=zh (HG.out.trans hg2)
  clear hg2
  have n1:=vecK_nd 10 (by unfold jAV;decide) r1
  refine (jNe _ _ _ w2).mono ?_
  rintro r v3 ⟨rfl,hgc⟩
  replace r1:=Rn.st _ _ _ _ hgc r1
  replace n1:=Nd.st _ _ _ _ hgc n1
  replace HG:=zh (HG.out.trans hgc)
  clear hgc
  go_wp2_with fail
  obtain⟨g3,hs3⟩:∃g,v3.heap.size=g:=⟨_,rfl⟩
  have hvt:=heap_alloc_new v3 (.cells #[.int .i64 10,.int .i64 0,.int .u64 0,.string ⟨#[]⟩,.slice none 0 0,.slice (some ⟨g2,0,none⟩) 2 2] 26)
  have hg3:=(Grew.refl v3).alloc (.cells #[.int .i64 10,.int .i64 0,.int .u64 0,.string ⟨#[]⟩,.slice none 0 0,.slice (some ⟨g2,0,none⟩) 2 2] 26)
  have hz3:(v3.alloc (.cells #[.int .i64 10,.int .i64 0,.int .u64 0,.string ⟨#[]⟩,.slice none 0 0,.slice (some ⟨g2,0,none⟩) 2 2] 26)).heap.size=v3.heap.size+1:=World.size_alloc _ _
  generalize (v3.alloc (.cells #[.int .i64 10,.int .i64 0,.int .u64 0,.string ⟨#[]⟩,.slice none 0 0,.slice (some ⟨g2,0,none⟩) 2 2] 26))=w3 at *
  rw[hs3] at hvt hz3
  try rw[hs3]
  replace r1:=Rn.st _ _ _ _ hg3 r1
  replace n1:=Nd.st _ _ _ _ hg3 n1
  replace HG:=zh (HG.out.trans hg3)
  clear hg3
  refine (jBx 0 (.mk 10 0 0 ⟨#[]⟩ [] [(.mk 6 0 0 ⟨#[120]⟩ [] []),(.mk 6 0 0 ⟨#[120]⟩ [] [])]) _ ⟨#[1,120,0,1,120,0,2,6,4,20,20,4,40,1]⟩ w3 n1 (by decide) (by decide) w20_d).mono ?_
  rintro r v4 ⟨rfl,hgc⟩
  replace r1:=Rn.st _ _ _ _ hgc r1
  replace n1:=Nd.st _ _ _ _ hgc n1
  replace hvt:=hgc.heap hvt
  replace HG:=zh (HG.out.trans hgc)
  clear hgc
  have b0:=jA hvt 0 _ rfl
  have b1:=jA hvt 1 _ rfl
  have b2:=jA hvt 2 _ rfl
  have b3:=jA hvt 3 _ rfl
  have b4:=jA hvt 4 _ rfl
  have b5:=jA hvt 5 _ rfl
  go_wp2_with fail
  refine (jBx 2 (.mk 10 0 0 ⟨#[]⟩ [] [(.mk 6 0 0 ⟨#[120]⟩ [] []),(.mk 6 0 0 ⟨#[120]⟩ [] [])]) _ ⟨#[1,120,0,2,3,4,20,20,4,40,1]⟩ v4 n1 (by decide) (by decide) w20_e).mono ?_
  rintro r v5 ⟨rfl,hgc⟩
  replace r1:=Rn.st _ _ _ _ hgc r1
  replace n1:=Nd.st _ _ _ _ hgc n1
  replace hvt:=hgc.heap hvt
  replace HG:=zh (HG.out.trans hgc)
  clear hgc
  clear b0 b1 b2 b3 b4 b5
  go_wp2_with fail
  clear hvt n1
  have hh:=jC9 0 (.mk 0 0 0 ⟨#[]⟩ [] []) _ v5 (jCF 0 0 0 ⟨#[]⟩ (by unfold jAV jAv jY;decide) _) (by decide) (jDU (jHS (by decide)))
  rw[w20_z] at hh
  dsimp only at hh
  refine hh.mono ?_
  rintro r v6 ⟨vqz,rfl,ho,hgc⟩
  obtain⟨qaz,qcz,rfl,hz1,hz2,hz3⟩:=jM ho
  clear hz1 hz2 hz3
  replace r1:=Rn.st _ _ _ _ hgc r1
  replace HG:=zh (HG.out.trans hgc)
  clear hgc
  clear ho hh
  go_wp2_with fail
  refine (jDA 5 v6).mono ?_
  rintro r v7 ⟨rfl,hgc⟩
  replace r1:=Rn.st _ _ _ _ hgc r1
  replace HG:=zh (HG.out.trans hgc)
  clear hgc
  go_wp2_with fail
  have hh:=jEi 0 2 (.mk 3 5 0 ⟨#[]⟩ [] []) _ v7 (jCF 3 5 0 ⟨#[]⟩ (by unfold jAV jAv jY;decide) _) (by decide) (jDU (jHS (by decide)))
  rw[w20_f] at hh
  dsimp only at hh
  refine hh.mono ?_
  rintro r v8 ⟨vqf,rfl,ho,hgc⟩
  obtain⟨qaf,qcf,rfl,hz1,hz2,hz3⟩:=jM ho
  clear hz1 hz2 hz3
  replace r1:=Rn.st _ _ _ _ hgc r1
  replace HG:=zh (HG.out.trans hgc)
  clear hgc
  clear ho hh
  go_wp2_with fail
  refine (jDA 5 v8).mono ?_
  rintro r v9 ⟨rfl,hgc⟩
  replace r1:=Rn.st _ _ _ _ hgc r1
  replace HG:=zh (HG.out.trans hgc)
  clear hgc
  go_wp2_with fail
  have hh:=jEi 0 3 (.mk 3 5 0 ⟨#[]⟩ [] []) _ v9 (jCF 3 5 0 ⟨#[]⟩ (by unfold jAV jAv jY;decide) _) (by decide) (jDU (jHS (by decide)))
  rw[w20_g] at hh
  dsimp only at hh
  refine hh.mono ?_
  rintro r v10 ⟨vqg,rfl,ho,hgc⟩
  have hst:=jAU (BytesAt.of_own ho)
  obtain⟨qa,qc,rfl,hz1,hz2,hz3⟩:=jM ho
  clear hz1 hz2 hz3
  replace r1:=Rn.st _ _ _ _ hgc r1
  replace HG:=zh (HG.out.trans hgc)
  clear hgc
  clear ho hh
  have hst:(convert 28 9 (.slice qa 3 qc)).run Tryz.prog v10=.ok (.string ⟨#[5,4,1]⟩) v10:=hst
  have hse:=jFI (⟨#[5,4,1]⟩:ByteArray) ⟨#[5,4,1]⟩
  rw[decide_eq_true rfl] at hse
  go_wp2
  go_ret
  exact⟨rfl,HG.out⟩
 refine⟨?_,?_⟩
 ·intro y w2 hG hD K hK
  generalize hA:jB y _ _=A at hK⊢
  simp only[jB,Act.put,zq1,zq2,zq3,zq4,zq5,Is] at hA
  subst hA
  refine jG ?_
  go_simp
  refine (jDA 5 _).mono ?_
  rintro r w3 ⟨rfl,hg3⟩
  exact hK _ _ _ rfl hg3 rfl
 refine⟨?_,?_⟩
 ·intro y w2 hG hD K hK
  simp only[jR,zq4,zq5,Is,and_true] at hD
  generalize hA:jB y _ _=A at hK⊢
  simp only[jB,Act.put,zq1,zq2,zq3,zq4,zq5,Is] at hA
  subst hA
  simp only[hD] at hK⊢
  clear hD
  refine jG ?_
  go_simp
  refine (jBx 0 (.mk 3 5 0 ⟨#[]⟩ [] []) _ ⟨#[5,4,1]⟩ w2 (jCF 3 5 0 ⟨#[]⟩ (by unfold jAV jAv jY;decide) _) (by decide) (by decide) w20_a).mono ?_
  rintro r w3 ⟨rfl,hg3⟩
  exact hK _ _ _ rfl hg3 rfl
 refine⟨zsh,zsh,?_⟩
 refine⟨?_,?_⟩
 ·intro y w2 hG hD K hK
  simp only[jR,zq4,zq5,Is,and_true] at hD
  generalize hA:jB y _ _=A at hK⊢
  simp only[jB,Act.put,zq1,zq2,zq3,zq4,zq5,Is] at hA
  subst hA
  simp only[hD] at hK⊢
  clear hD
  refine jG ?_
  go_simp
  have hbb:=jEX w2 [⟨#[98]⟩,⟨#[97]⟩] (jK4 _ (by decide)) (by decide)
  exact hK _ _ _ rfl ((Grew.refl _).alloc _) ⟨⟨_,rfl⟩,hbb⟩
 refine⟨?_,?_⟩
 ·intro y w2 hG hD K hK
  simp only[jR,zq4,zq5,Is,and_true] at hD
  generalize hA:jB y _ _=A at hK⊢
  simp only[jB,Act.put,zq1,zq2,zq3,zq4,zq5,Is] at hA
  subst hA
  simp only[hD] at hK⊢
  clear hD
  refine jG ?_
  go_simp
  refine (jDA 1 _).mono ?_
  rintro r w3 ⟨rfl,hg3⟩
  exact hK _ _ _ rfl hg3 rfl
 refine⟨?_,?_⟩
 ·intro y w2 hG hD K hK
  have da0:=hG.cell a0
  have da1:=hG.cell a1
  have da2:=hG.cell a2
  have da3:=hG.cell a3
  have da4:=hG.cell a4
  have da5:=hG.cell a5
  exact zsg
 refine⟨?_,?_⟩
 ·intro y w2 hG hD K hK
  simp only[jR,zq4,zq5,Is,and_true] at hD
  generalize hA:jB y _ _=A at hK⊢
  simp only[jB,Act.put,zq1,zq2,zq3,zq4,zq5,Is] at hA
  subst hA
  simp only[hD] at hK⊢
  clear hD
  refine jG ?_
  go_simp
  have hbb:=jDo w2 [(.mk 3 1 0 ⟨#[]⟩ [] []),(.mk 1 0 0 ⟨#[]⟩ [] [])] [.agg #[.int .i64 3,.int .i64 1,.int .u64 0,.string ⟨#[]⟩,.slice none 0 0,.slice none 0 0],.agg #[.int .i64 1,.int .i64 0,.int .u64 0,.string ⟨#[]⟩,.slice none 0 0,.slice none 0 0]] (by intro x hx;simp only[List.mem_cons,List.not_mem_nil,or_false] at hx;rcases hx with rfl | rfl<;>exact⟨_,_,_,_,_,_,_,_,_,_,rfl⟩) ⟨_,_,rfl,(jCF 3 1 0 ⟨#[]⟩ (by unfold jAV jAv jY;decide) _),⟨_,_,rfl,(jCF 1 0 0 ⟨#[]⟩ (by unfold jAV jAv jY;decide) _),rfl⟩⟩ (by simp)
  exact hK _ _ _ rfl ((Grew.refl _).alloc _) ⟨⟨_,rfl⟩,hbb⟩
 refine⟨?_,?_⟩
 ·intro y w2 hG hD K hK
  simp only[jR,zq4,zq5,Is,and_true] at hD
  have h0:=hD.1
  have h1:=hD.2.1
  have h2:=hD.2.2.1
  have h3:=hD.2.2.2.1
  have h4:=hD.2.2.2.2.1
  have h5:=hD.2.2.2.2.2.1
  have h6:=hD.2.2.2.2.2.2.1
  have h7:=hD.2.2.2.2.2.2.2
  clear hD
  generalize hA:jB y _ _=A at hK⊢
  simp only[jB,Act.put,zq1,zq2,zq3,zq4,zq5,Is] at hA
  subst hA
  simp only[h0,h1,h2,h3,h5,h6] at hK⊢
  clear h0 h1 h2 h3 h5 h6
  refine jG ?_
  obtain⟨⟨gq,eq⟩,hq⟩:=h4
  obtain⟨⟨gr,er⟩,hr⟩:=h7
  rw[eq] at hq
  rw[er] at hr
  simp only[eq,er] at hK⊢
  go_simp
  refine (jF2 _ _ _ _ _ _ _).mono ?_
  rintro r w3 ⟨rfl,hg3⟩
  exact hK _ _ _ rfl hg3 (jJz (Ss.st _ _ _ _ hg3 hq) (Rn.st _ _ _ _ hg3 hr))
 refine⟨zsh,?_⟩
 refine⟨?_,?_⟩
 ·intro y w2 hG hD K hK
  simp only[jR,zq4,zq5,Is,and_true] at hD
  have h0:=hD.1
  have h1:=hD.2.1
  have h2:=hD.2.2.1
  have h3:=hD.2.2.2.1
  have h4:=hD.2.2.2.2.1
  have h5:=hD.2.2.2.2.2.1
  have h6:=hD.2.2.2.2.2.2.1
  have h7:=hD.2.2.2.2.2.2.2.1
  have h8:=hD.2.2.2.2.2.2.2.2.1
  have h9:=hD.2.2.2.2.2.2.2.2.2
  clear hD
  generalize hA:jB y _ _=A at hK⊢
  simp only[jB,Act.put,zq1,zq2,zq3,zq4,zq5,Is] at hA
  subst hA
  simp only[h0,h1,h2,h3,h5,h6,h9] at hK⊢
  clear h0 h1 h2 h3 h5 h6 h9
  refine jG ?_
  go_simp
  refine (jBx 7 (.mk 17 0 0 ⟨#[]⟩ [⟨#[98]⟩,⟨#[97]⟩] [(.mk 3 1 0 ⟨#[]⟩ [] []),(.mk 1 0 0 ⟨#[]⟩ [] [])]) _ ⟨#[97,0,98,0,2,5,4,2,1,2,0,1,0,4,4,36,1]⟩ w2 h8 (by decide) (by decide) w20_b).mono ?_
  rintro r w3 ⟨rfl,hg3⟩
  exact hK _ _ _ rfl hg3 rfl
 refine⟨zsh,zsh,zsh,?_⟩
 refine⟨?_,?_⟩
 ·intro y w2 hG hD K hK
  simp only[jR,zq4,zq5,Is,and_true] at hD
  have h0:=hD.1
  have h1:=hD.2.1
  have h2:=hD.2.2.1
  have h3:=hD.2.2.2.1
  have h4:=hD.2.2.2.2.1
  have h5:=hD.2.2.2.2.2.1
  have h6:=hD.2.2.2.2.2.2.1
  have h7:=hD.2.2.2.2.2.2.2.1
  have h8:=hD.2.2.2.2.2.2.2.2.1
  have h9:=hD.2.2.2.2.2.2.2.2.2.1
  have h10:=hD.2.2.2.2.2.2.2.2.2.2.1
  have h11:=hD.2.2.2.2.2.2.2.2.2.2.2.1
  have h12:=hD.2.2.2.2.2.2.2.2.2.2.2.2.1
  have h13:=hD.2.2.2.2.2.2.2.2.2.2.2.2.2
  clear hD
  generalize hA:jB y _ _=A at hK⊢
  simp only[jB,Act.put,zq1,zq2,zq3,zq4,zq5,Is] at hA
  subst hA
  simp only[h0,h1,h2,h3,h5,h6,h9,h10,h11,h12,h13] at hK⊢
  clear h0 h1 h2 h3 h5 h6 h9 h10 h11 h12 h13
  refine jG ?_
  go_simp
  have hbb:=jEX w2 [⟨#[97]⟩,⟨#[98]⟩] (jK4 _ (by decide)) (by decide)
  exact hK _ _ _ rfl ((Grew.refl _).alloc _) ⟨⟨_,rfl⟩,hbb⟩
 refine⟨?_,?_⟩
 ·intro y w2 hG hD K hK
  have da0:=hG.cell a0
  have da1:=hG.cell a1
  have da2:=hG.cell a2
  have da3:=hG.cell a3
  have da4:=hG.cell a4
  have da5:=hG.cell a5
  exact zsg
 refine⟨?_,?_⟩
 ·intro y w2 hG hD K hK
  simp only[jR,zq4,zq5,Is,and_true] at hD
  have h0:=hD.1
  have h1:=hD.2.1
  have h2:=hD.2.2.1
  have h3:=hD.2.2.2.1
  have h4:=hD.2.2.2.2.1
  have h5:=hD.2.2.2.2.2.1
  have h6:=hD.2.2.2.2.2.2.1
  have h7:=hD.2.2.2.2.2.2.2.1
  have h8:=hD.2.2.2.2.2.2.2.2.1
  have h9:=hD.2.2.2.2.2.2.2.2.2.1
  have h10:=hD.2.2.2.2.2.2.2.2.2.2.1
  have h11:=hD.2.2.2.2.2.2.2.2.2.2.2.1
  have h12:=hD.2.2.2.2.2.2.2.2.2.2.2.2.1
  have h13:=hD.2.2.2.2.2.2.2.2.2.2.2.2.2
  clear hD
  generalize hA:jB y _ _=A at hK⊢
  simp only[jB,Act.put,zq1,zq2,zq3,zq4,zq5,Is] at hA
  subst hA
  simp only[h0,h1,h2,h3,h5,h6,h9,h10,h11,h12,h13] at hK⊢
  clear h0 h1 h2 h3 h5 h6 h9 h10 h11 h12 h13
  refine jG ?_
  go_simp
  refine (jDA 1 _).mono ?_
  rintro r w3 ⟨rfl,hg3⟩
  exact hK _ _ _ rfl hg3 rfl
 refine⟨?_,?_⟩
 ·intro y w2 hG hD K hK
  simp only[jR,zq4,zq5,Is,and_true] at hD
  have h0:=hD.1
  have h1:=hD.2.1
  have h2:=hD.2.2.1
  have h3:=hD.2.2.2.1
  have h4:=hD.2.2.2.2.1
  have h5:=hD.2.2.2.2.2.1
  have h6:=hD.2.2.2.2.2.2.1
  have h7:=hD.2.2.2.2.2.2.2.1
  have h8:=hD.2.2.2.2.2.2.2.2.1
  have h9:=hD.2.2.2.2.2.2.2.2.2.1
  have h10:=hD.2.2.2.2.2.2.2.2.2.2.1
  have h11:=hD.2.2.2.2.2.2.2.2.2.2.2.1
  have h12:=hD.2.2.2.2.2.2.2.2.2.2.2.2.1
  have h13:=hD.2.2.2.2.2.2.2.2.2.2.2.2.2.1
  have h15:=hD.2.2.2.2.2.2.2.2.2.2.2.2.2.2.1
  have h16:=hD.2.2.2.2.2.2.2.2.2.2.2.2.2.2.2
  clear hD
  generalize hA:jB y _ _=A at hK⊢
  simp only[jB,Act.put,zq1,zq2,zq3,zq4,zq5,Is] at hA
  subst hA
  simp only[h0,h1,h2,h3,h5,h6,h9,h10,h11,h12,h13,h15,h16] at hK⊢
  clear h0 h1 h2 h3 h5 h6 h9 h10 h11 h12 h13 h15 h16
  refine jG ?_
  go_simp
  have hbb:=jDo w2 [(.mk 1 0 0 ⟨#[]⟩ [] []),(.mk 3 1 0 ⟨#[]⟩ [] [])] [.agg #[.int .i64 1,.int .i64 0,.int .u64 0,.string ⟨#[]⟩,.slice none 0 0,.slice none 0 0],.agg #[.int .i64 3,.int .i64 1,.int .u64 0,.string ⟨#[]⟩,.slice none 0 0,.slice none 0 0]] (by intro x hx;simp only[List.mem_cons,List.not_mem_nil,or_false] at hx;rcases hx with rfl | rfl<;>exact⟨_,_,_,_,_,_,_,_,_,_,rfl⟩) ⟨_,_,rfl,(jCF 1 0 0 ⟨#[]⟩ (by unfold jAV jAv jY;decide) _),⟨_,_,rfl,(jCF 3 1 0 ⟨#[]⟩ (by unfold jAV jAv jY;decide) _),rfl⟩⟩ (by simp)
  exact hK _ _ _ rfl ((Grew.refl _).alloc _) ⟨⟨_,rfl⟩,hbb⟩
 refine⟨?_,?_⟩
 ·intro y w2 hG hD K hK
  simp only[jR,zq4,zq5,Is,and_true] at hD
  have h0:=hD.1
  have h1:=hD.2.1
  have h2:=hD.2.2.1
  have h3:=hD.2.2.2.1
  have h4:=hD.2.2.2.2.1
  have h5:=hD.2.2.2.2.2.1
  have h6:=hD.2.2.2.2.2.2.1
  have h7:=hD.2.2.2.2.2.2.2.1
  have h8:=hD.2.2.2.2.2.2.2.2.1
  have h9:=hD.2.2.2.2.2.2.2.2.2.1
  have h10:=hD.2.2.2.2.2.2.2.2.2.2.1
  have h11:=hD.2.2.2.2.2.2.2.2.2.2.2.1
  have h12:=hD.2.2.2.2.2.2.2.2.2.2.2.2.1
  have h13:=hD.2.2.2.2.2.2.2.2.2.2.2.2.2.1
  have h14:=hD.2.2.2.2.2.2.2.2.2.2.2.2.2.2.1
  have h15:=hD.2.2.2.2.2.2.2.2.2.2.2.2.2.2.2.1
  have h16:=hD.2.2.2.2.2.2.2.2.2.2.2.2.2.2.2.2.1
  have h17:=hD.2.2.2.2.2.2.2.2.2.2.2.2.2.2.2.2.2
  clear hD
  generalize hA:jB y _ _=A at hK⊢
  simp only[jB,Act.put,zq1,zq2,zq3,zq4,zq5,Is] at hA
  subst hA
  simp only[h0,h1,h2,h3,h5,h6,h9,h10,h11,h12,h13,h15,h16] at hK⊢
  clear h0 h1 h2 h3 h5 h6 h9 h10 h11 h12 h13 h15 h16
  refine jG ?_
  obtain⟨⟨gq,eq⟩,hq⟩:=h14
  obtain⟨⟨gr,er⟩,hr⟩:=h17
  rw[eq] at hq
  rw[er] at hr
  simp only[eq,er] at hK⊢
  go_simp
  refine (jF2 _ _ _ _ _ _ _).mono ?_
  rintro r w3 ⟨rfl,hg3⟩
  exact hK _ _ _ rfl hg3 (jJz (Ss.st _ _ _ _ hg3 hq) (Rn.st _ _ _ _ hg3 hr))
 refine⟨zsh,?_⟩
 refine⟨?_,?_⟩
 ·intro y w2 hG hD K hK
  simp only[jR,zq4,zq5,Is,and_true] at hD
  have h0:=hD.1
  have h1:=hD.2.1
  have h2:=hD.2.2.1
  have h3:=hD.2.2.2.1
  have h4:=hD.2.2.2.2.1
  have h5:=hD.2.2.2.2.2.1
  have h6:=hD.2.2.2.2.2.2.1
  have h7:=hD.2.2.2.2.2.2.2.1
  have h8:=hD.2.2.2.2.2.2.2.2.1
  have h9:=hD.2.2.2.2.2.2.2.2.2.1
  have h10:=hD.2.2.2.2.2.2.2.2.2.2.1
  have h11:=hD.2.2.2.2.2.2.2.2.2.2.2.1
  have h12:=hD.2.2.2.2.2.2.2.2.2.2.2.2.1
  have h13:=hD.2.2.2.2.2.2.2.2.2.2.2.2.2.1
  have h14:=hD.2.2.2.2.2.2.2.2.2.2.2.2.2.2.1
  have h15:=hD.2.2.2.2.2.2.2.2.2.2.2.2.2.2.2.1
  have h16:=hD.2.2.2.2.2.2.2.2.2.2.2.2.2.2.2.2.1
  have h17:=hD.2.2.2.2.2.2.2.2.2.2.2.2.2.2.2.2.2.1
  have h18:=hD.2.2.2.2.2.2.2.2.2.2.2.2.2.2.2.2.2.2.1
  have h19:=hD.2.2.2.2.2.2.2.2.2.2.2.2.2.2.2.2.2.2.2
  clear hD
  generalize hA:jB y _ _=A at hK⊢
  simp only[jB,Act.put,zq1,zq2,zq3,zq4,zq5,Is] at hA
  subst hA
  simp only[h0,h1,h2,h3,h5,h6,h9,h10,h11,h12,h13,h15,h16,h19] at hK⊢
  clear h0 h1 h2 h3 h5 h6 h9 h10 h11 h12 h13 h15 h16 h19
  refine jG ?_
  go_simp
  refine (jBx 0 (.mk 17 0 0 ⟨#[]⟩ [⟨#[97]⟩,⟨#[98]⟩] [(.mk 1 0 0 ⟨#[]⟩ [] []),(.mk 3 1 0 ⟨#[]⟩ [] [])]) _ ⟨#[97,0,98,0,2,5,4,2,1,2,0,1,0,4,4,36,1]⟩ w2 h18 (by decide) (by decide) w20_c).mono ?_
  rintro r w3 ⟨rfl,hg3⟩
  exact hK _ _ _ rfl hg3 rfl
 refine⟨zsh,zsh,?_⟩
 trivial
def jDB {α:Type} (l:List α) (b:Nat):List α:=l.drop (b % l.length)++l.take (b % l.length)
theorem jHU {α:Type} (l:List α) (b:Nat):(jDB l b).length=l.length:=by
 unfold jDB
 rw[List.length_append,List.length_drop,List.length_take]
 by_cases h:l.length=0
 ·omega
 ·have:=Nat.mod_lt b (Nat.pos_of_ne_zero h);omega
theorem mem_rot {α:Type} {l:List α} {b:Nat} {x:α} (h:x∈jDB l b):x∈l:=by
 unfold jDB at h
 rcases List.mem_append.1 h with h|h
 ·exact List.mem_of_mem_drop h
 ·exact List.mem_of_mem_take h
theorem jMT {α:Type} (l:List α) (b i:Nat) (h:i < l.length):(jDB l b)[i]? = l[(i+b) % l.length]? := by
 have hm:=Nat.mod_lt b (Nat.lt_of_le_of_lt (Nat.zero_le i) h)
 have hb:(i+b) % l.length=(i+b % l.length) % l.length:=by simp
 unfold jDB
 rw[hb]
 generalize b % l.length=q at *
 rw[List.getElem?_append,List.length_drop]
 by_cases hi:i+q < l.length
 ·rw[Nat.mod_eq_of_lt hi,if_pos (by omega),List.getElem?_drop,Nat.add_comm]
 ·rw[Nat.mod_eq_sub_mod (by omega),Nat.mod_eq_of_lt (by omega),if_neg (by omega),List.getElem?_take,if_pos (by omega)]
  congr 1
  omega
mutual
def jAm:Tr→Nat→Tr
 | .mk k n u s keys l,b=>if k=17∧keys.length=l.length then .mk k n u s (jDB keys b) (jDB (jD2 l b) b) else .mk k n u s [] (jD2 l b)
def jD2:List Tr→Nat→List Tr
 | [],_=>[]
 | t::r,b=>jAm t b::jD2 r b
end
theorem jCD (b:Nat):∀l:List Tr,jD2 l b=l.map fun t=>jAm t b
 | []=>rfl
 | t::r=>by simp only[jD2,List.map_cons];rw[jCD b r]
theorem jBy (l:List Tr) (b:Nat):(jD2 l b).length=l.length:=by rw[jCD,List.length_map]
theorem jIf (l:List Tr) (b i:Nat) {x:Tr} (h:l[i]? = some x):(jD2 l b)[i]? = some (jAm x b):=by rw[jCD,List.getElem?_map,h];rfl
def TG (R:Nat→Prop) (W w:World) (kv lv:Value) (ss:List ByteArray) (ts:List Tr):Prop:=
 ∃vs S,OwnS w W.heap.size kv ss∧OwnN w W.heap.size lv vs∧KidsO w W.heap.size ts vs S∧(∀q,S q→W.heap.size≤q∧q < w.heap.size∧lv.ownBlock≠some q∧kv.ownBlock≠some q)∧(∀q,kv.ownBlock=some q→lv.ownBlock≠some q)∧Moved R W w
theorem TG.start (R:Nat→Prop) (W:World):TG R W W (.slice none 0 0) (.slice none 0 0) [] []:=
 ⟨[],fun _=>False,OwnS.nil _ _,OwnN.nil _ _,rfl,fun _ h=>h.elim,fun _ h=>(by cases h),Moved.refl _ _⟩
theorem TG.key {W wr w2 w5:World} {g:Nat} {kv lv v':Value} {ss l2:List ByteArray} {ts:List Tr} (hgW:g < W.heap.size) (h:TG (fun q=>q=g) W wr kv lv ss ts) (hg:Grew wr w2)
 (hown:OwnS w5 W.heap.size v' (ss++l2)) (hgr:w2.grownBy w5 kv.ownBlock) (hn:Next w2 kv.ownBlock v'.ownBlock) (j:Nat) :
 TG (fun q=>q=g) W (w5.setCell ⟨g,j,none⟩ v') v' lv (ss++l2) ts:=by
 obtain⟨vs,S,hk,hl,h2,h3,h5,h4⟩:=h
 have hm3:Moved (fun k=>some k=kv.ownBlock) w2 w5:=Moved.of_grown hgr
 have hm4:Moved (fun k=>k=g) w5 (w5.setCell ⟨g,j,none⟩ v'):=Moved.setCell (S:=fun k=>k=g) (p:=⟨g,j,none⟩) (Moved.refl _ w5) (fun _=>rfl) _
 have hltk:∀q,kv.ownBlock=some q→W.heap.size≤q∧q < wr.heap.size:=fun q hq=>World.ownsRow.lt hk q hq
 have hltl:∀q,lv.ownBlock=some q→W.heap.size≤q∧q < wr.heap.size:=fun q hq=>World.ownsRow.lt hl.1 q hq
 have hs2:=hg.size
 have hs3:=hm3.size
 have hs4:=hm4.size
 have hWr:=h4.size
 refine⟨vs,S,Moved.owns hm4 hown (fun q hq e=>by have:=World.ownsRow.lt hown q hq;omega),⟨Moved.owns hm4 (Moved.owns hm3 (jy hl.1 hg) (fun q hq e=>h5 q e.symm hq)) (fun q hq e=>by have:=hltl q hq;omega),hl.2⟩,
  ((h2.grew hg).kept hm3 (fun q hq e=>(h3 q hq).2.2.2 e.symm)).kept hm4 (fun q hq e=>by have:=(h3 q hq).1;omega),fun q hq=>?_,fun q hq=>?_,?_⟩
 ·have hb:=h3 q hq
  refine⟨hb.1,by omega,hb.2.2.1,fun e=>?_⟩
  rcases hn q e with e|e
  ·exact hb.2.2.2 e
  ·omega
 ·rcases hn q hq with e|e
  ·exact h5 q e
  ·intro e2;have:=hltl q e2;omega
 ·exact (((h4.grew hg).trans hm3 (fun j hj e=>by have:=hltk j e.symm;omega)).trans hm4 (fun j hj e=>e))
theorem TG.kid {W wr w2 w5:World} {g:Nat} {kv lv v' xv:Value} {ss:List ByteArray} {ts:List Tr} {x:Tr} {Sx:Nat→Prop} (hgW:g < W.heap.size) (vs:List Value) (S:Nat→Prop) (hk:OwnS wr W.heap.size kv ss) (hl:OwnN wr W.heap.size lv vs) (h2:KidsO wr W.heap.size ts vs S)
 (h3:∀q,S q→W.heap.size≤q∧q < wr.heap.size∧lv.ownBlock≠some q∧kv.ownBlock≠some q) (h5:∀q,kv.ownBlock=some q→lv.ownBlock≠some q) (h4:Moved (fun q=>q=g) W wr) (hg:Grew wr w2)
 (hx:OwnT w2 wr.heap.size x xv Sx) (hSx:∀q,Sx q→wr.heap.size≤q∧q < w2.heap.size) (hown:OwnN w5 W.heap.size v' (vs++[xv])) (hgr:w2.grownBy w5 lv.ownBlock) (hn:Next w2 lv.ownBlock v'.ownBlock) (j:Nat) :
 TG (fun q=>q=g) W (w5.setCell ⟨g,j,none⟩ v') kv v' ss (ts++[x]):=by
 have hm3:Moved (fun k=>some k=lv.ownBlock) w2 w5:=Moved.of_grown hgr
 have hm4:Moved (fun k=>k=g) w5 (w5.setCell ⟨g,j,none⟩ v'):=Moved.setCell (S:=fun k=>k=g) (p:=⟨g,j,none⟩) (Moved.refl _ w5) (fun _=>rfl) _
 have hltk:∀q,kv.ownBlock=some q→W.heap.size≤q∧q < wr.heap.size:=fun q hq=>World.ownsRow.lt hk q hq
 have hlt:∀q,lv.ownBlock=some q→W.heap.size≤q∧q < wr.heap.size:=fun q hq=>World.ownsRow.lt hl.1 q hq
 have hs2:=hg.size
 have hs3:=hm3.size
 have hs4:=hm4.size
 have hWr:=h4.size
 have k1:KidsO (w5.setCell ⟨g,j,none⟩ v') W.heap.size ts vs S:=((h2.grew hg).kept hm3 (fun q hq e=>(h3 q hq).2.2.1 e.symm)).kept hm4 (fun q hq e=>by have:=(h3 q hq).1;omega)
 have k2:OwnT (w5.setCell ⟨g,j,none⟩ v') W.heap.size x xv Sx:=((hx.kept hm3 (fun q hq e=>by have:=hlt q e.symm;have:=(hSx q hq).1;omega)).kept hm4 (fun q hq e=>by have:=(hSx q hq).1;omega)).base hWr
 refine⟨vs++[xv],fun q=>S q∨Sx q,Moved.owns hm4 (Moved.owns hm3 (jy hk hg) (fun q hq e=>h5 q hq e.symm)) (fun q hq e=>by have:=hltk q hq;omega),⟨Moved.owns hm4 hown.1 (fun q hq e=>by have:=World.ownsRow.lt hown.1 q hq;omega),hown.2⟩,
  k1.app (KidsO.one k2) (fun q hq hh=>by have:=(h3 q hq).2.1;have:=(hSx q hh).1;omega),fun q hq=>?_,fun q hq=>?_,?_⟩
 ·have hb:W.heap.size≤q∧q < w2.heap.size:=by
   rcases hq with hq|hq
   ·have:=h3 q hq;omega
   ·have:=hSx q hq;omega
  refine⟨hb.1,by omega,fun e=>?_,fun e=>?_⟩
  ·rcases hn q e with e|e
   ·rcases hq with hq|hq
    ·exact (h3 q hq).2.2.1 e
    ·have:=hlt q e;have:=hSx q hq;omega
   ·omega
  ·rcases hq with hq|hq
   ·exact (h3 q hq).2.2.2 e
   ·have:=hltk q e;have:=hSx q hq;omega
 ·intro e
  rcases hn q e with e|e
  ·exact h5 q hq e
  ·have:=hltk q hq;omega
 ·exact (((h4.grew hg).trans hm3 (fun j hj e=>by have:=hlt j e.symm;omega)).trans hm4 (fun j hj e=>e))
theorem TG.kept {R T:Nat→Prop} {W w w':World} {kv lv:Value} {ss:List ByteArray} {ts:List Tr} (h:TG R W w kv lv ss ts) (hm:Moved T w w') (hT:∀g,T g→g < W.heap.size):TG (fun q=>R q∨T q) W w' kv lv ss ts:=by
 obtain⟨vs,S,hk,hl,h2,h3,h5,h4⟩:=h
 refine⟨vs,S,Moved.owns hm hk (fun g hg ht=>by have:=World.ownsRow.lt hk g hg;have:=hT g ht;omega),⟨Moved.owns hm hl.1 (fun g hg ht=>by have:=World.ownsRow.lt hl.1 g hg;have:=hT g ht;omega),hl.2⟩,h2.kept hm (fun g hg ht=>by have:=(h3 g hg).1;have:=hT g ht;omega),fun g hg=>?_,h5,(h4.mono (fun g _ hg=>.inl hg)).trans hm (fun g _ ht=>.inr ht)⟩
 have:=h3 g hg
 have:=hm.size
 exact⟨by omega,by omega,(h3 g hg).2.2⟩
theorem TG.tree {R:Nat→Prop} {w0 W w:World} {kv lv:Value} {ss:List ByteArray} {ts:List Tr} {k n u:Int} {s:ByteArray} (h:TG R W w kv lv ss ts) (hb:jAV k∧jAV n∧jAv u∧jY s.size∧∀x∈ss,jY x.size) (h0:w0.heap.size≤W.heap.size) :
 OwnT w w0.heap.size (.mk k n u s ss ts) (.agg #[.int .i64 k,.int .i64 n,.int .u64 u,.string s,kv,lv]) (jA6 w0 w):=by
 obtain⟨vs,S,hk,hl,h2,h3,h5,h4⟩:=h
 simp only[OwnT]
 refine⟨hb,kv,lv,vs,S,rfl,jAQ hk h0,⟨jAQ hl.1 h0,hl.2⟩,fun g hg=>⟨?_,fun hs=>(h3 g hs).2.2.2 hg⟩,fun g hg=>⟨?_,fun hs=>(h3 g hs).2.2.1 hg⟩,h5,fun g hg=>?_,h2.base h0⟩
 ·have:=World.ownsRow.lt hk g hg;exact⟨by omega,this.2⟩
 ·have:=World.ownsRow.lt hl.1 g hg;exact⟨by omega,this.2⟩
 ·have:=h3 g hg;exact⟨by omega,this.2.1⟩
def TI (W wr:World) (g:Nat) (k n u:Int) (s:ByteArray) (KS:List ByteArray) (LS:List Tr) (kn kk:Nat):Prop:=
 ∃ka kc a c,wr.heap[g]? = some (.cells #[.int .i64 k,.int .i64 n,.int .u64 u,.string s,.slice ka kn kc,.slice a kk c] 26 (0,0))∧TG (fun e=>e=g) W wr (.slice ka kn kc) (.slice a kk c) (KS.take kn) (LS.take kk)
theorem zkids {p:Prop} (h:p:=by
 refine jr Grew 10 [[],[0],[],[2],[],[2,3,4],[2,3,4,5],[],[2,3,4,5,6,7],[2,3,4,5,6,7,8],[0,1,2,3,4,5,6,7,8,9],[0,1,2,3,4,5,6,7,8,9,10],[0,1,2,3,4,5,6,7,8,9,10,11]] [[(56,2),(57,3),(58,4),(59,5),(60,6),(61,7),(62,8),(63,9)],[(54,0),(56,2),(57,3),(58,4),(59,5),(60,6),(61,7),(62,8),(63,9)],[(54,0),(55,1),(58,4),(61,7)],[(54,0),(55,1),(56,2),(58,4),(61,7)],[(54,0),(55,1),(56,2),(57,3),(61,7)],[(54,0),(55,1),(56,2),(57,3),(58,4),(61,7)],[(54,0),(55,1),(56,2),(57,3),(58,4),(59,5),(61,7)],[(54,0),(55,1),(56,2),(57,3),(58,4),(59,5),(60,6)],[(54,0),(55,1),(56,2),(57,3),(58,4),(59,5),(60,6),(61,7)],[(54,0),(55,1),(56,2),(57,3),(58,4),(59,5),(60,6),(61,7),(62,8)],[(54,0),(55,1),(56,2),(57,3),(58,4),(59,5),(60,6),(61,7),(62,8),(63,9)],[(54,0),(55,1),(56,2),(57,3),(58,4),(59,5),(60,6),(61,7),(62,8),(63,9),(64,10)],[(54,0),(55,1),(56,2),(57,3),(58,4),(59,5),(60,6),(61,7),(62,8),(63,9),(64,10),(65,11)]] [(54,0),(55,1),(56,2),(57,3),(58,4),(59,5),(60,6),(61,7),(62,8),(63,9)]
  [Is (.pointer (some ⟨g,5,none⟩)),Is (.slice ga kk gc),Is (.pointer (some ⟨N,5,none⟩)),Is (.slice (some ⟨bb,off,none⟩) l.length c5),Is (.int .i64 (j:Int)),Is (.pointer (some ⟨bb,off+j*6,none⟩)),Is (.agg #[.int .i64 xk,.int .i64 xn,.int .u64 xu,.string xs,.slice xa4 xn4 xc4,.slice xa5 xn5 xc5]),Is (.int .i64 (b:Int)),fun v w=>∃Sx,OwnT w wr.heap.size (jAm x b) v Sx∧∀q,Sx q→wr.heap.size≤q∧q < w.heap.size,fun v w=>∃h xv Sx,v=.slice (some ⟨h,0,none⟩) 1 1∧w.heap[h]? = some (rowN xv)∧OwnT w wr.heap.size (jAm x b) xv Sx∧∀q,Sx q→wr.heap.size≤q∧q < w.heap.size]
  zk Grew.trans Grew.refl (Grew.refl _).drew zk ⟨jI,jI,jI,jI,jI,jI,jI,jI,fun v w w' hg ⟨Sx,h,hb⟩=>⟨Sx,h.grew hg,fun q hq=>⟨(hb q hq).1,Nat.lt_of_lt_of_le (hb q hq).2 hg.size⟩⟩,fun v w w' hg ⟨h',xv,Sx,e,hr,h,hb⟩=>⟨h',xv,Sx,e,hg.heap hr,h.grew hg,fun q hq=>⟨(hb q hq).1,Nat.lt_of_lt_of_le (hb q hq).2 hg.size⟩⟩,trivial⟩ rfl ?_ ?_
 rotate_left
 ·intro y wk hG hF
  simp only[j9,Is,and_true,Nat.reduceAdd] at hF
  have h0:=hF.1
  have h1:=hF.2.1
  have h2:=hF.2.2.1
  have h3:=hF.2.2.2.1
  have h4:=hF.2.2.2.2.1
  have h5:=hF.2.2.2.2.2.1
  have h6:=hF.2.2.2.2.2.2.1
  have h7:=hF.2.2.2.2.2.2.2.1
  have h8:=hF.2.2.2.2.2.2.2.2.1
  have h9:=hF.2.2.2.2.2.2.2.2.2
  clear hF
  simp only[jB,Act.put,zq1,zq2,zq3,zq4,zq5,List.drop_succ_cons,List.drop_zero]
  simp only[h0,h1,h2,h3,h4,h5,h6,h7]
  clear h0 h1 h2 h3 h4 h5 h6 h7
  obtain⟨h,yv,Sx,hs9,hrh,hox,hSx⟩:=h9
  rw[hs9]
  clear hs9 h8
  obtain⟨vs4,S4,q0,q1,q2,q3,q5,q4⟩:=HTG.out
  have hl4:vs4.length=kk:=by rw[q2.length,List.length_take,HLL.out];omega
  refine jCc rfl _ _ rfl w3.heap.size _ vs4 rfl (q1.grew hG) h 1 yv rfl hrh hox.node6 (by omega) (Nat.le_trans q4.size hG.size) ?_
  intro v' w6 hown5 hgr5 hnx5
  obtain⟨va3,vc3,hv5,_,_,_⟩:=jM hown5.1
  rw[List.length_append,hl4] at hv5
  simp only[List.length_cons,List.length_nil,Nat.zero_add] at hv5
  rw[hv5] at hown5 hnx5⊢
  have hbl:∀e,(Value.slice ga kk gc).ownBlock=some e→e≠g:=fun e he=>by have:=World.ownsRow.lt q1.1 e he;have:=HG3'.out;omega
  have hrow5:=(Moved.of_grown hgr5).heap (hG.heap HROWG.out) (fun e=>hbl g e.symm rfl)
  have HROW5:=zh hrow5
  have hf5:=jC hrow5 5
  have hc5:=jA hrow5 5 _ rfl
  have HREL:Hid (TI w3 (w6.setCell ⟨g,5,none⟩ (.slice va3 (kk+1) vc3)) g k n u s KS LS kn2 (kk+1)):=by
   refine⟨ka2,kc2,va3,vc3,?_,?_⟩
   ·have:=heap_setCell_same w6 g 5 _ _ (.slice va3 (kk+1) vc3) HROW5.out
    simpa using this
   ·rw[← HX.out]
    exact TG.kid HG3'.out vs4 S4 q0 q1 q2 q3 q5 q4 hG hox hSx hown5 hgr5 hnx5 5
  clear q0 q1 q2 q3 q4 q5 hown5 hgr5 hnx5 hrow5 hbl hv5 hl4 hox hSx hrh e0 e1 e2 e3 e4 e5 r5 b5 hG
  go_wp2_with fail
  go_roundw
  case rel=>exact⟨kk+1,by omega,by go_num,HFIX.out _ HREL.out⟩
  case measure=>simp[intOf];omega
 refine⟨?_,?_⟩
 ·intro y wk hG hD K hK
  simp only[jB,Act.put,zq1,zq2,zq3,zq4,zq5,Is] at hK⊢
  refine jG ?_
  go_simp
  exact hK _ _ _ rfl (Grew.refl _) rfl
 refine⟨?_,?_⟩
 ·intro y wk hG hD K hK
  simp only[jR,zq4,zq5,Is,and_true] at hD
  have h0:=hD
  clear hD
  have dr5:=hG.cell r5
  simp only[jB,Act.put,zq1,zq2,zq3,zq4,zq5,Is] at hK⊢
  simp only[h0] at hK⊢
  clear h0
  refine jG ?_
  go_simp
  exact hK _ _ _ rfl (Grew.refl _) rfl
 refine⟨?_,?_⟩
 ·intro y wk hG hD K hK
  simp only[jB,Act.put,zq1,zq2,zq3,zq4,zq5,Is] at hK⊢
  refine jG ?_
  go_simp
  exact hK _ _ _ rfl (Grew.refl _) rfl
 refine⟨?_,?_⟩
 ·intro y wk hG hD K hK
  simp only[jR,zq4,zq5,Is,and_true] at hD
  have h2:=hD
  clear hD
  have db5:=hG.cell b5
  simp only[jB,Act.put,zq1,zq2,zq3,zq4,zq5,Is] at hK⊢
  simp only[h2] at hK⊢
  clear h2
  refine jG ?_
  go_simp
  exact hK _ _ _ rfl (Grew.refl _) rfl
 refine⟨?_,?_⟩
 ·intro y wk hG hD K hK
  simp only[jB,Act.put,zq1,zq2,zq3,zq4,zq5,Is] at hK⊢
  refine jG ?_
  go_simp
  exact hK _ _ _ rfl (Grew.refl _) HJ4.out
 refine⟨?_,?_⟩
 ·intro y wk hG hD K hK
  simp only[jR,zq4,zq5,Is,and_true] at hD
  have h2:=hD.1
  have h3:=hD.2.1
  have h4:=hD.2.2
  clear hD
  simp only[jB,Act.put,zq1,zq2,zq3,zq4,zq5,Is] at hK⊢
  simp only[h2,h3,h4] at hK⊢
  clear h2 h3 h4
  refine jG ?_
  go_simp
  exact hK _ _ _ rfl (Grew.refl _) rfl
 refine⟨?_,?_⟩
 ·intro y wk hG hD K hK
  simp only[jR,zq4,zq5,Is,and_true] at hD
  have h2:=hD.1
  have h3:=hD.2.1
  have h4:=hD.2.2.1
  have h5:=hD.2.2.2
  clear hD
  have de0:=hG.cell e0
  have de1:=hG.cell e1
  have de2:=hG.cell e2
  have de3:=hG.cell e3
  have de4:=hG.cell e4
  have de5:=hG.cell e5
  simp only[jB,Act.put,zq1,zq2,zq3,zq4,zq5,Is] at hK⊢
  simp only[h2,h3,h4,h5] at hK⊢
  clear h2 h3 h4 h5
  refine jG ?_
  go_simp
  exact hK _ _ _ rfl (Grew.refl _) rfl
 refine⟨?_,?_⟩
 ·intro y wk hG hD K hK
  simp only[jB,Act.put,zq1,zq2,zq3,zq4,zq5,Is] at hK⊢
  refine jG ?_
  go_simp
  exact hK _ _ _ rfl (Grew.refl _) rfl
 refine⟨?_,?_⟩
 ·intro y wk hG hD K hK
  simp only[jR,zq4,zq5,Is,and_true] at hD
  have h2:=hD.1
  have h3:=hD.2.1
  have h4:=hD.2.2.1
  have h5:=hD.2.2.2.1
  have h6:=hD.2.2.2.2.1
  have h7:=hD.2.2.2.2.2
  clear hD
  simp only[jB,Act.put,zq1,zq2,zq3,zq4,zq5,Is] at hK⊢
  simp only[h2,h3,h4,h5,h6,h7] at hK⊢
  clear h2 h3 h4 h5 h6 h7
  refine jG ?_
  go_simp
  refine (HIH.out x HXS.out b _ wk (hcall.out wk (HGW.out.trans hG)) HFX.out hb0).mono ?_
  rintro r w4 ⟨yv,rfl,hox,hg4⟩
  exact hK _ _ _ rfl hg4 ⟨_,hox.base hG.size,fun q hq=>⟨Nat.le_trans hG.size hq.1,hq.2⟩⟩
 refine⟨?_,?_⟩
 ·intro y wk hG hD K hK
  simp only[jR,zq4,zq5,Is,and_true] at hD
  have h2:=hD.1
  have h3:=hD.2.1
  have h4:=hD.2.2.1
  have h5:=hD.2.2.2.1
  have h6:=hD.2.2.2.2.1
  have h7:=hD.2.2.2.2.2.1
  have h8:=hD.2.2.2.2.2.2
  clear hD
  simp only[jB,Act.put,zq1,zq2,zq3,zq4,zq5,Is] at hK⊢
  simp only[h2,h3,h4,h5,h6,h7] at hK⊢
  clear h2 h3 h4 h5 h6 h7
  refine jG ?_
  obtain⟨Sx,ho,hb⟩:=h8
  obtain⟨rk,rn,ru,rs,ra4,rn4,rc4,ra5,rn5,rc5,e⟩:=ho.node6
  rw[e] at hK ho⊢
  go_simp
  exact hK _ _ _ rfl ((Grew.refl _).alloc _) ⟨_,_,_,rfl,heap_alloc_new _ _,ho.grew ((Grew.refl _).alloc _),fun q hq=>⟨(hb q hq).1,Nat.lt_of_lt_of_le (hb q hq).2 ((Grew.refl wk).alloc _).size⟩⟩
 trivial):p:=h
theorem jLz:∀(m:Nat) (t:Tr),t.size≤m→∀(b:Nat) (v:Value) (w:World),NodeAt w t v→Few t→b≤100000 →
 Calls Tryz.prog 15 #[v,.int .i64 b] w fun r w'=>∃v',r=.returned v'∧OwnT w' w.heap.size (jAm t b) v' (jA6 w w')∧Grew w w':=by
 intro m
 induction m with
 | zero=>intro t ht;have:=t.size_pos;omega
 | succ m ih=>
 intro t ht b v w hn hf hb0
 obtain⟨k,n,u,s,keys,l⟩:=t
 simp only[NodeAt] at hn
 obtain⟨hb,kv,lv,vs,rfl,hks,hrows,hkids⟩:=hn
 simp only[Few] at hf
 obtain⟨hf1,hf2,hf3⟩:=hf
 have hkl:vs.length=l.length:=hkids.length
 have HKS:=zh hks
 have HK:=zh hkids
 have HF3:=zh hf3
 have HB:=zh hb
 obtain⟨a4,c4,rfl,hx1,hx2,hx3,hx4⟩:=hks
 clear hx1 hx2 hx3 hx4
 have HROWS:=zh hrows
 obtain⟨a5,c5,rfl,hx1,hc5,hx3,hx4⟩:=hrows
 clear hx1 hx3 hx4
 rw[hkl] at HROWS⊢
 have hkz:Hid (∀x∈keys,jY x.size):=fun x hx=>by
  obtain⟨_,_,_,_,_,_,h⟩:=HKS.out
  obtain⟨i,hi,rfl⟩:=List.mem_iff_getElem.1 hx
  exact (h i _ (List.getElem?_eq_getElem hi)).1
 have hsz:∀x∈l,x.size≤m:=fun x hx=>by have:=jAN hx;simp only[Tr.size] at ht;omega
 have HSZ:=zh hsz
 clear hkids hf3 hb hsz ht hkl hc5
 have hll:l.length≤4096:=by omega
 have hkl4:keys.length≤4096:=by omega
 have HIH:=zh ih
 clear ih
 go_enter Tryz.func15,Tryz.ntmps15
 go_upto_region 1 with fail
 have hb1:=heap_alloc_new w (.cells #[.int .i64 k,.int .i64 n,.int .u64 u,.string s,.slice a4 keys.length c4,.slice a5 l.length c5] 26)
 have hg1:=(Grew.refl w).alloc (.cells #[.int .i64 k,.int .i64 n,.int .u64 u,.string s,.slice a4 keys.length c4,.slice a5 l.length c5] 26)
 have hs1:(w.alloc (.cells #[.int .i64 k,.int .i64 n,.int .u64 u,.string s,.slice a4 keys.length c4,.slice a5 l.length c5] 26)).heap.size=w.heap.size+1:=World.size_alloc _ _
 generalize (w.alloc (.cells #[.int .i64 k,.int .i64 n,.int .u64 u,.string s,.slice a4 keys.length c4,.slice a5 l.length c5] 26))=w1 at *
 have hb2:=heap_alloc_new w1 (.cells #[.int .i64 0,.int .i64 0,.int .u64 0,.string ⟨#[]⟩,.slice none 0 0,.slice none 0 0] 26)
 have hg2:=(Grew.refl w1).alloc (.cells #[.int .i64 0,.int .i64 0,.int .u64 0,.string ⟨#[]⟩,.slice none 0 0,.slice none 0 0] 26)
 have hs2:(w1.alloc (.cells #[.int .i64 0,.int .i64 0,.int .u64 0,.string ⟨#[]⟩,.slice none 0 0,.slice none 0 0] 26)).heap.size=w1.heap.size+1:=World.size_alloc _ _
 rw[hs1] at hb2 hs2
 skip
 generalize (w1.alloc (.cells #[.int .i64 0,.int .i64 0,.int .u64 0,.string ⟨#[]⟩,.slice none 0 0,.slice none 0 0] 26))=w2 at *
 replace hb1:=hg2.heap hb1
 have hG:=hg1.trans hg2
 have hs2':w2.heap.size=w.heap.size+2:=by omega
 obtain⟨N,hN⟩:∃N,w.heap.size=N:=⟨_,rfl⟩
 rw[hN] at hb1 hb2 hs2'⊢
 have hB2:Hid (N+2≤w2.heap.size):=by show _≤_;omega
 have c0:=jA hb1 0 _ rfl
 have c1:=jA hb1 1 _ rfl
 have c2:=jA hb1 2 _ rfl
 have c3:=jA hb1 3 _ rfl
 have c4':=jA hb1 4 _ rfl
 have HB1:=zh hb1
 have HB2:=zh hb2
 have HG:=zh hG
 have HS2:=zh hs2'
 have HN:=zh hN
 clear hb1 hb2 hG hs1 hs2 hs2' hg1 hg2 hN
 go_upto_region 2 with fail
 obtain⟨g,hgg⟩:∃g,w2.heap.size=g:=⟨_,rfl⟩
 have hrow:=heap_alloc_new w2 (.cells #[.int .i64 k,.int .i64 n,.int .u64 u,.string s,.slice none 0 0,.slice none 0 0] 26)
 have hgA:=(Grew.refl w2).alloc (.cells #[.int .i64 k,.int .i64 n,.int .u64 u,.string s,.slice none 0 0,.slice none 0 0] 26)
 have hsA:(w2.alloc (.cells #[.int .i64 k,.int .i64 n,.int .u64 u,.string s,.slice none 0 0,.slice none 0 0] 26)).heap.size=w2.heap.size+1:=World.size_alloc _ _
 generalize (w2.alloc (.cells #[.int .i64 k,.int .i64 n,.int .u64 u,.string s,.slice none 0 0,.slice none 0 0] 26))=w3 at *
 rw[hgg] at hrow hsA⊢
 have hgN:Hid (g=N+2):=by show _=_;have:=HS2.out;have:=HN.out;omega
 have HS3:Hid (w3.heap.size=N+3):=by show _=_;have:=HS2.out;have:=HN.out;omega
 have HROW:=zh hrow
 have HB1':=zh (hgA.heap HB1.out)
 have HB2':=zh (hgA.heap HB2.out)
 have HG3:=zh (HG.out.trans hgA)
 clear hrow hgA hsA hgg HB1 HB2 HG HS2 hB2 c0 c1 c2 c3 c4'
 by_cases hm:k=17∧keys.length=l.length
 ·obtain⟨hk17,hlk⟩:=hm
  have hkb:(k == 17)=true:=by simpa using hk17
  obtain⟨KS,hKS⟩:∃KS,jDB keys b=KS:=⟨_,rfl⟩
  obtain⟨LS,hLS⟩:∃LS,jDB (jD2 l b) b=LS:=⟨_,rfl⟩
  have HT:Hid (jAm (.mk k n u s keys l) b=.mk k n u s KS LS):=by show _=_;rw[jAm,if_pos ⟨hk17,hlk⟩,hKS,hLS]
  clear hk17
  have HKL:Hid (KS.length=l.length):=by show _=_;rw[← hKS,jHU,hlk]
  have HLL:Hid (LS.length=l.length):=by show _=_;rw[← hLS,jHU,jBy]
  have HKZ:Hid (∀x∈KS,jY x.size):=fun x hx=>hkz.out x (mem_rot (hKS ▸ hx))
  go_wp2_with fail
  go_loopw [6] (fun i wr=>∃kk:Nat,kk≤l.length∧i=.int .i64 kk∧Hid (TI w3 wr g k n u s KS LS kk kk)) (fun i _=>l.length - (intOf i).toNat)
  case atStart=>exact⟨0,Nat.zero_le _,rfl,none,0,none,0,HROW.out,by simpa using TG.start _ _⟩
  case round=>
   obtain⟨kk,hkk,rfl,HW⟩:=hrel
   obtain⟨ka,kc,ga,gc,hrowg,htg⟩:=HW.out
   have hg3:g < w3.heap.size:=(Array.getElem?_eq_some_iff.1 HROW.out).1
   have hmv:Moved (fun e=>e=g) w3 wr:=by obtain⟨_,_,_,_,_,_,_,h⟩:=htg;exact h
   have HGW:Hid (Grew w wr):=Moved.fresh HG3.out hmv (fun e h=>by have:=HN.out;have:=hgN.out;omega)
   have HROWG:=zh hrowg
   have HBX:Hid (wr.heap[N]? = _):=Moved.heap hmv HB1'.out (fun e=>by have:=hgN.out;omega)
   have HRX:Hid (wr.heap[N+1]? = _):=Moved.heap hmv HB2'.out (fun e=>by have:=hgN.out;omega)
   have HTG:=zh htg
   have HG3':Hid (g < w3.heap.size):=hg3
   have HMS:Hid (w3.heap.size≤wr.heap.size):=hmv.size
   have b0:=jA HBX.out 0 _ rfl
   have b4:=jA HBX.out 4 _ rfl
   have b5:=jA HBX.out 5 _ rfl
   clear hrowg htg hg3 hmv HW
   by_cases hlt:kk < l.length
   ·have hlti:(kk:Int) < l.length:=by omega
    obtain⟨j,hj⟩:∃j,(kk+b) % l.length=j:=⟨_,rfl⟩
    have hjl:j < l.length:=by rw[← hj];exact Nat.mod_lt _ (by omega)
    have hjli:(j:Int) < l.length:=by omega
    have hwa:IntKind.i64.wrap ((kk:Int)+(b:Int))=(kk:Int)+(b:Int):=by rw[IntKind.wrap_i64];omega
    have hq:((kk:Int)+(b:Int)) % (l.length:Int)=(j:Int):=by rw[← hj,Int.natCast_emod,Int.natCast_add]
    obtain⟨x,hx⟩:∃x,l[j]? = some x:=⟨_,List.getElem?_eq_getElem hjl⟩
    obtain⟨xv,hxv,hnx⟩:=HK.out.get hx
    have hxm:x∈l:=List.mem_of_getElem? hx
    have HFX:=zh (HF3.out.mem hxm)
    have HXS:=zh (HSZ.out x hxm)
    have hcall:Hid (∀w',Grew w w'→NodeAt w' x xv):=fun w' hg=>hnx.grew hg
    obtain⟨bb,off,rfl,hcell⟩:∃bb off,a5=some ⟨bb,off,none⟩∧Hid (∀w',Grew w w'→Cells6 w' bb (off+j*6) xv):=by
     obtain⟨a,c,e,_,_,_,h⟩:=HROWS.out
     injection e with e1 e2 e3
     subst e1
     obtain⟨b,off,e,h6⟩:=h j xv hxv
     exact⟨b,off,e,fun w' hg=>h6.grew hg⟩
    obtain⟨xk,xn,xu,xs,xa4,xn4,xc4,xa5,xn5,xc5,rfl⟩:=hnx.node6
    obtain⟨e0,e1,e2,e3,e4,e5⟩:=(hcell.out wr HGW.out).get
    have HX:=zh (show LS.take kk++[jAm x b]=LS.take (kk+1) by rw[List.take_add_one,← hLS,jMT _ _ _ (by rw[jBy];exact hlt),jBy,hj,jIf l b j hx];rfl)
    have hjk:j < keys.length:=by omega
    have hjki:(j:Int) < keys.length:=by omega
    obtain⟨ky,hky⟩:∃ky,keys[j]? = some ky:=⟨_,List.getElem?_eq_getElem hjk⟩
    have HKX:=zh (show KS.take kk++[ky]=KS.take (kk+1) by rw[List.take_add_one,← hKS,jMT _ _ _ (by omega),hlk,hj,hky];rfl)
    obtain⟨kb,ko,rfl,ek⟩:∃kb ko,a4=some ⟨kb,ko,none⟩∧wr.cell? ⟨kb,ko+j,none⟩=some (.string ky):=by
     obtain⟨a,c,e,_,_,_,h⟩:=HKS.out
     injection e with e1 e2 e3
     subst e1
     obtain⟨_,b,off,e,h6⟩:=h j ky hky
     exact⟨b,off,e,HGW.out.cell h6⟩
    have hkyz:Hid (jY ky.size):=hkz.out ky (List.mem_of_getElem? hky)
    clear hky hj
    clear hx hxv hnx hxm
    have r4:=jA HROWG.out 4 _ rfl
    have r5:=jA HROWG.out 5 _ rfl
    go_wp2_with fail
    rw[hq]
    have HLK:=zh hlk
    clear hlk hq hwa
    refine jr Grew 8 [[],[0],[],[2],[],[2,3,4],[2,3,4,5],[2,3,4,5,6],[0,1,2,3,4,5,6,7],[0,1,2,3,4,5,6,7,8],[0,1,2,3,4,5,6,7,8,9]] [[(46,2),(47,3),(48,4),(49,5),(50,6),(51,7)],[(44,0),(46,2),(47,3),(48,4),(49,5),(50,6),(51,7)],[(44,0),(45,1),(48,4)],[(44,0),(45,1),(46,2),(48,4)],[(44,0),(45,1),(46,2),(47,3)],[(44,0),(45,1),(46,2),(47,3),(48,4)],[(44,0),(45,1),(46,2),(47,3),(48,4),(49,5)],[(44,0),(45,1),(46,2),(47,3),(48,4),(49,5),(50,6)],[(44,0),(45,1),(46,2),(47,3),(48,4),(49,5),(50,6),(51,7)],[(44,0),(45,1),(46,2),(47,3),(48,4),(49,5),(50,6),(51,7),(52,8)],[(44,0),(45,1),(46,2),(47,3),(48,4),(49,5),(50,6),(51,7),(52,8),(53,9)]] [(44,0),(45,1),(46,2),(47,3),(48,4),(49,5),(50,6),(51,7)]
     [Is (.pointer (some ⟨g,4,none⟩)),Is (.slice ka kk kc),Is (.pointer (some ⟨N,4,none⟩)),Is (.slice (some ⟨kb,ko,none⟩) keys.length c4),Is (.int .i64 (j:Int)),Is (.pointer (some ⟨kb,ko+j,none⟩)),Is (.string ky),fun v w=>(∃h,v=.slice (some ⟨h,0,none⟩) 1 1)∧TxtsAt w v [ky]]
     zk Grew.trans Grew.refl (Grew.refl _).drew zk ⟨jI,jI,jI,jI,jI,jI,jI,fun v w w' hg ⟨h,q⟩=>⟨h,TxtsAt.grew q hg⟩,trivial⟩ rfl ?_ ?_
    rotate_left
    ·intro y wq hG hF
     simp only[j9,Is,and_true,Nat.reduceAdd] at hF
     have h0:=hF.1
     have h1:=hF.2.1
     have h2:=hF.2.2.1
     have h3:=hF.2.2.2.1
     have h4:=hF.2.2.2.2.1
     have h5:=hF.2.2.2.2.2.1
     have h6:=hF.2.2.2.2.2.2.1
     have h7:=hF.2.2.2.2.2.2.2
     clear hF
     simp only[jB,Act.put,zq1,zq2,zq3,zq4,zq5,List.drop_succ_cons,List.drop_zero]
     simp only[h0,h1,h2,h3,h4,h5,h6]
     clear h0 h1 h2 h3 h4 h5 h6
     obtain⟨⟨h,hs7⟩,ht7⟩:=h7
     rw[hs7] at ht7⊢
     have hko:OwnS wr w3.heap.size (.slice ka kk kc) (KS.take kk):=by obtain⟨_,_,h,_⟩:=HTG.out;exact h
     have hkl5:(KS.take kk).length=kk:=by rw[List.length_take,HKL.out];omega
     refine jBL rfl _ _ rfl w3.heap.size _ (KS.take kk) rfl (OwnS.grew hko hG) _ [ky] rfl ht7 (by rw[hkl5];simp;omega) (Nat.le_trans HMS.out hG.size) ?_
     intro v' w5 hown5 hgr5 hnx5
     obtain⟨ka2,kc2,hv5,_,_,_⟩:=jM hown5
     rw[List.length_append,hkl5] at hv5
     simp only[List.length_cons,List.length_nil,Nat.zero_add] at hv5
     rw[hv5] at hown5 hnx5⊢
     have hbl:∀e,(Value.slice ka kk kc).ownBlock=some e→e≠g:=fun e he=>by have:=World.ownsRow.lt hko e he;have:=HG3'.out;omega
     have hrow5:=(Moved.of_grown hgr5).heap (hG.heap HROWG.out) (fun e=>hbl g e.symm rfl)
     have htg5:=TG.key HG3'.out HTG.out hG hown5 hgr5 hnx5 4
     rw[HKX.out] at htg5
     have hrow6:=heap_setCell_same w5 g 4 _ _ (.slice ka2 (kk+1) kc2) hrow5
     replace hrow6:(w5.setCell ⟨g,4,none⟩ (.slice ka2 (kk+1) kc2)).heap[g]? = some (.cells #[.int .i64 k,.int .i64 n,.int .u64 u,.string s,.slice ka2 (kk+1) kc2,.slice ga kk gc] 26 (0,0)):=by simpa using hrow6
     have f4:=jC hrow5 4
     have cx:=jA hrow5 4 _ rfl
     have HTG5:=zh htg5
     have HROW6:=zh hrow6
     clear htg5 hrow6 hrow5 hown5 hgr5 hnx5 hbl hv5 hkl5 hko ht7 hs7 e0 e1 e2 e3 e4 e5 r4 r5 b0 b4 b5 ek hG HGW HTG HROWG HBX HRX HMS
     go_wp2_with fail
     clear f4 cx
     generalize (w5.setCell ⟨g,4,none⟩ (.slice ka2 (kk+1) kc2))=wr at *
     skip
     have hmv:Moved (fun e=>e=g) w3 wr:=by obtain⟨_,_,_,_,_,_,_,h⟩:=HTG5.out;exact h
     have HGW:Hid (Grew w wr):=Moved.fresh HG3.out hmv (fun e h=>by have:=HN.out;have:=hgN.out;omega)
     have b5:=jA (Moved.heap hmv HB1'.out (fun e=>by have:=hgN.out;omega)) 5 _ rfl
     clear hmv
     obtain⟨e0,e1,e2,e3,e4,e5⟩:=(hcell.out wr HGW.out).get
     have r5:=jA HROW6.out 5 _ rfl
     obtain⟨kn2,hkn2⟩:∃q,kk+1=q:=⟨_,rfl⟩
     have HJ4:Hid (Value.int .i64 (j:Int)=.int .i64 (j:Int)):=rfl
     have HTG:=HTG5
     have HROWG:=HROW6
     rw[hkn2] at HTG HROWG
     have HFIX:Hid (∀w',TI w3 w' g k n u s KS LS kn2 (kk+1)→TI w3 w' g k n u s KS LS (kk+1) (kk+1)):=by rw[← hkn2];exact fun _ h=>h
     clear HTG5 HROW6 hkn2
     exact zkids
    refine⟨?_,?_⟩
    ·intro y wq hG hD K hK
     simp only[jB,Act.put,zq1,zq2,zq3,zq4,zq5,Is] at hK⊢
     refine jG ?_
     go_simp
     exact hK _ _ _ rfl (Grew.refl _) rfl
    refine⟨?_,?_⟩
    ·intro y wq hG hD K hK
     simp only[jR,zq4,zq5,Is,and_true] at hD
     have h0:=hD
     clear hD
     have dr4:=hG.cell r4
     simp only[jB,Act.put,zq1,zq2,zq3,zq4,zq5,Is] at hK⊢
     simp only[h0] at hK⊢
     clear h0
     refine jG ?_
     go_simp
     exact hK _ _ _ rfl (Grew.refl _) rfl
    refine⟨?_,?_⟩
    ·intro y wq hG hD K hK
     simp only[jB,Act.put,zq1,zq2,zq3,zq4,zq5,Is] at hK⊢
     refine jG ?_
     go_simp
     exact hK _ _ _ rfl (Grew.refl _) rfl
    refine⟨?_,?_⟩
    ·intro y wq hG hD K hK
     simp only[jR,zq4,zq5,Is,and_true] at hD
     have h2:=hD
     clear hD
     have db4:=hG.cell b4
     simp only[jB,Act.put,zq1,zq2,zq3,zq4,zq5,Is] at hK⊢
     simp only[h2] at hK⊢
     clear h2
     refine jG ?_
     go_simp
     exact hK _ _ _ rfl (Grew.refl _) rfl
    refine⟨?_,?_⟩
    ·intro y wq hG hD K hK
     simp only[jB,Act.put,zq1,zq2,zq3,zq4,zq5,Is] at hK⊢
     refine jG ?_
     go_simp
     exact hK _ _ _ rfl (Grew.refl _) rfl
    refine⟨?_,?_⟩
    ·intro y wq hG hD K hK
     simp only[jR,zq4,zq5,Is,and_true] at hD
     have h2:=hD.1
     have h3:=hD.2.1
     have h4:=hD.2.2
     clear hD
     simp only[jB,Act.put,zq1,zq2,zq3,zq4,zq5,Is] at hK⊢
     simp only[h2,h3,h4] at hK⊢
     clear h2 h3 h4
     refine jG ?_
     go_simp
     exact hK _ _ _ rfl (Grew.refl _) rfl
    refine⟨?_,?_⟩
    ·intro y wq hG hD K hK
     simp only[jR,zq4,zq5,Is,and_true] at hD
     have h2:=hD.1
     have h3:=hD.2.1
     have h4:=hD.2.2.1
     have h5:=hD.2.2.2
     clear hD
     have dek:=hG.cell ek
     simp only[jB,Act.put,zq1,zq2,zq3,zq4,zq5,Is] at hK⊢
     simp only[h2,h3,h4,h5] at hK⊢
     clear h2 h3 h4 h5
     refine jG ?_
     go_simp
     exact hK _ _ _ rfl (Grew.refl _) rfl
    refine⟨?_,?_⟩
    ·intro y wq hG hD K hK
     simp only[jR,zq4,zq5,Is,and_true] at hD
     have h2:=hD.1
     have h3:=hD.2.1
     have h4:=hD.2.2.1
     have h5:=hD.2.2.2.1
     have h6:=hD.2.2.2.2
     clear hD
     simp only[jB,Act.put,zq1,zq2,zq3,zq4,zq5,Is] at hK⊢
     simp only[h2,h3,h4,h5,h6] at hK⊢
     clear h2 h3 h4 h5 h6
     refine jG ?_
     go_simp
     have hbb:=jEX wq [ky] (by intro s hs;simp at hs;subst hs;exact hkyz.out) (by simp)
     exact hK _ _ _ rfl ((Grew.refl _).alloc _) ⟨⟨_,rfl⟩,hbb⟩
    trivial
   ·have ek:kk=l.length:=by omega
    subst ek
    have o0:=jA HROWG.out 0 _ rfl
    have o1:=jA HROWG.out 1 _ rfl
    have o2:=jA HROWG.out 2 _ rfl
    have o3:=jA HROWG.out 3 _ rfl
    have o4:=jA HROWG.out 4 _ rfl
    have o5:=jA HROWG.out 5 _ rfl
    have r0:=jC HRX.out 0
    have r1:=jC HRX.out 1
    have r2:=jC HRX.out 2
    have r3:=jC HRX.out 3
    have r4:=jC HRX.out 4
    have r5:=jC HRX.out 5
    have z0:=jA HRX.out 0 _ rfl
    have z1:=jA HRX.out 1 _ rfl
    have z2:=jA HRX.out 2 _ rfl
    have z3:=jA HRX.out 3 _ rfl
    have z4:=jA HRX.out 4 _ rfl
    have z5:=jA HRX.out 5 _ rfl
    have hne:¬g=N+1:=by have:=hgN.out;omega
    have hne2:¬N+1=g:=by have:=hgN.out;omega
    have HFIN:Hid (OwnT (jAA wr (N+1) (.int .i64 k) (.int .i64 n) (.int .u64 u) (.string s) (.slice ka l.length kc) (.slice ga l.length gc)) w.heap.size (jAm (.mk k n u s keys l) b) (.agg #[.int .i64 k,.int .i64 n,.int .u64 u,.string s,.slice ka l.length kc,.slice ga l.length gc]) (jA6 w (jAA wr (N+1) (.int .i64 k) (.int .i64 n) (.int .u64 u) (.string s) (.slice ka l.length kc) (.slice ga l.length gc)))∧Grew w (jAA wr (N+1) (.int .i64 k) (.int .i64 n) (.int .u64 u) (.string s) (.slice ka l.length kc) (.slice ga l.length gc))):=by
     have hN:=HN.out
     have hgn:=hgN.out
     have h3:=HG3'.out
     rw[HT.out]
     have hT:=jAi wr (N+1) (.int .i64 k) (.int .i64 n) (.int .u64 u) (.string s) (.slice ka l.length kc) (.slice ga l.length gc)
     have h4:N+1 < w3.heap.size:=(Array.getElem?_eq_some_iff.1 HB2'.out).1
     have ht:=TG.tree (n:=n) (u:=u) (s:=s) (k:=k) (TG.kept HTG.out hT (fun q hq=>by omega)) ⟨HB.out.1,HB.out.2.1,HB.out.2.2.1,HB.out.2.2.2,fun x hx=>HKZ.out x (List.mem_of_mem_take hx)⟩ HG3.out.size
     rw[List.take_of_length_le (by rw[HKL.out];exact Nat.le_refl _),List.take_of_length_le (by rw[HLL.out];exact Nat.le_refl _)] at ht
     exact⟨ht,Moved.fresh HGW.out hT (fun q e=>by omega)⟩
    clear HTG HIH HK HF3 HSZ HKS hkz HROW HB1' HB2' HG3 HROWS b0 b4
    go_wp2_with fail
    refine bodyPost_ret (v:=.agg #[.int .i64 k,.int .i64 n,.int .u64 u,.string s,.slice ka l.length kc,.slice ga l.length gc]) (by simp[results,Tryz.results15,go_sem,z0,z1,z2,z3,z4,z5,hne,hne2]) rfl ?_
    exact⟨_,rfl,HFIN.out.1,HFIN.out.2⟩
 ·skip
  obtain⟨KS,hKS⟩:∃KS,([]:List ByteArray)=KS:=⟨_,rfl⟩
  obtain⟨LS,hLS⟩:∃LS,jD2 l b=LS:=⟨_,rfl⟩
  have HT:Hid (jAm (.mk k n u s keys l) b=.mk k n u s KS LS):=by show _=_;rw[jAm,if_neg hm,hKS,hLS]
  have HKL:Hid (KS.length=0):=by show _=_;rw[← hKS];rfl
  have HLL:Hid (LS.length=l.length):=by show _=_;rw[← hLS,jBy]
  have HKZ:Hid (∀x∈KS,jY x.size):=fun x hx=>by rw[← hKS] at hx;cases hx
  go_wp2_with fail
  go_loopw [6] (fun i wr=>∃kk:Nat,kk≤l.length∧i=.int .i64 kk∧Hid (TI w3 wr g k n u s KS LS 0 kk)) (fun i _=>l.length - (intOf i).toNat)
  case atStart=>exact⟨0,Nat.zero_le _,rfl,none,0,none,0,HROW.out,by simpa using TG.start _ _⟩
  case round=>
   obtain⟨kk,hkk,rfl,HW⟩:=hrel
   obtain⟨ka,kc,ga,gc,hrowg,htg⟩:=HW.out
   have hg3:g < w3.heap.size:=(Array.getElem?_eq_some_iff.1 HROW.out).1
   have hmv:Moved (fun e=>e=g) w3 wr:=by obtain⟨_,_,_,_,_,_,_,h⟩:=htg;exact h
   have HGW:Hid (Grew w wr):=Moved.fresh HG3.out hmv (fun e h=>by have:=HN.out;have:=hgN.out;omega)
   have HROWG:=zh hrowg
   have HBX:Hid (wr.heap[N]? = _):=Moved.heap hmv HB1'.out (fun e=>by have:=hgN.out;omega)
   have HRX:Hid (wr.heap[N+1]? = _):=Moved.heap hmv HB2'.out (fun e=>by have:=hgN.out;omega)
   have HTG:=zh htg
   have HG3':Hid (g < w3.heap.size):=hg3
   have HMS:Hid (w3.heap.size≤wr.heap.size):=hmv.size
   have b0:=jA HBX.out 0 _ rfl
   have b4:=jA HBX.out 4 _ rfl
   have b5:=jA HBX.out 5 _ rfl
   clear hrowg htg hg3 hmv HW
   by_cases hlt:kk < l.length
   ·have hlti:(kk:Int) < l.length:=by omega
    have hjl:=hlt
    obtain⟨x,hx⟩:∃x,l[kk]? = some x:=⟨_,List.getElem?_eq_getElem hjl⟩
    obtain⟨xv,hxv,hnx⟩:=HK.out.get hx
    have hxm:x∈l:=List.mem_of_getElem? hx
    have HFX:=zh (HF3.out.mem hxm)
    have HXS:=zh (HSZ.out x hxm)
    have hcall:Hid (∀w',Grew w w'→NodeAt w' x xv):=fun w' hg=>hnx.grew hg
    obtain⟨bb,off,rfl,hcell⟩:∃bb off,a5=some ⟨bb,off,none⟩∧Hid (∀w',Grew w w'→Cells6 w' bb (off+kk*6) xv):=by
     obtain⟨a,c,e,_,_,_,h⟩:=HROWS.out
     injection e with e1 e2 e3
     subst e1
     obtain⟨b,off,e,h6⟩:=h kk xv hxv
     exact⟨b,off,e,fun w' hg=>h6.grew hg⟩
    obtain⟨xk,xn,xu,xs,xa4,xn4,xc4,xa5,xn5,xc5,rfl⟩:=hnx.node6
    obtain⟨e0,e1,e2,e3,e4,e5⟩:=(hcell.out wr HGW.out).get
    have HX:=zh (show LS.take kk++[jAm x b]=LS.take (kk+1) by rw[List.take_add_one,← hLS,jIf l b kk hx];rfl)
    clear hx hxv hnx hxm
    have r4:=jA HROWG.out 4 _ rfl
    have r5:=jA HROWG.out 5 _ rfl
    obtain⟨j,hj⟩:∃j,kk=j:=⟨_,rfl⟩
    have hjli:(j:Int) < l.length:=by omega
    have HJ4:Hid (Value.int .i64 (kk:Int)=.int .i64 (j:Int)):=by show _=_;rw[hj]
    rw[hj] at e0 e1 e2 e3 e4 e5
    obtain⟨kn2,hkn2⟩:∃q,0=q:=⟨_,rfl⟩
    obtain⟨ka2,hka⟩:∃q,ka=q:=⟨_,rfl⟩
    obtain⟨kc2,hkc⟩:∃q,kc=q:=⟨_,rfl⟩
    have HTG2:Hid (TG (fun e=>e=g) w3 wr (.slice ka2 kn2 kc2) (.slice ga kk gc) (KS.take kn2) (LS.take kk)):=by rw[← hkn2,← hka,← hkc];exact HTG.out
    have HROW2:Hid (wr.heap[g]? = some (.cells #[.int .i64 k,.int .i64 n,.int .u64 u,.string s,.slice ka2 kn2 kc2,.slice ga kk gc] 26 (0,0))):=by rw[← hkn2,← hka,← hkc];exact HROWG.out
    have HTG:=HTG2
    have HROWG:=HROW2
    have HFIX:Hid (∀w',TI w3 w' g k n u s KS LS kn2 (kk+1)→TI w3 w' g k n u s KS LS 0 (kk+1)):=by rw[← hkn2];exact fun _ h=>h
    clear hkn2 hka hkc r4 hj HTG2 HROW2
    by_cases hk:k=17
    ·have hne:¬(keys.length:Int)=(l.length:Int):=fun e=>hm ⟨hk,by omega⟩
     have hkb:(k == 17)=true:=by simpa using hk
     have hneb:((keys.length:Int) == (l.length:Int))=false:=by simpa using hne
     clear hk hm hne
     go_wp2_with fail
     (try simp only[hneb])
     clear hneb
     exact zkids
    ·have hkb:(k == 17)=false:=by simpa using hk
     clear hk hm
     go_wp2_with fail
     exact zkids
   ·have ek:kk=l.length:=by omega
    subst ek
    have o0:=jA HROWG.out 0 _ rfl
    have o1:=jA HROWG.out 1 _ rfl
    have o2:=jA HROWG.out 2 _ rfl
    have o3:=jA HROWG.out 3 _ rfl
    have o4:=jA HROWG.out 4 _ rfl
    have o5:=jA HROWG.out 5 _ rfl
    have r0:=jC HRX.out 0
    have r1:=jC HRX.out 1
    have r2:=jC HRX.out 2
    have r3:=jC HRX.out 3
    have r4:=jC HRX.out 4
    have r5:=jC HRX.out 5
    have z0:=jA HRX.out 0 _ rfl
    have z1:=jA HRX.out 1 _ rfl
    have z2:=jA HRX.out 2 _ rfl
    have z3:=jA HRX.out 3 _ rfl
    have z4:=jA HRX.out 4 _ rfl
    have z5:=jA HRX.out 5 _ rfl
    have hne:¬g=N+1:=by have:=hgN.out;omega
    have hne2:¬N+1=g:=by have:=hgN.out;omega
    have HFIN:Hid (OwnT (jAA wr (N+1) (.int .i64 k) (.int .i64 n) (.int .u64 u) (.string s) (.slice ka 0 kc) (.slice ga l.length gc)) w.heap.size (jAm (.mk k n u s keys l) b) (.agg #[.int .i64 k,.int .i64 n,.int .u64 u,.string s,.slice ka 0 kc,.slice ga l.length gc]) (jA6 w (jAA wr (N+1) (.int .i64 k) (.int .i64 n) (.int .u64 u) (.string s) (.slice ka 0 kc) (.slice ga l.length gc)))∧Grew w (jAA wr (N+1) (.int .i64 k) (.int .i64 n) (.int .u64 u) (.string s) (.slice ka 0 kc) (.slice ga l.length gc))):=by
     have hN:=HN.out
     have hgn:=hgN.out
     have h3:=HG3'.out
     rw[HT.out]
     have hT:=jAi wr (N+1) (.int .i64 k) (.int .i64 n) (.int .u64 u) (.string s) (.slice ka 0 kc) (.slice ga l.length gc)
     have h4:N+1 < w3.heap.size:=(Array.getElem?_eq_some_iff.1 HB2'.out).1
     have ht:=TG.tree (n:=n) (u:=u) (s:=s) (k:=k) (TG.kept HTG.out hT (fun q hq=>by omega)) ⟨HB.out.1,HB.out.2.1,HB.out.2.2.1,HB.out.2.2.2,fun x hx=>HKZ.out x (List.mem_of_mem_take hx)⟩ HG3.out.size
     rw[List.take_of_length_le (by rw[HKL.out];exact Nat.le_refl _),List.take_of_length_le (by rw[HLL.out];exact Nat.le_refl _)] at ht
     exact⟨ht,Moved.fresh HGW.out hT (fun q e=>by omega)⟩
    clear HTG HIH HK HF3 HSZ HKS hkz HROW HB1' HB2' HG3 HROWS b0 b4
    go_wp2_with fail
    refine bodyPost_ret (v:=.agg #[.int .i64 k,.int .i64 n,.int .u64 u,.string s,.slice ka 0 kc,.slice ga l.length gc]) (by simp[results,Tryz.results15,go_sem,z0,z1,z2,z3,z4,z5,hne,hne2]) rfl ?_
    exact⟨_,rfl,HFIN.out.1,HFIN.out.2⟩
theorem jHV {α:Type} (l:List α) (b:Nat):(jDB l b).Perm l:=by
 unfold jDB
 exact List.perm_append_comm.trans (by rw[List.take_append_drop])
theorem rot_map {α β:Type} (f:α→β) (l:List α) (b:Nat):(jDB l b).map f=jDB (l.map f) b:=by
 unfold jDB
 rw[List.map_append,List.map_drop,List.map_take,List.length_map]
theorem rot_zip {α β:Type} {x:List α} {y:List β} (q:Nat) (h:x.length=y.length):(jDB x q).zip (jDB y q)=jDB (x.zip y) q:=by
 unfold jDB
 rw[List.length_zip,h,Nat.min_self,List.zip_append (by simp[h])]
 simp only[List.zip_eq_zipWith,List.drop_zipWith,List.take_zipWith]
theorem jL0 {α:Type} {x y:List (ByteArray × α)} (h:x.Perm y) (hn:(y.map Prod.fst).Nodup):jAp x=jAp y:=
 jBt _ _ (((jAD x).trans h).trans (jAD y).symm) (jA4 _ ((h.map _).nodup_iff.2 hn)) (jA4 _ hn)
theorem jNh (t:Tr) (b:Nat):(jAm t b).kind=t.kind:=by
 cases t
 simp only[jAm]
 split<;>rfl
theorem jO5 (q:Nat):∀(m:Nat) (t:Tr) (b:Nat),t.size≤m→jCd b t→jCd b (jAm t q)∧(jAm t q).size=t.size∧jh (jAm t q)=jh t:=by
 intro m
 induction m with
 | zero=>intro t b h;have:=t.size_pos;omega
 | succ m ih=>
  intro t b h hv
  have hn:=hv
  obtain⟨k,n,u,s,keys,l⟩:=t
  obtain⟨_,_,v3,v4,_⟩:=jBa hn
  simp only[Tr.size] at h
  have hall:=valL_iff.1 hv.2.2.2
  have hk:∀x∈l,jCd (b+1) (jAm x q)∧(jAm x q).size=x.size∧jh (jAm x q)=jh x:=fun x hx=>ih x (b+1) (by have:=jAN hx;omega) (hall x hx)
  obtain⟨h1,h2,h3,_⟩:=hv
  rw[such_iff] at h2
  rw[keyed_iff] at h3
  obtain⟨s1,s2,s3,s4,s5,s6,s7,s8,s9⟩:=h2
  have hsz:j7 (l.map fun x=>jAm x q)=j7 l:=jFP fun x hx=>(hk x hx).2.1
  have hso:(l.map fun x=>jAm x q).map jh=l.map jh:=by rw[List.map_map];exact List.map_congr_left fun x hx=>(hk x hx).2.2
  by_cases e:k=17
  ·have hlen:=s7 e
   simp only[jAm]
   rw[if_pos ⟨e,hlen⟩]
   have hp1:=jHV keys q
   have hp2:=jHV (jD2 l q) q
   have hl2:keys.length=(jBu l).length:=by rw[jv,List.length_map];exact hlen
   refine⟨⟨h1,such_iff.2 ⟨s1,s2,s3,s4,s5.imp id (fun h=>by rw[hp1.length_eq,h]),s6,fun _=>by rw[hp1.length_eq,hp2.length_eq,jBy,hlen],fun h=>by omega,fun x hx=>?_⟩,keyed_iff.2 ⟨h3.1,jGm hp1.symm h3.2⟩,valL_iff.2 fun x hx=>?_⟩,?_,?_⟩
   ·subst e;simp[jCH,jAf]
   ·rw[hp2.mem_iff,jCD,List.mem_map] at hx
    obtain⟨y,hy,rfl⟩:=hx
    exact (hk y hy).1
   ·simp only[Tr.size];rw[jGo hp2,jCD,hsz]
   ·simp only[jh]
    rw[if_pos e,if_pos e,jv (jDB (jD2 l q) q),rot_map,jCD,hso,← jv,rot_zip q hl2,jL0 (jHV _ _) (by rw[jEA hl2];exact (v4 e).1)]
  ·simp only[jAm]
   rw[if_neg (fun h=>e h.1),jCD]
   have hke:=v3 e
   subst hke
   refine⟨⟨h1,such_iff.2 ⟨s1,s2,s3,s4,s5,s6,fun h=>absurd h e,by rw[List.length_map];exact s8,fun x hx=>?_⟩,keyed_iff.2 h3,valL_iff.2 fun x hx=>?_⟩,?_,?_⟩
   ·obtain⟨y,hy,rfl⟩:=List.mem_map.1 hx
    rw[jGn (jNh y q)];exact s9 y hy
   ·obtain⟨y,hy,rfl⟩:=List.mem_map.1 hx
    exact (hk y hy).1
   ·simp only[Tr.size,hsz]
   ·simp only[jh]
    rw[if_neg e,if_neg e,jv (l.map _),hso,jv]
theorem jF4 {most fl:Int} {t t':Tr} (h:jAw t=0) (h':jAw t'=0) (he:jh t'=jh t):jAI most fl t'=jAI most fl t:=by
 unfold jAI
 rw[if_neg (by omega),if_neg (by omega),he]
theorem turn_ok {t:Tr} (q:Nat) (h:jAw t=0):jAw (jAm t q)=0∧jh (jAm t q)=jh t∧(jAm t q).size=t.size:=by
 obtain⟨h1,h2⟩:=check_val.1 h
 obtain⟨a,b,c⟩:=jO5 q _ t 0 (Nat.le_refl _) h2
 exact⟨check_val.2 ⟨by omega,a⟩,c,b⟩
theorem sort_ok {t:Tr} (h:jAw t=0):jAw (jh t)=0∧jh (jh t)=jh t∧(jh t).size=t.size:=by
 obtain⟨h1,h2⟩:=check_val.1 h
 obtain⟨a,b⟩:=jGp _ t 0 (Nat.le_refl _) h2
 exact⟨check_val.2 ⟨by omega,a⟩,jN0 _ _ 0 (Nat.le_refl _) a (jJ3 _ t 0 (Nat.le_refl _) h2),b⟩
end Go.Proofs.YtdjoffgkndncfaaGreat
